/- Walks, contracts and laws of the law's functions: part 2. No condition. -/
import Derived.Test.YtkadjamdjfefeaaQFa
import Derived.Test.YtkadjamdjfefeaaRows
import Derived.Test.YtkadjamdjfefeaaProg
open Go.Proofs
set_option maxHeartbeats 32000000
set_option maxRecDepth 100000
set_option linter.unusedSimpArgs false
theorem yy1 {P:Prop} (h:P:=by
 simp only [zbv] at h;obtain ⟨y,us,h1,h2,h3,h4,h5⟩:=zbu l h;refine ⟨_,_,h1,h2,fun m w R v hk hx=>?_,h4,fun H' he K' hk=>by simp only [zbv];exact h5 H' he _ hk⟩;simp only [zad] at hx ⊢;obtain ⟨arr,h4,h5⟩:=hx;exact ⟨arr,h4,h3 m w R _ hk h5⟩):P:=h
theorem yy2 {P:Prop} (h:P:=by
 simp only [zed] at ho;split at ho
 . rename_i j hj
   obtain ⟨j',hj',hmj⟩:=hm i _ hj;cases hj';simp only [rn,hj,zad] at h ⊢;obtain ⟨l,h1,h2⟩:=h;exact ⟨l,by rw [hmj];exact h1,h2⟩
 . cases ho):P:=h
theorem yy3 {P:Prop} (h:P:=by
 simp only [zed] at ho;split at ho
 . rename_i j hj
   simp only [rn,hj,zad] at h ⊢;obtain ⟨l,h1,h2⟩:=h;exact ⟨l,by rw [hm i j hj];exact h1,h2⟩
 . cases ho):P:=h
theorem yy5 {P:Prop} (h:P:=by
 simp only [zed] at ho;simp only [rn,zad] at h ⊢;obtain ⟨arr,h1,h2⟩:=h;exact ⟨arr,h1,zeq hm hn hR l _ ho h2⟩):P:=h
theorem yy6 {P:Prop} (h:P:=by
 simp only [zed] at ho;simp only [rn,zad] at h ⊢;obtain ⟨arr,h1,h2⟩:=h;exact ⟨arr,h1,zia hm hR l _ ho h2⟩):P:=h
theorem yy11 {P:Prop} (h:P:=by
 obtain ⟨h1,h2,h3⟩:=h;refine ⟨h1,h2,?_⟩;rcases h3 with h3 | ⟨h3,h4,h5,arr,h6,h7,h8⟩
 . exact .inl h3
 . exact .inr ⟨h3,h4,h5,arr,h6,h7,fun k x hk=>let ⟨cv,h9,h10⟩:=h8 k x hk;⟨cv,h9,h10.sub hR⟩⟩):P:=h
theorem yy13 {P:Prop} (h:P:=by
 refine ⟨_,_,h4,h5,fun m w R vs hk hx=>?_,fun H' he K' hk=>by simp only [zfb];exact h7 H' he _ hk⟩;simp only [zae] at hx ⊢;obtain ⟨v,r,rfl,h7,h8⟩:=hx;exact ⟨v,r,rfl,h7,h6 m w R r hk h8⟩):P:=h
theorem yy17 {P:Prop} (h:P:=by
 simp only [rn,zad] at h ⊢;obtain ⟨b,o,h1,h2,h3⟩:=h;exact ⟨b,o,h1,fun hc=>hR b (h2 hc),fun k x hk=>let ⟨cv,h4,h5⟩:=h3 k x hk;⟨cv,h4,h5.sub hR⟩⟩):P:=h
theorem yy18 {P:Prop} (h:P:=by
 cases h;obtain ⟨l,h1,h2,h3⟩:=hok.live id _ hb;exact ⟨l,h1,hB _ _ h2,h3⟩):P:=h
theorem yy20 {P:Prop} (h:P:=by
 obtain ⟨h1,h2,h3,h4,h5,arr,h6,h7,h8⟩:=h;exact ⟨h1,h2,h3,h4,h5,arr,h6,h7,fun k x hk=>let ⟨cv,h9,h10⟩:=h8 k x hk;⟨cv,h9,h10.sub hR⟩⟩):P:=h
theorem yy26 {P:Prop} (h:P:=by
 simp only [execOp,resolve,hfv,Deferred.ofValue,Sem.run_bind,Sem.run_pure,Result.andThen_ok,invoke]
 simpa using hcf):P:=h
theorem yy27 {P:Prop} (h:P:=by
 split<;>first | rfl | skip
 . rename_i id;rw [h id (by simp [zau])]
 . rename_i id _ _ _;rw [h id (by simp [zau])]):P:=h
theorem yy29 {P:Prop} (h:P:=by
 split
 . split
   . split
     . exact zao zac
     . exact False.elim
   . exact False.elim
 . exact False.elim):P:=h
theorem yy30 {P:Prop} (h:P:=by
 simp only [zme] at hs;simp only [zad] at h ⊢;obtain ⟨arr,h1,h2⟩:=h;exact ⟨arr,h1,zic l _ hs h2⟩):P:=h
theorem yy8 {P:Prop} (h:P:=by
 simp only [Cell.okWide,Cell.ok,hu] at hok;obtain ⟨b,rfl,_⟩:=h2;cases v<;>try exact hok.elim
 exact one rfl rfl):P:=h
theorem yy0 {P:Prop} (h:P:=by
 (conv=>whnf);refine ⟨{k:Nat // k<=ps.length/\zbm k (ps.drop k)=zbm 0 ps},fun k=>hs 17 [(5,.p (.sl 7 (ps.map Path.row))),(6,i64 (ps.map Path.row).length),(7,i64 k.1)] [],fun k=>ps.length-k.1,⟨0,by simp⟩,?_,?_⟩
 . exact zns [] rfl rfl rfl rfl ⟨⟨rfl,rfl⟩,⟨rfl,rfl⟩,⟨rfl,rfl⟩,trivial⟩ trivial
 . rintro ⟨k,hk,hi⟩
   (conv=>whnf);refine zbh (fun h=>?_) (fun h=>?_)
   . have hlt:k<ps.length:=by simpa using h
     (conv=>whnf);refine zir (r:=(ps[k]).row) zz0 (by simp [hlt]) ?_;(conv=>whnf);rw [List.drop_eq_getElem_cons hlt] at hi;simp only [zbm] at hi;refine zbh (fun h=>?_) (fun h=>?_)
     . conv=>whnf
       rw [zy12 (by simp only [zy32] at h;omega)] at hi;rw [hi]
     . conv=>whnf
       refine zlb (zvh zz6 zz6) ?_;(conv=>whnf);rw [zy10 (by simp only [zy21] at h;omega)] at hi;exact ⟨⟨k+1,hlt,hi⟩,zns [] rfl rfl rfl rfl ⟨⟨rfl,rfl⟩,⟨rfl,rfl⟩,⟨rfl,by simp;rfl⟩,trivial⟩ trivial,by simp;omega⟩
   . conv=>whnf
     have hge:ps.length<=k:=by simpa using h
     rw [zy55 hge] at hi;rw [<- hi];rfl):P:=h
namespace Go.HL
open Go.RowKit (Below)
section
variable {Γ:Ctx} {P:Program} {m:zbk} {H:Nat->zaa} {w:World} {ρ:Operand->Value} {ev:Operand->HV} {dst:Option Tmp} {ty:TypeId} {pos:String} {after:Array Edge} {guard:Option (Nat×Bool)}
theorem zmd.vals {R:Nat->Prop} {n:Nat} {rows:List (List PV)} {v:Value} (h:zmd w R n rows v) :
 ∃ a c vs,v=.slice a rows.length c/\rows.length<=c/\c<=maxLen/\zbg w R rows.flatten vs/\(rows=[]\/∃ b o,a=some ⟨b,o,none⟩/\∀ (j:Nat) u,vs[j]?=some u->w.cell? ⟨b,o+j,none⟩=some u):=by
 obtain ⟨a,c,hv,hle,hm,hcell⟩:=h.out;by_cases hne:rows=[]
 . subst hne;exact ⟨a,c,[],hv,hle,hm,.nil,.inl rfl⟩
 . obtain ⟨b,o,ha,hpc⟩:=hcell hne
   have:∀ (l:List PV) (k:Nat),(∀ (j:Nat) x,l[j]?=some x->∃ cv,w.cell? ⟨b,o+(k+j),none⟩=some cv/\zcn w R x cv)->∃ vs,zbg w R l vs/\∀ (j:Nat) u,vs[j]?=some u->w.cell? ⟨b,o+(k+j),none⟩=some u:=by
    intro l
    induction l with
    | nil=>intro k _;exact ⟨[],.nil,fun j u hu=>by simp at hu⟩
    | cons x l ih =>
     intro k hk;obtain ⟨cv,h1,h2⟩:=hk 0 x zz0;obtain ⟨vs,h3,h4⟩:=ih (k+1) (fun j y hy=>by
      have:=hk (j+1) y (by simpa using hy)
      rwa [show k+(j+1)=k+1+j by omega] at this)
     refine ⟨cv::vs,.cons h2 h3,fun j u hu=>?_⟩;cases j with
     | zero=>simp at hu;subst hu;exact h1
     | succ j=>have:=h4 j u (by simpa using hu);rwa [show k+1+j=k+(j+1) by omega] at this
   obtain ⟨vs,h1,h2⟩:=this rows.flatten 0 (fun j x hx=>by simpa using hpc j x hx);exact ⟨a,c,vs,hv,hle,hm,h1,.inr ⟨b,o,ha,fun j u hu=>by simpa using h2 j u hu⟩⟩
theorem zmd.src {R:Nat->Prop} {n:Nat} {rows:List (List PV)} {v:Value} (h:zmd w R n rows v) {t e:TypeId} (hu:P.underlying t=some (.slice e)) :
 ∃ vs,zbg w R rows.flatten vs/\Src P n t v rows.length vs w:=by
 obtain ⟨a,c,vs,rfl,hle,hm,hp,hc⟩:=h.vals;have hl:vs.length=rows.length*n:=by rw [hp.length,zam h.lens]
 refine ⟨vs,hp,?_⟩;rcases hc with rfl | ⟨b,o,rfl,hc⟩
 . have hv:vs=[]:=zy5 zz3
   subst hv;cases a with
   | none=>exact Src.ofNil w hu c
   | some ad=>exact Src.ofSlice w hu ad 0 c [] zz0 (fun j u hj=>by simp at hj) zz0
 . exact Src.ofSlice w hu _ _ c vs hl (fun j u hj=>by rw [Addr.add_mid];exact hc j u hj) hp.one
theorem OS.newRow' {w1:World} {H':Nat->zaa} (hws:WS Γ H m w1 H' m w) {id:Nat} (hf:H' id=.free) {arr:Array Value} {t:TypeId} {n cap:Nat} {rows:List (List PV)} (hlens:∀ r∈rows,r.length=n)
 (hle:rows.length<=cap) (hm:cap<=maxLen) (hsz:arr.size=cap*n) (hr:∀ (k:Nat) x,rows.flatten[k]?=some x->∃ cv,arr[k]?=some cv/\zcn w (RR Γ m H' w) x cv) {x:Sem Next}
 {ups:List (Nat×zaa)} (hups:zba H ups=upd H' id (.live (.row t n rows)))
 (tch:List Nat) (hx:x.run P w1=.ok (.value (.slice (some ⟨w.heap.size,0,none⟩) rows.length cap)) (w.alloc (.cells arr t))):OS Γ P m H w1 x ⟨.own id,ups,tch⟩:=by
 obtain ⟨m',hws2,hm'⟩:=WS.new hws.ok hf (arr:=arr) (t:=t) (b:=.row t n rows) (cap:=cap) (len:=rows.length) (fun m' R' hext hk =>
  ⟨rfl,hlens,.inr ⟨rfl,hle,hm,arr,heap_alloc_new w _,hsz,fun k y hy=>by
   obtain ⟨cv,h1,h2⟩:=hr k y hy;exact ⟨cv,h1,h2.mono hk⟩⟩⟩)
 refine ⟨_,_,m',.inl hx,?_,?_⟩
 . simp only [hups];exact hws.trans hws2
 . simp only [zad]
   exact ⟨_,hm',by simp [hdr]⟩
theorem zcb (z:Array Value) (n:Nat):(Builtin.zeroCells z n).size=n*z.size:=by simp [Builtin.zeroCells]
theorem zds {H':Nat->zaa} (hws:WS Γ H m w H' m w) {d:Nat} (hf:H' d=.free) {t e:TypeId} {de:TyD} {u:TypeDesc} {i:TypeInfo} {z:Value} (hu:P.underlying t=some (.slice e)) (ht:zgg P e de u i z) (hzs:de.zero.length=de.size)
 (hb:0<de.bytes) {rows ys:List (List PV)} {base:Option Addr} {cap:Nat} {vy:Value} (hx:zmd w (RR Γ m H w) de.size rows (.slice base rows.length cap)) (hy:zmd w (RR Γ m H w) de.size ys vy)
 (hg:cap<rows.length+ys.length) (h47:(rows.length+ys.length)*de.bytes<=140737488355328) {ups:List (Nat×zaa)} (hups:zba H ups=upd H' d (.live (.row e de.size (rows++ys)))) (tch:List Nat) {x:Sem Next}
 (zbi:∀ {v:Value} {w':World},(Builtin.append_ #[t,t] ty #[.slice base rows.length cap,vy]).run P w=.ok v w'->x.run P w=.ok (.value v) w'):OS Γ P m H w x ⟨.own d,ups,tch⟩:=by
 obtain ⟨olds,ho,hso⟩:=hx.src hu;obtain ⟨news,hn,hsn⟩:=hy.src hu;have hN:rows.length+ys.length<=140737488355328:=by
  have:(rows.length+ys.length)*1<=(rows.length+ys.length)*de.bytes:=Nat.mul_le_mul_left _ hb;omega
 rw [ht.size] at hso hsn;have hr:=run_append_grow_src (P:=P) w t t ty e i z hu ht.info ht.zero base rows.length cap olds hso.cellsD vy ys.length news hsn hg zz1 (growslice_fits hg (by rw [<- ht.bytes];exact h47));have hcap:=grownCap_ge w (rows.length+ys.length) cap e;have hcm:=grownCap_le_maxLen w (rows.length+ys.length) cap e zz14;have hlr:(rows++ys).length=rows.length+ys.length:=by simp
 rw [<- hlr] at hr;have hws':WS Γ H m w H' m w.drew:=hws.trans (WS.drew hws.ok);have hzz:z.cells.size=de.size:=by rw [<- hzs,ht.zeros];simp
 have holds:olds.length=rows.length*de.size:=by rw [ho.length,zam hx.lens]
 have hnews:news.length=ys.length*de.size:=by rw [hn.length,zam hy.lens]
 have hall:=ho.append hn;refine OS.newRow' (w:=w.drew) hws' hf (arr:=(olds++news).toArray++Builtin.zeroCells z.cells (grownCap w (rows++ys).length cap e-(rows++ys).length)) (t:=e) (n:=de.size) (cap:=grownCap w (rows++ys).length cap e) (rows:=rows++ys) ?_ (by rw [hlr];exact hcap) (by rw [hlr];exact hcm) ?_ ?_ hups tch (zbi hr)
 . intro r hr
   rcases zy6.1 hr with hr | hr
   . exact hx.lens r hr
   . exact hy.lens r hr
 . rw [hlr]
   simp only [Array.size_append,zcb,hzz,List.size_toArray,zy44,holds,hnews];rw [<- zy11,<- zy11];congr 1;omega
 . intro k y hy
   rw [zy37] at hy;obtain ⟨cv,hcv,hp⟩:=hall.get k y hy;refine ⟨cv,?_,hp.mono hws'.keep⟩;have hlt:k<(olds++news).length:=(zy8.1 hcv).1;rw [zy62 (by simpa using hlt)]
   simpa using hcv
theorem zch (b:Builtin) (args:Array Operand) (ats:Array TypeId) (f:Sem Value) (hb:∀ consts,builtin b ats ty consts (args.map ρ)=(do pure (Next.value (<- f)):Sem Next)) {v:Value} {w':World} (h:f.run P w=.ok v w') :
 (execOp ρ ⟨dst,.call ⟨.builtin b,args,ats⟩,ty,pos,after,guard⟩).run P w=.ok (.value v) w':=by
 simp only [execOp,resolve,Sem.run_bind,Sem.run_pure,Result.andThen_ok,invoke,hb,h]
theorem zng {n o:Nat} {rows ys:List (List PV)} (h1:∀ r∈rows,r.length=n) (h2:∀ r∈ys,r.length=n):∀ r∈zdi rows o ys,r.length=n:=by
 intro r hr;simp only [zdi,zy6] at hr;rcases hr with (hr | hr) | hr
 . exact h1 r (zy28 hr)
 . exact h2 r hr
 . exact h1 r (zy47 hr)
theorem zpn {o:Nat} {rows ys:List (List PV)} (h:o<=rows.length):(zdi rows o ys).length=max rows.length (o+ys.length):=by
 simp [zdi];omega
theorem zpm {o n:Nat} {rows ys:List (List PV)} (h1:∀ r∈rows,r.length=n) (h2:∀ r∈ys,r.length=n) (ho:o<=rows.length) {k:Nat} {x:PV} (h:(zdi rows o ys).flatten[k]?=some x) :
 (o*n<=k/\k<o*n+ys.flatten.length/\ys.flatten[k-o*n]?=some x)\/(¬ (o*n<=k/\k<o*n+ys.flatten.length)/\rows.flatten[k]?=some x):=by
 have hl1:(rows.take o).flatten.length=o*n:=by
  rw [zam (n:=n) fun r hr=>h1 r (zy28 hr),zy61];congr 1;omega
 have hl2:ys.flatten.length=ys.length*n:=zam h2;simp only [zdi,zy37] at h;rcases zy39 k (o*n) with hk | hk
 . right
   refine ⟨by omega,?_⟩;rw [List.append_assoc,zy24 (by omega)] at h;have:rows.flatten=(rows.take o).flatten++(rows.drop o).flatten:=by rw [<- zy37,zy59]
   rw [this,zy24 (by omega)];exact h
 . rcases zy39 k (o*n+ys.flatten.length) with hk2 | hk2
   . left
     rw [List.append_assoc,zy30 (by omega),zy24 (by omega),hl1] at h;exact ⟨hk,hk2,h⟩
   . right
     refine ⟨by omega,?_⟩;rw [zy30 (by rw [zy44];omega)] at h;simp only [zy44,hl1] at h;by_cases hle:o+ys.length<=rows.length
     . have:rows.flatten=(rows.take (o+ys.length)).flatten++(rows.drop (o+ys.length)).flatten:=by rw [<- zy37,zy59]
       have hl3:(rows.take (o+ys.length)).flatten.length=o*n+ys.flatten.length:=by
        rw [zam (n:=n) fun r hr=>h1 r (zy28 hr),zy61,hl2,<- zy11];congr 1;omega
       rw [this,zy30 (by omega),hl3];exact h
     . rw [zy55 (by omega)] at h
       simp at h
theorem zdz (hok:zag Γ m H w) {id:Nat} {b:zcv} {l:Loc} (hH:H id=.live b) (hl:m id=some l) {t1:TypeId} {n:Nat} {rows:List (List PV)} {mk:List (List PV)->zcv} {lim:Nat} (hw:Win m w (RR Γ m H w) l b t1 n rows mk lim)
 (hlim:lim=rows.length\/∃ c,b=.buf t1 n rows c/\lim=c/\l.cap=c) {ys:List (List PV)} {vs:List Value} (hys:∀ r∈ys,r.length=n) (hp:zbg w (RR Γ m H w) ys.flatten vs) {o:Nat} (h1:o<=rows.length) (h2:o+ys.length<=lim) (hne:ys≠[]) :
 l.nil=false/\(∀ j,j<vs.length->(w.cell? ⟨l.blk,o*n+j,none⟩).isSome=true)/\(∀ j,j<vs.length->w.frozen? ⟨l.blk,o*n+j,none⟩=false) /\
  WS Γ H m w (upd H id (.live (mk (zdi rows o ys)))) m (w.setCells l.blk (o*n) vs):=by
 have hpos:0<ys.length:=Nat.pos_of_ne_zero fun h=>hne (zy5 h)
 have hroom:=hw.room;have hn:l.nil=false:=by
  cases h:l.nil with
  | false=>rfl
  | true=>simp [Loc.room,h] at hroom;omega
 have hvl:vs.length=ys.length*n:=by rw [hp.length,zam hys]
 obtain ⟨arr,harr,hsz,hcell,hset⟩:=hw.arr hn;have hcap:lim<=l.cap:=by simpa [Loc.room,hn] using hroom
 have hfit:o*n+vs.length<=arr.size:=by
  rw [hvl,hsz,<- zy11];exact zy29 _ zz1
 refine ⟨hn,fun j hj=>?_,fun j hj=>by simp [World.frozen?,harr],?_⟩
 . rw [cell_of_row w l.blk _ arr _ (0,0) harr,zy33 (by omega)];rfl
 . refine WS.set hok hH hl hn (zal _ _ _ _).1 (zal _ _ _ _).2.1 (zal _ _ _ _).2.2.1 (zal _ _ _ _).2.2.2 (fun k hk=>zbs _ _ _ _ _ hk) fun R' hk=>?_
   refine hset _ R' (putAt arr (o*n) vs) _ (zbr _ _ _ _ _ harr hfit) (zbz _ _ _) (zng hw.lens hys) ?_ fun k x hx=>?_
   . rw [zpn h1]
     rcases hlim with rfl | ⟨c,hb,rfl,hc⟩
     . left;omega
     . right;exact ⟨hc.symm,by have:=hw.le;omega,lim,hb⟩
   . rw [zbq]
     rcases zpm hw.lens hys h1 hx with ⟨g1,g2,g3⟩ | ⟨g1,g3⟩
     . obtain ⟨cv,h4,h5⟩:=hp.get _ _ g3
       have hlt:=(zy8.1 h4).1;rw [zy12 (by omega)];exact ⟨cv,h4,h5.mono hk⟩
     . rw [zy10 (by rw [hp.length];omega)]
       obtain ⟨cv,h4,h5⟩:=hcell k x g3;exact ⟨cv,h4,h5.mono hk⟩
theorem zee {rows:List (List PV)} {o:Nat}:zdi rows o []=rows:=by simp [zdi]
theorem zjk (hok:zag Γ m H w) {id:Nat} {b:zcv} {l:Loc} (hH:H id=.live b) (hl:m id=some l) {e:TypeId} {de:TyD} {rows:List (List PV)} {mk:List (List PV)->zcv} {lim:Nat} (hw:Win m w (RR Γ m H w) l b e de.size rows mk lim)
 (hlim:lim=rows.length\/∃ c,b=.buf e de.size rows c/\lim=c/\l.cap=c) {off len:Nat} {vx vy:Value} (hx:zad m w (RR Γ m H w) (.osl id de.size off len) vx) {t:TypeId} {u:TypeDesc} {i:TypeInfo} {z:Value} (hu:P.underlying t=some (.slice e)) (ht:zgg P e de u i z)
 {ys:List (List PV)} (hs:zmd w (RR Γ m H w) de.size ys vy) (h1:off+len<=rows.length) (h2:off+len+ys.length<=lim) {x:Sem Next}
 (zbi:∀ {v:Value} {w':World},(Builtin.append_ #[t,t] ty #[vx,vy]).run P w=.ok v w'->x.run P w=.ok (.value v) w') (tch:List Nat) :
 OS Γ P m H w x ⟨.osl id de.size off (len+ys.length),[(id,.live (mk (zdi rows (off+len) ys)))],tch⟩:=by
 have hx':=hx;simp only [zad] at hx;obtain ⟨l',a,hl',g1,g2,rfl,g5⟩:=hx;rw [hl] at hl';cases hl';have hroom:=hw.room;obtain ⟨news,hnw,hsn⟩:=hs.src hu;rw [ht.size] at hsn;by_cases hys:ys=[]
 . subst hys
   have hnn:news=[]:=zy5 zz17;subst hnn;have hr:=run_append_nothing (P:=P) w t t ty e i hu ht.info a len (l.room-off) zz1 vy hsn;refine ⟨_,_,m,.inl (zbi hr),?_,?_⟩
   . simp only [zba,zee,hw.set,<- hH,zef];exact .refl hok
   . simp only [zba,zee,hw.set,<- hH,zef];simpa using hx'
 . obtain ⟨hn,hc,hf,hws⟩:=zdz hok hH hl hw hlim hs.lens hnw h1 h2 hys
   have hpos:0<ys.length:=Nat.pos_of_ne_zero fun h=>hys (zy5 h)
   have ha:a=some ⟨l.blk,off*de.size,none⟩:=(g5 (.inl zz1)).trans zz15;subst ha;have hr:=run_append_room_src (P:=P) w t t ty _ i hu ht.info l.blk (off*de.size) len (l.room-off) vy ys.length news hsn zz1
    (fun j hj=>by rw [<- ht.size,<- zy11];exact hc j hj) (fun j hj=>by rw [<- ht.size,<- zy11];exact hf j hj)
   rw [<- ht.size,<- zy11] at hr;refine ⟨_,_,m,.inl (zbi hr),hws,?_⟩;simp only [zad];exact ⟨l,_,hl,by omega,g2,rfl,fun _=>by simp [Loc.at,hn]⟩
theorem zmc (z:List Value):∀ k:Nat,(List.replicate k (z.map PV.v)).flatten=((List.replicate k z).flatten).map PV.v
 | 0=>rfl
 | k+1=>by rw [zy52,zy52,zy56,zy56,zy54,zmc z k]
theorem zel (z:Array Value) (k:Nat):(Builtin.zeroCells z k).toList=(List.replicate k z.toList).flatten:=by
 apply zy40;intro j;have hl:((List.replicate k z.toList).flatten).length=k*z.size:=by
  rw [zam (n:=z.size) fun r hr=>by rw [zy35 hr];simp,zy58]
 rcases zy39 j (k*z.size) with h | h
 . have hzs:0<z.size:=by
    rcases Nat.eq_zero_or_pos z.size with h0 | h0
    . rw [h0] at h;simp at h
    . exact h0
   have e1:(Builtin.zeroCells z k).toList[j]?=some (z[j % z.size]!):=by
    rw [zy46,zy33 (by rw [zcb];exact h)];simp [Builtin.zeroCells]
   have hlt:=Nat.mod_lt j hzs;have hd:j / z.size<k:=Nat.div_lt_of_lt_mul (by rw [Nat.mul_comm];exact h);have e2:=zaw (rows:=List.replicate k z.toList) (n:=z.size) (i:=j / z.size) (j:=j % z.size) (r:=z.toList) (x:=z[j % z.size]) (fun r hr=>by rw [zy35 hr];simp)
    (by rw [zy66,zy12 hd]) (by simp [hlt])
   rw [show j / z.size*z.size+j % z.size=j by rw [Nat.mul_comm];exact Nat.div_add_mod j z.size] at e2;rw [e1,e2,getElem!_pos z _ hlt]
 . rw [zy25 (by rw [Array.length_toList,zcb];exact h),zy25 (by rw [hl];exact h)]
theorem zig {R:Nat->Prop}:∀ {l:List Value},(∀ v∈l,v.oneCell'=true)->zbg w R (l.map PV.v) l
 | [],_=>.nil
 | v::r,h=>.cons (.v v (h v zz0)) (zig fun x hx=>h x (by simp [hx]))
theorem zjh {R:Nat->Prop} {z:List Value} (h:z.all (·.oneCell')=true) (k:Nat):zbg w R (List.replicate k (z.map PV.v)).flatten (List.replicate k z).flatten:=by
 rw [zmc];refine zig fun v hv=>?_
 obtain ⟨l,hl,hv⟩:=List.mem_flatten.1 hv;rw [zy35 hl] at hv;exact zy19.1 h v hv
theorem zgq (t tx ty e:TypeId) (i:TypeInfo) (z:Value) (hu:P.underlying t=some (.slice e)) (hx:P.underlying tx=some (.int .i64)) (hi:P.info? e=some i) (hz:i.zero=some z) (base:Option Addr) (sLen sCap:Nat) (olds:List Value)
 (hold:(Builtin.firstCells i.size sLen (.slice base sLen sCap)).run P w.drew=.ok olds.toArray w.drew) (n:Int) (h0:0<=n) (h9:n<=9223372036854775807) (hs:0<i.size) (hb:n*i.bytes<=281474976710656)
 (hg:sCap<sLen+n.toNat) (h63:((sLen+n.toNat:Nat):Int)<=9223372036854775807) (hfit:Builtin.nextslicecap (sLen+n.toNat) sCap*i.bytes<=281474976710656) (hpos:0<n) :
 (Builtin.append_ #[t,tx] ty #[.slice base sLen sCap,.int .i64 n]).run P w =
  .ok (.slice (some ⟨w.heap.size,0,none⟩) (sLen+n.toNat) (grownCap w (sLen+n.toNat) sCap e))
   (w.drew.alloc (.cells ((olds++(Builtin.zeroCells z.cells n.toNat).toList).toArray++Builtin.zeroCells z.cells (grownCap w (sLen+n.toNat) sCap e-(sLen+n.toNat))) e)):=by
 have hn:¬ (sLen+n.toNat<=sCap):=by omega
 have h63':¬ (9223372036854775807<((sLen:Int)+(n.toNat:Int))):=by omega
 have h48':¬ (281474976710656<Builtin.nextslicecap (sLen+n.toNat) sCap*i.bytes):=by omega
 have hw:IntKind.i64.wrap n=n:=by
  unfold IntKind.wrap;simp [IntKind.bits,IntKind.signed];omega
 have hneg:¬ n<0:=by omega
 have hbig:¬ (281474976710656<n*(i.bytes:Int)):=by omega
 have hnz:¬ (n.toNat*i.size=0):=by
  have:0<n.toNat*i.size:=Nat.mul_pos zz1 hs;omega
 have hnz2:¬ (n<=0\/i.size=0):=by omega
 have h63'':¬ (9223372036854775807<((sLen:Int)+max n 0)):=by omega
 simp [Builtin.append_,run_underlying hu,run_underlying hx,sizeOf,typeInfo,zeroValue,hi,hz,hn,h63',h48',Question.forced,hold,newRow,grownCap,asInt,asIntOf,hw,hneg,hbig,hnz,hnz2,h63''];congr 2;apply Array.ext';simp [List.append_assoc]
theorem zpe {K:Res->Prop} {d:Nat} {x y:Operand} {t t':TypeId} (hok:zag Γ m H w) (hx:zad m w (RR Γ m H w) (ev x) (ρ x)) (hy:zad m w (RR Γ m H w) (ev y) (ρ y))
 (h:tyK P t' fun td=>match td.k with | .int .i64=>(match ev y with | .p (.v (.int .i64 z))=>zcl P t (ev x) z d H K | _=>False) | _=>False) :
 ∃ r,K r/\OS Γ P m H w (execOp ρ ⟨dst,.call ⟨.builtin .append,#[x,y],#[t,t']⟩,ty,pos,after,guard⟩) r:=by
 obtain ⟨td,u',i',z',ht',h⟩:=zbf h;split at h
 case h_2=>exact h.elim
 rename_i hk;split at h
 case h_2=>exact h.elim
 rename_i n hyy;rw [hyy] at hy;have hyv:=zax hy;unfold zcl at h;have hq:=zbd h;clear h;obtain ⟨e,de,u,i,z,hu,ht,h⟩:=hq;have hx2:=zab h;clear h;obtain ⟨hc,h⟩:=hx2;simp only [zy1] at hc;obtain ⟨⟨⟨hpos,hby⟩,hzs⟩,hone⟩:=hc;have hpos:0<de.size:=zy2 hpos;have hby:0<de.bytes:=zy2 hby;have hzs:=zy0 hzs;have hrunx:∀ {v:Value} {w':World},(Builtin.append_ #[t,t'] ty #[ρ x,ρ y]).run P w=.ok v w'->(execOp ρ ⟨dst,.call ⟨.builtin .append,#[x,y],#[t,t']⟩,ty,pos,after,guard⟩).run P w=.ok (.value v) w' :=
  fun hr=>zcs .append #[x,y] #[t,t'] (fun _ _=>rfl) zz19
 split at h
 case h_2=>exact h.elim
 rename_i id n1 off len hxx;rw [hxx] at hx;have hq:=zan h;clear h;obtain ⟨b,hb,h⟩:=hq;obtain ⟨l,hl,hbr⟩:=hok.blk hb;split at h
 case h_2=>exact h.elim
 rename_i t1 n2 rows cap;have hx2:=zab h;clear h;obtain ⟨hee,⟨g0,g9,g1,g2,g3⟩,h⟩:=hx2;simp only [zy1] at hee;have he2:=zy0 hee.1;have he3:=zy0 hee.2;subst he2 he3;split at h
 case h_2=>exact h.elim
 rename_i hfree;refine ⟨_,h,?_⟩;have hbr':=hbr;obtain ⟨b1,b2,b3,b4,b5,_⟩:=hbr';have hsx:=zhb hl hx hbr.2.2.1 (fun _=>zhi hbr) g2;simp only [zad] at hx;obtain ⟨l',a,hl',k1,k2,hxv,k5⟩:=hx;rw [hl] at hl';cases hl';have hroom:l.room=cap:=by simp [Loc.room,b1,b2]
 rw [hxv] at hsx hrunx;obtain ⟨olds,ho,hso⟩:=hsx.src hu;have hwl:((rows.drop off).take len).length=len:=by rw [zy61,List.length_drop];omega
 rw [hwl] at hso;rw [ht.size] at hso;rw [hyv] at hrunx;have hcast:(((len+n.toNat)*de.bytes:Nat):Int)=(len+n)*de.bytes:=by rw [Int.natCast_mul,Int.natCast_add,Int.toNat_of_nonneg g0]
 have h47:(len+n.toNat)*de.bytes<=140737488355328:=by
  have h1:(((len+n.toNat)*de.bytes:Nat):Int)<=((140737488355328:Nat):Int):=by rw [hcast];exact g3
  exact Int.ofNat_le.1 h1
 have hN:len+n.toNat<=140737488355328:=by
  have:(len+n.toNat)*1<=(len+n.toNat)*de.bytes:=Nat.mul_le_mul_left _ hby;omega
 have hnb:n*(i.bytes:Int)<=281474976710656:=by
  rw [<- ht.bytes];have h1:n*(de.bytes:Int)<=(len+n)*de.bytes:=Int.mul_le_mul_of_nonneg_right zz1 zz1;omega
 have hr:=zgq (P:=P) (w:=w) t t' ty e i z hu (ht'.int hk) ht.info ht.zero a len (l.room-off) olds hso.cellsD n g0 g9 (by rw [<- ht.size];exact hpos) hnb zz1 zz1 (growslice_fits zz1 (by rw [<- ht.bytes];exact h47)) zz1;have hcap:=grownCap_ge w (len+n.toNat) (l.room-off) e;have hcm:=grownCap_le_maxLen w (len+n.toNat) (l.room-off) e zz14;have hzz:z.cells.size=de.size:=by rw [<- hzs,ht.zeros];simp
 have hzl:(Builtin.zeroCells z.cells n.toNat).toList=(List.replicate n.toNat de.zero).flatten:=by rw [zel,ht.zeros]
 have hlr:((rows.drop off).take len++List.replicate n.toNat (de.zero.map PV.v)).length=len+n.toNat:=by rw [zy44,hwl,zy58]
 rw [<- hlr] at hr;have hws':WS Γ H m w H m w.drew:=WS.drew hok;have holds:olds.length=len*de.size:=by rw [ho.length,zam hsx.lens,hwl]
 have hall:=ho.append (zjh (w:=w) (R:=RR Γ m H w) hone n.toNat);rw [hzl] at hr;refine OS.newRow' (w:=w.drew) hws' hfree (arr:=(olds++(List.replicate n.toNat de.zero).flatten).toArray++Builtin.zeroCells z.cells (grownCap w ((rows.drop off).take len++List.replicate n.toNat (de.zero.map PV.v)).length (l.room-off) e-((rows.drop off).take len++List.replicate n.toNat (de.zero.map PV.v)).length)) (t:=e) (n:=de.size)
  (cap:=grownCap w ((rows.drop off).take len++List.replicate n.toNat (de.zero.map PV.v)).length (l.room-off) e) (rows:=(rows.drop off).take len++List.replicate n.toNat (de.zero.map PV.v)) ?_ (by rw [hlr];exact hcap) (by rw [hlr];exact hcm) ?_ ?_ rfl _ (hrunx hr)
 . intro r hr
   rcases zy6.1 hr with hr | hr
   . exact hsx.lens r hr
   . rw [zy35 hr,zy34,hzs]
 . have hfl:((List.replicate n.toNat de.zero).flatten).length=n.toNat*de.size:=by
    rw [zam (n:=de.size) fun r hr=>by rw [zy35 hr];exact hzs,zy58]
   rw [hlr];simp only [Array.size_append,zcb,hzz,List.size_toArray,zy44,holds,hfl];rw [<- zy11,<- zy11];congr 1;omega
 . intro k y hy
   rw [zy37] at hy;obtain ⟨cv,hcv,hp⟩:=hall.get k y hy;refine ⟨cv,?_,hp.mono hws'.keep⟩;have hlt:k<(olds++(List.replicate n.toNat de.zero).flatten).length:=(zy8.1 hcv).1;rw [zy62 (by simpa using hlt)]
   simpa using hcv
theorem zuk (hok:zag Γ m H w) {n0 most:Nat} {y:HV} {v:Value} {K:Nat->List (List PV)->List Nat->Prop} (hy:zad m w (RR Γ m H w) y v) (h:zps H n0 y most K) :
 ∃ n ys ids a len c,K n ys ids/\v=.slice a len c/\ys.length=Nat.min len most/\ys.length<=c/\zmd w (RR Γ m H w) n ys (.slice a ys.length c):=by
 unfold zps at h;split at h
 . rename_i id n1 off len
   have hq:=zan h;clear h;obtain ⟨b,hb,h⟩:=hq;obtain ⟨l,hl,hbr⟩:=hok.blk hb;have hq:=zjg hbr h;clear h;obtain ⟨t1,n2,rows,mk,lim,h,hw,_⟩:=hq;have hq:=zab h;clear h;obtain ⟨hnn,rs,rfl,hle,h⟩:=hq;have hnn:=zy0 hnn;subst hnn;have hmin:Nat.min len most<=len:=Nat.min_le_left _ _;have hlen:((rows.drop off).take (Nat.min len most)).length=Nat.min len most:=by rw [zy61,List.length_drop];omega
   have hy':=hy;simp only [zad] at hy;obtain ⟨l',a,hl',k1,k2,rfl,k5⟩:=hy;rw [hl] at hl';cases hl';have hy2:zad m w (RR Γ m H w) (.osl id n1 off (Nat.min len most)) (.slice a (Nat.min len most) (l.room-off)):=by
    simp only [zad];exact ⟨l,a,hl,by omega,k2,rfl,k5⟩
   have hs:=zhb hl hy2 hw.lens hw.cells hle;exact ⟨_,_,_,a,len,_,h,rfl,hlen,by omega,by rw [hlen];exact hs⟩
 . have hq:=zew hok hy h;clear h;obtain ⟨n,rows,ids,h,hs⟩:=hq
   obtain ⟨a,c,hv,hle,hm,hcell⟩:=hs.out;have hlen:(rows.take most).length=Nat.min rows.length most:=by rw [zy61];exact Nat.min_comm _ _
   refine ⟨n,rows.take most,ids,a,rows.length,c,h,hv,hlen,by simp;omega,⟨a,c,rfl,by simp;omega,hm,fun hne=>?_⟩,fun r hr=>hs.lens r (zy28 hr)⟩;obtain ⟨b,o,ha,hpc⟩:=hcell (by rintro rfl;simp at hne);refine ⟨b,o,ha,fun k x hk=>hpc k x ?_⟩;have:rows.flatten=(rows.take most).flatten++(rows.drop most).flatten:=by rw [<- zy37,zy59]
   rw [this,zy24 ((zy8.1 hk).1)];exact hk
theorem zup {K:Res->Prop} {C:zai} {d:Nat} {args:Array Operand} {ats:Array TypeId} (hok:zag Γ m H w) (hxs:∀ x∈args.toList,zad m w (RR Γ m H w) (ev x) (ρ x)) (h:zat P C (.call ⟨.builtin .copy,args,ats⟩) d ev H K) :
 ∃ r,K r/\OS Γ P m H w (execOp ρ ⟨dst,.call ⟨.builtin .copy,args,ats⟩,ty,pos,after,guard⟩) r:=by
 simp only [zat] at h;split at h
 case h_2=>exact h.elim
 rename_i x y hargs;have hargs':args=#[x,y]:=by rw [<- zy16 (xs:=args),hargs]
 subst hargs';split at h
 case h_2=>exact h.elim
 rename_i t t' hats;have hats':ats=#[t,t']:=by rw [<- zy16 (xs:=ats),hats]
 subst hats';have hx:=hxs x zz0;have hy:=hxs y zz0;unfold zkt at h;have hq:=zbd h;clear h;obtain ⟨e,de,u,i,z,hu,ht,h⟩:=hq;split at h
 case h_2=>exact h.elim
 rename_i id n1 off len hxx;rw [hxx] at hx;split at h
 case h_2=>exact h.elim
 rename_i b hH;obtain ⟨l,hl,hbr,_⟩:=hok.live id _ hH;have hq:=zjg hbr h;clear h;obtain ⟨t1,n2,rows,mk,lim,h,hw,hlim⟩:=hq;have hq:=zuk hok hy h;clear h;obtain ⟨n,ys,ids,a,ylen,c,h,hyv,hyl,hyc,hs⟩:=hq;have hx2:=zab h;clear h;obtain ⟨hee,⟨g1,g2⟩,h⟩:=hx2;simp only [zy1] at hee;have he1:=zy0 hee.1.1;have he2:=zy0 hee.1.2;have he3:=zy0 hee.2;subst he1 he2 he3;have hx':=hx;simp only [zad] at hx;obtain ⟨l',ad,hl',k1,k2,hxv,k5⟩:=hx;rw [hl] at hl';cases hl';have hroom:=hw.room;obtain ⟨vs,hp,zps⟩:=hs.src hu;rw [ht.size] at zps;have hcl:(Builtin.firstCells i.size ys.length (ρ y)).run P w=.ok vs.toArray w:=by
  have:=zps.cells;rw [hyv];cases a<;>exact this
 refine ⟨_,h,?_⟩;have hlen:(Builtin.lenOf (ρ y)).run P w=.ok ylen w:=by rw [hyv];rfl
 by_cases hys:ys=[]
 . subst hys
   have hvs:vs=[]:=zy5 (by simpa using hp.length);subst hvs;have zbi:(Builtin.copy_ #[t,t'] ty #[ρ x,ρ y]).run P w=.ok (goInt 0) w:=by
    rw [hxv];simp only [List.length_nil] at hyl hcl;cases ad<;>simp [Builtin.copy_,run_underlying hu,hlen,sizeOf,typeInfo,ht.info,<- hyl,hcl,storeCells]
   refine ⟨_,_,m,.inl (zch .copy #[x,y] #[t,t'] _ (fun _=>rfl) zz18),?_,?_⟩
   . simp only [zba,zee,hw.set,<- hH,zef];exact .refl hok
   . exact zbc _ rfl
 . obtain ⟨hn,hc,hf,hws⟩:=zdz hok hH hl hw hlim hs.lens hp g1 g2 hys
   have hpos:0<ys.length:=Nat.pos_of_ne_zero fun h=>hys (zy5 h)
   have ha:ad=some ⟨l.blk,off*de.size,none⟩:=(k5 (.inl zz1)).trans zz15;subst ha;have hst:=run_storeCells_cells (P:=P) l.blk (off*de.size) vs 0 w (by simpa using hc) (by simpa using hf) hp.one;simp only [zy38] at hst;have zbi:(Builtin.copy_ #[t,t'] ty #[ρ x,ρ y]).run P w=.ok (goInt ys.length) (w.setCells l.blk (off*de.size) vs):=by
    rw [hxv];simp [Builtin.copy_,run_underlying hu,hlen,sizeOf,typeInfo,ht.info,<- hyl,hcl,hst]
   refine ⟨_,_,m,.inl (zch .copy #[x,y] #[t,t'] _ (fun _=>rfl) zz18),hws,?_⟩;exact zbc _ rfl
theorem zsv {K:Res->Prop} {C:zai} {d:Nat} {args:Array Operand} {ats:Array TypeId} (hok:zag Γ m H w) (hxs:∀ x∈args.toList,zad m w (RR Γ m H w) (ev x) (ρ x)) (h:zat P C (.call ⟨.builtin .clear,args,ats⟩) d ev H K) :
 ∃ r,K r/\OS Γ P m H w (execOp ρ ⟨dst,.call ⟨.builtin .clear,args,ats⟩,ty,pos,after,guard⟩) r:=by
 simp only [zat] at h;split at h
 case h_2=>exact h.elim
 rename_i x hargs;have hargs':args=#[x]:=by rw [<- zy16 (xs:=args),hargs]
 subst hargs';split at h
 case h_2=>exact h.elim
 rename_i t hats;have hats':ats=#[t]:=by rw [<- zy16 (xs:=ats),hats]
 subst hats';have hx:=hxs x zz0;unfold zgn at h;have hq:=zbd h;clear h;obtain ⟨e,de,u,i,z,hu,ht,h⟩:=hq;have hx2:=zab h;clear h;obtain ⟨hc,h⟩:=hx2;simp only [zy1] at hc;obtain ⟨hzs,hone⟩:=hc;have hzs:=zy0 hzs;split at h
 case h_2=>exact h.elim
 rename_i id n1 off len hxx;rw [hxx] at hx;split at h
 case h_2=>exact h.elim
 rename_i b hH;obtain ⟨l,hl,hbr,_⟩:=hok.live id _ hH;have hq:=zjg hbr h;clear h;obtain ⟨t1,n2,rows,mk,lim,h,hw,hlim⟩:=hq;have hx2:=zab h;clear h;obtain ⟨hee,⟨g1,g2⟩,h⟩:=hx2;simp only [zy1] at hee;have he1:=zy0 hee.1;have he2:=zy0 hee.2;subst he1 he2;simp only [zad] at hx;obtain ⟨l',ad,hl',k1,k2,hxv,k5⟩:=hx;rw [hl] at hl';cases hl';have hroom:=hw.room;refine ⟨_,h,?_⟩;by_cases hl0:len=0
 . subst hl0
   have zbi:(Builtin.clear_ #[t] ty #[ρ x]).run P w=.ok (.tuple #[]) w:=by
    rw [hxv];cases ad<;>simp [Builtin.clear_,run_underlying hu]
   refine ⟨_,_,m,.inl (zch .clear #[x] #[t] _ (fun _=>rfl) zz18),?_,?_⟩
   . simp only [zba,List.replicate_zero,zee,hw.set,<- hH,zef];exact .refl hok
   . simp only [zad,zae];exact ⟨#[],rfl,rfl⟩
 . have hp:=zjh (w:=w) (R:=RR Γ m H w) hone len
   obtain ⟨hn,hc,hf,hws⟩:=zdz hok hH hl hw hlim (ys:=List.replicate len (de.zero.map PV.v)) (fun r hr=>by rw [zy35 hr,zy34,hzs]) hp g1 (by rw [zy58];exact g2) (fun h=>hl0 (by simpa using congrArg List.length h));have ha:ad=some ⟨l.blk,off*de.size,none⟩:=(k5 (.inl zz1)).trans zz15;subst ha;have hst:=run_storeCells_cells (P:=P) l.blk (off*de.size) _ 0 w (by simpa using hc) (by simpa using hf) hp.one;simp only [zy38] at hst;have hzl:(Builtin.zeroCells z.cells len).toList=(List.replicate len de.zero).flatten:=by rw [zel,ht.zeros]
   have zbi:(Builtin.clear_ #[t] ty #[ρ x]).run P w=.ok (.tuple #[]) (w.setCells l.blk (off*de.size) (List.replicate len de.zero).flatten):=by
    rw [hxv];obtain ⟨k,rfl⟩:∃ k,len=k+1:=⟨len-1,by omega⟩
    simp [Builtin.clear_,run_underlying hu,zeroValue,typeInfo,ht.info,ht.zero,hzl,hst]
   refine ⟨_,_,m,.inl (zch .clear #[x] #[t] _ (fun _=>rfl) zz18),hws,?_⟩;simp only [zad,zae];exact ⟨#[],rfl,rfl⟩
theorem zvz {K:Res->Prop} {C:zai} {d:Nat} {args:Array Operand} {ats:Array TypeId} (hok:zag Γ m H w) (hxs:∀ x∈args.toList,zad m w (RR Γ m H w) (ev x) (ρ x)) (h:zat P C (.call ⟨.builtin .cap,args,ats⟩) d ev H K) :
 ∃ r,K r/\OS Γ P m H w (execOp ρ ⟨dst,.call ⟨.builtin .cap,args,ats⟩,ty,pos,after,guard⟩) r:=by
 simp only [zat] at h;split at h
 case h_2=>exact h.elim
 rename_i x hargs;have hargs':args=#[x]:=by rw [<- zy16 (xs:=args),hargs]
 subst hargs';split at h
 case h_2=>exact h.elim
 rename_i t hats;have hats':ats=#[t]:=by rw [<- zy16 (xs:=ats),hats]
 subst hats';have hx:=hxs x zz0;have hq:=zbd h;clear h;obtain ⟨e,de,u,i,z,hu,ht,h⟩:=hq;have he:P.elem t=e:=by simp [Program.elem,hu]
 have hu':P.underlying t=some (.slice (P.elem t)):=by rw [he];exact hu
 split at h
 case h_2=>exact h.elim
 rename_i id n1 off len hxx;rw [hxx] at hx;have hq:=zan h;clear h;obtain ⟨b,hb,h⟩:=hq;obtain ⟨l,hl,hbr⟩:=hok.blk hb;split at h
 case h_2=>exact h.elim
 rename_i t1 n2 rows cap;obtain ⟨g,h⟩:=h;obtain ⟨b1,b2,_⟩:=hbr;simp only [zad] at hx;obtain ⟨l',ad,hl',k1,k2,hxv,k5⟩:=hx;rw [hl] at hl';cases hl';have hroom:l.room=cap:=by simp [Loc.room,b1,b2]
 have zbi:(Builtin.cap_ #[t] ty #[ρ x]).run P w=.ok (goInt ((cap-off:Nat))) w:=by rw [hxv,hroom];exact run_cap_slice w t ty ad len _ hu'
 exact ⟨_,h,.ret hok (zch .cap #[x] #[t] _ (fun _=>rfl) (by simpa [goInt] using zbi)) (zbc _ rfl) _⟩
theorem zqu {K:Res->Prop} {C:zai} {d:Nat} {args:Array Operand} {ats:Array TypeId} (hok:zag Γ m H w) (hxs:∀ x∈args.toList,zad m w (RR Γ m H w) (ev x) (ρ x)) (h:zat P C (.call ⟨.builtin .append,args,ats⟩) d ev H K) :
 ∃ r,K r/\OS Γ P m H w (execOp ρ ⟨dst,.call ⟨.builtin .append,args,ats⟩,ty,pos,after,guard⟩) r:=by
 simp only [zat] at h;split at h
 . rename_i x y hargs
   have hargs':args=#[x,y]:=by rw [<- zy16 (xs:=args),hargs]
   subst hargs';split at h
   . rename_i t t' hats
     have hats':ats=#[t,t']:=by rw [<- zy16 (xs:=ats),hats]
     subst hats';have hx:=hxs x zz0;have hy:=hxs y zz0;split at h
     case h_2=>exact zpe hok hx hy h
     rename_i htt;have htt:=zy0 htt;subst htt;unfold zdu at h;obtain ⟨e,de,u,i,z,hu,ht,h⟩:=zbd h;obtain ⟨n,ys,ids,hK,hs⟩:=zew hok hy h;clear h;have hx2:=zab hK;clear hK;obtain ⟨hc,hK⟩:=hx2;simp only [zy1] at hc;obtain ⟨⟨⟨hn,hpos⟩,hby⟩,hzs⟩:=hc;have hn:=zy0 hn;subst hn;have hpos:0<de.size:=zy2 hpos;have hby:0<de.bytes:=zy2 hby;have hzs:=zy0 hzs;have hrunx:∀ {v:Value} {w':World},(Builtin.append_ #[t,t] ty #[ρ x,ρ y]).run P w=.ok v w'->(execOp ρ ⟨dst,.call ⟨.builtin .append,#[x,y],#[t,t]⟩,ty,pos,after,guard⟩).run P w=.ok (.value v) w' :=
      fun hr=>zcs .append #[x,y] #[t,t] (fun _ _=>rfl) zz19
     split at hK
     . rename_i hxx
       rw [hxx] at hx;have hxv:=zfu hx;rw [hxv] at hrunx;split at hK
       . rename_i hfree
         obtain ⟨h47,hK⟩:=hK;refine ⟨_,hK,?_⟩;have zrp:zmd w (RR Γ m H w) de.size [] (.slice none 0 0):=⟨⟨none,0,rfl,by simp,by simp [maxLen],fun h=>absurd rfl h⟩,by simp⟩
         by_cases hys:ys=[]
         . subst hys
           obtain ⟨news,hnw,hsn⟩:=hs.src hu;have hnn:news=[]:=zy5 zz17;subst hnn;rw [ht.size] at hsn;have hr:=run_append_nothing (P:=P) w t t ty e i hu ht.info none 0 0 (zy49 _) (ρ y) hsn;obtain ⟨m',hws,hm'⟩:=WS.newNil hok hfree e de.size;refine ⟨_,_,m',.inl (hrunx hr),hws,?_⟩;simp only [zad];exact ⟨_,hm',rfl⟩
         . exact zds (.refl hok) hfree hu ht hzs hby zrp hs zz4 (by simpa using h47) rfl _ hrunx
       . exact hK.elim
     . rename_i id hxx
       rw [hxx] at hx;simp only [zad] at hx;obtain ⟨l,hl,hxv⟩:=hx;split at hK
       . rename_i e' n' rows hH
         have hx2:=zab hK;clear hK;obtain ⟨hee,hK⟩:=hx2;simp only [zy1] at hee;obtain ⟨he1,he2⟩:=hee;have he1:=zy0 he1;have he2:=zy0 he2;subst he1 he2;split at hK
         . rename_i hfree
           obtain ⟨h47,hK⟩:=hK;refine ⟨_,hK,?_⟩;obtain ⟨l',hl',hbr,_⟩:=hok.live id _ hH;rw [hl] at hl';cases hl';have hsx:=zgx hbr;have hdrop:=WS.drop hok hH;have hdid:d≠id:=by rintro rfl;rw [hH] at hfree;cases hfree
           have hfree':upd H id .dead d=.free:=(zah _ _ hdid).trans hfree;rw [hxv] at hrunx;have hbr':=hbr;obtain ⟨hlen,hlens,hb3⟩:=hbr;rcases hb3 with ⟨zrp,hr0⟩ | ⟨hnn,hc1,hc2,arr,harr,hsz,hcell⟩
           . subst hr0
             have hhd:hdr l=.slice none 0 0:=by simp [hdr,zrp]
             rw [hhd] at hrunx hsx;by_cases hys:ys=[]
             . subst hys
               obtain ⟨news,hnw,hsn⟩:=hs.src hu;have hnn:news=[]:=zy5 zz17;subst hnn;rw [ht.size] at hsn;have hr:=run_append_nothing (P:=P) w t t ty _ i hu ht.info none 0 0 (zy49 _) (ρ y) hsn;obtain ⟨m',hws,hm'⟩:=WS.newNil hdrop.ok hfree' e' de.size;refine ⟨_,_,m',.inl (hrunx hr),hdrop.trans hws,?_⟩;simp only [zad];exact ⟨_,hm',rfl⟩
             . exact zds hdrop hfree' hu ht hzs hby hsx hs zz4 (by simpa using h47) rfl _ hrunx
           . have hhd:hdr l=.slice (some ⟨l.blk,0,none⟩) rows.length l.cap:=by simp [hdr,hnn,hlen]
             rw [hhd] at hrunx hsx;by_cases hroom:rows.length+ys.length<=l.cap
             . obtain ⟨news,hnw,hsn⟩:=hs.src hu
               have hnl:news.length=ys.length*de.size:=by rw [hnw.length,zam hs.lens]
               have hfit:rows.length*de.size+news.length<=arr.size:=by
                rw [hnl,hsz,<- zy11];exact zy29 _ hroom
               rw [ht.size] at hsn;have hr:=run_append_room_src (P:=P) w t t ty _ i hu ht.info l.blk 0 rows.length l.cap (ρ y) ys.length news hsn hroom
                (fun j hj=>by rw [cell_of_row w l.blk _ arr _ (0,0) harr,zy33 (by rw [<- ht.size];omega)];rfl) (fun j hj=>by simp [World.frozen?,harr])
               rw [<- ht.size,zy26] at hr;obtain ⟨m',hws,hm'⟩:=WS.rename hok hH hl hnn hfree (b':=.row e' de.size (rows++ys)) (rows++ys).length (w':=w.setCells l.blk (rows.length*de.size) news)
                (zal _ _ _ _).1 (zal _ _ _ _).2.1 (zal _ _ _ _).2.2.1 (zal _ _ _ _).2.2.2 (fun k hk=>zbs _ _ _ _ _ hk) (fun m' R' hext hk=>by
                 refine ⟨rfl,fun r hr=>?_,.inr ⟨rfl,by simpa using hroom,hc2,putAt arr (rows.length*de.size) news,zbr _ _ _ _ _ harr hfit,by rw [zbz,hsz],fun k y hy=>?_⟩⟩
                 . rcases zy6.1 hr with hr | hr
                   . exact hlens r hr
                   . exact hs.lens r hr
                 . rw [zy37] at hy
                   have hfl:=zam hlens;rw [zbq];rcases zy39 k rows.flatten.length with hlt | hge
                   . rw [zy24 hlt] at hy
                     rw [zy10 (by omega)];obtain ⟨cv,h1,h2⟩:=hcell k y hy;exact ⟨cv,h1,h2.mono hk⟩
                   . rw [zy30 hge] at hy
                     obtain ⟨cv,h1,h2⟩:=hnw.get _ _ hy;have hklt:=(zy8.1 h1).1;refine ⟨cv,?_,h2.mono hk⟩;rw [zy12 (by omega),<- hfl];exact h1)
               refine ⟨_,_,m',.inl (hrunx hr),hws,?_⟩;simp only [zad];exact ⟨_,hm',by simp [hdr]⟩
             . exact zds hdrop hfree' hu ht hzs hby hsx hs zz1 h47 rfl _ hrunx
         . exact hK.elim
       . exact hK.elim
     . rename_i id n1 off len hxx
       rw [hxx] at hx;split at hK
       . rename_i b hH
         obtain ⟨l,hl,hbr,_⟩:=hok.live id _ hH;have hq:=zjg hbr hK;clear hK;obtain ⟨t1,n2,rows,mk,lim,hK,hw,hlim⟩:=hq;have hx2:=zab hK;clear hK;obtain ⟨hee,hg,hK⟩:=hx2;simp only [zy1] at hee;obtain ⟨⟨he1,he2⟩,he3⟩:=hee;have he1:=zy0 he1;have he2:=zy0 he2;have he3:=zy0 he3;subst he1 he2 he3;obtain ⟨hg1,hg2⟩:=hg;refine ⟨_,hK,?_⟩;exact zjk hok hH hl hw hlim hx hu ht hs hg1 hg2 hrunx _
       . exact hK.elim
     . exact hK.elim
   . exact h.elim
 . exact h.elim
theorem zsr {u:TypeDesc} {v:Value} (h:zmv (zez (zcr u)) v=true):zmu (zez (zcr u))=u:=by
 cases u<;>simp only [zcr] at h ⊢<;>try rfl
 all_goals first | (rename_i k;cases k<;>rfl) | (exfalso;cases v<;>simp [zez,zmv] at h;rename_i k n;cases k<;>simp [zez] at h)
theorem zvu {n:Nat} {v:Value} (h:zmv n v=true):MapKept.IsKey (zmu n) v:=by
 cases v<;>simp only [zmv] at h<;>try cases h
 all_goals (have h:=zy0 h;subst h)
 . trivial
 . rename_i k z;cases k<;>rfl
 . trivial
theorem zqp {d:TypeDesc} {a b:Value} (ha:MapKept.IsKey d a) (hb:MapKept.IsKey d b):zpc a b=true↔a=b:=by
 cases d<;>cases a<;>cases b<;>simp_all [MapKept.IsKey,zpc,MapKept.bytes_beq]
theorem zco.snoc {R:Nat->Prop} {agg:Bool} {xs:List (Value×List PV)} {es:List MapEntry} (h:zco w R agg xs es) {x:Value×List PV} {e:MapEntry} (hx:zro w R agg x e):zco w R agg (xs++[x]) (es++[e]):=by
 induction h with
 | nil=>exact .cons hx .nil
 | cons h1 _ ih=>exact .cons h1 ih
theorem zmj {R:Nat->Prop} {agg:Bool} {d:TypeDesc} {k:Value} (hk:MapKept.IsKey d k):∀ {xs:List (Value×List PV)} {es:List MapEntry},zco w R agg xs es->∀ (i:Nat),(∀ x∈es,MapKept.IsKey d x.key) ->
 (Instr.findNow d k es i=some none/\zmi xs k=none/\(∀ x∈es,x.key≠k)/\∀ v,zuv xs k v=xs++[(k,v)]) \/
 ∃ j e cs,Instr.findNow d k es i=some (some (i+j,e.val))/\es[j]?=some e/\e.key=k/\zmi xs k=some cs/\zro w R agg (k,cs) e /\
  ∀ v e',zro w R agg (k,v) e'->zco w R agg (zuv xs k v) (es.set j e')
 | _,_,.nil,_,_=>.inl ⟨rfl,rfl,by simp,fun _=>rfl⟩
 | (k',cs)::xs,e::es,.cons hx hr,i,h=>by
  obtain ⟨r,hr1,hiff⟩:=MapKept.sameNow_of_keys hk (h e (.head _));have hke:e.key=k':=hx.1;have hq:zpc k k'=r:=by
   have h1:=zqp hk (h e (.head _));rw [hke] at h1 hiff;cases r with
   | true=>exact h1.2 (hiff.1 rfl)
   | false=>cases hc:zpc k k' with
    | false=>rfl
    | true=>have:=hiff.2 (h1.1 hc);cases this
  cases r with
  | true =>
   have hkk:=hiff.1 rfl;refine .inr ⟨0,e,cs,by simp [Instr.findNow,hr1],rfl,hkk.symm,by simp [zmi,hq],by rw [hkk,hke];exact hx,fun v e' he'=>?_⟩;simp only [zuv,hq,if_true,List.set_cons_zero];exact .cons he' hr
  | false =>
   have hne:e.key≠k:=fun q=>by have:=hiff.2 q.symm;cases this
   rcases zmj hk hr (i+1) (fun x hx=>h x (.tail _ hx)) with ⟨h1,h2,h3,h4⟩ | ⟨j,e',cs',h1,h2,h3,h4,h5,h6⟩
   . refine .inl ⟨by simp [Instr.findNow,hr1,h1],by simp [zmi,hq,h2],fun x hx=>?_,fun v=>by simp [zuv,hq,h4]⟩
     cases hx with
     | head=>exact hne
     | tail _ hx=>exact h3 x hx
   . refine .inr ⟨j+1,e',cs',by simp [Instr.findNow,hr1,h1];omega,by simpa using h2,h3,by simp [zmi,hq,h4],h5,fun v e'' he=>?_⟩
     simp only [zuv,hq,List.set_cons_succ];exact .cons hx (h6 v e'' he)
theorem zle {k:TypeId} {dk:TyD} {uk:TypeDesc} {ik:TypeInfo} {zk:Value} (ht:zgg P k dk uk ik zk) {v:Value} (h:zmv (zez dk.k) v=true):zmu (zez dk.k)=uk/\MapKept.IsKey uk v:=by
 have hd:dk.k=zcr uk:=ht.kind;rw [hd] at h ⊢;have:=zsr h;exact ⟨this,this ▸ zvu h⟩
theorem zpi {K:Res->Prop} {C:zai} {d:Nat} {t:TypeId} {r:Option Operand} (hok:zag Γ m H w) (h:zat P C (.makeMap t r) d ev H K) :
 ∃ r',K r'/\OS Γ P m H w (execOp ρ ⟨dst,.makeMap t r,ty,pos,after,guard⟩) r':=by
 simp only [zat] at h;cases r with
 | some _=>exact h.elim
 | none =>
  obtain ⟨k,e,dk,uk,ik,zk,de,u,i,z,hu,htk,ht,h⟩:=zgw h;split at h
  . rename_i hfree
    obtain ⟨m',hws,hm'⟩:=WS.newObj hok hfree (o:=.map #[] 0) (b:=.map (zez dk.k) (zaz de.k) []) (cap:=0) (len:=0)
     (fun m' R' hext hk=>⟨rfl,#[],0,(MapKept.heap_alloc w _).1,.nil,MapKept.stamped_empty 0,by simp⟩)
    refine ⟨_,h,.map (some w.heap.size),_,m',.inl ?_,hws,?_⟩
    . simp only [execOp]
      exact zak _ (by rfl)
    . simp only [zad]
      exact ⟨_,hm',rfl,rfl⟩
  . exact h.elim
theorem zco.split {w:World} {R:Nat->Prop} {agg:Bool}:∀ {A':List MapEntry} {e:MapEntry} {B':List MapEntry} {xs:List (Value×List PV)},zco w R agg xs (A'++e::B') ->
 ∃ A x B,xs=A++x::B/\zco w R agg A A'/\zro w R agg x e/\zco w R agg B B'
 | [],e,B',xs,h=>by cases h with | cons h1 h2=>exact ⟨[],_,_,rfl,.nil,h1,h2⟩
 | a::A',e,B',xs,h=>by
  cases h with
  | cons h1 h2 =>
   obtain ⟨A,x,B,rfl,k1,k2,k3⟩:=zco.split h2;exact ⟨_::A,x,B,rfl,.cons h1 k1,k2,k3⟩
theorem zco.join {w:World} {R:Nat->Prop} {agg:Bool}:∀ {A':List MapEntry} {B':List MapEntry} {A B:List (Value×List PV)},zco w R agg A A'->zco w R agg B B'->zco w R agg (A++B) (A'++B')
 | [],B',A,B,h,k=>by cases h;exact k
 | a::A',B',A,B,h,k=>by cases h with | cons h1 h2=>exact .cons h1 (h2.join k)
theorem zqq {arr:Array MapEntry} {seen:Array Nat} {e:MapEntry} {A B:List MapEntry} (hn:(arr.toList.map (·.born)).Nodup) (h:(leftOf arr seen).toList=A++e::B):(leftOf arr (seen.push e.born)).toList=A++B:=by
 have h1:(leftOf arr (seen.push e.born)).toList=(leftOf arr seen).toList.filter fun x=>!(x.born==e.born):=by
  unfold leftOf;rw [Array.toList_filter,Array.toList_filter,List.filter_filter];refine List.filter_congr fun x _=>?_
  rw [contains_push];cases seen.contains x.born<;>cases x.born==e.born<;>rfl
 have hs:(leftOf arr seen).toList.Sublist arr.toList:=by unfold leftOf;rw [Array.toList_filter];exact List.filter_sublist
 have h2:((A++e::B).map (·.born)).Nodup:=by rw [<- h];exact (hs.map _).nodup hn
 rw [zy54,zy13,List.nodup_append] at h2;obtain ⟨_,h3,h4⟩:=h2;have h5:=(zy65.1 h3).1;rw [h1,h,List.filter_append,List.filter_cons_of_neg (by simp),List.filter_eq_self.2 fun x hx=>?_,List.filter_eq_self.2 fun x hx=>?_]
 . have:x.born≠e.born:=fun q=>h5 (q ▸ List.mem_map_of_mem hx)
   simpa using this
 . have:x.born≠e.born:=h4 x.born (List.mem_map_of_mem hx) e.born zz0
   simpa using this
theorem zul {kc:Nat} {v:Value} (h:MapKept.IsKey (zmu kc) v):v.oneCell'=true:=by
 generalize zmu kc=d at h;cases d<;>cases v<;>first | rfl | exact h.elim
theorem zsz {K:Res->Prop} {C:zai} {d:Nat} {t:TypeId} {x:Operand} (hok:zag Γ m H w) (hx:zad m w (RR Γ m H w) (ev x) (ρ x)) (h:zat P C (.range t x) d ev H K) :
 ∃ r',K r'/\OS Γ P m H w (execOp ρ ⟨dst,.range t x,ty,pos,after,guard⟩) r':=by
 simp only [zat] at h;obtain ⟨k,e,dk,uk,ik,zk,de,u,i,z,hu,htk,ht,h⟩:=zgw h;split at h
 . rename_i id hxx
   rw [hxx] at hx;simp only [zad] at hx;obtain ⟨l,hl,hn,hv⟩:=hx;split at h
   . rename_i kc agg es hb
     split at h
     . rename_i hfree
       obtain ⟨l',hl',hbr,hlo⟩:=hok.live id _ hb;rw [hl] at hl';cases hl';obtain ⟨_,arr,clock,harr,her,hst,hks⟩:=hbr;obtain ⟨hws1,hrr⟩:=WS.kill hok hb hl hn (w':=w) rfl rfl rfl rfl (fun _ _=>rfl);have hne:d≠id:=by rintro rfl;rw [hb] at hfree;cases hfree
       obtain ⟨m',hws2,hm'⟩:=WS.newObj hws1.ok (id:=d) (by rw [zah _ _ hne];exact hfree) (o:=.mapIter (some l.blk) clock #[] clock) (b:=.iter kc agg es none) (cap:=0) (len:=0)
        (fun m' R' hext hk=>⟨rfl,l.blk,arr,clock,#[],heap_alloc_new _ _,⟨(hk _ hrr).1.trans harr,(hk _ hrr).2,hst,hks,by
         have:(leftOf arr #[]).toList=arr.toList:=by unfold leftOf;simp
         rw [this];exact (her.mono hws1.keep).mono hk,by simp⟩⟩)
       refine ⟨_,h,.pointer (some ⟨w.heap.size,0,none⟩),_,m',.inl ?_,hws1.trans hws2,?_⟩
       . simp only [execOp]
         rw [hv];exact zak _ (run_range_map w t k e l.blk arr clock hu harr)
       . simp only [zad]
         exact ⟨_,hm',rfl,rfl⟩
     . exact h.elim
   . exact h.elim
 . exact h.elim
theorem zus {K:Res->Prop} {C:zai} {d:Nat} {x:Operand} {str:Bool} (hok:zag Γ m H w) (hx:zad m w (RR Γ m H w) (ev x) (ρ x)) (h:zat P C (.next x str) d ev H K) :
 ∃ r',K r'/\OS Γ P m H w (execOp ρ ⟨dst,.next x str,ty,pos,after,guard⟩) r':=by
 simp only [zat] at h;split at h
 . exact h.elim
 split at h
 . rename_i id hxx
   rw [hxx] at hx;simp only [zad] at hx;obtain ⟨l,hl,hn,hv⟩:=hx;split at h
   . rename_i kc agg left cur hb
     obtain ⟨l',hl',hbr,hlo⟩:=hok.live id _ hb;rw [hl] at hl';cases hl';obtain ⟨_,bm,arr,clock,seen,hit,hI⟩:=hbr;have hst:=hI.stamped;rcases run_next_at (P:=P) w ty l.blk bm clock clock seen arr clock hit hI.map hst.1 (zy49 _) with ⟨h0,zbi⟩ | ⟨e,he,w1,hw1,zbi⟩
     . have hl0:left=[]:=by
        have:=hI.left;rw [Array.eq_empty_of_size_eq_zero h0] at this;cases this;rfl
       refine ⟨_,h.1 hl0,.ret hok (v:=.tuple #[.bool false]) ?_ ?_ _⟩
       . simp only [execOp]
         rw [hv];exact zak _ zbi
       . simp only [zad,zae]
         exact ⟨_,rfl,.bool false,[],rfl,.v _ rfl,rfl⟩
     . obtain ⟨A',B',hAB⟩:=List.append_of_mem he
       have hleft:=hI.left;rw [hAB] at hleft;obtain ⟨A,y,B,rfl,hA,hy,hB⟩:=zco.split hleft;have hw0:WS Γ H m w H m w1:=by
        rcases hw1 with rfl | rfl
        . exact .refl hok
        . exact .drew hok
       have hheap:w1.heap=w.heap:=by rcases hw1 with rfl | rfl<;>rfl
       have hother:∀ k,k≠l.blk->(ChangeMaps.setBlock w1 l.blk (.mapIter (some bm) clock (seen.push e.born) clock)).heap[k]?=w1.heap[k]?:=fun k hk=>by
        show (w1.heap.setIfInBounds _ _)[k]?=_;rw [Array.getElem?_setIfInBounds_ne (fun q=>hk q.symm)]
       have hself:(ChangeMaps.setBlock w1 l.blk (.mapIter (some bm) clock (seen.push e.born) clock)).heap[l.blk]?=some (.mapIter (some bm) clock (seen.push e.born) clock):=by
        show (w1.heap.setIfInBounds _ _)[l.blk]?=_;rw [Array.getElem?_setIfInBounds_self_of_lt];rw [hheap];exact (zy22.1 hit).1
       have hws:WS Γ H m w1 (upd H id (.live (.iter kc agg (A++B) (some y)))) m (ChangeMaps.setBlock w1 l.blk (.mapIter (some bm) clock (seen.push e.born) clock)):=by
        refine WS.set hw0.ok hb hl hn (by show (w1.heap.setIfInBounds _ _).size=_;simp) rfl rfl rfl hother fun R' hR=>?_
        have hk:∀ b,RR Γ m H w b->(ChangeMaps.setBlock w1 l.blk (.mapIter (some bm) clock (seen.push e.born) clock)).heap[b]?=w.heap[b]?/\R' b:=fun b hb=>by
         have h1:=hw0.keep b hb;have h2:=hR b h1.2;exact ⟨h2.1.trans h1.1,h2.2⟩
        refine ⟨hn,bm,arr,clock,seen.push e.born,hself,⟨(hk _ hI.ok).1.trans hI.map,(hk _ hI.ok).2,hst,hI.keys,?_,fun z hz=>?_⟩⟩
        . rw [zqq hst.2.1 hAB]
          exact (hA.join hB).mono hk
        . cases hz
          exact ⟨e,(mem_left he).1,⟨seen,rfl⟩,hy.mono hk⟩
       refine ⟨_,h.2 A y B rfl,.tuple #[.bool true,e.key,e.val],_,m,.inl ?_,hw0.trans hws,?_⟩
       . simp only [execOp]
         rw [hv];exact zak _ zbi
       . simp only [zad,zae]
         exact ⟨_,rfl,.bool true,[e.key,e.val],rfl,.v _ rfl,e.key,[e.val],rfl,trivial,e.val,[],rfl,trivial,rfl⟩
   . exact h.elim
 . exact h.elim
theorem zsw {K:Res->Prop} {C:zai} {d:Nat} {x:Operand} (hok:zag Γ m H w) (hx:zad m w (RR Γ m H w) (ev x) (ρ x)) (h:zat P C (.entry x) d ev H K) :
 ∃ r',K r'/\OS Γ P m H w (execOp ρ ⟨dst,.entry x,ty,pos,after,guard⟩) r':=by
 simp only [zat] at h;split at h
 . rename_i id hxx
   rw [hxx] at hx;simp only [zad] at hx;obtain ⟨l,hl,hn,hv⟩:=hx;obtain ⟨b,hb,h⟩:=zan h;obtain ⟨l',hl',hbr⟩:=hok.blk hb;rw [hl] at hl';cases hl';split at h
   . rename_i kc agg left cur
     obtain ⟨k,v,rfl,hc,h⟩:=h;obtain ⟨_,bm,arr,clock,seen,hit,hI⟩:=hbr;obtain ⟨e,he,⟨s0,rfl⟩,hk,hone,hp⟩:=hI.cur _ hc;have hst:=hI.stamped;refine ⟨_,h,.ret hok (v:=.tuple #[e.key,e.val]) ?_ ?_ _⟩
     . simp only [execOp]
       rw [hv];exact zak _ (run_entry_at (P:=P) w l.blk bm clock s0 arr clock e hit hI.map he hst.2.1)
     . have hk:e.key=k:=hk
       have h1:=zul (hI.keys e he);rw [hk] at h1;cases hp with
       | cons h2 h3 =>
        simp only [zad,zae];exact ⟨_,rfl,e.key,[e.val],rfl,by rw [hk];exact .v k h1,e.val,[],rfl,h2,rfl⟩
   . exact h.elim
 . exact h.elim
theorem ztg {e:TypeId} {de:TyD} {u:TypeDesc} {i:TypeInfo} {z:Value} (ht:zgg P e de u i z) {arr:Array Value} {off:Nat} {us:List Value}
 (hus:(zaz de.k=true/\us.length=de.size)\/(zaz de.k=false/\us.length=1)) (huc:∀ (k:Nat) v,us[k]?=some v->arr.toList[off+k]?=some v) :
 (part e arr off).run P w=.ok (if zaz de.k then .agg us.toArray else us.headD undef) w:=by
 unfold part;rw [Sem.run_bind,ht.isAgg w,Result.andThen_ok];rcases hus with ⟨ha,hl⟩ | ⟨ha,hl⟩
 . rw [ha]
   simp only [if_true];have hsz:(sizeOf e).run P w=.ok de.size w:=by simp [sizeOf,typeInfo,ht.info,ht.size]
   simp only [Sem.run_bind,hsz,Result.andThen_ok,Sem.run_pure];congr 2;apply Array.ext';apply zy40;intro k;simp only [Array.toList_extract,List.extract_eq_take_drop,Nat.add_sub_cancel_left];rw [zy14];by_cases hk:k<de.size
   . rw [zy12 hk,zy17]
     have h1:=huc k (us[k]'zz1) (zy15 zz1);rw [h1,zy15 (by omega)]
   . rw [zy10 hk,zy25 (by omega)]
 . rw [ha]
   simp only [zy27,if_false]
   match us,hl with
   | [c],_ =>
    have h1:=huc 0 c rfl;simp only [zy38,zy46] at h1;simp [h1]
theorem zjc {R:Nat->Prop} {td:TyD} {cs:List PV} {K:HV->Prop} {vs:List Value} (hr:zbg w R cs vs) (h:zcy td cs 0 K) :
 ∃ x,K x/\(zaz td.k=true->td.size<=vs.length)/\(∀ v,(if zaz td.k then (∃ us,v=.agg (us:List Value).toArray/\us=vs.take td.size) else vs[0]?=some v)->zad m w R x v):=by
 unfold zcy at h;split at h
 . rename_i ha
   obtain ⟨hle,h⟩:=zab h;rw [zbx,zfg] at h;have hle:=zy2 hle;refine ⟨_,h,fun _=>by rw [hr.length];omega,fun v hv=>?_⟩;rw [ha] at hv;simp only [if_true] at hv;obtain ⟨us,rfl,rfl⟩:=hv;simp only [zad];refine ⟨_,rfl,zae.of_get (by simp [hr.length]) fun k x v hx hv=>?_⟩;rw [zy9,List.drop_zero] at hx;obtain ⟨x',hx',rfl⟩:=zy3.1 hx;have hv:(vs.take td.size)[k]?=some v:=by simpa using hv
   rw [zy14] at hx' hv;by_cases hk:k<td.size
   . rw [zy12 hk] at hx' hv
     obtain ⟨v',hv',hp⟩:=hr.get _ _ hx';rw [hv'] at hv;cases hv;simp only [zad];exact hp
   . rw [zy10 hk] at hx';cases hx'
 . rename_i ha
   have hfin:∀ y,nth cs 0=some y->∀ v,vs[0]?=some v->zcn w R y v:=by
    intro y hy v hv;rw [zci] at hy;obtain ⟨v',hv',hp⟩:=hr.get _ _ hy;rw [hv'] at hv;cases hv;exact hp
   split at h
   . rename_i x hx
     exact ⟨_,h,by simp [ha],fun v hv=>by rw [ha] at hv;simp only [zad];exact hfin _ hx v zz7⟩
   . rename_i n r hx
     exact ⟨_,h,by simp [ha],fun v hv=>by rw [ha] at hv;simp only [zad];exact hfin _ hx v zz7⟩
   . exact h.elim
theorem zsh {e:TypeId} {de:TyD} {ok agg:Bool} {o:Option (List PV)} {K:Res->Prop} {id:Nat} (h:zox P e de ok agg o K id) :
 agg=zaz de.k/\match o with
  | some cs=>cs.length=de.size/\zcy de cs 0 fun v=>okK ok v true id K
  | none=>de.zero.length=de.size/\(de.zero.all (·.oneCell'))=true/\de.zagg=zaz de.k/\zcy de (ziz (lay P e) (de.zero.map .v)) 0 fun v=>okK ok v false id K:=by
 unfold zox at h;obtain ⟨h1,h⟩:=zab h;refine ⟨eq_of_beq h1,?_⟩;cases o with
 | some cs =>
  obtain ⟨h2,h⟩:=zab h;exact ⟨zy0 h2,h⟩
 | none =>
  obtain ⟨h2,h⟩:=zab h;simp only [zy1] at h2;exact ⟨zy0 h2.1.1,h2.1.2,eq_of_beq h2.2,h⟩
theorem zqw {K:Res->Prop} {C:zai} {d:Nat} {t:TypeId} {x i:Operand} {ok:Bool} (hok:zag Γ m H w) (hx:zad m w (RR Γ m H w) (ev x) (ρ x)) (hi:zad m w (RR Γ m H w) (ev i) (ρ i)) (h:zat P C (.lookup t x i ok) d ev H K) :
 ∃ r,K r/\OS Γ P m H w (execOp ρ ⟨dst,.lookup t x i ok,ty,pos,after,guard⟩) r:=by
 simp only [zat] at h;obtain ⟨k,e,dk,uk,ik,zk,de,u,inf,z,hu,htk,ht,h⟩:=zgw h;split at h
 . rename_i kv hii
   rw [hii] at hi;have hiv:ρ i=kv:=by simp only [zad] at hi;cases hi;rfl
   obtain ⟨hki,h⟩:=zab h;obtain ⟨hkd,hkey⟩:=zle htk hki;split at h
   . rename_i id hxx
     rw [hxx] at hx;simp only [zad] at hx;obtain ⟨l,hl,hn,hv⟩:=hx;obtain ⟨b,hb,h⟩:=zan h;obtain ⟨l',hl',hbr⟩:=hok.blk hb;rw [hl] at hl';cases hl';split at h
     . rename_i kc agg es
       have hx2:=zab h;clear h;obtain ⟨hkc,o,ho,h⟩:=hx2;have hkc:=zy0 hkc;subst hkc;obtain ⟨_,arr,clock,harr,her,hst,hks⟩:=hbr;rw [hkd] at hks;obtain ⟨hag,h⟩:=zsh h;have hget:=MapKept.run_getObj_map (P:=P) harr;have hck:=fun em=>MapKept.run_checkKey (P:=P) (w:=w) htk.und hkey em 9999
       have fin:∀ (v:Value) (bb:Bool) (y:HV),(Instr.lookup t (ρ x) (ρ i) ok).run P w=.ok (if ok then .tuple #[v,.bool bb] else v) w->zad m w (RR Γ m H w) y v ->
        okK ok y bb id K->∃ r,K r/\OS Γ P m H w (execOp ρ ⟨dst,.lookup t x i ok,ty,pos,after,guard⟩) r:=by
        intro v bb y zbi hy hk;cases ok with
        | true =>
         refine ⟨_,hk,.ret hok (v:=.tuple #[v,.bool bb]) ?_ ?_ _⟩
         . simp only [execOp];exact zak _ zbi
         . simp only [zad]
           refine ⟨_,rfl,?_⟩;simp only [zae];exact ⟨v,[.bool bb],rfl,hy,.bool bb,[],rfl,zbc _ rfl,rfl⟩
        | false =>
         refine ⟨_,hk,.ret hok (v:=v) ?_ hy _⟩;simp only [execOp];exact zak _ zbi
       rcases zmj hkey her 0 (fun x hx=>hks x hx) with ⟨h1,h2,_,_⟩ | ⟨j,en,cs,h1,h2,h3,h4,h5,_⟩
       . rw [h2] at ho
         subst ho;obtain ⟨hz1,hz2,hz3,h⟩:=h;rw [ht.zagg] at hz3;have hzp:zbg w (RR Γ m H w) (ziz (lay P e) (de.zero.map .v)) z.cells.toList:=by
          refine zbg.norm _ ?_;rw [<- ht.zeros];exact zig fun v hv=>zy19.1 hz2 v hv
         obtain ⟨y,hk,hlen,hrep⟩:=zjc (m:=m) hzp h;refine fin z false y ?_ (hrep z ?_) hk
         . rw [hv,hiv]
           simp [Instr.lookup,run_underlying hu,hget,hck,MapKept.run_findKey htk.und h1,zeroValue,typeInfo,ht.info,ht.zero,Result.andThen]
         . rw [ht.zeros] at hz1
           cases hza:zaz de.k with
           | true =>
            rw [hza] at hz3;simp only [if_true];cases z with
            | agg arr =>
             refine ⟨arr.toList,by simp,?_⟩;rw [List.take_of_length_le (by simp [Value.cells] at hz1 ⊢;omega)]
             rfl
            | _=>simp [zoc] at hz3
           | false =>
            rw [hza] at hz3;simp only [zy27,if_false];cases z<;>first | rfl | simp [zoc] at hz3
       . rw [h4] at ho
         subst ho;obtain ⟨hcl,h⟩:=h;have hvs:∃ vs,zbg w (RR Γ m H w) cs vs/\(if zaz de.k then (∃ us,en.val=.agg (us:List Value).toArray/\us=vs.take de.size) else vs[0]?=some en.val):=by
          obtain ⟨_,h5⟩:=h5;rw [<- hag];cases agg with
          | true =>
           obtain ⟨arr',h6,h7⟩:=h5;refine ⟨arr'.toList,h7,?_⟩;simp only [if_true];exact ⟨arr'.toList,by simp [h6],by rw [List.take_of_length_le (by have:=h7.length;dsimp only at this;omega)]⟩
          | false=>exact ⟨[en.val],h5.2,by simp⟩
         obtain ⟨vs,hp,hval⟩:=hvs;obtain ⟨y,hk,hlen,hrep⟩:=zjc (m:=m) hp h;refine fin en.val true y ?_ (hrep _ hval) hk;rw [hv,hiv];simp [Instr.lookup,run_underlying hu,hget,hck,MapKept.run_findKey htk.und h1,Result.andThen]
     . exact h.elim
   . exact h.elim
 . exact h.elim
theorem zsy {K:Res->Prop} {C:zai} {d:Nat} {t:TypeId} {x i:Operand} (hok:zag Γ m H w) (hx:zad m w (RR Γ m H w) (ev x) (ρ x)) (hi:zad m w (RR Γ m H w) (ev i) (ρ i)) (h:zat P C (.index t x i) d ev H K) :
 ∃ r,K r/\OS Γ P m H w (execOp ρ ⟨dst,.index t x i,ty,pos,after,guard⟩) r:=by
 simp only [zat] at h;obtain ⟨n,e,de,u,inf,z,hu,ht,h⟩:=znj h;split at h
 . rename_i l hxx
   rw [hxx] at hx;split at h
   . rename_i k i' hii
     rw [hii] at hi;have hiv:=zax hi;obtain ⟨j,rfl,hj,h⟩:=h;simp only [zad] at hx;obtain ⟨arr,hv,hrl⟩:=hx;obtain ⟨y,us,hk,hus,huc,hrep⟩:=zfc hrl h;have hsz:∀ W:World,(sizeOf e).run P W=.ok de.size W:=fun W=>by simp [sizeOf,typeInfo,ht.info,ht.size]
     have hpart:=ztg (w:=w) ht (arr:=arr) hus huc;refine ⟨_,hk,.ret hok ?_ hrep _⟩;simp only [execOp,hv,hiv];refine zak _ ?_;simp only [Instr.index,asIntOf,Sem.run_bind,Sem.run_pure,Result.andThen_ok,run_underlying hu];rw [zy12 ⟨by omega,by omega⟩];simp only [Sem.run_bind,hsz,Result.andThen_ok,Int.toNat_natCast];exact hpart
   . exact h.elim
 . exact h.elim
theorem zlo {K:Res->Prop} {t:TypeId} {x i y:Operand} (hok:zag Γ m H w) (hx:zad m w (RR Γ m H w) (ev x) (ρ x)) (hi:zad m w (RR Γ m H w) (ev i) (ρ i)) (hy:zad m w (RR Γ m H w) (ev y) (ρ y))
 (h:zdb P t (ev x) (ev i) (ev y) H K):∃ r,K r/\∀ {xo:Sem Next},(xo=(do Instr.mapUpdate t (ρ x) (ρ i) (ρ y);pure Next.skip:Sem Next))->OS Γ P m H w xo r:=by
 unfold zdb at h;obtain ⟨k,e,dk,uk,ik,zk,de,u,inf,z,hu,htk,ht,h⟩:=zgw h;split at h
 . rename_i kv hii
   rw [hii] at hi;have hiv:ρ i=kv:=by simp only [zad] at hi;cases hi;rfl
   obtain ⟨hki,h⟩:=zab h;obtain ⟨hkd,hkey⟩:=zle htk hki;split at h
   . rename_i id hxx
     rw [hxx] at hx;simp only [zad] at hx;obtain ⟨l,hl,hn,hv⟩:=hx;split at h
     . rename_i kc agg es hH
       obtain ⟨hb,h⟩:=zab h;simp only [zy1] at hb;obtain ⟨⟨h1,hag⟩,hkc⟩:=hb;have hag:agg=zob (ev y):=eq_of_beq hag;have hkc:=zy0 hkc;subst hkc;obtain ⟨l',hl',hbr,_⟩:=hok.live id _ hH;rw [hl] at hl';cases hl';obtain ⟨_,arr,clock,harr,her,hst,hks⟩:=hbr;have hks':=hks;rw [hkd] at hks';obtain ⟨vs,us,h,hfz,hprep⟩:=zmo hok (hy.cells h1) h;have hx2:=zab h;clear h;obtain ⟨hb,es',hes,h⟩:=hx2;simp only [zy1] at hb;have hlen:=zy0 hb.1;have hus:us=[]:=by simpa using hb.2
       subst hus;have hcl:(ρ y).cells.size=de.size:=by have:=hprep.length;simp at this;omega
       have her':∀ born,zro w (RR Γ m H w) agg (kv,vs) ⟨kv,ρ y,born⟩:=by
        intro born;refine ⟨rfl,?_⟩;simp only [zba] at hprep;rw [hag];cases hyy:ev y<;>rw [hyy] at hy h1
        case agg l2 =>
         simp only [zad] at hy;obtain ⟨arr2,hv2,_⟩:=hy;simp only [zob];exact ⟨arr2,hv2,by rw [hv2] at hprep;exact hprep⟩
        all_goals (
         simp only [zob];have hone:=hy.one h1;rw [zgj hone] at hprep;exact ⟨hone,hprep⟩)
       have hrunG:∀ (j:Option (Nat×Value)),(Instr.findKey k kv arr.toList).run P w=.ok j w->(∀ i v,j=some (i,v)->∃ e,arr[i]?=some e/\e.key=kv) ->
        (Instr.mapUpdate t (.map (some l.blk)) kv (ρ y)).run P w=(setObj l.blk (match j with
         | some (i,_)=>.map (arr.modify i fun e=>{e with key:=kv,val:=ρ y}) clock
         | none=>.map (arr.push {key:=kv,val:=ρ y,born:=clock}) (clock+1))).run P w:=by
        intro j hj hjk;simp only [Instr.mapUpdate,Sem.run_bind,run_underlying hu,Result.andThen_ok,MapKept.run_getObj_map harr,MapKept.run_checkKey htk.und hkey,hj];cases j with
        | none=>rfl
        | some q =>
         obtain ⟨i,v⟩:=q;obtain ⟨e1,he1,he2⟩:=hjk i v rfl;simp [he1,he2,MapKept.run_keyThatStays hkey,Result.andThen]
       have fin:∀ (o':Obj),(Instr.mapUpdate t (.map (some l.blk)) kv (ρ y)).run P w=(setObj l.blk o').run P w ->
        (∀ (w':World) (R':Nat->Prop),w'.heap[l.blk]?=some o'->(∀ b,RR Γ m H w b->w'.heap[b]?=w.heap[b]?/\R' b)->zej m w' R' l (.map (zez dk.k) agg es')) ->
        ∃ r,K r/\∀ {xo:Sem Next},(xo=(do Instr.mapUpdate t (ρ x) (ρ i) (ρ y);pure Next.skip:Sem Next))->OS Γ P m H w xo r:=by
        intro o' zbi hbr';refine ⟨_,h,fun {xo} hxo=>⟨undef,{w with heap:=w.heap.setIfInBounds l.blk o'},m,.inr ⟨?_,rfl⟩,WS.set hok hH hl hn ?_ rfl rfl rfl ?_ ?_,by simp only [zad]⟩⟩
        . rw [hxo,hv,hiv,Sem.run_bind,zbi,MapKept.run_setObj_map _ harr];rfl
        . simp
        . exact fun k hk=>(MapKept.heap_set harr).2 k hk
        . exact fun R' hk=>hbr' _ R' (MapKept.heap_set harr).1 hk
       rcases zmj hkey her 0 (fun x hx=>hks' x hx) with ⟨a1,a2,a3,a4⟩ | ⟨j,en,cs,a1,a2,a3,a4,a5,a6⟩
       . refine fin _ (hrunG none (MapKept.run_findKey htk.und a1) zz0) fun w' R' hw' hk=>?_
         rw [hes,a4];refine ⟨hn,_,_,hw',?_,MapKept.stamped_push hst a3,?_⟩
         . rw [Array.toList_push]
           exact ((her.mono hk).snoc ((her' clock).mono hk))
         . intro x hx
           simp only [Array.toList_push,zy6,zy45] at hx;rcases hx with hx | rfl
           . exact hks x hx
           . rw [hkd];exact hkey
       . have hj:arr[j]?=some en:=by simpa using a2
         rw [zy26] at a1;refine fin _ (hrunG (some (j,en.val)) (MapKept.run_findKey htk.und a1) (by intro i v hiv;cases hiv;exact ⟨en,hj,a3⟩)) fun w' R' hw' hk=>?_
         have hkey':∀ e',arr[j]?=some e'->({e' with key:=kv,val:=ρ y}:MapEntry).key=e'.key:=fun e' he'=>by rw [hj] at he';cases he';exact a3.symm
         refine ⟨hn,_,_,hw',?_,MapKept.stamped_modify hst _ _ (fun _ _=>rfl) (fun e' _ he'=>hkey' e' he'),MapKept.isKey_modify hks _ _ hkey'⟩;have:=(a6 vs {en with key:=kv,val:=ρ y} (her' en.born)).mono hk;rw [hes];have hl2:(arr.modify j fun e=>{e with key:=kv,val:=ρ y}).toList=arr.toList.set j {en with key:=kv,val:=ρ y}:=by
          apply zy40;intro q;simp only [zy46,zy57,zy67];by_cases hq:j=q
          . subst hq
            have:j<arr.size:=(zy22.1 hj).1;rw [zy12 rfl,zy12 rfl,zy12 (by simpa using this),hj];rfl
          . rw [zy10 hq,zy10 hq]
         rw [hl2];exact this
     . exact h.elim
   . exact h.elim
 . exact h.elim
end
end Go.HL
namespace Go.HL
section
variable {α:Type} {K:Res->Prop} {P:Program} {H:Nat->zaa}
theorem zac {r0:Res}:K r0->∃ r,K r/\r0=r:=fun h=>⟨r0,h,rfl⟩
theorem zao {c:Prop} {A:Prop} {B:Res->Prop} (h:A->∃ r,K r/\B r):zes c A->∃ r,K r/\zes c (B r):=fun ⟨hc,ha⟩=>let ⟨r,h1,h2⟩:=h ha;⟨r,h1,hc,h2⟩
theorem zdw {k:IntKind} {z:Int} {A:Int->Prop} {B:Int->Res->Prop} (h:∀ y,A y->∃ r,K r/\B y r):zhn k z A->∃ r,K r/\zhn k z (fun y=>B y r) :=
 fun ⟨y,hy,ha⟩=>let ⟨r,h1,h2⟩:=h y ha;⟨r,h1,y,hy,h2⟩
theorem zju {rows:List (List PV)} {i:Int} {A:List PV->Prop} {B:List PV->Res->Prop} (h:∀ y,A y->∃ r,K r/\B y r):zmp rows i A->∃ r,K r/\zmp rows i (fun y=>B y r) :=
 fun ⟨y,h0,hy,ha⟩=>let ⟨r,h1,h2⟩:=h y ha;⟨r,h1,y,h0,hy,h2⟩
theorem zou {rows:List (List PV)} {A:List UInt8->Prop} {B:List UInt8->Res->Prop} (h:∀ y,A y->∃ r,K r/\B y r):zqb rows A->∃ r,K r/\zqb rows (fun y=>B y r) :=
 fun ⟨y,hy,ha⟩=>let ⟨r,h1,h2⟩:=h y ha;⟨r,h1,y,hy,h2⟩
theorem zgv {rows:List (List PV)} {o n:Nat} {A:List (List PV)->Prop} {B:List (List PV)->Res->Prop} (h:∀ y,A y->∃ r,K r/\B y r):zkg rows o n A->∃ r,K r/\zkg rows o n (fun y=>B y r) :=
 fun ⟨y,h0,hy,ha⟩=>let ⟨r,h1,h2⟩:=h y ha;⟨r,h1,y,h0,hy,h2⟩
theorem zaj {b:Bool} {A:Prop} {B:Res->Prop} (h:A->∃ r,K r/\B r):(bif b then A else False)->∃ r,K r/\(bif b then B r else False):=by
 cases b
 . exact fun h=>h.elim
 . exact h
theorem zay {t:TypeId} {A:TyD->Prop} {B:TyD->Res->Prop} (h:∀ y,A y->∃ r,K r/\B y r):tyK P t A->∃ r,K r/\tyK P t (fun y=>B y r):=by
 unfold tyK;cases zwd P t
 . exact False.elim
 . exact h _
theorem zbb {t:TypeId} {A:TypeId->TyD->Prop} {B:TypeId->TyD->Res->Prop} (h:∀ e y,A e y->∃ r,K r/\B e y r):zbw P t A->∃ r,K r/\zbw P t (fun e y=>B e y r):=by
 unfold zbw;refine zay fun d=>?_
 cases d.k<;>first | exact False.elim | exact zay (h _)
theorem zql {t:TypeId} {A:Prop} {B:Res->Prop} (h:A->∃ r,K r/\B r):zqk P t A->∃ r,K r/\zqk P t (B r):=by
 unfold zqk;cases (P.info? t).map (·.size) with
 | none=>exact False.elim
 | some n=>cases n with
  | zero=>exact False.elim
  | succ n=>exact h
theorem zce {x:HV} {A:HV->Prop} {B:HV->Res->Prop} (h:∀ y,A y->∃ r,K r/\B y r):force x A->∃ r,K r/\force x (fun y=>B y r):=by
 rw [force_eq];intro ha;obtain ⟨r,h1,h2⟩:=h x ha;exact ⟨r,h1,by rw [force_eq];exact h2⟩
theorem zea {x:List HV} {A:List HV->Prop} {B:List HV->Res->Prop} (h:∀ y,A y->∃ r,K r/\B y r):zbp x A->∃ r,K r/\zbp x (fun y=>B y r):=by
 rw [zcd];intro ha;obtain ⟨r,h1,h2⟩:=h x ha;exact ⟨r,h1,by rw [zcd];exact h2⟩
theorem zeo {x:List PV} {A:List PV->Prop} {B:List PV->Res->Prop} (h:∀ y,A y->∃ r,K r/\B y r):zdl x A->∃ r,K r/\zdl x (fun y=>B y r):=by
 rw [zbx];intro ha;obtain ⟨r,h1,h2⟩:=h x ha;exact ⟨r,h1,by rw [zbx];exact h2⟩
theorem zpx {ev:Operand->HV} {x:List Operand} {A:List HV->Prop} {B:List HV->Res->Prop} (h:∀ y,A y->∃ r,K r/\B y r):evL ev x A->∃ r,K r/\evL ev x (fun y=>B y r):=by
 rw [zgm];intro ha;obtain ⟨r,h1,h2⟩:=h _ ha;exact ⟨r,h1,by rw [zgm];exact h2⟩
theorem zaq {s:zaa} {A:zcv->Prop} {B:zcv->Res->Prop} (h:∀ y,A y->∃ r,K r/\B y r):zap s A->∃ r,K r/\zap s (fun y=>B y r):=by
 unfold zap;cases s<;>first | exact False.elim | exact h _
theorem znt {s:zaa} {id:Nat} {b:zcv} {x:HV}:zuh s id b x K->∃ r,K r/\zuh s id b x (·=r):=by
 unfold zuh;cases s<;>first | exact False.elim | exact zac
theorem zgb {d:TyD} {cs:List HV} {o:Nat} {A:HV->Prop} {B:HV->Res->Prop} (h:∀ y,A y->∃ r,K r/\B y r):zek d cs o A->∃ r,K r/\zek d cs o (fun y=>B y r):=by
 unfold zek;cases zaz d.k
 . simp only
   cases nth cs o
   . exact False.elim
   . exact zce h
 . exact zaj (zea fun y=>h _)
theorem zec {d:TyD} {cs:List PV} {o:Nat} {A:HV->Prop} {B:HV->Res->Prop} (h:∀ y,A y->∃ r,K r/\B y r):zcy d cs o A->∃ r,K r/\zcy d cs o (fun y=>B y r):=by
 unfold zcy;cases zaz d.k
 . simp only
   cases nth cs o with
   | none=>exact False.elim
   | some x=>cases x<;>exact h _
 . exact zaj (zeo fun y=>h _)
theorem zui {x:HV} {A:PV->List (Nat×zaa)->Prop} {B:PV->List (Nat×zaa)->Res->Prop} (h:∀ y u,A y u->∃ r,K r/\B y u r):hpv H x A->∃ r,K r/\hpv H x (fun y u=>B y u r):=by
 unfold hpv;cases x<;>simp only<;>first | exact False.elim | exact h _ _ | skip
 rename_i id;cases H id with
 | live b=>cases b<;>first | exact False.elim | exact h _ _
 | ro b=>cases b<;>first | exact False.elim | exact h _ _
 | _=>exact False.elim
theorem znv:∀ {xs:List HV} {A:List PV->List (Nat×zaa)->Prop} {B:List PV->List (Nat×zaa)->Res->Prop},(∀ y u,A y u->∃ r,K r/\B y u r)->zmn H xs A->∃ r,K r/\zmn H xs (fun y u=>B y u r)
 | [],A,B,h=>h _ _
 | x::xs,A,B,h=>by simp only [zmn];exact zui fun y u=>znv fun ys us=>h _ _
theorem zdv {n:Nat} {x:HV} {A:Nat->List (List PV)->List Nat->Prop} {B:Nat->List (List PV)->List Nat->Res->Prop} (h:∀ n y u,A n y u->∃ r,K r/\B n y u r):zdf H n x A->∃ r,K r/\zdf H n x (fun n y u=>B n y u r):=by
 unfold zdf;split
 . exact h _ _ _
 . exact h _ _ _
 . refine zaq fun b=>?_
   cases b<;>first | exact False.elim | exact h _ _ _
 . refine zaq fun b=>?_
   cases b<;>first | exact False.elim | exact zaj (zgv fun y=>h _ _ _)
 . exact False.elim
theorem zeh {b:zcv} {A:TypeId->Nat->List (List PV)->(List (List PV)->zcv)->Nat->Prop} {B:TypeId->Nat->List (List PV)->(List (List PV)->zcv)->Nat->Res->Prop} (h:∀ t n r k l,A t n r k l->∃ r',K r'/\B t n r k l r'):zto b A->∃ r,K r/\zto b (fun t n r' k l=>B t n r' k l r):=by
 cases b<;>first | exact False.elim | exact h _ _ _ _ _
theorem zsm {id n off len sz:Nat} {lo hi:Option HV}:zsl H id n off len sz lo hi K->∃ r,K r/\zsl H id n off len sz lo hi (·=r):=by
 unfold zsl;refine zaq fun b=>zeh fun t n r k l=>zaj ?_
 split
 . split<;>first | exact zao zac | exact False.elim
 . split<;>first | exact zao zac | exact False.elim
 . exact False.elim
theorem zmr {x:HV} {sz:Nat} {l hh mx:Int}:zdm x H sz l hh mx K->∃ r,K r/\zdm x H sz l hh mx (·=r):=by
 unfold zdm;split
 . exact zao (zaj (zgv fun y=>zac))
 . refine zaq fun b=>?_
   cases b<;>first | exact False.elim | exact zao zac
 . exact zaq fun b=>zeh fun t n r k l=>zao zac
 . exact False.elim
theorem zkr {t:TypeId} {x:HV} {z:Int} {d:Nat}:zcl P t x z d H K->∃ r,K r/\zcl P t x z d H (·=r):=by
 unfold zcl;refine zbb fun e de=>zaj ?_
 split
 . refine zaq fun b=>?_
   cases b<;>try exact False.elim
   refine zaj (zao ?_);cases H d<;>first | exact False.elim | exact zac
 . exact False.elim
theorem zsn {n most:Nat} {x:HV} {A:Nat->List (List PV)->List Nat->Prop} {B:Nat->List (List PV)->List Nat->Res->Prop} (h:∀ n y u,A n y u->∃ r,K r/\B n y u r):zps H n x most A->∃ r,K r/\zps H n x most (fun n y u=>B n y u r):=by
 unfold zps;split
 . exact zaq fun b=>zeh fun t n r k l=>zaj (zgv fun y=>h _ _ _)
 . exact zdv fun n y u=>h _ _ _
theorem zqc {t:TypeId} {x y:HV}:zkt P t x y H K->∃ r,K r/\zkt P t x y H (·=r):=by
 unfold zkt;refine zbb fun e de=>?_
 split
 . rename_i id n off len
   cases H id<;>first | exact False.elim | exact zeh fun t n r k l=>zsn fun n y u=>zaj (zao zac)
 . exact False.elim
theorem zov {t:TypeId} {x:HV}:zgn P t x H K->∃ r,K r/\zgn P t x H (·=r):=by
 unfold zgn;refine zbb fun e de=>zaj ?_
 split
 . rename_i id n off len
   cases H id<;>first | exact False.elim | exact zeh fun t n r k l=>zaj (zao zac)
 . exact False.elim
theorem zgu {n:Nat} {i:Int} {A:Nat->Prop} {B:Nat->Res->Prop} (h:∀ j,A j->∃ r,K r/\B j r):zvd n i A->∃ r,K r/\zvd n i (fun j=>B j r) :=
 fun ⟨j,h1,h2,h3⟩=>let ⟨r,h4,h5⟩:=h j h3;⟨r,h4,j,h1,h2,h5⟩
theorem zqd {es:List (Value×List PV)} {k:Value} {A:Option (List PV)->Prop} {B:Option (List PV)->Res->Prop} (h:∀ j,A j->∃ r,K r/\B j r):zfo es k A->∃ r,K r/\zfo es k (fun j=>B j r) :=
 fun ⟨j,h1,h3⟩=>let ⟨r,h4,h5⟩:=h j h3;⟨r,h4,j,h1,h5⟩
theorem zsj {es:List (Value×List PV)} {k:Value} {v:List PV} {A:List (Value×List PV)->Prop} {B:List (Value×List PV)->Res->Prop} (h:∀ j,A j->∃ r,K r/\B j r):zwp es k v A->∃ r,K r/\zwp es k v (fun j=>B j r) :=
 fun ⟨j,h1,h3⟩=>let ⟨r,h4,h5⟩:=h j h3;⟨r,h4,j,h1,h5⟩
theorem zfa {t:TypeId} {A:TyD->TypeId->TyD->Prop} {B:TyD->TypeId->TyD->Res->Prop} (h:∀ a b c,A a b c->∃ r,K r/\B a b c r):zjy P t A->∃ r,K r/\zjy P t (fun a b c=>B a b c r):=by
 unfold zjy;refine zay fun d=>?_
 split
 . exact zay fun dk=>zay fun de=>h _ _ _
 . exact False.elim
theorem zkk {t:TypeId} {A:Nat->TyD->Prop} {B:Nat->TyD->Res->Prop} (h:∀ a b,A a b->∃ r,K r/\B a b r):zmf P t A->∃ r,K r/\zmf P t (fun a b=>B a b r):=by
 unfold zmf;refine zay fun d=>?_
 split
 . exact zay fun de=>h _ _
 . exact False.elim
theorem zqt {ok b:Bool} {v:HV} {id:Nat}:okK ok v b id K->∃ r,K r/\okK ok v b id (·=r):=by
 cases ok<;>exact zac
theorem zqf {e:TypeId} {de:TyD} {ok agg:Bool} {o:Option (List PV)} {id:Nat}:zox P e de ok agg o K id->∃ r,K r/\zox P e de ok agg o (·=r) id:=by
 unfold zox;refine zaj ?_;cases o with
 | some cs=>exact zaj (zec fun v=>zqt)
 | none=>exact zaj (zec fun v=>zqt)
theorem zhd:∀ {xs ys:List HV} {A:Bool->Prop} {B:Bool->Res->Prop},(∀ y,A y->∃ r,K r/\B y r)->zhc xs ys A->∃ r,K r/\zhc xs ys (fun y=>B y r)
 | [],[],A,B,h=>h _
 | [],y::ys,A,B,h=>False.elim
 | x::xs,[],A,B,h=>False.elim
 | x::xs,y::ys,A,B,h=>by
  simp only [zhc];split
  . split
    . exact zaj (zhd fun z=>h _)
    . exact False.elim
  . split
    . exact zhd fun z=>h _
    . exact False.elim
  . exact False.elim
theorem zfy {fs:List (Nat×Nat)}:∀ {ps:List (Nat×HV)} {cs:List HV} {A:List HV->Prop} {B:List HV->Res->Prop},(∀ y,A y->∃ r,K r/\B y r)->zgo P fs ps cs A->∃ r,K r/\zgo P fs ps cs (fun y=>B y r)
 | [],cs,A,B,h=>h _
 | (i,x)::ps,cs,A,B,h=>by
  simp only [zgo];cases nth fs i with
  | none=>exact False.elim
  | some q=>exact zaj (zfy h)
theorem zjt {os:List (Option Nat)} {xs:List HV} {A:List PV->List (Nat×zaa)->Prop} {B:List PV->List (Nat×zaa)->Res->Prop} (h:∀ y u,A y u->∃ r,K r/\B y u r):ztt H os xs A->∃ r,K r/\ztt H os xs (fun y u=>B y u r) :=
 znv fun _ u=>zeo fun z=>h z u
theorem zls {os:List (Option Nat)} {n:Nat}:∀ {xs:List HV} {A:List (List PV)->List (Nat×zaa)->Prop} {B:List (List PV)->List (Nat×zaa)->Res->Prop},(∀ y u,A y u->∃ r,K r/\B y u r)->zik H os n xs A->∃ r,K r/\zik H os n xs (fun y u=>B y u r)
 | [],A,B,h=>h _ _
 | x::xs,A,B,h=>by
  simp only [zik];exact zaj (zjt fun y u=>zaj (zls fun ys us=>h _ _))
theorem zkz {x:HV} {sz n:Nat} {l h:Int}:zhm x H sz K n l h->∃ r,K r/\zhm x H sz (·=r) n l h:=by
 unfold zhm;refine zao ?_;split
 . exact zaj (zgv fun y=>zac)
 . rename_i id
   cases H id with
   | live b=>cases b<;>first | exact False.elim | exact zaj zac
   | ro b=>cases b<;>first | exact False.elim | exact zaj zac
   | _=>exact False.elim
 . exact False.elim
theorem zoy {t:TypeId} {s:ByteArray} {lo hi:Option HV}:zis P t s lo hi K->∃ r,K r/\zis P t s lo hi (·=r):=by
 unfold zis;refine zay fun td=>?_
 exact yy29
theorem zpa {x:HV} {sz:Nat} {lo hi:Option HV}:zex x H sz lo hi K->∃ r,K r/\zex x H sz lo hi (·=r):=by
 unfold zex;refine zdv fun n rows u=>?_
 split
 . split<;>first | exact zkz | exact False.elim
 . split<;>first | exact zkz | exact False.elim
 . exact False.elim
theorem zml {t:TypeId} {x y:HV} {d:Nat}:zdu P t x y d H K->∃ r,K r/\zdu P t x y d H (·=r):=by
 unfold zdu;refine zbb fun e de=>zdv fun n ys u=>zaj ?_
 split
 . cases H d<;>first | exact False.elim | exact zao zac
 . rename_i id
   cases H id with
   | live b=>cases b with
    | cells=>exact False.elim
    | map=>exact False.elim
    | iter=>exact False.elim
    | row=>refine zaj ?_;cases H d<;>first | exact False.elim | exact zao zac
    | buf=>exact False.elim
   | _=>exact False.elim
 . rename_i id n off len
   cases H id<;>first | exact False.elim | exact zeh fun t n r k l=>zaj (zao zac)
 . exact False.elim
theorem zsb {t:TypeId} {op:BinOp} {x y:HV}:zvc P false t op x y K->∃ r,K r/\zvc P false t op x y (·=r):=by
 unfold zvc;split
 . split
   . split<;>first | exact False.elim | exact zao zac | exact zao (zdw fun y=>zac) | exact zaj (zdw fun y=>zac) | exact zaj (zao (zdw fun y=>zac)) | exact zaj (zao zac) | exact zaj zac
   . exact False.elim
 . split
   . refine zay fun td=>?_
     split
     . split<;>first | exact False.elim | exact zac
     . exact False.elim
   . exact False.elim
 . split
   . split<;>first | exact False.elim | exact zac | exact zao zac
   . exact False.elim
 . split
   . refine zao ?_
     split<;>first | exact False.elim | exact zhd fun y=>zac
   . exact False.elim
 . split
   . refine zbb fun e de=>?_
     split<;>exact False.elim
   . exact False.elim
 . split
   . refine zbb fun e de=>?_
     split<;>first | exact False.elim | exact zac
   . exact False.elim
 . exact False.elim
theorem zku {t:TypeId} {x i:HV}:zcm P t x i H K->∃ r,K r/\zcm P t x i H (·=r):=by
 unfold zcm;refine zbb fun e de=>?_
 split
 . split
   . exact zaj (zju fun r=>zac)
   . refine zaq fun b=>?_
     cases b<;>first | exact False.elim | exact zaj (zao zac) | exact zaj (zgu fun j=>zac)
   . exact zaj (zao zac)
   . exact False.elim
 . exact False.elim
theorem zhk {t:TypeId} {x i y:HV}:zdb P t x i y H K->∃ r,K r/\zdb P t x i y H (·=r):=by
 unfold zdb;refine zfa fun a b c=>?_
 split
 . refine zaj ?_
   split
   . rename_i id
     cases H id with
     | live b=>cases b with
      | map=>exact zaj (zjt fun vs us=>zaj (zsj fun es=>zac))
      | _=>exact False.elim
     | _=>exact False.elim
   . exact False.elim
 . exact False.elim
theorem znr {C:zai} {op:Op} {d:Nat} {ev:Operand->HV} (hd:zih op=true) :
 zat P C op d ev H K->∃ r,K r/\zat P C op d ev H (·=r):=by
 cases op<;>simp only [zat]<;>try exact False.elim
 case move x=>exact zce fun v=>zac
 case assign x=>exact zce fun v=>zac
 case pick c a b =>
  split
  . rename_i b _
    cases b<;>simp only [hif]
    . exact zce fun v=>zac
    . exact zce fun v=>zac
  . exact False.elim
 case alloc t=>exact zay fun td=>zaj znt
 case box t x=>exact zce fun v=>zaj znt
 case build t ps =>
  refine zay fun td=>?_
  split
  . exact zaj (zfy fun l=>zea fun l=>zaj zac)
  . exact zay fun de=>zaj (zfy fun l=>zea fun l=>zaj zac)
  . exact False.elim
 case buildSlice t n ps =>
  refine zbb fun e de=>zaj (zls fun rows us=>?_)
  cases H d<;>first | exact False.elim | exact zac
 case load t a =>
  refine zay fun td=>?_
  split
  . refine zaq fun b=>?_
    cases b<;>first | exact False.elim | exact zgb fun v=>zac
  . exact zec fun v=>zac
  . refine zaq fun b=>?_
    cases b<;>first | exact False.elim | exact zaj (zju fun r=>zec fun v=>zac)
  . exact False.elim
 case store t a x =>
  refine zay fun td=>?_
  split
  . rename_i id off _
    cases H id with
    | live b=>cases b with
     | cells=>exact zce fun v=>zaj (zea fun cs=>zac)
     | row=>exact False.elim
     | map=>exact False.elim
     | iter=>exact False.elim
     | buf=>exact False.elim
    | _=>exact False.elim
  . rename_i id n i off _
    cases H id with
    | live b=>cases b with
     | cells=>exact False.elim
     | map=>exact False.elim
     | iter=>exact False.elim
     | buf=>exact False.elim
     | row=>exact zaj (zjt fun vs us=>zju fun r=>zaj (zeo fun r'=>zac))
    | _=>exact False.elim
  . exact False.elim
 case nilCheck x =>
  split<;>first | exact False.elim | exact zac
 case binOp b t x y yt =>
  have hcs:zjm y=false:=by simpa [zih] using hd
  rw [hcs];cases zmt (ev x) with
  | some id=>exact False.elim
  | none=>exact zsb
 case unOp o t x =>
  split
  . split<;>first | exact False.elim | exact zac
  . split
    . exact zdw fun y=>zac
    . exact False.elim
  . exact False.elim
 case convert src dt x =>
  refine zay fun ts=>zay fun td=>?_
  split
  . split
    . exact zdw fun y=>zac
    . exact False.elim
  . split
    . refine zay fun de=>?_
      split
      . split
        . exact zao zac
        . exact False.elim
      . exact False.elim
    . exact False.elim
  . split
    . split
      . refine zay fun de=>?_
        split
        . exact zdv fun n rows u=>zaj (zou fun bs=>zac)
        . exact False.elim
      . exact False.elim
    . refine zaj (zay fun de=>?_)
      exact yy29
    . exact False.elim
 case makeFunc fn first caps =>
  split
  . exact zaj (zpx fun l=>zac)
  . exact False.elim
 case makeSlice t l c =>
  refine zbb fun e de=>zaj ?_
  split
  . split
    . refine zao ?_
      cases H d<;>try exact False.elim
      dsimp only;split
      . split
        . exact zgu fun j=>zac
        . exact False.elim
      . exact zac
    . exact False.elim
  . exact False.elim
 case slice t x lo hi mx =>
  cases mx
  . cases isStr (ev x) with
    | some s=>exact zoy
    | none =>
     refine zbb fun e de=>?_
     split
     . exact zsm
     . exact zpa
  . refine zbb fun e de=>?_
    split
    . split
      . split
        . exact zmr
        . exact False.elim
      . exact False.elim
    . exact False.elim
 case fieldAddr t x f =>
  refine zay fun td=>?_
  split
  . split
    . refine zql ?_
      split<;>first | exact False.elim | exact zac
    . exact False.elim
  . exact False.elim
 case field t x f =>
  refine zay fun td=>?_
  split
  . split
    . split
      . exact zay fun tdf=>zgb fun y=>zac
      . exact False.elim
    . exact False.elim
  . exact False.elim
 case indexAddr t x i =>
  split
  . refine zkk fun n de=>?_
    split
    . exact zgu fun j=>zac
    . exact False.elim
  . exact zku
 case index t x i =>
  refine zkk fun n de=>?_
  split
  . split
    . exact zgu fun j=>zgb fun v=>zac
    . exact False.elim
  . exact False.elim
 case makeMap t r =>
  cases r
  . refine zfa fun a b c=>?_
    cases H d<;>first | exact False.elim | exact zac
  . exact False.elim
 case lookup t x i ok =>
  refine zfa fun a b c=>?_
  split
  . refine zaj ?_
    split
    . refine zaq fun b=>?_
      cases b<;>first | exact False.elim | exact zaj (zqd fun o=>zqf)
    . exact False.elim
  . exact False.elim
 case range t x =>
  refine zfa fun a b c=>?_
  split
  . rename_i id _
    cases H id with
    | live b=>cases b with
     | map=>cases H d<;>first | exact False.elim | exact zac
     | _=>exact False.elim
    | _=>exact False.elim
  . exact False.elim
 case next x s=>cases hd
 case entry x =>
  split
  . refine zaq fun b=>?_
    cases b with
    | iter=>exact fun ⟨k,v,h1,h2,h3⟩=>⟨_,h3,k,v,h1,h2,rfl⟩
    | _=>exact False.elim
  . exact False.elim
 case mapUpdate t x i y=>exact zhk
 case insert t x i y=>exact zhk
 case extract t i =>
  split
  . split
    . exact zce fun v=>zac
    . exact False.elim
  . exact False.elim
 case call c =>
  split
  . split
    . split
      . refine zay fun td=>?_
        split
        . split<;>first | exact False.elim | exact zac
        . split
          . exact zac
          . refine zaq fun b=>?_
            cases b<;>first | exact False.elim | exact zac
          . exact zdv fun n rows u=>zac
        . exact False.elim
      . exact False.elim
    . exact False.elim
  . split
    . split
      . split<;>first | exact False.elim | exact zac
      . exact False.elim
    . exact False.elim
  . split
    . split
      . split<;>first | exact False.elim | exact zac
      . exact False.elim
    . exact False.elim
  . split
    . split
      . split
        . exact zml
        . refine zay fun td=>?_
          split
          . split
            . exact zkr
            . exact False.elim
          . exact False.elim
      . exact False.elim
    . exact False.elim
  . split
    . split
      . exact zqc
      . exact False.elim
    . exact False.elim
  . split
    . split
      . exact zov
      . exact False.elim
    . exact False.elim
  . split
    . split
      . refine zbb fun e de=>?_
        split
        . refine zaq fun b=>?_
          cases b<;>first | exact False.elim | exact zao zac
        . exact False.elim
      . exact False.elim
    . exact False.elim
  . split
    . exact zpx fun l=>fun ⟨r,h1,h2⟩=>⟨r,h2,r,h1,rfl⟩
    . exact False.elim
  . exact False.elim
end
end Go.HL
namespace Go.HL
section
variable {P:Program} {H H':Nat->zaa}
theorem zit:∀ {l:List HV} {x:HV} {id:Nat},x∈l->id∈zau x->id∈zcq l
 | y::l,x,id,hx,hi=>by
  simp only [zcq,zy6];rcases zy7.1 hx with rfl | hx
  . exact .inl hi
  . exact .inr (zit hx hi)
theorem zjw (a b:List HV):zcq (a++b)=zcq a++zcq b:=by
 induction a with
 | nil=>simp [zcq]
 | cons x a ih=>simp [zcq,ih]
theorem zfz {x y:HV} (h:y∈zbj x) {id:Nat} (hi:id∈zau y):id∈zau x:=by
 cases x<;>simp only [zbj,zy45] at h<;>first | (subst h;exact hi) | (simp only [zau];exact zit h hi)
theorem zjb {ev:Operand->HV}:∀ {l:List Operand} {x:Operand} {id:Nat},x∈l->id∈zau (ev x)->id∈zlk ev l
 | y::l,x,id,hx,hi=>by
  simp only [zlk,zy6];rcases zy7.1 hx with rfl | hx
  . exact .inl hi
  . exact .inr (zjb hx hi)
theorem zqi {x:HV} (h:∀ id∈zau x,H' id=H id) (K:PV->List (Nat×zaa)->Prop):hpv H' x K=hpv H x K:=by
 unfold hpv;cases x<;>try rfl
 rename_i id;simp only [h id zz10]
theorem ziq:∀ {xs:List HV} (_:∀ x∈xs,∀ id∈zau x,H' id=H id) (K:List PV->List (Nat×zaa)->Prop),zmn H' xs K=zmn H xs K
 | [],_,K=>rfl
 | x::xs,h,K=>by
  simp only [zmn];rw [zqi (h x (by simp))];congr 1;funext v u;rw [ziq fun y hy=>h y (by simp [hy])]
theorem zcp {n:Nat} {x:HV} (h:∀ id∈zau x,H' id=H id) (K:Nat->List (List PV)->List Nat->Prop):zdf H' n x K=zdf H n x K:=by
 unfold zdf;exact yy27
theorem zoz {id:Nat} (h:H' id=H id) (n off len sz:Nat) (lo hi:Option HV) (K:Res->Prop):zsl H' id n off len sz lo hi K=zsl H id n off len sz lo hi K:=by
 unfold zsl;rw [h]
theorem zjv {x:HV} (h:∀ id∈zau x,H' id=H id) (sz:Nat) (l hh mx:Int) (K:Res->Prop):zdm x H' sz l hh mx K=zdm x H sz l hh mx K:=by
 unfold zdm;exact yy27
theorem zpb {n most:Nat} {x:HV} (h:∀ id∈zau x,H' id=H id) (K:Nat->List (List PV)->List Nat->Prop):zps H' n x most K=zps H n x most K:=by
 unfold zps;split
 . rename_i id _ _ _;rw [h id (by simp [zau])]
 . exact zcp h _
theorem zmm {t:TypeId} {x y:HV} (hx:∀ id∈zau x,H' id=H id) (hy:∀ id∈zau y,H' id=H id) (K:Res->Prop):zkt P t x y H' K=zkt P t x y H K:=by
 unfold zkt;congr 1;funext e de;split
 . rename_i id _ _ _
   simp only [hx id zz10,zpb hy]
 . rfl
theorem zks {t:TypeId} {x:HV} (hx:∀ id∈zau x,H' id=H id) (K:Res->Prop):zgn P t x H' K=zgn P t x H K:=by
 unfold zgn;congr 1;funext e de;congr 1;split
 . rename_i id _ _ _
   simp only [hx id zz10]
 . rfl
theorem zii {t:TypeId} {x:HV} {z:Int} {d:Nat} (hx:∀ id∈zau x,H' id=H id) (hd:H' d=H d) (K:Res->Prop):zcl P t x z d H' K=zcl P t x z d H K:=by
 unfold zcl;congr 1;funext e de;congr 1;split
 . rename_i id _ _ _
   simp only [hx id zz10,hd]
 . rfl
theorem zfq {os:List (Option Nat)} {xs:List HV} (h:∀ x∈xs,∀ id∈zau x,H' id=H id) (K:List PV->List (Nat×zaa)->Prop):ztt H' os xs K=ztt H os xs K:=ziq h _
theorem zib {os:List (Option Nat)} {n:Nat}:∀ {xs:List HV} (_:∀ x∈xs,∀ id∈zau x,H' id=H id) (K:List (List PV)->List (Nat×zaa)->Prop),zik H' os n xs K=zik H os n xs K
 | [],_,K=>rfl
 | x::xs,h,K=>by
  simp only [zik];rw [zfq fun y hy id hi=>h x (by simp) id (zfz hy hi)];congr 2;funext r u;rw [zib fun y hy=>h y (by simp [hy])]
theorem zmq {x:HV} (h:∀ id∈zau x,H' id=H id) (sz:Nat) (K:Res->Prop) (n:Nat) (l hh:Int):zhm x H' sz K n l hh=zhm x H sz K n l hh:=by
 unfold zhm;congr 1;split
 . rfl
 . rename_i id;simp only [h id zz10]
 . rfl
theorem zla {x:HV} (h:∀ id∈zau x,H' id=H id) (sz:Nat) (lo hi:Option HV) (K:Res->Prop):zex x H' sz lo hi K=zex x H sz lo hi K:=by
 unfold zex;rw [zcp h];simp only [zmq h]
theorem zjq {t:TypeId} {x y:HV} {d:Nat} (hx:∀ id∈zau x,H' id=H id) (hy:∀ id∈zau y,H' id=H id) (hd:H' d=H d) (K:Res->Prop):zdu P t x y d H' K=zdu P t x y d H K:=by
 unfold zdu;congr 1;funext e de;rw [zcp hy];congr 1;funext n ys u;congr 1;split
 . simp only [hd]
 . rename_i id
   simp only [hx id zz10,hd]
 . rename_i id _ _ _
   simp only [hx id zz10]
 . rfl
theorem zij {t:TypeId} {x i:HV} (hx:∀ id∈zau x,H' id=H id) (K:Res->Prop):zcm P t x i H' K=zcm P t x i H K:=by
 unfold zcm;congr 1;funext e de;split
 . split
   . rfl
   . rename_i id
     rw [hx id (by simp [zau])]
   . rfl
   . rfl
 . rfl
theorem zev {t:TypeId} {x i y:HV} (hx:∀ id∈zau x,H' id=H id) (hy:∀ id∈zau y,H' id=H id) (K:Res->Prop):zdb P t x i y H' K=zdb P t x i y H K:=by
 unfold zdb;congr 1;funext a b c;split
 . congr 1
   split
   . rename_i id
     rw [hx id (by simp [zau])];simp only [zfq fun z hz id hi=>hy id (zfz hz hi)]
   . rfl
 . rfl
def zcc (C:zai):Prop:=∀ f args H H' d r,C f args H d r->(∀ id∈zcq args,H' id=H id)->H' d=H d->(∀ id∈r.tch++r.ups.map (·.1),H' id=H id)->C f args H' d r
theorem zot {C:zai} (hC:zcc C) {op:Op} {d:Nat} {ev ev':Operand->HV} {r:Res} (h:zat P C op d ev H (·=r)) (hev:∀ x∈op.operands.toList,ev' x=ev x)
 (hH:∀ id∈zfw op ev d++(r.tch++r.ups.map (·.1)),H' id=H id):zat P C op d ev' H' (·=r):=by
 have hd:looks op=true->H' d=H d:=fun hlk=>hH d (by simp [zfw,hlk])
 have hids:looks op=true->∀ x∈op.operands.toList,∀ id∈zau (ev x),H' id=H id:=fun hlk x hx id hi=>hH id (by simp only [zfw,hlk,List.cons_append,zy7,zy6];exact .inr (.inl (zjb hx hi)))
 have key:∀ {A B:Prop},A->B=A->B:=fun a e=>e ▸ a
 cases op<;>simp only [Op.operands,Array.toList_empty] at hev hids<;>try exact False.elim h
 all_goals try (replace hd:=hd rfl;replace hids:=hids rfl)
 case move x=>refine key h ?_;simp only [zat];rw [hev x (by simp)]
 case assign x=>refine key h ?_;simp only [zat];rw [hev x (by simp)]
 case pick c a b=>refine key h ?_;simp only [zat];rw [hev c (by simp),hev a (by simp),hev b (by simp)]
 case alloc t=>refine key h ?_;simp only [zat,hd]
 case box t x=>refine key h ?_;simp only [zat,hd];rw [hev x (by simp)]
 case build t ps =>
  refine key h ?_;simp only [zat];have:(ps.toList.map fun x=>(x.1,ev' x.2))=(ps.toList.map fun x=>(x.1,ev x.2)):=zy64 fun x hx=>by rw [hev x.2 (by simpa using ⟨x.1,by simpa using hx⟩)]
  rw [this]
 case buildSlice t n ps =>
  refine key h ?_;simp only [zat,hd];have:(ps.toList.map fun x=>ev' x.2)=(ps.toList.map fun x=>ev x.2):=zy64 fun x hx=>by rw [hev x.2 (by simpa using ⟨x.1,by simpa using hx⟩)]
  rw [this];congr 1;funext e de;rw [zib fun y hy id hi=>?_];obtain ⟨x,hx,rfl⟩:=zy4.1 hy;exact hids x.2 (by simpa using ⟨x.1,by simpa using hx⟩) id hi
 case load t a =>
  refine key h ?_;simp only [zat];rw [hev a (by simp)];congr 1;funext td;have hi:=hids a zz0;cases hx:ev a<;>rw [hx] at hi<;>simp only
  . rename_i id off;rw [hi id (by simp [zau])]
  . rename_i id n i off;rw [hi id (by simp [zau])]
 case store t a x =>
  refine key h ?_;simp only [zat];rw [hev a (by simp),hev x (by simp)];congr 1;funext td;have hi:=hids a zz0;have hi2:=hids x zz0;cases hx:ev a<;>rw [hx] at hi<;>simp only
  . rename_i id off;rw [hi id (by simp [zau])]
  . rename_i id n i off
    rw [hi id (by simp [zau])];simp only [zfq fun y hy id hi'=>hi2 id (zfz hy hi')]
 case nilCheck x=>refine key h ?_;simp only [zat];rw [hev x (by simp)]
 case binOp b t x y yt =>
  refine key h ?_;simp only [zat];rw [hev x (by simp),hev y (by simp)];have hi:=hids x zz0;cases hq:zmt (ev x) with
  | none=>rfl
  | some id =>
   have he:ev x=.own id:=by
    unfold zmt at hq;split at hq
    . rename_i i hx;cases hq;exact hx
    . cases hq
   simp only [zjs,hi id (by rw [he];simp [zau])]
 case unOp o t x=>refine key h ?_;simp only [zat];rw [hev x (by simp)]
 case convert src dt x =>
  refine key h ?_;simp only [zat];rw [hev x (by simp)];have hi:=hids x zz0;congr 1;funext ts;congr 1;funext td;split
  . rfl
  . rfl
  . simp only [zcp hi]
    cases hxx:ev x with
    | own id =>
     have e:=hi id (by rw [hxx];simp [zau]);simp only [e]
    | _=>rfl
 case makeFunc fn first caps =>
  refine key h ?_;simp only [zat];congr 1;funext f;rw [zgm,zgm];have:caps.toList.map ev'=caps.toList.map ev:=zy64 fun x hx=>hev x (by simp;exact .inr (by simpa using hx))
  rw [this]
 case makeSlice t l c=>refine key h ?_;simp only [zat,hd];rw [hev l (by simp),hev c (by simp)]
 case slice t x lo hi mx =>
  refine key h ?_;simp only [zat];rw [hev x (by simp)];have hlo:lo.map ev'=lo.map ev:=by cases lo<;>simp only [Option.map_none,zy18,Option.some.injEq];exact hev _ zz0
  have hhi:hi.map ev'=hi.map ev:=by cases hi<;>simp only [Option.map_none,zy18,Option.some.injEq];exact hev _ zz0
  rw [hlo,hhi];have hi':=hids x zz0;cases mx with
  | none =>
   simp only;cases isStr (ev x) with
   | some s=>rfl
   | none =>
   simp only;congr 1;funext e de;cases hxx:ev x<;>rw [hxx] at hi'<;>simp only [zla hi']
   rename_i id n off len;exact zoz (hi' id zz10) _ _ _ _ _ _ _
  | some m =>
   simp only;rw [hev m (by simp)];simp only [zjv hi']
 case fieldAddr t x f=>refine key h ?_;simp only [zat];rw [hev x (by simp)]
 case field t x f=>refine key h ?_;simp only [zat];rw [hev x (by simp)]
 case indexAddr t x i =>
  refine key h ?_;simp only [zat];rw [hev x (by simp),hev i (by simp)];have hi:=hids x zz0;split
  . rfl
  . exact zij hi _
 case index t x i=>refine key h ?_;simp only [zat];rw [hev x (by simp),hev i (by simp)]
 case makeMap t r=>refine key h ?_;simp only [zat,hd]
 case lookup t x i ok =>
  refine key h ?_;simp only [zat];rw [hev x (by simp),hev i (by simp)];have hi:=hids x zz0;congr 1;funext a b c;split
  . congr 1
    split
    . rename_i id hx
      rw [hi id (by rw [hx];simp [zau])]
    . rfl
  . rfl
 case range t x =>
  refine key h ?_;simp only [zat];rw [hev x (by simp)];have hi:=hids x zz0;congr 1;funext a b c;split
  . rename_i id hx
    rw [hi id (by rw [hx];simp [zau]),hd]
  . rfl
 case next x str =>
  refine key h ?_;simp only [zat];rw [hev x (by simp)];have hi:=hids x zz0;cases str with
  | true=>rfl
  | false =>
   simp only;split
   . rename_i id hx
     rw [hi id (by rw [hx];simp [zau])]
   . rfl
 case entry x =>
  refine key h ?_;simp only [zat];rw [hev x (by simp)];have hi:=hids x zz0;split
  . rename_i id hx
    rw [hi id (by rw [hx];simp [zau])]
  . rfl
 case mapUpdate t x i y=>refine key h ?_;simp only [zat];rw [hev x (by simp),hev i (by simp),hev y (by simp)];exact zev (hids x zz0) (hids y zz0) _
 case insert t x i y=>refine key h ?_;simp only [zat];rw [hev x (by simp),hev i (by simp),hev y (by simp)];exact zev (hids x zz0) (hids y zz0) _
 case extract t i=>refine key h ?_;simp only [zat];rw [hev t (by simp)]
 case call c =>
  obtain ⟨callee,args,ats⟩:=c;simp only [Call.operands] at hev hids;cases callee with
  | builtin b =>
   have hev2:∀ x∈args.toList,ev' x=ev x:=fun x hx=>hev x zz5
   have hids2:∀ x∈args.toList,∀ id∈zau (ev x),H' id=H id:=fun x hx=>hids x zz5
   refine key h ?_;cases b<;>simp only [zat]
   . -- append
     cases hl:args.toList with
     | nil=>rfl
     | cons x l=>cases l with
      | nil=>rfl
      | cons y l=>cases l with
       | cons=>rfl
       | nil =>
        rw [hl] at hev2 hids2;simp only;rw [hev2 x (by simp),hev2 y (by simp)];cases ats.toList with
        | nil=>rfl
        | cons t l=>cases l with
         | nil=>rfl
         | cons t' l=>cases l with
          | cons=>rfl
          | nil=>simp only [zjq (P:=P) (hids2 x zz0) (hids2 y zz0) hd,zii (P:=P) (hids2 x zz0) hd]
   . -- cap
     cases hl:args.toList with
     | nil=>rfl
     | cons x l=>cases l with
      | cons=>rfl
      | nil =>
       rw [hl] at hev2 hids2;simp only;rw [hev2 x (by simp)];split
       . congr 1;funext e de
         have hi:=hids2 x zz0;split
         . rename_i id _ _ _ hx
           rw [hi id (by rw [hx];simp [zau])]
         . rfl
       . rfl
   . -- clear
     cases hl:args.toList with
     | nil=>rfl
     | cons x l=>cases l with
      | cons=>rfl
      | nil =>
       rw [hl] at hev2 hids2;simp only;rw [hev2 x (by simp)];split
       . exact zks (hids2 x zz0) _
       . rfl
   . -- copy
     cases hl:args.toList with
     | nil=>rfl
     | cons x l=>cases l with
      | nil=>rfl
      | cons y l=>cases l with
       | cons=>rfl
       | nil =>
        rw [hl] at hev2 hids2;simp only;rw [hev2 x (by simp),hev2 y (by simp)];split
        . exact zmm (hids2 x zz0) (hids2 y zz0) _
        . rfl
   . -- len
     cases hl:args.toList with
     | nil=>rfl
     | cons x l=>cases l with
      | cons=>rfl
      | nil =>
       rw [hl] at hev2 hids2;simp only;rw [hev2 x (by simp)];split
       . congr 1;funext td
         split
         . rfl
         . have hi:=hids2 x zz0
           split
           . rfl
           . rename_i id hxx
             rw [hi id (by rw [hxx];simp [zau])]
           . rw [zcp hi]
         . rfl
       . rfl
   . -- max
     cases hl:args.toList with
     | nil=>rfl
     | cons x l=>cases l with
      | nil=>rfl
      | cons y l=>cases l with
       | cons=>rfl
       | nil =>
        rw [hl] at hev2;simp only;rw [hev2 x (by simp),hev2 y (by simp)]
   . cases hl:args.toList with
     | nil=>rfl
     | cons x l=>cases l with
      | nil=>rfl
      | cons y l=>cases l with
       | cons=>rfl
       | nil =>
        rw [hl] at hev2;simp only;rw [hev2 x (by simp),hev2 y (by simp)]
  | invoke r mth=>exact False.elim h
  | value f =>
   simp only [zat] at h ⊢;rw [hev f (by simp)];cases hx:ev f<;>rw [hx] at h<;>try exact False.elim h
   rename_i g caps;simp only at h ⊢;rw [zgm] at h ⊢;have hargs:args.toList.map ev'=args.toList.map ev:=zy64 fun x hx=>hev x (by simp;exact .inr (by simpa using hx))
   rw [hargs];obtain ⟨r',hc,rfl⟩:=h;refine ⟨r',hC _ _ _ _ _ _ hc (fun id hi=>?_) hd (fun id hi=>hH id (zy6.2 (.inr hi))),rfl⟩;rw [zjw,zy6] at hi;rcases hi with hi | hi
   . have:∀ l:List Operand,id∈zcq (l.map ev)->∃ x∈l,id∈zau (ev x):=by
      intro l
      induction l with
      | nil=>simp [zcq]
      | cons y l ih =>
       intro h;simp only [zy13,zcq,zy6] at h;rcases h with h | h
       . exact ⟨y,by simp,h⟩
       . obtain ⟨x,hx,h⟩:=ih h;exact ⟨x,by simp [hx],h⟩
     obtain ⟨x,hx2,h2⟩:=this _ hi;exact hids x (by simp;exact .inr (by simpa using hx2)) id h2
   . exact hids f zz0 id (by rw [hx];simpa only [zau] using hi)
end
end Go.HL
namespace Go.HL
structure zei (Γ:Ctx) (P:Program) (m:zbk) (s:HS) (a:Act) (w:World):Prop where
 heap:zag Γ m s.heap w
 slots:∀ t,zad m w (RR Γ m s.heap w) (s.slot t) (a.tmps.getD t undef)
 size:a.tmps.size=s.n
 defers:a.defers=[]
 pin:∀ id l,pin<=id->Γ.m0 id=some l->id∈s.pins/\m id=some l
def zdc (P:Program) (C:zai):Prop:=∀ f args H d r,C f args H d r->∀ (Γ:Ctx) m w vals,zag Γ m H w->zae m w (RR Γ m H w) args vals ->
 ((callFunc f vals.toArray).run P w=.ok (.enter f vals.toArray) w /\
 Calls P f vals.toArray w fun e w'=>∃ v m',e=.returned v/\WS Γ H m w (zba H r.ups) m' w'/\zad m' w' (RR Γ m' (zba H r.ups) w') r.val v) \/
 ∃ v w' m',(callFunc f vals.toArray).run P w=.ok (.value v) w'/\WS Γ H m w (zba H r.ups) m' w'/\zad m' w' (RR Γ m' (zba H r.ups) w') r.val v
section
variable {Γ:Ctx} {P:Program} {m m':zbk} {s:HS} {a:Act} {w w':World} {C:zai}
theorem zei.eval (h:zei Γ P m s a w) (x:Operand):zad m w (RR Γ m s.heap w) (evalOp s.slot x) (a.eval x):=by
 cases x with
 | tmp t=>exact h.slots t
 | const v=>exact zoq v
 | global g=>simp only [evalOp,zad]
 | func f=>simp only [evalOp,zad,Act.eval];exact ⟨#[],rfl,by simp only [zae]⟩
theorem znq (a:Act) (d t:Nat) (v:Value) (hd:d<a.tmps.size):(a.put (some d) v).tmps.getD t undef=if t=d then v else a.tmps.getD t undef:=by
 simp only [Act.put,zy20,Array.getElem?_setIfInBounds];by_cases h:t=d
 . subst h;simp [hd]
 . rw [zy10 (fun e=>h e.symm),zy10 h]
theorem zei.step (h:zei Γ P m s a w) {dst:Option Nat} {r:Res} {v:Value} (hws:WS Γ s.heap m w (zba s.heap r.ups) m' w') (hv:zad m' w' (RR Γ m' (zba s.heap r.ups) w') r.val v) (hd:∀ d,dst=some d->d<s.n) :
 zei Γ P m' (s.app dst r) (a.put dst v) w':=by
 cases dst with
 | none=>exact ⟨hws.ok,fun t=>hws.rep (h.slots t),h.size,h.defers,fun id l hp hl=>⟨(h.pin id l hp hl).1,hws.ext _ _ (h.pin id l hp hl).2⟩⟩
 | some d =>
  have hlt:d<a.tmps.size:=by rw [h.size];exact hd d rfl
  refine ⟨hws.ok,fun t=>?_,by simp [Act.put,HS.app,h.size],h.defers,fun id l hp hl=>⟨(h.pin id l hp hl).1,hws.ext _ _ (h.pin id l hp hl).2⟩⟩;rw [znq a d t v hlt];by_cases ht:t=d
  . subst ht;rw [zy12 rfl];simp only [HS.app,zaf];exact hv
  . rw [zy10 ht];simp only [HS.app,zah _ _ ht];exact hws.rep (h.slots t)
theorem zei.skip (h:zei Γ P m s a w) {dst:Option Nat} (hd:∀ d,dst=some d->d<s.n):zei Γ P m (s.put dst .und) (a.put dst undef) w:=by
 cases dst with
 | none=>exact h
 | some d =>
  have hlt:d<a.tmps.size:=by rw [h.size];exact hd d rfl
  refine ⟨h.heap,fun t=>?_,by simp [Act.put,HS.put,h.size],h.defers,h.pin⟩;rw [znq a d t undef hlt];by_cases ht:t=d
  . subst ht;rw [zy12 rfl];simp only [HS.put,zaf,zad]
  . rw [zy10 ht];simp only [HS.put,zah _ _ ht];exact h.slots t
def ziv:Op->Bool
 | .call ⟨.value _,_,_⟩=>true
 | _=>false
theorem zue {K:Res->Prop} {d:Nat} {ev:Operand->HV} {ρ:Operand->Value} {H:Nat->zaa} {o:Oper} (hok:zag Γ m H w) (hev:∀ x,zad m w (RR Γ m H w) (ev x) (ρ x)) (h:zat P C o.op d ev H K) (hf:ziv o.op=false) :
 ∃ r,K r/\OS Γ P m H w (execOp ρ o) r:=by
 obtain ⟨dst,op,ty,pos,after,guard⟩:=o;simp only at h hf;cases op<;>try exact False.elim h
 case move x=>exact zur hok (hev x) h
 case assign x=>exact zqv hok (hev x) h
 case pick c x y=>exact zut hok (fun z _=>hev z) h
 case alloc t=>exact zst hok h
 case box t x=>exact zvy hok (hev x) h
 case build t ps=>exact zsu hok (fun x _=>hev x.2) h
 case buildSlice t n ps=>exact zka hok (fun x _=>hev x.2) h
 case load t x=>exact zuq hok (hev x) h
 case store t x y=>exact ztb hok (hev x) (hev y) h
 case nilCheck x=>exact znb hok (hev x) h
 case binOp b t x y yt =>
  simp only [zat] at h;cases hq:zmt (ev x) with
  | none=>rw [hq] at h;exact zvx hok (hev x) (hev y) h
  | some id =>
   rw [hq] at h;simp only at h;split at h
   . exact zqx hok (by rw [<- zsp hq];exact hev x) (hev y) h
   . exact h.elim
 case unOp u t x=>exact zuu hok (hev x) h
 case convert src dt x=>exact zpf hok (hev x) h
 case makeFunc fn first caps=>exact zna hok (fun x _=>hev x) h
 case makeSlice t x y=>exact zln hok (hev x) (hev y) h
 case slice t x lo hi mx=>exact zta hok hev h
 case fieldAddr t x f=>exact zll hok (hev x) h
 case field t x f=>exact zsx hok (hev x) h
 case indexAddr t x i=>exact zlm hok (hev x) (hev i) h
 case extract t i=>exact zpg hok (hev t) h
 case index t x i=>exact zsy hok (hev x) (hev i) h
 case makeMap t r=>exact zpi hok h
 case lookup t x i b=>exact zqw hok (hev x) (hev i) h
 case range t x=>exact zsz hok (hev x) h
 case next x b=>exact zus hok (hev x) h
 case entry x=>exact zsw hok (hev x) h
 case mapUpdate t x i y=>obtain ⟨r,h1,h2⟩:=zlo hok (hev x) (hev i) (hev y) h;exact ⟨r,h1,h2 (by rfl)⟩
 case insert t x i y=>obtain ⟨r,h1,h2⟩:=zlo hok (hev x) (hev i) (hev y) h;exact ⟨r,h1,h2 (by rfl)⟩
 case call c =>
  obtain ⟨callee,args,ats⟩:=c;cases callee with
  | value f=>cases hf
  | invoke r mth=>exact False.elim h
  | builtin b =>
   cases b<;>try exact False.elim h
   . exact zqu hok (fun x _=>hev x) h
   . exact zvz hok (fun x _=>hev x) h
   . exact zsv hok (fun x _=>hev x) h
   . exact zup hok (fun x _=>hev x) h
   . exact zwa hok (fun x _=>hev x) h
   . exact zwb hok (fun x _=>hev x) h
   . exact zwc hok (fun x _=>hev x) h
theorem zuo (hC:zdc P C) (hc:zei Γ P m s a w) {o:Oper} {K:Res->Prop} {next:Act->World->Prop} {Q:Exit->Act->World->Prop} (h:zat P C o.op (o.dst.getD 0) (evalOp s.slot) s.heap K)
 (hn:∀ r v m' w',K r->WS Γ s.heap m w (zba s.heap r.ups) m' w'->zad m' w' (RR Γ m' (zba s.heap r.ups) w') r.val v->next (a.put o.dst v) w'):o.wp P a w next Q:=by
 unfold Oper.wp;cases hf:ziv o.op with
 | false =>
  obtain ⟨r,hk,v,w',m',zbi,hws,hrep⟩:=zue hc.heap hc.eval h hf;rcases zbi with zbi | ⟨zbi,rfl⟩
  . rw [zbi];exact hn r v m' w' hk hws hrep
  . rw [zbi];exact hn r undef m' w' hk hws hrep
 | true =>
  obtain ⟨dst,op,ty,pos,after,guard⟩:=o;simp only at hf h;cases op<;>try cases hf
  rename_i c;obtain ⟨callee,args,ats⟩:=c;cases callee with
  | invoke r mth=>cases hf
  | builtin b=>cases hf
  | value f =>
   simp only [zat] at h;split at h
   . rename_i g caps hg
     rw [zgm] at h;obtain ⟨r,hCr,hk⟩:=h;have hfv:=hc.eval f;rw [hg] at hfv;simp only [zad] at hfv;obtain ⟨arr,hfv,hcaps⟩:=hfv;have hargs:=zae.map (ρ:=a.eval) (ev:=evalOp s.slot) args.toList fun x _=>hc.eval x
     have happ:∀ {xs ys:List HV} {vs us:List Value} {R:Nat->Prop},zae m w R xs vs->zae m w R ys us->zae m w R (xs++ys) (vs++us):=by
      intro xs
      induction xs with
      | nil=>intro ys vs us R h1 h2;simp only [zae] at h1;subst h1;exact h2
      | cons x xs ih =>
       intro ys vs us R h1 h2;simp only [zae,List.cons_append] at h1 ⊢;obtain ⟨v,r,rfl,h3,h4⟩:=h1;exact ⟨v,r++us,rfl,h3,ih h4 h2⟩
     have hvals:(args.toList.map a.eval++arr.toList).toArray=args.map a.eval++arr:=by apply Array.ext';simp
     have hboth:=hC g _ _ _ r hCr Γ m w _ hc.heap (happ hargs hcaps);rw [hvals] at hboth;rcases hboth with ⟨hcf,hcalls⟩ | ⟨v,w',m',hcf,hws,hrep⟩
     case inr =>
      have zbi:(execOp a.eval ⟨dst,.call ⟨.value f,args,ats⟩,ty,pos,after,guard⟩).run P w=.ok (.value v) w':=by
       exact yy26
      rw [zbi];exact hn r v m' w' hk hws hrep
     have zbi:(execOp a.eval ⟨dst,.call ⟨.value f,args,ats⟩,ty,pos,after,guard⟩).run P w=.ok (.enter g (args.map a.eval++arr)) w:=by
      exact yy26
     rw [zbi];refine hcalls.mono fun e w' he=>?_
     obtain ⟨v,m',rfl,hws,hrep⟩:=he;exact hn r v m' w' hk hws hrep
   . exact h.elim
end
end Go.HL
namespace Go.HL
def zav (all:List Oper) (o:Oper) (slot:Nat->HV):Option Bool :=
 match o.guard with
 | none=>some true
 | some (j,want)=>match (nth all j).bind (·.dst) with
  | some g=>match slot g with
   | .p (.v (.bool b))=>some (b==want)
   | .und=>some false
   | _=>none
  | none=>none
def zdr (P:Program) (C:zai) (all:List Oper) (o:Oper) (l:Lab) (s s':HS):Prop :=
 (∀ d,o.dst=some d->d<s.n)/\match l with
 | some (r,ids)=>zav all o s.slot=some true/\zat P C o.op (o.dst.getD 0) (evalOp s.slot) s.heap (·=r)/\ids=zfw o.op (evalOp s.slot) (o.dst.getD 0)/\s'=s.app o.dst r
 | none=>zav all o s.slot=some false/\s'=s.put o.dst .und
inductive Ev (P:Program) (C:zai) (all:List Oper):List (Oper×Lab)->HS->HS->Prop where
 | nil (s:HS):Ev P C all [] s s
 | cons {o:Oper} {l:Lab} {r:List (Oper×Lab)} {s s1 s2:HS} (h:zdr P C all o l s s1) (k:Ev P C all r s1 s2):Ev P C all ((o,l)::r) s s2
section
variable {Γ:Ctx} {P:Program} {C:zai} {all:List Oper}
theorem zgz (s:HS) {g:Nat} {x:HV} (h:s.slot g=x):s.put (some g) x=s:=by
 subst h;simp only [HS.put,zef]
theorem zfp:∀ (os:List Oper) (s:HS) (acc:List Lab) (K:List Lab->HS->Prop),(∀ o∈os,zih o.op=true)->zkf P C all os s acc K ->
 ∃ labs s',labs.length=os.length/\Ev P C all (os.zip labs) s s'/\K (labs.reverse++acc) s'
 | [],s,acc,K,hd,h=>⟨[],s,rfl,.nil s,h⟩
 | ⟨dst,op,ty,pos,after,guard⟩::os,s,acc,K,hd,h=>by
  have hdo:zih op=true:=hd ⟨dst,op,ty,pos,after,guard⟩ zz0;have hrest:∀ o∈os,zih o.op=true:=fun o ho=>hd o (by simp [ho])
  have run:∀ (K':Res->HS->Prop),zbi P C dst op s K'->∃ r,(∀ d,dst=some d->d<s.n)/\zat P C op (dst.getD 0) (evalOp s.slot) s.heap (·=r)/\K' r (s.app dst r):=by
   intro K' hr;unfold zbi at hr;cases dst with
   | none =>
    obtain ⟨r,h1,h2⟩:=znr hdo hr;exact ⟨r,by simp,h2,h1⟩
   | some d =>
    obtain ⟨hlt,hr⟩:=zab hr;obtain ⟨r,h1,h2⟩:=znr hdo hr;refine ⟨r,fun d' hd'=>?_,h2,h1⟩;cases hd';exact zy2 hlt
  have skip:∀ (K':HS->Prop),zky dst s K'->(∀ d,dst=some d->d<s.n)/\K' (s.put dst .und):=by
   intro K' hr;unfold zky at hr;cases dst with
   | none=>exact ⟨by simp,hr⟩
   | some d =>
    obtain ⟨hlt,hr⟩:=zab hr;refine ⟨fun d' hd'=>?_,hr⟩;cases hd';exact zy2 hlt
  have ran:∀ (hw:zav all ⟨dst,op,ty,pos,after,guard⟩ s.slot=some true),zbi P C dst op s (fun r s'=>zkf P C all os s' (some (r,zfw op (evalOp s.slot) (dst.getD 0))::acc) K) ->
   ∃ labs s',labs.length=(⟨dst,op,ty,pos,after,guard⟩::os).length/\Ev P C all ((⟨dst,op,ty,pos,after,guard⟩::os).zip labs) s s'/\K (labs.reverse++acc) s':=by
   intro hw hr;obtain ⟨r,h1,h2,h3⟩:=run _ hr;obtain ⟨labs,s',hl,hev,hk⟩:=zfp os _ _ K hrest h3;refine ⟨some (r,zfw op (evalOp s.slot) (dst.getD 0))::labs,s',by simp [hl],.cons ⟨h1,hw,h2,rfl,rfl⟩ hev,?_⟩
   simpa using hk
  have skipped:∀ (hw:zav all ⟨dst,op,ty,pos,after,guard⟩ s.slot=some false),zky dst s (fun s'=>zkf P C all os s' (none::acc) K) ->
   ∃ labs s',labs.length=(⟨dst,op,ty,pos,after,guard⟩::os).length/\Ev P C all ((⟨dst,op,ty,pos,after,guard⟩::os).zip labs) s s'/\K (labs.reverse++acc) s':=by
   intro hw hr;obtain ⟨h1,h3⟩:=skip _ hr;obtain ⟨labs,s',hl,hev,hk⟩:=zfp os _ _ K hrest h3;refine ⟨none::labs,s',by simp [hl],.cons ⟨h1,hw,rfl⟩ hev,?_⟩
   simpa using hk
  rw [zkv] at h;simp only [zjr] at h;split at h
  . exact ran rfl h
  . rename_i j want
    split at h
    . rename_i g hg
      split at h
      . rename_i b hb
        have h2:=zcx h;clear h;rcases h2 with ⟨rfl,h⟩ | ⟨rfl,h⟩
        . rw [zgz s hb] at h
          have h2:=zcx h;clear h;rcases h2 with ⟨rfl,h⟩ | ⟨rfl,h⟩
          . exact ran zz2 h
          . exact skipped zz2 h
        . rw [zgz s hb] at h
          have h2:=zcx h;clear h;rcases h2 with ⟨rfl,h⟩ | ⟨rfl,h⟩
          . exact skipped zz2 h
          . exact ran zz2 h
      . rename_i hb
        exact skipped zz2 h
      . exact h.elim
    . exact h.elim
theorem zfk {m:zbk} {s:HS} {a:Act} {w:World} {ops:Array Oper} {o:Oper} {b:Bool} (hc:zei Γ P m s a w) (h:zav ops.toList o s.slot=some b):Region.wanted o (yielded ops a.tmps)=b:=by
 unfold zav at h;unfold Region.wanted;cases hg:o.guard with
 | none=>rw [hg] at h;cases h;rfl
 | some jw =>
  obtain ⟨j,want⟩:=jw;rw [hg] at h;simp only at h ⊢;rw [zci] at h;have hj:ops.toList[j]?=ops[j]?:=by simp
  rw [hj] at h;unfold yielded;cases hd:(ops[j]?).bind (·.dst) with
  | none=>rw [hd] at h;cases h
  | some g =>
   rw [hd] at h;simp only at h;have hs:=hc.slots g;rw [zy68];split at h
   . rename_i c hcg
     rw [hcg] at hs;have hv:=zck hs;have:a.tmps[g]?=some (.bool c):=by
      rw [zy20] at hv;cases ht:a.tmps[g]? with
      | none=>rw [ht] at hv;cases hv
      | some v=>rw [ht] at hv;simp at hv;rw [hv]
     rw [this];cases h;simp only;cases c<;>cases want<;>rfl
   . rename_i hcg
     rw [hcg] at hs;simp only [zad] at hs;cases h;cases ht:a.tmps[g]? with
     | none=>simp only;rfl
     | some v =>
      have:v=undef:=by rw [zy20,ht] at hs;simpa using hs
      subst this
      rfl
   . cases h
theorem zux (hC:zdc P C) {m:zbk} {s s':HS} {a:Act} {w:World} {ops:Array Oper} {o:Oper} {l:Lab} (hc:zei Γ P m s a w) (h:zdr P C ops.toList o l s s') {K:Act->World->Prop} {Q:Exit->Act->World->Prop}
 (hK:∀ m' a' w',zei Γ P m' s' a' w'->K a' w'):if Region.wanted o (yielded ops a.tmps) then o.wp P a w K Q else K (a.put o.dst undef) w:=by
 obtain ⟨hd,h⟩:=h;cases l with
 | none =>
  obtain ⟨hw,rfl⟩:=h;rw [zfk hc hw];simp only [zy27,if_false];exact hK m _ w (hc.skip hd)
 | some ri =>
  obtain ⟨r,ids⟩:=ri;obtain ⟨hw,ha,_,rfl⟩:=h;rw [zfk hc hw];simp only [if_true];refine zuo hC hc ha fun r' v m' w' hr hws hrep=>?_
  subst hr;exact hK m' _ w' (hc.step hws hrep hd)
theorem zhl (hC:zdc P C) {ops:Array Oper} {Q:Exit->Act->World->Prop}:∀ (os:List Oper) (s:HS) (acc:List Lab) (K:List Lab->HS->Prop) (m:zbk) (a:Act) (w:World),zkf P C ops.toList os s acc K->zei Γ P m s a w ->
 (∀ labs s' m' a' w',K labs s'->zei Γ P m' s' a' w'->Q .normal a' w')->wpList P ops Q os a w
 | [],s,acc,K,m,a,w,h,hc,hK=>wpList_nil (hK acc s m a w h hc)
 | ⟨dst,op,ty,pos,after,guard⟩::os,s,acc,K,m,a,w,h,hc,hK=>by
  refine wpList_step fun K' hK'=>?_
  have ran:∀ (hw:zav ops.toList ⟨dst,op,ty,pos,after,guard⟩ s.slot=some true) (L:Res->Lab),zbi P C dst op s (fun r s'=>zkf P C ops.toList os s' (L r::acc) K) ->
   if Region.wanted ⟨dst,op,ty,pos,after,guard⟩ (yielded ops a.tmps) then Oper.wp P ⟨dst,op,ty,pos,after,guard⟩ a w K' Q else K' (a.put dst undef) w:=by
   intro hw L hr;rw [zfk hc hw];simp only [if_true];unfold zbi at hr;cases dst with
   | none =>
    refine zuo hC hc (o:=⟨none,op,ty,pos,after,guard⟩) hr fun r v m' w' hk hws hrep=>?_
    exact hK' _ _ (zhl hC os _ _ K m' _ w' hk (hc.step hws hrep zz0) hK)
   | some d =>
    obtain ⟨hlt,hr⟩:=zab hr;refine zuo hC hc (o:=⟨some d,op,ty,pos,after,guard⟩) hr fun r v m' w' hk hws hrep=>?_
    exact hK' _ _ (zhl hC os _ _ K m' _ w' hk (hc.step hws hrep (fun d' hd'=>by cases hd';exact zy2 hlt)) hK)
  have skipped:∀ (hw:zav ops.toList ⟨dst,op,ty,pos,after,guard⟩ s.slot=some false),zky dst s (fun s'=>zkf P C ops.toList os s' (none::acc) K) ->
   if Region.wanted ⟨dst,op,ty,pos,after,guard⟩ (yielded ops a.tmps) then Oper.wp P ⟨dst,op,ty,pos,after,guard⟩ a w K' Q else K' (a.put dst undef) w:=by
   intro hw hr;rw [zfk hc hw];simp only [zy27,if_false];unfold zky at hr;cases dst with
   | none=>exact hK' _ _ (zhl hC os _ _ K m _ w hr (hc.skip (dst:=none) zz0) hK)
   | some d =>
    obtain ⟨hlt,hr⟩:=zab hr;exact hK' _ _ (zhl hC os _ _ K m _ w hr (hc.skip (dst:=some d) (fun d' hd'=>by cases hd';exact zy2 hlt)) hK)
  rw [zkv] at h;simp only [zjr] at h;split at h
  . exact ran rfl _ h
  . rename_i j want
    split at h
    . rename_i g hg
      split at h
      . rename_i b hb
        have h2:=zcx h;clear h;rcases h2 with ⟨rfl,h⟩ | ⟨rfl,h⟩
        . rw [zgz s hb] at h
          have h2:=zcx h;clear h;rcases h2 with ⟨rfl,h⟩ | ⟨rfl,h⟩
          . exact ran zz2 _ h
          . exact skipped zz2 h
        . rw [zgz s hb] at h
          have h2:=zcx h;clear h;rcases h2 with ⟨rfl,h⟩ | ⟨rfl,h⟩
          . exact skipped zz2 h
          . exact ran zz2 _ h
      . rename_i hb
        exact skipped zz2 h
      . exact h.elim
    . exact h.elim
end
end Go.HL
namespace Go.HL
def zfr:Lab->Res
 | some (r,_)=>r
 | none=>⟨.und,[],[]⟩
section
variable {Γ:Ctx} {P:Program} {C:zai} {all:List Oper}
theorem zfi {α:List (Nat×zaa)} {H:Nat->zaa} {id:Nat} (h:id∉α.map (·.1)):zba H α id=H id :=
 zge (us:=α) fun _ he hi=>h (hi ▸ List.mem_map_of_mem he)
theorem zoo {α:Type} (f:Nat->α) {i j:Nat} (x y:α) (h:i≠j):upd (upd f i x) j y=upd (upd f j y) i x:=by
 funext k
 by_cases h1:k=i
 . subst h1;rw [zaf,zah _ _ h,zaf]
 . by_cases h2:k=j
   . subst h2;rw [zaf,zah _ _ h1,zaf]
   . rw [zah _ _ h2,zah _ _ h1,zah _ _ h1,zah _ _ h2]
theorem zon (H:Nat->zaa):∀ (α:List (Nat×zaa)) {i:Nat} (b:zaa),i∉α.map (·.1)->zba (upd H i b) α=upd (zba H α) i b
 | [],i,b,h=>rfl
 | (j,c)::α,i,b,h=>by
  simp only [zy13,zy7,not_or] at h;simp only [zba];rw [zoo _ _ _ h.1,zon _ α b h.2]
theorem zmb:∀ (α β:List (Nat×zaa)) (H:Nat->zaa),(∀ i∈α.map (·.1),i∉β.map (·.1))->zba (zba H α) β=zba (zba H β) α
 | [],β,H,h=>rfl
 | (i,b)::α,β,H,h=>by
  simp only [zba];rw [zmb α β _ fun j hj=>h j (by simp at hj ⊢;exact .inr hj),zon _ β b (h i (by simp))]
theorem zdo {o:Oper} {l:Lab} {s s':HS}:zdr P C all o l s s'↔(∀ d,o.dst=some d->d<s.n)/\zav all o s.slot=some l.isSome /\
 (∀ r ids,l=some (r,ids)->zat P C o.op (o.dst.getD 0) (evalOp s.slot) s.heap (·=r)/\ids=zfw o.op (evalOp s.slot) (o.dst.getD 0))/\s'=s.app o.dst (zfr l):=by
 unfold zdr;refine and_congr Iff.rfl ?_;cases l with
 | none =>
  simp only [Option.isSome_none,reduceCtorEq,false_implies,implies_true,true_and,zfr];refine and_congr Iff.rfl ?_;obtain ⟨dst,op,ty,pos,after,guard⟩:=o;cases dst<;>exact Iff.rfl
 | some ri =>
  obtain ⟨r,ids⟩:=ri;simp only [Option.isSome_some,zfr]
  constructor
  . rintro ⟨h1,h2,h3,h4⟩
    exact ⟨h1,fun r' ids' he=>by cases he;exact ⟨h2,h3⟩,h4⟩
  . rintro ⟨h1,h2,h4⟩
    exact ⟨h1,(h2 r ids rfl).1,(h2 r ids rfl).2,h4⟩
theorem zjj {s:HS} {dst:Option Nat} {r:Res} {t:Nat} (h:dst≠some t):(s.app dst r).slot t=s.slot t:=by
 cases dst with
 | none=>rfl
 | some d=>exact zah _ _ fun e=>h (by rw [e])
theorem zeu {s:HS} {dst:Option Nat} {r:Res}:(s.app dst r).heap=zba s.heap r.ups:=by
 cases dst<;>rfl
theorem zor {s:HS} {dst:Option Nat} {r:Res}:(s.app dst r).n=s.n:=by
 cases dst<;>rfl
theorem zji {s:HS} {x y:Option Nat} {r q:Res} (h:∀ d,x=some d->y≠some d) (hu:∀ i∈r.ups.map (·.1),i∉q.ups.map (·.1)) :
 (s.app x r).app y q=(s.app y q).app x r:=by
 have hh:=zmb r.ups q.ups s.heap hu;cases x with
 | none=>cases y<;>simp only [HS.app,hh]
 | some d=>cases y with
  | none=>simp only [HS.app,hh]
  | some e =>
   simp only [HS.app,hh];rw [zoo _ _ _ fun e'=>h d rfl (by rw [e'])]
theorem zgs {s:HS} {dst:Option Nat} {r:Res} {x:Operand} (h:∀ d,dst=some d->x≠.tmp d):evalOp (s.app dst r).slot x=evalOp s.slot x:=by
 cases x<;>try rfl
 rename_i t;simp only [evalOp];exact zjj fun e=>h t e rfl
theorem zeg {ops:Array Oper} {o:Oper} {s:HS} {dst:Option Nat} {r:Res} (h:∀ d,dst=some d->d∉o.looksAt ops):zav ops.toList o (s.app dst r).slot=zav ops.toList o s.slot:=by
 unfold zav;cases hg:o.guard with
 | none=>rfl
 | some jw =>
  obtain ⟨j,want⟩:=jw;simp only;cases hd:(nth ops.toList j).bind (·.dst) with
  | none=>rfl
  | some g =>
   simp only;rw [zjj fun e=>?_];refine h g e ?_;simp only [Oper.looksAt,hg,zy6]
   right
   rw [zci] at hd;have hj:ops.toList[j]?=ops[j]?:=by simp
   rw [hj] at hd;rw [hd];simp
theorem zhw {op:Op} {ev ev':Operand->HV} {d:Nat} (h:∀ x∈op.operands.toList,ev' x=ev x):zfw op ev' d=zfw op ev d:=by
 unfold zfw;cases looks op<;>dsimp only
 congr 1
 revert h
 generalize op.operands.toList=l
 induction l with
 | nil=>intro _;rfl
 | cons y l ih=>intro h;simp only [zlk];rw [h y (by simp),ih fun x hx=>h x (by simp [hx])]
theorem zhj:∀ {a b:List Nat},zry a b=true->∀ i∈a,i∉b
 | [],b,h,i,hi=>by simp at hi
 | x::a,b,h,i,hi=>by
  simp only [zry,zy1,zy31] at h;rcases zy7.1 hi with rfl | hi
  . intro hb
    have:=List.any_eq_false.1 h.1 i hb;simp at this
  . exact zhj h.2 i hi
def Ind (ops:Array Oper) (x:Oper×Lab) (y:Oper×Lab):Prop:=x.1.apart ops y.1=true/\zry (znh x.2) (zie y.2)=true/\zry (znh y.2) (zie x.2)=true
theorem zop (l:Lab):znh l=(zfr l).ups.map (·.1):=by cases l<;>rfl
theorem zff (hC:zcc C) {ops:Array Oper} {o:Oper} {l:Lab} {s s' t:HS} (h:zdr P C ops.toList o l s s') (hn:t.n=s.n)
 (hw:zav ops.toList o t.slot=zav ops.toList o s.slot) (he:∀ x∈o.op.operands.toList,evalOp t.slot x=evalOp s.slot x)
 (hH:∀ i∈zie l,t.heap i=s.heap i):zdr P C ops.toList o l t (t.app o.dst (zfr l)):=by
 rw [zdo] at h ⊢;obtain ⟨h1,h2,h3,-⟩:=h;refine ⟨fun d hd=>by rw [hn];exact h1 d hd,by rw [hw];exact h2,fun r ids hl=>?_,rfl⟩;subst hl;obtain ⟨h4,h5⟩:=h3 r ids rfl;refine ⟨zot hC h4 he fun i hi=>hH i ?_,by rw [zhw he];exact h5⟩;subst h5;exact hi
theorem swap (hC:zcc C) {ops:Array Oper} {x y:Oper} {lx ly:Lab} {s s1 s2:HS} (hx:zdr P C ops.toList x lx s s1) (hy:zdr P C ops.toList y ly s1 s2) (hi:Ind ops (x,lx) (y,ly)) :
 ∃ s1',zdr P C ops.toList y ly s s1'/\zdr P C ops.toList x lx s1' s2:=by
 obtain ⟨hap,hd1,hd2⟩:=hi;obtain ⟨a1,a2,a3⟩:=Oper.apart_spec hap;have e1:s1=s.app x.dst (zfr lx):=(zdo.1 hx).2.2.2;have e2:s2=s1.app y.dst (zfr ly):=(zdo.1 hy).2.2.2;subst e1;have zkf:∀ {o:Oper} {z:Operand} {d:Nat},z∈o.op.operands.toList->d∉o.looksAt ops->z≠.tmp d:=by
  rintro o z d hz hd rfl;apply hd;simp only [Oper.looksAt,zy6,List.mem_filterMap];exact .inl ⟨_,hz,rfl⟩
 have hu1:∀ i∈(zfr lx).ups.map (·.1),i∉zie ly:=fun i hi=>zhj hd1 i (by rw [zop];exact hi)
 have hu2:∀ i∈(zfr ly).ups.map (·.1),i∉zie lx:=fun i hi=>zhj hd2 i (by rw [zop];exact hi)
 have zkg:∀ {l:Lab} {i:Nat},i∈(zfr l).ups.map (·.1)->i∈zie l:=by
  intro l i hi;cases l with
  | none=>simp [zfr] at hi
  | some ri=>simp only [zie,zy6];exact .inr (.inr hi)
 refine ⟨s.app y.dst (zfr ly),zff hC hy zor.symm (zeg a1).symm (fun z hz=>(zgs fun d hd=>zkf hz (a1 d hd)).symm) fun i hi=>?_,?_⟩
 . rw [zeu,zfi fun h=>hu1 i h hi]
 . have:=zff hC (t:=s.app y.dst (zfr ly)) hx zor (zeg a3) (fun z hz=>zgs fun d hd=>zkf hz (a3 d hd)) fun i hi=>by
    rw [zeu,zfi fun h=>hu2 i h hi]
   rw [e2,zji a2 fun i hi h=>hu1 i hi (zkg h)];exact this
structure ztq (P:Program) (C:zai) (ops:Array Oper) (M:Oper->Lab->Prop) where
 Z:HS->Prop
 S:Oper->Lab->Prop
 keep:∀ {o l s s'},M o l->zdr P C ops.toList o l s s'->Z s->Z s'
 same:∀ {o l s s' t},M o l->S o l->Z s->Z t->zdr P C ops.toList o l s s'->t.n=s.n->zav ops.toList o t.slot=zav ops.toList o s.slot->(∀ x∈o.op.operands.toList,evalOp t.slot x=evalOp s.slot x)->zdr P C ops.toList o l t (t.app o.dst (zfr l))
 quiet:∀ {o l},M o l->S o l->(zfr l).ups=[]
def zwg {P:Program} {C:zai} {ops:Array Oper} {M:Oper->Lab->Prop} (z:ztq P C ops M) (x y:Oper×Lab):Prop:=Ind ops x y\/(x.1.apart ops y.1=true/\(z.S x.1 x.2\/z.S y.1 y.2))
theorem zws (hC:zcc C) {ops:Array Oper} {M:Oper->Lab->Prop} (z:ztq P C ops M) {x y:Oper} {lx ly:Lab} {s s1 s2:HS} (mx:M x lx) (my:M y ly) (hz:z.Z s) (hx:zdr P C ops.toList x lx s s1) (hy:zdr P C ops.toList y ly s1 s2) (hi:zwg z (x,lx) (y,ly)) :
 ∃ s1',zdr P C ops.toList y ly s s1'/\zdr P C ops.toList x lx s1' s2:=by
 rcases hi with hi | ⟨hap,hs⟩
 . exact swap hC hx hy hi
 obtain ⟨a1,a2,a3⟩:=Oper.apart_spec hap;have hz1:=z.keep mx hx hz;have e1:s1=s.app x.dst (zfr lx):=(zdo.1 hx).2.2.2;have e2:s2=s1.app y.dst (zfr ly):=(zdo.1 hy).2.2.2;subst e1;have zkf:∀ {o:Oper} {z:Operand} {d:Nat},z∈o.op.operands.toList->d∉o.looksAt ops->z≠.tmp d:=by
  rintro o z d hz hd rfl;apply hd;simp only [Oper.looksAt,zy6,List.mem_filterMap];exact .inl ⟨_,hz,rfl⟩
 have wy:=(zeg (ops:=ops) (o:=y) (s:=s) (dst:=x.dst) (r:=zfr lx) a1).symm;have ey:∀ q∈y.op.operands.toList,evalOp s.slot q=evalOp (s.app x.dst (zfr lx)).slot q:=fun q hq=>(zgs fun d hd=>zkf hq (a1 d hd)).symm
 have wx:=zeg (ops:=ops) (o:=x) (s:=s) (dst:=y.dst) (r:=zfr ly) a3;have ex:∀ q∈x.op.operands.toList,evalOp (s.app y.dst (zfr ly)).slot q=evalOp s.slot q:=fun q hq=>zgs fun d hd=>zkf hq (a3 d hd)
 rcases hs with hs | hs
 . have hq:=z.quiet mx hs
   have hy':zdr P C ops.toList y ly s (s.app y.dst (zfr ly)):=zff hC hy zor.symm wy ey fun i _=>by rw [zeu,hq];rfl
   have hz2:=z.keep my hy' hz;have:=z.same mx hs hz hz2 hx zor wx ex;rw [e2,zji a2 fun i hi=>by rw [hq] at hi;cases hi];exact ⟨_,hy',this⟩
 . have hq:=z.quiet my hs
   have hy':=z.same my hs hz1 hz hy zor.symm wy ey;have:=zff hC (t:=s.app y.dst (zfr ly)) hx zor wx ex fun i _=>by rw [zeu,hq];rfl
   rw [e2,zji a2 fun i hi h=>by rw [hq] at h;cases h];exact ⟨_,hy',this⟩
theorem zno (hC:zcc C) {ops:Array Oper} {M:Oper->Lab->Prop} (z:ztq P C ops M) {e:Oper×Lab} (me:M e.1 e.2):∀ {pre post:List (Oper×Lab)} {s t:HS},Ev P C ops.toList (pre++e::post) s t->z.Z s->(∀ x∈pre,M x.1 x.2)->(∀ x∈pre,zwg z x e)->Ev P C ops.toList (e::(pre++post)) s t
 | [],post,s,t,h,_,_,_=>h
 | x::pre,post,s,t,h,hz,hm,hi=>by
  cases h with
  | cons h k =>
   rename_i o l s1;have mx:M o l:=hm (o,l) zz0;have h2:=zno hC z me k (z.keep mx h hz) (fun y hy=>hm y zz16) fun y hy=>hi y zz16
   cases h2 with
   | cons h3 k2 =>
    obtain ⟨s1',h4,h5⟩:=zws hC z mx me hz h h3 (hi _ zz0);exact .cons h4 (.cons h5 k2)
theorem zhr:∀ (os:List Oper) (ms:List Nat),∃ tl,zft os ms=ms++tl/\tl.length=os.length
 | [],ms=>⟨[],by simp [zft],rfl⟩
 | o::os,ms=>by
  obtain ⟨tl,h1,h2⟩:=zhr os (ms++[zfs ms o.after.toList]);exact ⟨zfs ms o.after.toList::tl,by simp [zft,h1],by simp [h2]⟩
theorem zlf:∀ (os:List Oper) (ms:List Nat) (k:Nat),k<os.length->∃ o,os[k]?=some o/\(zft os ms)[ms.length+k]?=some (zfs ((zft os ms).take (ms.length+k)) o.after.toList)
 | [],ms,k,h=>by simp at h
 | o::os,ms,k,h=>by
  cases k with
  | zero =>
   obtain ⟨tl,h1,h2⟩:=zhr os (ms++[zfs ms o.after.toList]);refine ⟨o,rfl,?_⟩;simp [zft,h1]
  | succ k =>
   obtain ⟨o',h1,h2⟩:=zlf os (ms++[zfs ms o.after.toList]) k zz21;refine ⟨o',by simpa using h1,?_⟩;simp only [zft];have:(ms++[zfs ms o.after.toList]).length+k=ms.length+(k+1):=by simp;omega
   rw [this] at h2;exact h2
theorem zhq {ms:List Nat} {b:Nat}:∀ {l:List Edge},Nat.testBit (zfs ms l) b=true->∃ e∈l,Region.binds .any e=true/\(e.on=b\/∃ m,ms[e.on]?=some m/\m.testBit b=true)
 | [],h=>by simp [zfs] at h
 | e::l,h=>by
  simp only [zfs] at h;cases hb:Region.binds .any e with
  | false =>
   rw [hb] at h;obtain ⟨e',h1,h2⟩:=zhq h;exact ⟨e',by simp [h1],h2⟩
  | true =>
   rw [hb] at h;have h':Nat.testBit ((ztz e.on ||| (nth ms e.on).getD 0) ||| zfs ms l) b=true:=h;rw [Nat.testBit_or,Nat.testBit_or,zy69,zy69] at h';rcases h' with (h' | h') | h'
   . have:ztz e.on=2 ^ e.on:=Nat.one_shiftLeft _
     rw [this,Nat.testBit_two_pow] at h';exact ⟨e,by simp,hb,.inl (by simpa using h')⟩
   . refine ⟨e,by simp,hb,.inr ?_⟩
     rw [zci] at h';cases hm:ms[e.on]? with
     | none=>rw [hm] at h';simp at h'
     | some m=>rw [hm] at h';exact ⟨m,rfl,by simpa using h'⟩
   . obtain ⟨e',h1,h2⟩:=zhq h'
     exact ⟨e',by simp [h1],h2⟩
theorem zmy {ops:Array Oper} {listed:Array Bool} (hcl:∀ k o,ops[k]?=some o->listed.getD k true=true->∀ e∈o.after,Region.binds .any e=true->listed.getD e.on false=true) :
 ∀ (k m b:Nat),(zft ops.toList [])[k]?=some m->m.testBit b=true->(∀ o,ops[k]?=some o->∀ e∈o.after,Region.binds .any e=true->listed.getD e.on false=true)->listed.getD b false=true:=by
 intro k
 induction k using Nat.strongRecOn with
 | ind k ih =>
  intro m b hm hb hk;have hlen:k<ops.toList.length:=by
   obtain ⟨tl,h1,h2⟩:=zhr ops.toList [];rw [h1] at hm;have:=(zy8.1 hm).1
   simpa [h2] using this
  obtain ⟨o,ho,hmo⟩:=zlf ops.toList [] k hlen;simp only [List.length_nil,zy26] at hmo;rw [hm] at hmo;cases hmo;have ho':ops[k]?=some o:=by simpa using ho
  obtain ⟨e,he,hbd,h⟩:=zhq hb;have hel:=hk o ho' e (by simpa using he) hbd;rcases h with rfl | ⟨m',hm',hb'⟩
  . exact hel
  . rw [zy14] at hm'
    split at hm'
    . rename_i hlt
      refine ih e.on hlt m' b hm' hb' fun o' ho''=>hcl e.on o' ho'' ?_
      have:e.on<listed.size:=by
       rcases zy39 e.on listed.size with h' | h'
       . exact h'
       . simp [Array.getElem?_eq_none h'] at hel
      rw [zy20] at hel ⊢;rw [zy33 this] at hel ⊢;exact hel
    . cases hm'
theorem zhf {ops:Array Oper} {o:Oper} {l:Lab} {m:Nat}:∀ {xs:List Oper} {ls:List Lab} {k:Nat},zkj ops o l m k xs ls=true->∀ (i:Nat) x lx,xs[i]?=some x->ls[i]?=some lx->m.testBit (k+i)=true\/Ind ops (x,lx) (o,l)
 | [],ls,k,h,i,x,lx,hx,hl=>by simp at hx
 | y::xs,[],k,h,i,x,lx,hx,hl=>by simp at hl
 | y::xs,ly::ls,k,h,i,x,lx,hx,hl=>by
  simp only [zkj,zy1,zy69] at h;obtain ⟨h1,h2⟩:=h;cases i with
  | zero =>
   simp at hx hl;subst hx;subst hl;rcases h1 with h1 | ⟨⟨h1,h3⟩,h4⟩
   . exact .inl h1
   . exact .inr ⟨h1,h3,h4⟩
  | succ i =>
   have:=zhf h2 i x lx zz5 zz3;rw [show k+1+i=k+(i+1) by omega] at this;exact this
theorem ziu {ops:Array Oper} {labs:List Lab} {ms:List Nat}:∀ {os:List Oper} {ls:List Lab} {k:Nat},indep ops labs ms k os ls=true->∀ (i:Nat) o l,os[i]?=some o->ls[i]?=some l->zkj ops o l ((nth ms (k+i)).getD 0) 0 (ops.toList.take (k+i)) (labs.take (k+i))=true
 | [],ls,k,h,i,x,lx,hx,hl=>by simp at hx
 | y::os,[],k,h,i,x,lx,hx,hl=>by simp at hl
 | y::os,ly::ls,k,h,i,o,l,hx,hl=>by
  simp only [indep,zy1] at h;cases i with
  | zero=>simp at hx hl;subst hx;subst hl;exact h.1
  | succ i =>
   have:=ziu h.2 i o l zz5 zz3;rw [show k+1+i=k+(i+1) by omega] at this;exact this
theorem zgl:∀ {os:List Oper} {k:Nat},zdk k os=true->∀ (i:Nat) o,os[i]?=some o->∀ e∈o.after,Region.binds .any e=true->e.on<k+i
 | [],k,h,i,o,ho,e,he,hb=>by simp at ho
 | y::os,k,h,i,o,ho,e,he,hb=>by
  simp only [zdk,zy1] at h;cases i with
  | zero =>
   simp at ho;subst ho;have:=zy19.1 h.1 e (by simpa using he);simp only [hb,Bool.not_true,Bool.false_or] at this;exact zy2 this
  | succ i =>
   have:=zgl h.2 i o zz11 e he hb;omega
def zlp:Nat->List Oper->List Lab->List (Nat×Oper×Lab)
 | k,o::os,l::ls=>(k,o,l)::zlp (k+1) os ls
 | _,_,_=>[]
theorem zkb:∀ (k:Nat) (os:List Oper) (ls:List Lab),(zlp k os ls).map (·.2)=os.zip ls
 | _,[],_=>by simp [zlp]
 | _,_::_,[]=>by simp [zlp]
 | k,o::os,l::ls=>by simp [zlp,zkb (k+1) os ls]
theorem zgy:∀ {k:Nat} {os:List Oper} {ls:List Lab} {i:Nat} {o:Oper} {l:Lab},(i,o,l)∈zlp k os ls->k<=i/\os[i-k]?=some o/\ls[i-k]?=some l
 | _,[],_,_,_,_,h=>by simp [zlp] at h
 | _,_::_,[],_,_,_,h=>by simp [zlp] at h
 | k,o'::os,l'::ls,i,o,l,h=>by
  simp only [zlp,zy7] at h;rcases h with h | h
  . cases h;simp
  . obtain ⟨h1,h2,h3⟩:=zgy h
    obtain ⟨j,rfl⟩:∃ j,i=k+1+j:=⟨i-(k+1),by omega⟩
    rw [show k+1+j-(k+1)=j by omega] at h2 h3;rw [show k+1+j-k=j+1 by omega];exact ⟨by omega,by simpa using h2,by simpa using h3⟩
theorem zof:∀ {k:Nat} {os:List Oper} {ls:List Lab} {i:Nat},ls.length=os.length->i<os.length->k+i∈(zlp k os ls).map (·.1)
 | _,[],_,_,_,h=>by simp at h
 | _,_::_,[],_,h,_=>by simp at h
 | k,o::os,l::ls,i,hl,h=>by
  simp only [zlp,zy13,zy7];cases i with
  | zero=>exact .inl rfl
  | succ i =>
   right
   have:=zof (k:=k+1) (os:=os) (ls:=ls) (i:=i) zz3 zz21;rw [show k+1+i=k+(i+1) by omega] at this;exact this
theorem zhy:∀ (k:Nat) (os:List Oper) (ls:List Lab),(zlp k os ls).Pairwise (fun x y=>x.1<y.1)
 | _,[],_=>by simp [zlp]
 | _,_::_,[]=>by simp [zlp]
 | k,o::os,l::ls=>by
  simp only [zlp,List.pairwise_cons];refine ⟨fun y hy=>?_,zhy (k+1) os ls⟩;obtain ⟨i,o',l'⟩:=y;have:=(zgy hy).1;simp only;omega
structure zwk (ops:Array Oper) (labs:List Lab) (listed:Array Bool) (L:List (Nat×Oper×Lab)):Prop where
 mem:∀ i o l,(i,o,l)∈L->ops[i]?=some o/\labs[i]?=some l
 has:∀ j,listed.getD j true=false↔j∈L.map (·.1)
 sorted:L.Pairwise (fun x y=>x.1<y.1)
 closed:∀ k o,ops[k]?=some o->listed.getD k true=true->∀ e∈o.after,Region.binds .any e=true->listed.getD e.on false=true
 size:listed.size=ops.size
theorem zqa {listed:Array Bool} {k:Nat} (hk:k<listed.size):listed.getD k false=listed.getD k true:=by
 rw [zy20,zy20,zy33 hk];rfl
def Mem (ops:Array Oper) (labs:List Lab) (o:Oper) (l:Lab):Prop:=∃ i:Nat,ops[i]?=some o/\labs[i]?=some l
def zwh {ops:Array Oper} {labs:List Lab} (z:ztq P C ops (Mem ops labs)):Prop:=∀ (j i:Nat) xo xl o l,j<i->ops[j]?=some xo->labs[j]?=some xl->ops[i]?=some o->labs[i]?=some l ->
 Nat.testBit ((nth (zft ops.toList []) i).getD 0) j=true\/zwg z (xo,xl) (o,l)
theorem zvj (hC:zdc P C) (hL:zcc C) {ops:Array Oper} {labs:List Lab} {Q:Exit->Act->World->Prop} {sEnd:HS} (hup:zdk 0 ops.toList=true) (z:ztq P C ops (Mem ops labs)) (hmay:zwh z)
 (hQ:∀ m a w,zei Γ P m sEnd a w->Q .normal a w):∀ (fuel:Nat) (listed:Array Bool) (L:List (Nat×Oper×Lab)) (s:HS) (m:zbk) (a:Act) (w:World),zwk ops labs listed L->L.length<=fuel ->
  Ev P C ops.toList (L.map (·.2)) s sEnd->z.Z s->zei Γ P m s a w->wpAny P .any ops Q fuel listed a w:=by
 have none_ready:∀ {listed:Array Bool} {L:List (Nat×Oper×Lab)},zwk ops labs listed L->Region.ready .any ops listed=[]->L=[]:=by
  intro listed L hp hr;cases L with
  | nil=>rfl
  | cons x L =>
   exfalso;obtain ⟨i,o,l⟩:=x;obtain ⟨ho,-⟩:=hp.mem i o l zz0;have hun:listed.getD i true=false:=(hp.has i).2 zz0;have:i∈Region.ready .any ops listed:=by
    refine mem_ready.2 ⟨hun,o,ho,fun e he hb=>?_⟩;have hlt:=zgl hup i o zz11 e he hb;have hi:i<ops.size:=(zy22.1 ho).1;rw [zqa (by rw [hp.size];omega)];cases hf:listed.getD e.on true with
    | true=>rfl
    | false =>
     exfalso;have hm:=(hp.has e.on).1 hf;simp only [zy13,zy7] at hm;rcases hm with hm | hm
     . omega
     . obtain ⟨⟨j,o',l'⟩,hj,hje⟩:=zy4.1 hm
       have:=(List.pairwise_cons.1 hp.sorted).1 _ hj;simp only at hje this;omega
   rw [hr] at this;simp at this
 intro fuel
 induction fuel with
 | zero =>
  intro listed L s m a w hp hf hev _ hc;have zrp:L=[]:=zy5 zz1;subst zrp;cases hev;refine ⟨?_,hQ m a w hc⟩;cases hr:Region.ready .any ops listed with
  | nil=>rfl
  | cons j r =>
   exfalso;have hj:j∈Region.ready .any ops listed:=by rw [hr];simp
   have:=(hp.has j).1 (mem_ready.1 hj).1;simp at this
 | succ fuel ih =>
  intro listed L s m a w hp hf hev hz hc;refine ⟨fun hr=>?_,fun i hi=>?_⟩
  . have zrp:=none_ready hp hr
    subst zrp;cases hev;exact hQ m a w hc
  . obtain ⟨hun,o,ho,hedge⟩:=mem_ready.1 hi
    obtain ⟨⟨i',o',l⟩,hmem,rfl⟩:=zy4.1 ((hp.has i).1 hun);simp only at hun ho hi hedge;obtain ⟨pre,post,rfl⟩:=List.append_of_mem hmem;obtain ⟨ho2,hl⟩:=hp.mem i' o' l hmem;rw [ho2] at ho;cases ho;have hsp:=List.pairwise_append.1 hp.sorted;have hsc:=List.pairwise_cons.1 hsp.2.1;have hlen:i'<ops.size:=(zy22.1 ho2).1;have hpre:∀ x∈pre.map (·.2),zwg z x (o,l):=by
     intro x hx;obtain ⟨⟨j,xo,xl⟩,hj,rfl⟩:=zy4.1 hx;have hlt:j<i':=hsp.2.2 _ hj (i',o,l) zz0;obtain ⟨hjo,hjl⟩:=hp.mem j xo xl (by simp [hj]);have h2:=hmay j i' xo xl o l hlt hjo hjl ho2 hl;rcases h2 with h2 | h2
     . exfalso
       simp only [zci] at h2;cases hm:(zft ops.toList [])[i']? with
       | none=>rw [hm] at h2;simp at h2
       | some mk =>
        rw [hm] at h2;have:=zmy hp.closed i' mk j hm (by simpa using h2) fun o'' ho''=>by rw [ho2] at ho'';cases ho'';exact hedge
        have hjs:j<listed.size:=by rw [hp.size];omega
        rw [zqa hjs] at this;have h3:listed.getD j true=false:=(hp.has j).2 (by simp;exact .inl ⟨_,_,hj⟩);rw [this] at h3;cases h3
     . exact h2
    have mo:Mem ops labs o l:=⟨i',ho2,hl⟩
    have hmp:∀ x∈pre.map (·.2),Mem ops labs x.1 x.2:=by
     intro x hx;obtain ⟨⟨j,xo,xl⟩,hj,rfl⟩:=zy4.1 hx;exact ⟨j,hp.mem j xo xl (by simp [hj])⟩
    have hev':=zno hL z (e:=(o,l)) mo (pre:=pre.map (·.2)) (post:=post.map (·.2)) (by simpa using hev) hz hmp hpre;cases hev' with
    | cons hstep hrest =>
     have hz':=z.keep mo hstep hz;have hp':zwk ops labs (listed.setIfInBounds i' true) (pre++post):=by
      refine ⟨fun j x xl hj=>hp.mem j x xl ?_,fun j=>?_,?_,fun k x hk hkl e he hb=>?_,by simp [hp.size]⟩
      . rcases zy6.1 hj with hj | hj<;>simp [hj]
      . by_cases hj:j=i'
        . subst hj
          have h1:(listed.setIfInBounds j true).getD j true=true:=by simp [hp.size,hlen]
          rw [h1];simp only [Bool.true_eq_false,false_iff,zy54,zy6,not_or]
          constructor
          . intro h
            obtain ⟨⟨j',xo,xl⟩,hj',he⟩:=zy4.1 h;have:=hsp.2.2 _ hj' (j,o,l) zz0;simp only at he this;omega
          . intro h
            obtain ⟨⟨j',xo,xl⟩,hj',he⟩:=zy4.1 h;have:=hsc.1 _ hj';simp only at he this;omega
        . rw [getD_set_ne true (Ne.symm hj),hp.has j]
          simp [hj]
      . exact List.pairwise_append.2 ⟨hsp.1,hsc.2,fun x hx y hy=>hsp.2.2 x hx y zz16⟩
      . apply getD_set_true
        by_cases hki:k=i'
        . subst hki
          rw [ho2] at hk;cases hk;exact hedge e he hb
        . rw [getD_set_ne true (Ne.symm hki)] at hkl
          exact hp.closed k x hk hkl e he hb
     unfold wpOp;rw [ho2];simp only;have hs:=zux (Γ:=Γ) hC hc hstep (K:=wpAny P .any ops Q fuel (listed.setIfInBounds i' true)) (Q:=Q) fun m' a' w' hc' =>
      ih _ (pre++post) _ m' a' w' hp' (by simp at hf ⊢;omega) (by simpa using hrest) hz' hc'
     split at hs
     . rename_i hw;rw [zy12 hw];exact .inl hs
     . rename_i hw;rw [zy10 hw];exact hs
def zlq (P:Program) (C:zai) (ops:Array Oper) (M:Oper->Lab->Prop):ztq P C ops M:=⟨fun _=>True,fun _ _=>False,fun _ _ _=>trivial,fun _ h=>h.elim,fun _ h=>h.elim⟩
theorem zrb {ops:Array Oper} {labs:List Lab} (hall:zeb ops labs=true):zwh (zlq P C ops (Mem ops labs)):=by
 simp only [zeb,zy1] at hall;obtain ⟨⟨-,-⟩,hind⟩:=hall;intro j i xo xl o l hlt hjo hjl ho hl;have h1:=ziu hind i o l zz11 hl;simp only [zy26] at h1;have h2:=zhf h1 j xo xl (by rw [zy14];simp [hlt,hjo]) (by rw [zy14];simp [hlt,hjl]);rw [zy26] at h2;exact h2.imp id .inl
theorem ztf {ops:Array Oper} {labs:List Lab} (hall:zeb ops labs=true):zdk 0 ops.toList=true:=by
 simp only [zeb,zy1] at hall;exact hall.1.2
theorem zif {id:Nat} {b:zaa}:∀ {us:List (Nat×zaa)},b∈zpp id us↔(id,b)∈us
 | []=>by simp [zpp]
 | (i,c)::r=>by
  simp only [zpp];by_cases h:i=id
  . subst h;simp [zif (us:=r)]
  . have:Nat.beq i id=false:=by
     cases hb:Nat.beq i id with
     | false=>rfl
     | true=>exact (h (zy0 hb)).elim
    rw [this];simp only [cond_false,zy7,Prod.mk.injEq];rw [zif (us:=r)]
    constructor
    . exact .inr
    . rintro (⟨rfl,_⟩ | h2)
      . exact (h rfl).elim
      . exact h2
theorem zuz (us:List (Nat×zaa)):∀ (H:Nat->zaa) (id:Nat),zba H us id=H id\/(id,zba H us id)∈us:=by
 induction us with
 | nil=>intro H id;exact .inl rfl
 | cons e r ih =>
  obtain ⟨i,b⟩:=e;intro H id;simp only [zba];rcases ih (upd H i b) id with h | h
  . by_cases hi:id=i
    . subst hi
      right
      rw [h,zaf];simp
    . left;rw [h,zah _ _ hi]
  . exact .inr (by simp [h])
theorem zgf {id:Nat} {b:zaa}:∀ {labs:List Lab} {r:Res} {ids:List Nat},some (r,ids)∈labs->(id,b)∈r.ups->b∈zfj id labs
 | [],_,_,h,_=>by cases h
 | none::ls,r,ids,h,hb=>by
  simp only [zfj];rcases zy7.1 h with h | h
  . cases h
  . exact zgf h hb
 | some (q,k)::ls,r,ids,h,hb=>by
  simp only [zfj,zy6];rcases zy7.1 h with h | h
  . cases h;exact .inl (zif.2 hb)
  . exact .inr (zgf h hb)
theorem zjf {a:Nat}:∀ {os:List Oper} {ls:List Lab} {i:Nat} {o:Oper} {r:Res} {ids:List Nat},os[i]?=some o->ls[i]?=some (some (r,ids))->o.dst=some a->r.val∈zdj a os ls
 | [],ls,i,o,r,ids,ho,_,_=>by simp at ho
 | _::os,[],i,o,r,ids,_,hl,_=>by simp at hl
 | x::os,l::ls,i,o,r,ids,ho,hl,hd=>by
  cases i with
  | zero =>
   simp at ho hl;subst ho;subst hl;simp only [zdj,isDst,hd,Nat.beq_refl,cond_true];exact List.mem_cons_self ..
  | succ i =>
   have ih:=zjf (os:=os) (ls:=ls) (i:=i) zz11 zz3 hd;cases l with
   | none=>simpa only [zdj] using ih
   | some q =>
    simp only [zdj];cases isDst a x.dst
    . exact ih
    . exact List.mem_cons_of_mem _ ih
theorem zcj {α:Type} {p:α->Prop}:∀ {l:List α} {x:α},zrt p l->x∈l->p x
 | y::l,x,h,hx=>by
  rcases zy7.1 hx with rfl | hx
  . exact h.1
  . exact zcj h.2 hx
theorem zum {K:Res->Prop} {t:TypeId} {x:Operand} {d:Nat} {ev:Operand->HV} {H:Nat->zaa} (h:zat P C (.load t x) d ev H K):(∃ id,placeOf (ev x)=some id/\zqe P t (ev x) (H id) K)\/∃ cs,ev x=.rp cs:=by
 simp only [zat] at h;cases hx:ev x with
 | ptr i o=>rw [hx] at h;exact .inl ⟨i,rfl,h⟩
 | eptr i n j o=>rw [hx] at h;exact .inl ⟨i,rfl,h⟩
 | rp cs=>exact .inr ⟨cs,rfl⟩
 | _=>rw [hx] at h;obtain ⟨d,u,i,z,ht,h⟩:=zbf h;exact h.elim
theorem zun {K:Res->Prop} {t:TypeId} {x:Operand} {d:Nat} {ev:Operand->HV} {H:Nat->zaa} {id:Nat} (hp:placeOf (ev x)=some id) (h:zqe P t (ev x) (H id) K):zat P C (.load t x) d ev H K:=by
 simp only [zat];cases hx:ev x with
 | ptr i o=>rw [hx] at h hp;cases hp;exact h
 | eptr i n j o=>rw [hx] at h hp;cases hp;exact h
 | _=>rw [hx] at hp;cases hp
theorem zss {K:Res->Prop} {c:Call} {a d:Nat} {ev ev':Operand->HV} {H H':Nat->zaa} (hc:c.callee=.builtin .len) (ha:c.args.toList=[.tmp a]) (h:zat P C (.call c) d ev H K) (hx:ev' (.tmp a)=ev (.tmp a))
 (hs:∀ id,ev (.tmp a)=.own id->zsg (H' id) id K) (hn:(∃ id,ev (.tmp a)=.own id)\/ev (.tmp a)=.any\/ev (.tmp a)=.und):zat P C (.call c) d ev' H' K:=by
 simp only [zat,hc,ha] at h ⊢;cases hat:c.argTypes.toList with
 | nil=>simp only [hat] at h
 | cons t r=>cases r with
  | cons _ _=>simp only [hat] at h
  | nil =>
   simp only [hat] at h ⊢;unfold tyK at h ⊢;cases htd:zwd P t with
   | none=>rw [htd] at h;exact h.elim
   | some td =>
    rw [htd] at h;simp only at h ⊢;cases hk:td.k with
    | str=>rw [hk] at h;simp only at h;rcases hn with ⟨id,e⟩ | e | e<;>rw [e] at h<;>exact h.elim
    | slice e' =>
     simp only [hk] at h ⊢;rw [hx];rcases hn with ⟨id,e⟩ | e | e
     . rw [e];exact hs id e
     . rw [e] at h;exact h.elim
     . rw [e] at h;exact h.elim
    | _=>rw [hk] at h;exact h.elim
theorem zly {s0:HS} {all:List Oper} {labs:List Lab} {j:Nat} (h:zlx P s0 all labs j):∃ o r ids,nth all j=some o/\nth labs j=some (some (r,ids))/\r.ups=[] /\
 ((∃ t a,o.op=.load t (.tmp a)/\zok P s0 all labs t a r)\/∃ c a,o.op=.call c/\c.callee=.builtin .len/\c.args.toList=[.tmp a]/\zvv s0 all labs a r):=by
 have hu:∀ r:Res,(match r.ups with | []=>True | _=>False)->r.ups=[]:=fun r h=>by
  cases hr:r.ups with
  | nil=>rfl
  | cons x y=>rw [hr] at h;exact h.elim
 unfold zlx at h;split at h
 . rename_i o ho
   split at h
   . rename_i t a hop
     split at h
     . rename_i r ids hl
       exact ⟨o,r,ids,ho,hl,hu r h.1,.inl ⟨t,a,hop,h.2⟩⟩
     . exact h.elim
   . rename_i c hop
     split at h
     . rename_i hc
       split at h
       . rename_i a ha
         split at h
         . rename_i r ids hl
           exact ⟨o,r,ids,ho,hl,hu r h.1,.inr ⟨c,a,hop,hc,ha,h.2⟩⟩
         . exact h.elim
       . exact h.elim
     . exact h.elim
   . exact h.elim
 . exact h.elim
def ztp (s0:HS) (ops:Array Oper) (labs:List Lab) (s:HS):Prop :=
 (∀ a,s.slot a=.und\/s.slot a∈s0.slot a::zdj a ops.toList labs)/\∀ id,s.heap id∈s0.heap id::zfj id labs
theorem zlc (s0:HS) (ops:Array Oper) (labs:List Lab):ztp s0 ops labs s0:=⟨fun _=>.inr (List.mem_cons_self ..),fun _=>List.mem_cons_self ..⟩
def znn (P:Program) (C:zai) (s0:HS) (ops:Array Oper) (labs:List Lab):ztq P C ops (Mem ops labs) where
 Z:=ztp s0 ops labs
 S:=fun o l=>∃ i,ops[i]?=some o/\labs[i]?=some l/\zlx P s0 ops.toList labs i
 keep:=by
  rintro o l s s' ⟨i,ho,hl⟩ h ⟨h1,h2⟩;obtain ⟨-,-,-,rfl⟩:=zdo.1 h;refine ⟨fun a=>?_,fun id=>?_⟩
  . by_cases hd:o.dst=some a
    . have e:(s.app o.dst (zfr l)).slot a=(zfr l).val:=by rw [hd];exact zaf _ _ _
      rw [e];cases l with
      | none=>exact .inl rfl
      | some q =>
       obtain ⟨r,ids⟩:=q;exact .inr (List.mem_cons_of_mem _ (zjf zz11 hl hd))
    . rw [zjj hd];exact h1 a
  . rw [zeu]
    rcases zuz (zfr l).ups s.heap id with e | e
    . rw [e];exact h2 id
    . cases l with
      | none=>simp [zfr] at e
      | some q =>
       obtain ⟨r,ids⟩:=q;exact List.mem_cons_of_mem _ (zgf (zy23 hl) e)
 same:=by
  rintro o l s s' t - ⟨i,ho,hl,hs⟩ ⟨z1,z2⟩ ⟨y1,y2⟩ h hn hw he;rw [zdo] at h ⊢;obtain ⟨h1,h2,h3,-⟩:=h;refine ⟨fun d hd=>by rw [hn];exact h1 d hd,by rw [hw];exact h2,fun r ids hr=>?_,rfl⟩;subst hr;obtain ⟨h4,h5⟩:=h3 r ids rfl;refine ⟨?_,by rw [zhw he];exact h5⟩;have ho':nth ops.toList i=some o:=by rw [zci];simpa using ho
  have hl':nth labs i=some (some (r,ids)):=by rw [zci];exact hl
  obtain ⟨o2,r2,ids2,e1,e2,-,hs⟩:=zly hs;rw [ho'] at e1;cases e1;rw [hl'] at e2;cases e2;rcases hs with ⟨ty,a,hop,hs⟩ | ⟨c,a,hop,hc,ha,hs⟩
  . rw [hop] at h4 he ⊢
    have hea:t.slot a=s.slot a:=he (.tmp a) (by simp [Op.operands]);have hv:evalOp s.slot (.tmp a)=s.slot a:=rfl;have hvt:evalOp t.slot (.tmp a)=s.slot a:=hea;have hmem:=z1 a;rcases zum h4 with ⟨id,hp,hld⟩ | ⟨cs,hcs⟩
    . rw [hv] at hp
      have hin:s.slot a∈s0.slot a::zdj a ops.toList labs:=hmem.resolve_left fun e=>by rw [e] at hp;cases hp
      have hst:=zcj hs hin;simp only [hp] at hst;have:=zcj hst (y2 id);exact zun (id:=id) (by rw [hvt];exact hp) (by rw [hvt];exact this)
    . rw [hv] at hcs
      have hin:s.slot a∈s0.slot a::zdj a ops.toList labs:=hmem.resolve_left fun e=>by rw [e] at hcs;cases hcs
      have hst:=zcj hs hin;rw [hcs] at hst;exact hst.elim
  . rw [hop] at h4 he ⊢
    have hea:evalOp t.slot (.tmp a)=evalOp s.slot (.tmp a):=he (.tmp a) (by
     have:Operand.tmp a∈c.args.toList:=by rw [ha];exact zy45.2 rfl
     simp [Op.operands,Call.operands] at this ⊢
     first | exact this | exact .inr this | exact .inl this)
    have hv:evalOp s.slot (.tmp a)=s.slot a:=rfl;refine zss hc ha h4 hea (fun id e=>?_) ?_
    . rw [hv] at e
      have hin:s.slot a∈s0.slot a::zdj a ops.toList labs:=(z1 a).resolve_left fun e2=>by rw [e2] at e;cases e
      have hst:=zcj hs hin;rw [e] at hst;have hst2:zrt (fun b=>zsg b id (·=_)) (s0.heap id::zfj id labs):=hst;exact (zcj (p:=fun b=>zsg b id (·=_)) hst2 (y2 id):_)
    . rw [hv]
      rcases z1 a with e | hin
      . exact .inr (.inr e)
      . have hst:=zcj hs hin
        cases hx:s.slot a with
        | own id=>exact .inl ⟨id,rfl⟩
        | any=>exact .inr (.inl rfl)
        | _=>rw [hx] at hst;exact hst.elim
 quiet:=by
  rintro o l - ⟨i,ho,hl,hs⟩;have hl':nth labs i=some l:=by rw [zci];exact hl
  obtain ⟨o2,r,ids,-,e2,hu,-⟩:=zly hs;rw [hl'] at e2;cases e2;exact hu
theorem zgh {ex:List Nat} {q:Nat} {ops:Array Oper} {o:Oper} {l:Lab} {m:Nat}:∀ {xs:List Oper} {ls:List Lab} {k:Nat},zhe ex q ops o l m k xs ls=true->∀ (i:Nat) x lx,xs[i]?=some x->ls[i]?=some lx->m.testBit (k+i)=true\/Ind ops (x,lx) (o,l)\/(x.apart ops o=true/\(k+i∈ex\/q∈ex))
 | [],ls,k,h,i,x,lx,hx,hl=>by simp at hx
 | y::xs,[],k,h,i,x,lx,hx,hl=>by simp at hl
 | y::xs,ly::ls,k,h,i,x,lx,hx,hl=>by
  simp only [zhe,zy1,zy69] at h;obtain ⟨h1,h2⟩:=h;cases i with
  | zero =>
   simp at hx hl;subst hx;subst hl;rcases h1 with h1 | ⟨h1,(h3 | h3) | h3⟩
   . exact .inl h1
   . obtain ⟨z,hz,e⟩:=zy50.1 h3
     have:=zy0 e;subst this;exact .inr (.inr ⟨h1,.inl hz⟩)
   . obtain ⟨z,hz,e⟩:=zy50.1 h3
     have:=zy0 e;subst this;exact .inr (.inr ⟨h1,.inr hz⟩)
   . exact .inr (.inl ⟨h1,h3.1,h3.2⟩)
  | succ i =>
   have:=zgh h2 i x lx zz5 zz3;rw [show k+1+i=k+(i+1) by omega] at this;exact this
theorem zho {ex:List Nat} {ops:Array Oper} {labs:List Lab} {ms:List Nat}:∀ {os:List Oper} {ls:List Lab} {k:Nat},zoa ex ops labs ms k os ls=true->∀ (i:Nat) o l,os[i]?=some o->ls[i]?=some l->zhe ex (k+i) ops o l ((nth ms (k+i)).getD 0) 0 (ops.toList.take (k+i)) (labs.take (k+i))=true
 | [],ls,k,h,i,x,lx,hx,hl=>by simp at hx
 | y::os,[],k,h,i,x,lx,hx,hl=>by simp at hl
 | y::os,ly::ls,k,h,i,o,l,hx,hl=>by
  simp only [zoa,zy1] at h;cases i with
  | zero=>simp at hx hl;subst hx;subst hl;exact h.1
  | succ i =>
   have:=zho h.2 i o l zz5 zz3;rw [show k+1+i=k+(i+1) by omega] at this;exact this
theorem zrz {s0:HS} {ex:List Nat} {ops:Array Oper} {labs:List Lab} (hall:zdx ex ops labs=true) (hst:zrt (zlx P s0 ops.toList labs) ex):zwh (znn P C s0 ops labs):=by
 simp only [zdx,zy1] at hall;obtain ⟨-,hind⟩:=hall;intro j i xo xl o l hlt hjo hjl ho hl;have h1:=zho hind i o l zz11 hl;simp only [zy26] at h1;have h2:=zgh h1 j xo xl (by rw [zy14];simp [hlt,hjo]) (by rw [zy14];simp [hlt,hjl]);rw [zy26] at h2;rcases h2 with h2 | h2 | ⟨h2,h3⟩
 . exact .inl h2
 . exact .inr (.inl h2)
 . refine .inr (.inr ⟨h2,?_⟩)
   rcases h3 with h3 | h3
   . exact .inl ⟨j,hjo,hjl,zcj hst h3⟩
   . exact .inr ⟨i,ho,hl,zcj hst h3⟩
theorem zub {ex:List Nat} {ops:Array Oper} {labs:List Lab} (hall:zdx ex ops labs=true):zdk 0 ops.toList=true:=by
 simp only [zdx,zy1] at hall;exact hall.1
end
end Go.HL
namespace Go.HL
section
variable {Γ:Ctx} {P:Program} {C:zai}
section
variable {m m':zbk} {σ:Ren} {w:World} {R R':Nat->Prop}
theorem zcn.sub (hR:∀ b,R b->R' b) {x:PV} {v:Value} (h:zcn w R x v):zcn w R' x v:=h.mono fun b hb=>⟨rfl,hR b hb⟩
mutual
theorem zrg (hm:∀ i j,σ i=some (some j)->m' i=m j) (hn:∀ i,σ i=some none->m' i=some ⟨0,0,0,true⟩) (hR:∀ b,R b->R' b) :
 (x:HV)->(v:Value)->zed σ x=true->zad m w R (rn σ x) v->zad m' w R' x v
 | .p x,v,_,h=>by simp only [rn,zad] at h ⊢;exact h.sub hR
 | .ptr i o,v,ho,h=>by
  exact yy3
 | .eptr i n k o,v,ho,h=>by
  exact yy3
 | .rp c,v,_,h=>by
  exact yy17
 | .own i,v,ho,h=>by
  simp only [zed] at ho;split at ho
  . rename_i o hj
    cases o with
    | some j =>
     simp only [rn,hj,zad] at h ⊢;obtain ⟨l,h1,h2⟩:=h;exact ⟨l,by rw [hm i j hj];exact h1,h2⟩
    | none =>
     simp only [rn,hj,zad] at h ⊢;cases h;exact ⟨_,hn i hj,rfl⟩
  . cases ho
 | .osl i n o len,v,ho,h=>by
  simp only [zed] at ho;split at ho
  . rename_i j hj
    simp only [rn,hj,zad] at h ⊢;obtain ⟨l,a,h1,h2⟩:=h;exact ⟨l,a,by rw [hm i j hj];exact h1,h2⟩
  . cases ho
 | .mp i,v,ho,h=>by
  exact yy3
 | .agg l,v,ho,h=>by
  exact yy5
 | .tup l,v,ho,h=>by
  exact yy5
 | .clo f l,v,ho,h=>by
  exact yy5
 | .und,v,_,h=>by simp only [rn,zad] at h ⊢;exact h
 | .any,v,_,h=>by simp only [zad]
theorem zeq (hm:∀ i j,σ i=some (some j)->m' i=m j) (hn:∀ i,σ i=some none->m' i=some ⟨0,0,0,true⟩) (hR:∀ b,R b->R' b) :
 (x:List HV)->(v:List Value)->zfe σ x=true->zae m w R (rnL σ x) v->zae m' w R' x v
 | [],v,_,h=>by simp only [rnL,zae] at h ⊢;exact h
 | x::xs,v,ho,h=>by
  simp only [zfe,zy1] at ho;simp only [rnL,zae] at h ⊢;obtain ⟨a,r,h1,h2,h3⟩:=h;exact ⟨a,r,h1,zrg hm hn hR x a ho.1 h2,zeq hm hn hR xs r ho.2 h3⟩
end
theorem zgc:∀ (l:List HV),(rnL σ l).length=l.length
 | []=>rfl
 | x::l=>by simp only [rnL,zy42,zgc l]
theorem zhz (hm:∀ i j,σ i=some (some j)->m' i=m j) (hn:∀ i,σ i=some none->m' i=some ⟨0,0,0,true⟩) (hR:∀ b,R b->R' b) {l:Loc} {b:zcv}
 (ho:zgd σ b=true) (h:zej m w R l (rnB σ b)):zej m' w R' l b:=by
 cases b with
 | cells t cs =>
  obtain ⟨h1,arr,h2,h3⟩:=h;rw [zgc] at h1;exact ⟨h1,arr,h2,zeq hm hn hR _ _ ho h3⟩
 | map kc agg es =>
  obtain ⟨h1,arr,c,h2,h3,h4⟩:=h;exact ⟨h1,arr,c,h2,h3.mono fun b hb=>⟨rfl,hR b hb⟩,h4⟩
 | iter kc agg left cur =>
  obtain ⟨h1,bm,arr,c,seen,h2,h3⟩:=h;exact ⟨h1,bm,arr,c,seen,h2,h3.mono fun b hb=>⟨rfl,hR b hb⟩⟩
 | row t n rows =>
  exact yy11
 | buf t n rows c =>
  exact yy20
end
def zcg (σ:Ren) (m:zbk):zbk:=fun i=>match σ i with
 | none=>none
 | some none=>some ⟨0,0,0,true⟩
 | some (some j)=>m j
theorem zwe.conc {m:zbk} {s t:HS} {a:Act} {w:World} (hc:zei Γ P m s a w) (h:zwe s t):∃ m',zei Γ P m' t a w:=by
 obtain ⟨hn,hpp,σ,hs,hh,hi,hpin⟩:=h;have hm:∀ i j,σ i=some (some j)->zcg σ m i=m j:=fun i j hj=>by simp only [zcg,hj]
 have hnn:∀ i,σ i=some none->zcg σ m i=some ⟨0,0,0,true⟩:=fun i hj=>by simp only [zcg,hj]
 have zrp:zej (zcg σ m) w (RR Γ (zcg σ m) t.heap w) ⟨0,0,0,true⟩=fun b=>zej (zcg σ m) w (RR Γ (zcg σ m) t.heap w) ⟨0,0,0,true⟩ b:=rfl
 have hlive:∀ id b,t.heap id=.live b->zgd σ b=true/\((∃ j,σ id=some (some j)/\s.heap j=.live (rnB σ b))\/(σ id=some none/\zvw b)):=fun id b hb=>by
  have:=hh id;rw [hb] at this;exact this
 have hown:∀ b,zet (zcg σ m) t.heap b->zet m s.heap b:=by
  rintro b ⟨id,l,blk,h1,h2,h3,h4⟩;obtain ⟨-,⟨j,hj,hsj⟩ | ⟨hj,-⟩⟩:=hlive id blk h1
  . rw [hm id j hj] at h2
    exact ⟨j,l,_,hsj,h2,h3,h4⟩
  . rw [hnn id hj] at h2;cases h2;cases h3
 have hR:∀ b,RR Γ m s.heap w b->RR Γ (zcg σ m) t.heap w b:=fun b hb=>⟨hb.1,hb.2.1,fun ho=>hb.2.2 (hown b ho)⟩
 have hok:=hc.heap;refine ⟨zcg σ m,⟨hok.size,hok.os,hok.tape,hok.output,hok.frame,?_,?_,?_,?_,hok.dom⟩,?_,by rw [hc.size,hn],hc.defers,fun id l hp hl=>?_⟩
 . intro id hf
   have:=hh id;rw [hf] at this;simp only at this;simp only [zcg,this]
 . intro id b hb
   obtain ⟨hob,⟨j,hj,hsj⟩ | ⟨hj,hnb⟩⟩:=hlive id b hb
   . obtain ⟨l,h1,h2,h3⟩:=hok.live j _ hsj
     exact ⟨l,by rw [hm id j hj];exact h1,zhz hm hnn hR hob h2,h3⟩
   . refine ⟨_,hnn id hj,?_,fun h=>by cases h⟩
     cases b with
     | cells=>exact hnb.elim
     | map=>exact hnb.elim
     | iter=>exact hnb.elim
     | buf=>exact hnb.elim
     | row ty n rows =>
      simp only [zvw] at hnb;subst hnb;exact ⟨rfl,by simp,.inl ⟨rfl,rfl⟩⟩
 . intro id b hb
   have:=hh id;rw [hb] at this;obtain ⟨hob,j,hj,hsj⟩:=this;rcases hsj with hsj | hsj
   . obtain ⟨l,h1,h2,h3⟩:=hok.live j _ hsj
     refine ⟨l,by rw [hm id j hj];exact h1,zhz hm hnn hR hob h2,fun hl=>?_⟩;obtain ⟨h4,h5⟩:=h3 hl;refine ⟨?_,h5,?_⟩
     . rcases h4 with h4 | h4
       . exact .inl (hok.dom _ h4)
       . exact .inr h4
     . rintro ⟨id',l',blk,h6,h7,h8,h9⟩
       obtain ⟨-,⟨j',hj',hsj'⟩ | ⟨hj',-⟩⟩:=hlive id' blk h6
       . rw [hm id' j' hj'] at h7
         have:=hok.inj j j' _ _ l l' hsj hsj' h1 h7 hl h8 h9.symm;subst this;have:=hi id' id blk j h6 (by rw [hb];exact zaa.noConfusion) hj' hj;subst this;rw [hb] at h6;cases h6
       . rw [hnn id' hj'] at h7;cases h7;cases h8
   . obtain ⟨l,h1,h2,h3⟩:=hok.ro j _ hsj
     exact ⟨l,by rw [hm id j hj];exact h1,zhz hm hnn hR hob h2,fun hl=>hR _ (h3 hl)⟩
 . intro id id' b b' l l' h1 h2 h3 h4 h5 h6 h7
   obtain ⟨-,⟨j,hj,hsj⟩ | ⟨hj,-⟩⟩:=hlive id b h1
   . obtain ⟨-,⟨j',hj',hsj'⟩ | ⟨hj',-⟩⟩:=hlive id' b' h2
     . rw [hm id j hj] at h3
       rw [hm id' j' hj'] at h4;have:=hok.inj j j' _ _ l l' hsj hsj' h3 h4 h5 h6 h7;subst this;exact hi id id' b j h1 (by rw [h2];exact zaa.noConfusion) hj hj'
     . rw [hnn id' hj'] at h4;cases h4;cases h6
   . rw [hnn id hj] at h3;cases h3;cases h5
 . intro i
   rcases hs i with h1 | ⟨h1,h2⟩
   . rw [h1];simp only [zad]
   . refine zrg hm hnn hR _ _ h1 ?_
     rw [h2];exact hc.slots i
 . obtain ⟨hmp,hml⟩:=hc.pin id l hp hl
   exact ⟨by rw [hpp];exact hmp,by rw [hm id id (hpin id hmp)];exact hml⟩
section
variable {m:zbk} {w:World} {R R':Nat->Prop}
theorem zoe {l:Loc} {t:TypeId} {n:Nat} {rows:List (List PV)} (hb:zej m w R l (.row t n rows)) (hR:l.nil=false->R l.blk):zcn w R (.sl n rows) (hdr l):=by
 obtain ⟨h1,h2,h3⟩:=hb;rcases h3 with ⟨hn,h4⟩ | ⟨hn,h4,h5,arr,h6,h7,h8⟩
 . subst h4;rw [show hdr l=.slice none 0 0 by simp [hdr,hn]];exact .sl0 _ _ _ (by simp [maxLen])
 . rw [show hdr l=.slice (some ⟨l.blk,0,none⟩) rows.length l.cap by simp [hdr,hn,h1]]
   refine .sl n rows l.blk 0 l.cap (fun k=>(arr[k]?).getD undef) h4 h5 h2 (hR hn) (fun k x hk=>?_) (fun k x hk=>?_)
   . obtain ⟨cv,h9,_⟩:=h8 k x hk
     rw [zy26,cell_of_row w l.blk k arr t (0,0) h6,h9];rfl
   . obtain ⟨cv,h9,h10⟩:=h8 k x hk
     rw [h9];exact h10
mutual
theorem zts {fz:List Nat} {H:Nat->zaa} (hR:∀ b,R b->R' b)
 (hf:∀ id t n rows,id∈fz->(H id=.live (.row t n rows)\/H id=.ro (.row t n rows))->∃ l,m id=some l/\zej m w R l (.row t n rows)/\(l.nil=false->R' l.blk)) :
 (x:HV)->(v:Value)->zad m w R x v->zad m w R' (fzV fz H x) v
 | .own id,v,h=>by
  have hold:zad m w R' (.own id) v:=by simp only [zad] at h ⊢;exact h
  simp only [zad] at h;obtain ⟨l,h1,rfl⟩:=h;simp only [fzV];cases hm:fz.any (Nat.beq id) with
  | false=>exact hold
  | true =>
   have hin:id∈fz:=by
    obtain ⟨y,hy,he⟩:=zy50.1 hm;rw [zy0 he];exact hy
   have key:∀ t n rows,(H id=.live (.row t n rows)\/H id=.ro (.row t n rows))->zad m w R' (.p (.sl n rows)) (hdr l):=by
    intro t n rows hb;obtain ⟨l',h2,h3,h4⟩:=hf id t n rows hin hb;rw [h1] at h2;cases h2;simp only [zad];refine zoe (t:=t) (h3.mono (fun _ _ h=>h) (fun b hb=>⟨rfl,hR b hb⟩) fun _=>rfl) h4
   simp only [cond_true];split
   . rename_i hb;exact key _ _ _ (.inl hb)
   . rename_i hb;exact key _ _ _ (.inr hb)
   . exact hold
 | .agg l,v,h=>by
  simp only [fzV,zad] at h ⊢;obtain ⟨arr,h1,h2⟩:=h;exact ⟨arr,h1,zjp hR hf l _ h2⟩
 | .tup l,v,h=>by
  simp only [fzV,zad] at h ⊢;obtain ⟨arr,h1,h2⟩:=h;exact ⟨arr,h1,zjp hR hf l _ h2⟩
 | .p x,v,h=>zad.mono (fun _ _ h=>h) (fun b hb=>⟨rfl,hR b hb⟩) (.p x) v h
 | .ptr i o,v,h=>zad.mono (fun _ _ h=>h) (fun b hb=>⟨rfl,hR b hb⟩) (.ptr i o) v h
 | .eptr i n k o,v,h=>zad.mono (fun _ _ h=>h) (fun b hb=>⟨rfl,hR b hb⟩) (.eptr i n k o) v h
 | .rp c,v,h=>zad.mono (fun _ _ h=>h) (fun b hb=>⟨rfl,hR b hb⟩) (.rp c) v h
 | .osl i n o l,v,h=>zad.mono (fun _ _ h=>h) (fun b hb=>⟨rfl,hR b hb⟩) (.osl i n o l) v h
 | .mp i,v,h=>zad.mono (fun _ _ h=>h) (fun b hb=>⟨rfl,hR b hb⟩) (.mp i) v h
 | .clo f c,v,h=>zad.mono (fun _ _ h=>h) (fun b hb=>⟨rfl,hR b hb⟩) (.clo f c) v h
 | .und,v,h=>zad.mono (fun _ _ h=>h) (fun b hb=>⟨rfl,hR b hb⟩) .und v h
 | .any,v,h=>zad.mono (fun _ _ h=>h) (fun b hb=>⟨rfl,hR b hb⟩) .any v h
theorem zjp {fz:List Nat} {H:Nat->zaa} (hR:∀ b,R b->R' b)
 (hf:∀ id t n rows,id∈fz->(H id=.live (.row t n rows)\/H id=.ro (.row t n rows))->∃ l,m id=some l/\zej m w R l (.row t n rows)/\(l.nil=false->R' l.blk)) :
 (x:List HV)->(v:List Value)->zae m w R x v->zae m w R' (fzL fz H x) v
 | [],v,h=>by simp only [fzL,zae] at h ⊢;exact h
 | x::xs,v,h=>by
  simp only [fzL,zae] at h ⊢;obtain ⟨a,r,h1,h2,h3⟩:=h;exact ⟨a,r,h1,zts hR hf x a h2,zjp hR hf xs r h3⟩
end
theorem zio {fz:List Nat} {H:Nat->zaa}:∀ (l:List HV),(fzL fz H l).length=l.length
 | []=>rfl
 | x::l=>by simp only [fzL,zy42,zio l]
end
mutual
theorem zpz {H:Nat->zaa}:(x:HV)->fzV [] H x=x
 | .own id=>rfl
 | .agg l=>by simp only [fzV,zjo l]
 | .tup l=>by simp only [fzV,zjo l]
 | .p x=>rfl
 | .ptr i o=>rfl
 | .eptr i n k o=>rfl
 | .rp c=>rfl
 | .osl i n o l=>rfl
 | .mp i=>rfl
 | .clo f c=>rfl
 | .und=>rfl
 | .any=>rfl
theorem zjo {H:Nat->zaa}:(x:List HV)->fzL [] H x=x
 | []=>rfl
 | x::r=>by simp only [fzL,zpz x,zjo r]
end
theorem zud (s:HS):fzS [] s=s:=by
 have h1:(fun i=>fzV [] s.heap (s.slot i))=s.slot:=funext fun i=>zpz _
 have h2:fzH [] s.heap=s.heap:=by
  funext id
  unfold fzH;split<;>rename_i h<;>rw [h]<;>first | rfl | (rw [zjo])
 unfold fzS;rw [h1,h2]
theorem zgt {fz:List Nat} {H:Nat->zaa} {id:Nat} {b:zcv} (h:fzH fz H id=.live b):∃ c,H id=.live c:=by
 unfold fzH at h;split at h<;>first | (rename_i h1;exact ⟨_,h1⟩) | cases h
theorem zei.fz {m:zbk} {s:HS} {a:Act} {w:World} (fz:List Nat) (hc:zei Γ P m s a w):zei Γ P m (fzS fz s) a w:=by
 have hok:=hc.heap;have hown:∀ b,zet m (fzH fz s.heap) b->zet m s.heap b:=by
  rintro b ⟨id,l,blk,h1,h2,h3,h4⟩;obtain ⟨c,hcc⟩:=zgt h1;exact ⟨id,l,c,hcc,h2,h3,h4⟩
 have hR:∀ b,RR Γ m s.heap w b->RR Γ m (fzH fz s.heap) w b:=fun b hb=>⟨hb.1,hb.2.1,fun ho=>hb.2.2 (hown b ho)⟩
 have hfz:∀ id t n rows l,id∈fz->s.heap id=.live (.row t n rows)->m id=some l->l.nil=false->RR Γ m (fzH fz s.heap) w l.blk:=by
  intro id t n rows l hi hb hm hl;obtain ⟨l',h1,h2,h3⟩:=hok.live id _ hb;rw [hm] at h1;cases h1;obtain ⟨h4,h5⟩:=h3 hl;refine ⟨?_,h5,?_⟩
  . rcases h4 with h4 | h4
    . exact .inl (hok.dom _ h4)
    . exact .inr h4
  . rintro ⟨id',l',blk,h6,h7,h8,h9⟩
    obtain ⟨c,hcc⟩:=zgt h6;have:=hok.inj id id' _ _ l l' hb hcc hm h7 hl h8 h9.symm;subst this;unfold fzH at h6;rw [hb] at h6;have hin:fz.any (Nat.beq id)=true:=zy50.2 ⟨id,hi,Nat.beq_refl id⟩;simp only [hin,cond_true] at h6;cases h6
 have hf:∀ id t n rows,id∈fz->(s.heap id=.live (.row t n rows)\/s.heap id=.ro (.row t n rows))->∃ l,m id=some l/\zej m w (RR Γ m s.heap w) l (.row t n rows)/\(l.nil=false->RR Γ m (fzH fz s.heap) w l.blk):=by
  intro id t n rows hi hb;rcases hb with hb | hb
  . obtain ⟨l,h1,h2,h3⟩:=hok.live id _ hb
    exact ⟨l,h1,h2,fun hl=>hfz id t n rows l hi hb h1 hl⟩
  . obtain ⟨l,h1,h2,h3⟩:=hok.ro id _ hb
    exact ⟨l,h1,h2,fun hl=>hR _ (h3 hl)⟩
 have hB:∀ l b,zej m w (RR Γ m s.heap w) l b->zej m w (RR Γ m (fzH fz s.heap) w) l b:=fun l b h=>h.mono (fun _ _ h=>h) (fun b hb=>⟨rfl,hR b hb⟩) fun _=>rfl
 refine ⟨⟨hok.size,hok.os,hok.tape,hok.output,hok.frame,?_,?_,?_,?_,hok.dom⟩,fun t=>zts hR hf _ _ (hc.slots t),hc.size,hc.defers,hc.pin⟩
 . intro id h
   refine hok.free id ?_;have h:fzH fz s.heap id=.free:=h;unfold fzH at h;split at h<;>first | assumption | cases h | skip
   rename_i t n rows hb;cases hx:fz.any (Nat.beq id)<;>simp only [hx,cond_true,cond_false] at h<;>cases h
 . intro id b h
   have h:fzH fz s.heap id=.live b:=h;unfold fzH at h;split at h
   . cases h
   . cases h
   . cases h
   . rename_i t n rows hb
     cases hx:fz.any (Nat.beq id)<;>simp only [hx,cond_true,cond_false] at h<;>cases h
     obtain ⟨l,h1,h2,h3⟩:=hok.live id _ hb;exact ⟨l,h1,hB _ _ h2,h3⟩
   . rename_i t cs hb
     cases h;obtain ⟨l,h1,h2,h3⟩:=hok.live id _ hb;obtain ⟨h4,arr,h5,h6⟩:=h2;exact ⟨l,h1,⟨by rw [zio];exact h4,arr,h5,zjp hR hf _ _ h6⟩,h3⟩
   . rename_i hb
     exact yy18
   . rename_i hb
     exact yy18
   . rename_i hb
     exact yy18
 . intro id b h
   have h:fzH fz s.heap id=.ro b:=h;unfold fzH at h;split at h
   . cases h
   . cases h
   . rename_i hb
     cases h;obtain ⟨l,h1,h2,h3⟩:=hok.ro id _ hb;exact ⟨l,h1,hB _ _ h2,fun hl=>hR _ (h3 hl)⟩
   . rename_i t n rows hb
     cases hx:fz.any (Nat.beq id)<;>simp only [hx,cond_true,cond_false] at h<;>cases h
     have hin:id∈fz:=by
      obtain ⟨y,hy,he⟩:=zy50.1 hx;rw [zy0 he];exact hy
     obtain ⟨l,h1,h2,h3⟩:=hok.live id _ hb;exact ⟨l,h1,hB _ _ h2,fun hl=>hfz id t n rows l hin hb h1 hl⟩
   . cases h
   . cases h
   . cases h
   . cases h
 . intro id id' b b' l l' h1 h2
   obtain ⟨c,hc1⟩:=zgt h1;obtain ⟨c',hc2⟩:=zgt h2;exact hok.inj id id' c c' l l' hc1 hc2
theorem HLe.conc {m:zbk} {s t:HS} {a:Act} {w:World} (hc:zei Γ P m s a w) (h:HLe s t):∃ m',zei Γ P m' t a w:=by
 obtain ⟨fz,h⟩:=h;exact h.conc (hc.fz fz)
theorem zei.drew {m:zbk} {s:HS} {a:Act} {w:World} (hc:zei Γ P m s a w):zei Γ P m s a {w with drawn:=w.drawn+1} :=
 ⟨hc.heap.drew,fun t=>(WS.drew hc.heap).rep (hc.slots t),hc.size,hc.defers,hc.pin⟩
theorem least {p:Nat->Prop} (h:∃ n,p n):∃ n,p n/\∀ k,p k->n<=k:=by
 obtain ⟨n,hn⟩:=h
 induction n using Nat.strongRecOn with
 | ind n ih =>
  by_cases hk:∃ k,k<n/\p k
  . obtain ⟨k,h1,h2⟩:=hk;exact ih k h1 h2
  . exact ⟨n,hn,fun k hp=>Nat.le_of_not_lt fun hlt=>hk ⟨k,hlt,hp⟩⟩
theorem zpq {c:Code} {Q:Exit->Act->World->Prop} {a:Act} {w:World} {β:Type} (J:β->Act->World->Prop) (μ:β->Nat) (x₀:β) (h₀:J x₀ a w)
 (round:∀ x a w,J x a w->c.wp P (Exit.then (fun a' w'=>∃ x',J x' a' w'/\μ x'<μ x) Q) a w):(Code.loop c).wp P Q a w:=by
 have hex:∀ a w,(∃ x,J x a w)->∃ n,(∃ x,J x a w/\μ x=n)/\∀ k,(∃ x,J x a w/\μ x=k)->n<=k:=fun a w ⟨x,hx⟩=>least ⟨μ x,x,hx,rfl⟩
 let ν:Act->World->Nat:=fun a w=>open Classical in if h:∃ x,J x a w then Classical.choose (hex a w h) else 0
 refine wp_loop (fun a w=>∃ x,J x a w) ν ⟨x₀,h₀⟩ fun a w hI=>?_
 have hν:∀ a w (h:∃ x,J x a w),(∃ x,J x a w/\μ x=ν a w)/\∀ k,(∃ x,J x a w/\μ x=k)->ν a w<=k:=by
  intro a w h;have:=Classical.choose_spec (hex a w h);simp only [ν,dif_pos h];exact this
 obtain ⟨⟨x,hx,hxe⟩,-⟩:=hν a w hI;refine wp_mono (round x a w hx) fun e a' w' he=>?_
 cases e<;>simp only [Exit.then] at he ⊢<;>try exact he
 obtain ⟨x',hx',hlt⟩:=he;refine ⟨⟨x',hx'⟩,?_⟩;have:=(hν a' w' ⟨x',hx'⟩).2 _ ⟨x',hx',rfl⟩;omega
def ztx:HX->Exit
 | .normal=>.normal
 | .exit i=>.exit i
 | .ret=>.ret
theorem zqn (hm:P.follows .mixedOrders=true) (hC:zdc P C) (hL:zcc C):∀ (c:Code) (s:HS) (Q:HX->HS->Prop) (Q':Exit->Act->World->Prop) (m:zbk) (a:Act) (w:World),
 hwp P C c s Q->zei Γ P m s a w->(∀ e s' m' a' w',Q e s'->zei Γ P m' s' a' w'->Q' (ztx e) a' w')->c.wp P Q' a w:=by
 intro c
 induction c with
 | skip=>intro s Q Q' m a w h hc hQ;exact wp_skip (hQ .normal s m a w h hc)
 | exit id=>intro s Q Q' m a w h hc hQ;exact wp_exit (hQ (.exit id) s m a w h hc)
 | ret=>intro s Q Q' m a w h hc hQ;exact wp_ret (hQ .ret s m a w h hc)
 | region id ops draw =>
  intro s Q Q' m a w h hc hQ;cases draw with
  | false =>
   replace h:zkf P C ops.toList ops.toList s [] (fun _ s=>Q .normal s):=h;exact wp_region_list (zhl hC ops.toList s [] _ m a w h hc fun labs s' m' a' w' hq hc'=>hQ .normal s' m' a' w' hq hc')
  | true =>
   replace h:(bif ops.toList.all fun o=>zih o.op then zkf P C ops.toList ops.toList s [] fun labs s'=>zuf P s ops labs.reverse (Q .normal s') else False):=h;have hdet:(ops.toList.all fun o=>zih o.op)=true:=by
    cases hb:(ops.toList.all fun o=>zih o.op) with
    | true=>rfl
    | false=>rw [hb] at h;exact h.elim
   rw [hdet] at h;simp only [cond_true] at h;obtain ⟨labs,sEnd,hl,hev,hall,hq⟩:=zfp ops.toList s [] _ (fun o ho=>zy19.1 hdet o ho) h;simp only [List.append_nil,List.reverse_reverse] at hall;obtain ⟨z,hup,hmay,hz⟩:∃ z:ztq P C ops (Mem ops labs),zdk 0 ops.toList=true/\zwh z/\z.Z s:=by
    rcases hall with hall | ⟨ex,hall,hst⟩
    . exact ⟨zlq P C ops _,ztf hall,zrb hall,trivial⟩
    . exact ⟨znn P C s ops labs,zub hall,zrz hall hst,zlc s ops labs⟩
   refine wp_region_any hm (zvj hC hL hup z hmay (fun m' a' w' hc'=>hQ .normal sEnd m' a' w' hq hc') ops.size _ (zlp 0 ops.toList labs) s m a _ ?_ ?_ (by rw [zkb];exact hev) hz hc.drew)
   . refine ⟨fun i o l hi=>?_,fun j=>?_,zhy _ _ _,fun k o ho hk=>?_,by simp⟩
     . obtain ⟨-,h1,h2⟩:=zgy hi
       exact ⟨by simpa using h1,by simpa using h2⟩
     . constructor
       . intro hj
         have hlt:j<ops.size:=by
          rcases zy39 j ops.size with h' | h'
          . exact h'
          . simp [h'] at hj
         have:=zof (k:=0) (os:=ops.toList) (ls:=labs) (i:=j) hl (by simpa using hlt)
         simpa using this
       . intro hj
         obtain ⟨⟨i,o,l⟩,hi,rfl⟩:=zy4.1 hj;obtain ⟨-,h1,-⟩:=zgy hi;have:i<ops.size:=by
          have:=(zy8.1 h1).1
          simpa using this
         simp [this]
     . exfalso
       have:k<ops.size:=(zy22.1 ho).1;simp [this] at hk
   . have:((zlp 0 ops.toList labs).map (·.2)).length=ops.size:=by rw [zkb];simp [hl]
     simp only [zy34] at this;omega
 | seq x y ihx ihy =>
  intro s Q Q' m a w h hc hQ;replace h:(bif zqo x then ztu (hwp P C x) (hwp P C y) else zvt (hwp P C x) (hwp P C y)) s Q:=h;have hseq:(hwp P C x) s (fun e s'=>match e with
   | .normal=>hwp P C y s' Q
   | .exit id=>Q (.exit id) s'
   | .ret=>Q .ret s')->(Code.seq x y).wp P Q' a w:=by
   intro h;refine wp_seq (ihx s _ _ m a w h hc fun e s' m' a' w' he hc'=>?_);cases e with
   | normal=>exact ihy s' Q Q' m' a' w' he hc' hQ
   | exit i=>exact hQ (.exit i) s' m' a' w' he hc'
   | ret=>exact hQ .ret s' m' a' w' he hc'
  cases hb:zqo x with
  | false =>
   rw [hb] at h;exact hseq h
  | true =>
   rw [hb] at h;cases h with
   | go h=>exact hseq h
   | meet α I h k =>
    refine wp_seq (ihx s _ _ m a w h hc fun e s' m' a' w' he hc'=>?_);cases e with
    | normal =>
     obtain ⟨x',hle⟩:=he;obtain ⟨m2,hc2⟩:=hle.conc hc';exact ihy (I x') Q Q' m2 a' w' (k x') hc2 hQ
    | exit i=>exact hQ (.exit i) s' m' a' w' he hc'
    | ret=>exact hQ .ret s' m' a' w' he hc'
 | cond x t e iht ihe =>
  intro s Q Q' m a w h hc hQ;replace h:zqm x (hwp P C t) (hwp P C e) s Q:=h;simp only [zqm] at h;split at h
  . rename_i b hb
    have hv:=hc.eval x;rw [hb] at hv;have hbv:=zck hv;rcases zcx h with ⟨rfl,h2⟩ | ⟨rfl,h2⟩
    . exact wp_cond_true hbv (iht s Q Q' m a w h2 hc hQ)
    . exact wp_cond_false hbv (ihe s Q Q' m a w h2 hc hQ)
  . exact h.elim
 | block id c ih =>
  intro s Q Q' m a w h hc hQ;replace h:zms id (hwp P C c) s Q:=h;simp only [zms] at h;refine wp_block (ih s _ _ m a w h hc fun e s' m' a' w' he hc'=>?_);cases e with
  | normal=>exact hQ .normal s' m' a' w' he hc'
  | exit i =>
   simp only [ztx,Exit.inBlock];simp only at he;cases hb:Nat.beq i id with
   | true =>
    rw [hb] at he;rw [zy12 (zy0 hb)];exact hQ .normal s' m' a' w' he hc'
   | false =>
    rw [hb] at he;rw [zy10 (fun e=>by subst e;simp at hb)];exact hQ (.exit i) s' m' a' w' he hc'
  | ret=>exact hQ .ret s' m' a' w' he hc'
 | loop c ih =>
  intro s Q Q' m a w h hc hQ;replace h:zvq (hwp P C c) s Q:=h;obtain ⟨α,I,μ,x₀,h0,hr⟩:=h;obtain ⟨m0,hc0⟩:=h0.conc hc;refine zpq (fun x a w=>∃ m,zei Γ P m (I x) a w) μ x₀ ⟨m0,hc0⟩ fun x a w ⟨m,hc⟩=>?_
  refine ih (I x) _ _ m a w (hr x) hc fun e s' m' a' w' he hc'=>?_
  cases e with
  | normal =>
   obtain ⟨x',hle,hlt⟩:=he;obtain ⟨m2,hc2⟩:=hle.conc hc';exact ⟨x',⟨m2,hc2⟩,hlt⟩
  | exit i=>exact hQ (.exit i) s' m' a' w' he hc'
  | ret=>exact hQ .ret s' m' a' w' he hc'
 | _=>intro s Q Q' m a w h;exact h.elim
end
end Go.HL
namespace Go.HL
mutual
def zbv (H:Nat->zaa):HV->(HV->List (Nat×zaa)->Prop)->Prop
 | .p x,K=>K (.p x) []
 | .rp c,K=>K (.rp c) []
 | .und,K=>K .und []
 | .any,K=>K .any []
 | .own id,K=>hpv H (.own id) fun v us=>K (.p v) us
 | .osl id n off len,K=>zap (H id) fun b=>match b with
  | .row t n' rows=>bif Nat.beq n n' then zkg rows off len fun rs=>K (.p (.sl n rs)) [(id,.ro (.row t n' rows))] else False
  | _=>False
 | .ptr id off,K=>zap (H id) fun b=>match b with
  | .cells t cs=>zmn H cs fun ps us=>K (.rp (ps.drop off)) ((id,.ro (.cells t cs))::us)
  | _=>False
 | .eptr id n i off,K=>zap (H id) fun b=>match b with
  | .row t n' rows=>bif Nat.beq n n' then zmp rows i fun r=>K (.rp (r.drop off)) [(id,.ro (.row t n' rows))] else False
  | _=>False
 | .mp _,_=>False
 | .agg l,K=>zdq H l fun l us=>K (.agg l) us
 | .tup l,K=>zdq H l fun l us=>K (.tup l) us
 | .clo f l,K=>zdq H l fun l us=>K (.clo f l) us
def zdq (H:Nat->zaa):List HV->(List HV->List (Nat×zaa)->Prop)->Prop
 | [],K=>K [] []
 | x::xs,K=>zbv H x fun y u=>zdq H xs fun ys us=>K (y::ys) (u++us)
end
def zqs (o:Option Nat):HV->HV
 | .p x=>.p (zli o x)
 | x=>x
def zhu:List (Option Nat)->List HV->List HV
 | _,[]=>[]
 | [],xs=>xs
 | o::os,x::xs=>zqs o x::zhu os xs
def zlh (P:Program) (t:TypeId) (x:HV):HV:=match x with
 | .p x=>match lay P t with
  | o::_=>.p (zli o x)
  | []=>.p x
 | .agg l=>.agg (zhu (lay P t) l)
 | x=>x
def normArgs (P:Program):List TypeId->List HV->List HV
 | _,[]=>[]
 | [],xs=>xs
 | t::ts,x::xs=>zlh P t x::normArgs P ts xs
def zhv (P:Program) (ts:List TypeId) (x:HV):HV:=match ts with
 | [t]=>zlh P t x
 | ts=>match x with
  | .tup l=>.tup (normArgs P ts l)
  | x=>x
def zte (P:Program) (f:FuncId):List TypeId:=match P.funcs[f]? with
 | some fn=>fn.params.toList
 | none=>[]
mutual
def zin:HV->(HV->Prop)->Prop
 | .p x,K=>match x with
  | .v a=>K (.p (.v a))
  | .sl n r=>K (.p (.sl n r))
 | .ptr i o,K=>K (.ptr i o)
 | .eptr i n j o,K=>K (.eptr i n j o)
 | .rp c,K=>K (.rp c)
 | .own i,K=>K (.own i)
 | .osl i n o l,K=>K (.osl i n o l)
 | .mp i,K=>K (.mp i)
 | .agg l,K=>zen l fun l=>K (.agg l)
 | .tup l,K=>zen l fun l=>K (.tup l)
 | .clo f l,K=>zen l fun l=>K (.clo f l)
 | .und,K=>K .und
 | .any,K=>K .any
def zen:List HV->(List HV->Prop)->Prop
 | [],K=>K []
 | x::xs,K=>zin x fun y=>zen xs fun ys=>K (y::ys)
end
mutual
theorem zko:(x:HV)->(K:HV->Prop)->zin x K=K x
 | .p x,K=>by cases x<;>rfl
 | .ptr i o,K=>rfl
 | .eptr i n j o,K=>rfl
 | .rp c,K=>rfl
 | .own i,K=>rfl
 | .osl i n o l,K=>rfl
 | .mp i,K=>rfl
 | .agg l,K=>by simp only [zin,zde l]
 | .tup l,K=>by simp only [zin,zde l]
 | .clo f l,K=>by simp only [zin,zde l]
 | .und,K=>rfl
 | .any,K=>rfl
theorem zde:(l:List HV)->(K:List HV->Prop)->zen l K=K l
 | [],K=>rfl
 | x::xs,K=>by simp only [zen,zko x,zde xs]
end
section
variable {P:Program} {m:zbk} {w:World} {R:Nat->Prop}
theorem zad.zqs (o:Option Nat) {x:HV} {v:Value} (h:zad m w R x v):zad m w R (zqs o x) v:=by
 cases x<;>try exact h
 simp only [zad,Go.HL.zqs] at h ⊢;exact h.norm o
theorem zae.zhu:∀ (os:List (Option Nat)) {xs:List HV} {vs:List Value},zae m w R xs vs->zae m w R (zhu os xs) vs
 | os,[],vs,h=>by cases os<;>exact h
 | [],x::xs,vs,h=>h
 | o::os,x::xs,vs,h=>by
  simp only [zae,Go.HL.zhu] at h ⊢;obtain ⟨v,r,h1,h2,h3⟩:=h;exact ⟨v,r,h1,h2.zqs o,zae.zhu os h3⟩
theorem zad.zlh (t:TypeId) {x:HV} {v:Value} (h:zad m w R x v):zad m w R (zlh P t x) v:=by
 cases x<;>try exact h
 . simp only [Go.HL.zlh]
   split
   . simp only [zad] at h ⊢
     exact h.norm _
   . exact h
 . simp only [Go.HL.zlh,zad] at h ⊢
   obtain ⟨arr,h1,h2⟩:=h;exact ⟨arr,h1,h2.zhu _⟩
theorem zae.normArgs:∀ (ts:List TypeId) {xs:List HV} {vs:List Value},zae m w R xs vs->zae m w R (normArgs P ts xs) vs
 | ts,[],vs,h=>by cases ts<;>exact h
 | [],x::xs,vs,h=>h
 | t::ts,x::xs,vs,h=>by
  simp only [zae,Go.HL.normArgs] at h ⊢;obtain ⟨v,r,h1,h2,h3⟩:=h;exact ⟨v,r,h1,h2.zlh t,zae.normArgs ts h3⟩
theorem zad.zhv (ts:List TypeId) {x:HV} {v:Value} (h:zad m w R x v):zad m w R (zhv P ts x) v:=by
 unfold Go.HL.zhv;split
 . exact h.zlh _
 . split
   . simp only [zad] at h ⊢
     obtain ⟨arr,h1,h2⟩:=h;exact ⟨arr,h1,h2.normArgs _⟩
   . exact h
end
section
variable {Γ:Ctx} {P:Program} {C:zai} {m:zbk} {H:Nat->zaa} {w:World} {R:Nat->Prop}
theorem ztc {l:Loc} {t:TypeId} {n off len c:Nat} {a:Option Addr} {rows:List (List PV)} (hb:zej m w R l (.row t n rows)) (hR:l.nil=false->R l.blk) (hle:off+len<=rows.length) (hc:len<=c) (hm:c<=maxLen)
 (ha:len≠0->l.nil=false/\a=some ⟨l.blk,off*n,none⟩):zcn w R (.sl n ((rows.drop off).take len)) (.slice a len c):=by
 have hlen:((rows.drop off).take len).length=len:=by simp;omega
 by_cases h0:len=0
 . subst h0;simp only [List.take_zero];exact .sl0 _ _ _ hm
 . obtain ⟨hn,rfl⟩:=ha h0
   have hlens:=hb.2.1;have zkg:∀ r∈(rows.drop off).take len,r.length=n:=fun r hr=>hlens r (zy47 (zy28 hr))
   have hcell:∀ k x,((rows.drop off).take len).flatten[k]?=some x->∃ cv,w.cell? ⟨l.blk,off*n+k,none⟩=some cv/\zcn w R x cv:=by
    intro k x hk;obtain ⟨i,j,r,e,hj,hr,hx⟩:=zbn zkg hk;have hr':rows[off+i]?=some r:=by
     rw [zy14] at hr;split at hr
     . rw [zy17] at hr;exact hr
     . cases hr
    obtain ⟨cv,h1,h2⟩:=zdh hb hn _ x (zaw hlens hr' hx);refine ⟨cv,?_,h2⟩;rw [<- h1];congr 2;subst e;rw [zy11];omega
   have h2:=zcn.sl (w:=w) (R:=R) n ((rows.drop off).take len) l.blk (off*n) c (fun k=>(w.cell? ⟨l.blk,off*n+k,none⟩).getD undef) zz1 hm zkg (hR hn)
    (fun k x hk=>by obtain ⟨cv,h1,_⟩:=hcell k x hk;simp only [h1];rfl) (fun k x hk=>by obtain ⟨cv,h1,h2⟩:=hcell k x hk;simp only [h1];exact h2)
   rw [hlen] at h2;exact h2
def Kept (m:zbk) (w:World) (R:Nat->Prop) (us:List (Nat×zaa)):Prop:=∀ e∈us,∃ b l,e.2=.ro b/\m e.1=some l/\zej m w R l b/\(l.nil=false->R l.blk)
theorem Kept.left {us vs:List (Nat×zaa)} (h:Kept m w R (us++vs)):Kept m w R us:=fun e he=>h e zz22
theorem Kept.right {us vs:List (Nat×zaa)} (h:Kept m w R (us++vs)):Kept m w R vs:=fun e he=>h e zz22
theorem zdt:Frz H []:=by intro e he;cases he
theorem zjn {id:Nat} {b:zcv} (hb:H id=.live b\/H id=.ro b):Frz H [(id,.ro b)]:=by
 intro e he;simp at he;subst he;exact ⟨b,hb,rfl⟩
theorem zep {id:Nat} {b:zcv} (hb:H id=.live b\/H id=.ro b) {H':Nat->zaa} (he:H' id=H id) {K:zcv->Prop} (hk:K b):zap (H' id) K:=by
 unfold zap;rw [he];rcases hb with hb | hb<;>rw [hb]<;>exact hk
theorem znw {x:HV} {K:PV->List (Nat×zaa)->Prop} (h:hpv H x K):∃ y us,K y us/\Frz H us/\(∀ m w R v,Kept m w R us->zad m w R x v->zcn w R y v) /\
 ∀ H',(∀ id∈us.map (·.1),H' id=H id)->∀ K':PV->List (Nat×zaa)->Prop,K' y us->hpv H' x K':=by
 unfold hpv at h;split at h
 . exact ⟨_,_,h,zdt,fun m w R v _ hx=>by simp only [zad] at hx;exact hx,fun H' _ K' hk=>hk⟩
 . rename_i id
   have key:∀ t n rows,(H id=.live (.row t n rows)\/H id=.ro (.row t n rows))->K (.sl n rows) [(id,.ro (.row t n rows))] ->
    ∃ y us,K y us/\Frz H us/\(∀ m w R v,Kept m w R us->zad m w R (.own id) v->zcn w R y v) /\
   ∀ H',(∀ id∈us.map (·.1),H' id=H id)->∀ K':PV->List (Nat×zaa)->Prop,K' y us->hpv H' (.own id) K':=by
    intro t n rows hb hK;refine ⟨_,_,hK,zjn hb,fun m w R v hk hx=>?_,fun H' he K' hk=>?_⟩
    . obtain ⟨b,l,h1,h2,h3,h4⟩:=hk _ (zy45.2 rfl)
      cases h1;simp only [zad] at hx;obtain ⟨l',h5,rfl⟩:=hx;simp only at h2;rw [h2] at h5;cases h5;exact zoe h3 h4
    . simp only [hpv]
      rw [he id (by simp)];rcases hb with hb | hb<;>rw [hb]<;>exact hk
   exact yy22
 . exact h.elim
theorem zkw:∀ {xs:List HV} {K:List PV->List (Nat×zaa)->Prop},zmn H xs K->∃ ys us,K ys us/\Frz H us/\(∀ m w R vs,Kept m w R us->zae m w R xs vs->zbg w R ys vs) /\
 ∀ H',(∀ id∈us.map (·.1),H' id=H id)->∀ K':List PV->List (Nat×zaa)->Prop,K' ys us->zmn H' xs K'
 | [],K,h=>⟨[],[],h,zdt,fun m w R vs _ hx=>by simp only [zae] at hx;subst hx;exact .nil,fun H' _ K' hk=>hk⟩
 | x::xs,K,h=>by
  simp only [zmn] at h;obtain ⟨y,u,h1,h2,h3,h3'⟩:=znw h;obtain ⟨ys,us,h4,h5,h6,h6'⟩:=zkw h1;refine ⟨_,_,h4,h2.append h5,fun m w R vs hk hx=>?_,fun H' he K' hk=>?_⟩
  . simp only [zae] at hx
    obtain ⟨v,r,rfl,h7,h8⟩:=hx;exact .cons (h3 m w R v hk.left h7) (h6 m w R r hk.right h8)
  . simp only [zmn]
    exact h3' H' (fun id hi=>he id zz12) _ (h6' H' (fun id hi=>he id zz8) _ hk)
abbrev zlg:Ren:=fun _=>none
structure View (H:Nat->zaa) (x y:HV) (us:List (Nat×zaa)):Prop where
 frz:Frz H us
 rep:∀ m w R v,Kept m w R us->zad m w R x v->zad m w R y v
 noid:zed zlg y=true
 loc:∀ H',(∀ id∈us.map (·.1),H' id=H id)->∀ K':HV->List (Nat×zaa)->Prop,K' y us->zbv H' x K'
structure zwl (H:Nat->zaa) (x y:List HV) (us:List (Nat×zaa)):Prop where
 frz:Frz H us
 rep:∀ m w R v,Kept m w R us->zae m w R x v->zae m w R y v
 noid:zfe zlg y=true
 loc:∀ H',(∀ id∈us.map (·.1),H' id=H id)->∀ K':List HV->List (Nat×zaa)->Prop,K' y us->zdq H' x K'
mutual
theorem zga:(x:HV)->{K:HV->List (Nat×zaa)->Prop}->zbv H x K->∃ y us,K y us/\View H x y us
 | .p x,K,h=>by simp only [zbv] at h;exact ⟨_,_,h,zdt,fun _ _ _ _ _ h=>h,rfl,fun H' _ K' hk=>by simp only [zbv];exact hk⟩
 | .rp x,K,h=>by simp only [zbv] at h;exact ⟨_,_,h,zdt,fun _ _ _ _ _ h=>h,rfl,fun H' _ K' hk=>by simp only [zbv];exact hk⟩
 | .und,K,h=>by simp only [zbv] at h;exact ⟨_,_,h,zdt,fun _ _ _ _ _ h=>h,rfl,fun H' _ K' hk=>by simp only [zbv];exact hk⟩
 | .any,K,h=>by simp only [zbv] at h;exact ⟨_,_,h,zdt,fun _ _ _ _ _ h=>h,rfl,fun H' _ K' hk=>by simp only [zbv];exact hk⟩
 | .own id,K,h=>by
  simp only [zbv] at h;obtain ⟨y,us,h1,h2,h3,h4⟩:=znw h;exact ⟨_,_,h1,h2,fun m w R v hk hx=>by simp only [zad];exact h3 m w R v hk hx,rfl,fun H' he K' hk=>by simp only [zbv];exact h4 H' he _ hk⟩
 | .osl id n off len,K,h=>by
  simp only [zbv] at h;obtain ⟨b,hb,h⟩:=zan h;split at h
  . rename_i t n' rows
    have h2:=zab h;clear h;obtain ⟨hnb,rs,hrs,hle,hk⟩:=h2;have hnn:=zy0 hnb;subst hnn;subst hrs;refine ⟨_,_,hk,zjn hb,fun m w R v hkp hx=>?_,rfl,fun H' he K' hk=>?_⟩
    . obtain ⟨b',l,h1,h2,h3,h4⟩:=hkp _ (zy45.2 rfl)
      cases h1;obtain ⟨l',a,c,h5,h6,h7,h8,rfl,h9⟩:=zfx hx;simp only [zad];simp only at h2;rw [h2] at h5;cases h5;exact ztc h3 h4 hle h7 h8 h9
    . simp only [zbv]
      refine zep hb (he id zz0) ?_;simp only [hnb,cond_true];exact ⟨_,rfl,hle,hk⟩
  . exact h.elim
 | .ptr id off,K,h=>by
  simp only [zbv] at h;obtain ⟨b,hb,h⟩:=zan h;split at h
  . rename_i t cs
    obtain ⟨ys,us,h1,h2,h3,h3'⟩:=zkw h;refine ⟨_,_,h1,(zjn hb).append h2,fun m w R v hkp hx=>?_,rfl,fun H' he K' hk=>?_⟩
    . obtain ⟨b',l,h4,h5,h6,h7⟩:=hkp (id,.ro (.cells t cs)) zz0
      cases h4;simp only [zad] at hx ⊢;obtain ⟨l',h8,h9,rfl⟩:=hx;simp only at h5;rw [h5] at h8;cases h8;obtain ⟨-,arr,h10,h11⟩:=h6;have hpl:=h3 m w R _ (fun e he=>hkp e zz22) h11;refine ⟨l.blk,off,rfl,fun _=>h7 h9,fun k x hk=>?_⟩;rw [zy17] at hk;obtain ⟨v,hv,hp⟩:=hpl.get _ _ hk;exact ⟨v,by rw [cell_of_row w l.blk _ arr t (0,0) h10];simpa using hv,hp⟩
    . simp only [zbv]
      exact zep hb (he id zz0) (h3' H' (fun i hi=>he i zz8) _ hk)
  . exact h.elim
 | .eptr id n i off,K,h=>by
  simp only [zbv] at h;obtain ⟨b,hb,h⟩:=zan h;split at h
  . rename_i t n' rows
    have h2:=zab h;clear h;obtain ⟨hnb,r,h0,hr,hk⟩:=h2;have hnn:=zy0 hnb;subst hnn;refine ⟨_,_,hk,zjn hb,fun m w R v hkp hx=>?_,rfl,fun H' he K' hk=>?_⟩
    . obtain ⟨b',l,h1,h2,h3,h4⟩:=hkp _ (zy45.2 rfl)
      cases h1;simp only [zad] at hx ⊢;obtain ⟨l',h5,h6,rfl⟩:=hx;simp only at h2;rw [h2] at h5;cases h5;refine ⟨l.blk,i*n+off,rfl,fun _=>h4 h6,fun k x hk=>?_⟩;rw [zy17] at hk;obtain ⟨cv,h7,h8⟩:=zdh h3 h6 _ x (zaw h3.2.1 zz19 hk);exact ⟨cv,by rw [<- h7];congr 2;omega,h8⟩
    . simp only [zbv]
      refine zep hb (he id zz0) ?_;simp only [hnb,cond_true];exact ⟨r,h0,hr,hk⟩
  . exact h.elim
 | .mp id,K,h=>by simp only [zbv] at h
 | .agg l,K,h=>by
  exact yy1
 | .tup l,K,h=>by
  exact yy1
 | .clo f l,K,h=>by
  exact yy1
theorem zbu:(xs:List HV)->{K:List HV->List (Nat×zaa)->Prop}->zdq H xs K->∃ ys us,K ys us/\zwl H xs ys us
 | [],K,h=>by simp only [zdq] at h;exact ⟨_,_,h,zdt,fun _ _ _ _ _ h=>h,rfl,fun H' _ K' hk=>by simp only [zdq];exact hk⟩
 | x::xs,K,h=>by
  simp only [zdq] at h;obtain ⟨y,u,h1,h2,h3,h3',h3''⟩:=zga x h;obtain ⟨ys,us,h4,h5,h6,h6',h6''⟩:=zbu xs h1;refine ⟨_,_,h4,h2.append h5,fun m w R vs hk hx=>?_,by simp only [zfe,h3',h6',Bool.and_self],fun H' he K' hk=>?_⟩
  . simp only [zae] at hx ⊢
    obtain ⟨v,r,rfl,h7,h8⟩:=hx;exact ⟨v,r,rfl,h3 m w R v hk.left h7,h6 m w R r hk.right h8⟩
  . simp only [zdq]
    exact h3'' H' (fun i hi=>he i zz12) _ (h6'' H' (fun i hi=>he i zz8) _ hk)
end
theorem zvm {us:List (Nat×zaa)} (hf:Frz H us) {e:Nat×zaa} (he:e∈us):zba H us e.1=e.2:=by
 induction us generalizing H with
 | nil=>cases he
 | cons q a ih =>
  obtain ⟨j,z⟩:=q;have hfu:=Frz.upd (e:=(j,z)) hf;by_cases hm:e∈a
  . exact ih hfu hm
  . rcases zy7.1 he with rfl | he
    . by_cases hj:∃ q∈a,q.1=j
      . obtain ⟨q,hq,hqj⟩:=hj
        obtain ⟨b,hb,hb2⟩:=hfu q hq;simp only at hb;rw [hqj,zaf] at hb;obtain ⟨c,_,hc⟩:=hf (j,z) zz0;simp only at hc;subst hc;have hbc:c=b:=by rcases hb with hb | hb<;>cases hb;rfl
        subst hbc;have gen:∀ {us:List (Nat×zaa)} {H:Nat->zaa},Frz H us->H j=.ro c->zba H us j=.ro c:=by
         intro us
         induction us with
         | nil=>intro H _ h;exact h
         | cons p us ih2 =>
          intro H hf h;obtain ⟨k,y⟩:=p;refine ih2 (H:=upd H k y) (Frz.upd (e:=(k,y)) hf) ?_;by_cases hk:j=k
          . subst hk
            obtain ⟨d,hd,hd2⟩:=hf (j,y) zz0;simp only at hd hd2;rw [h] at hd;rcases hd with hd | hd<;>cases hd
            rw [zaf];exact hd2
          . rw [zah _ _ hk];exact h
        exact gen (us:=a) (H:=upd H j (.ro c)) hfu (zaf _ _ _)
      . exact (zge (H:=upd H j z) (us:=a) fun q hq h=>hj ⟨q,hq,h⟩).trans (zaf _ _ _)
    . exact absurd he hm
theorem WS.kept {us:List (Nat×zaa)} (hf:Frz H us) (hok:zag Γ m (zba H us) w):Kept m w (RR Γ m (zba H us) w) us:=by
 intro e he;obtain ⟨b,_,hb⟩:=hf e he;obtain ⟨l,h1,h2,h3⟩:=hok.ro e.1 b (by rw [zvm hf he,hb]);exact ⟨b,l,hb,h1,h2,h3⟩
def zjd (tmps:Array Value):ResultVar->Sem Value
 | .tmp t=>pure (tmps.getD t undef)
 | .cell a t=>do loadVar t (<- asAddr (tmps.getD a undef))
theorem znx {s:HS} {a:Act} (hc:zei Γ P m s a w) {r:ResultVar} {K:HV->Prop} (h:zqj P s r K):∃ x v,K x/\zad m w (RR Γ m s.heap w) x v/\(zjd a.tmps r).run P w=.ok v w:=by
 cases r with
 | tmp t =>
  simp only [zqj,force_eq] at h;exact ⟨_,_,h,hc.slots t,by simp [zjd]⟩
 | cell x t =>
  simp only [zqj] at h;obtain ⟨td,u,i,z,ht,h⟩:=zbf h;split at h
  . rename_i id off hx
    have hrep:=hc.slots x;rw [hx] at hrep;simp only [zad] at hrep;obtain ⟨l,hl,hn,hv⟩:=hrep;obtain ⟨b,hb,h⟩:=zan h;obtain ⟨l',hl',hbr⟩:=hc.heap.blk hb;rw [hl] at hl';cases hl';split at h
    . rename_i t' cs
      obtain ⟨_,arr,harr,hrl⟩:=hbr;obtain ⟨y,us,hk,hus,huc,hrep⟩:=zfc hrl h;refine ⟨_,_,hk,hrep,?_⟩;have:=run_read (P:=P) ht (b:=l.blk) (o:=off) (cs:=us) (w:=w) (fun k v hkv=>by rw [cell_of_row w l.blk _ arr t' (0,0) harr];simpa using huc k v hkv) hus;simp only [Instr.loadAt,Instr.sureAddr] at this;simp only [zjd,hv,asAddr];exact this
    . exact h.elim
  . exact h.elim
theorem zny {s:HS} {a:Act} (hc:zei Γ P m s a w):∀ {rs:List ResultVar} {K:List HV->Prop},zsk P s rs K->∃ xs vs,K xs/\zae m w (RR Γ m s.heap w) xs vs/\xs.length=rs.length/\(rs.mapM (zjd a.tmps)).run P w=.ok vs w
 | [],K,h=>⟨[],[],h,by simp only [zae],rfl,by simp [Sem.run]⟩
 | r::rs,K,h=>by
  simp only [zsk] at h;obtain ⟨x,v,h1,h2,h3⟩:=znx hc h;obtain ⟨xs,vs,h4,h5,h6,h7⟩:=zny hc h1;refine ⟨_,v::vs,h4,by simp only [zae];exact ⟨v,vs,rfl,h2,h5⟩,by simp [h6],?_⟩;simp only [List.mapM_cons,Sem.run_bind,h3,Result.andThen_ok,h7,Sem.run_pure]
theorem zuj {s:HS} {a:Act} (hc:zei Γ P m s a w) {fn:Func} {K:HV->Prop} (h:zwi P s fn.results.toList K):∃ x v,K x/\zad m w (RR Γ m s.heap w) x v/\(results fn a.tmps).run P w=.ok v w:=by
 have hre:results fn a.tmps=(do
  let vs <- fn.results.mapM (zjd a.tmps)
  pure (if h:vs.size=1 then vs[0] else .tuple vs)):=by
  unfold results;congr 1
 have zbi:∀ {vs:List Value},(fn.results.toList.mapM (zjd a.tmps)).run P w=.ok vs w->(results fn a.tmps).run P w=.ok (if h:vs.toArray.size=1 then vs.toArray[0] else .tuple vs.toArray) w:=by
  intro vs hv;rw [hre,Array.mapM_eq_mapM_toList];simp only [Sem.run_bind,Sem.run_map,hv,Result.andThen_ok,Sem.run_pure]
 unfold zwi at h;split at h
 . rename_i r hr
   obtain ⟨x,v,h1,h2,h3⟩:=znx hc h;refine ⟨x,v,h1,h2,?_⟩;have:=zbi (vs:=[v]) (by rw [hr];simp only [List.mapM_cons,List.mapM_nil,Sem.run_bind,h3,Result.andThen_ok,Sem.run_pure])
   simpa using this
 . rename_i rs hn
   obtain ⟨xs,vs,h1,h2,h3,h4⟩:=zny hc h;refine ⟨_,.tuple vs.toArray,h1,by simp only [zad];exact ⟨_,rfl,by simpa using h2⟩,?_⟩;rw [zbi h4,dif_neg];have hl:=h2.length;intro h5;have h6:fn.results.toList.length=1:=by rw [<- h3,<- hl];simpa using h5
   match hr:fn.results.toList,h6 with
   | [r],_=>exact hn r hr
end
end Go.HL
namespace Go.HL
def zcu (P:Program) (f:FuncId) (args:List HV) (H:Nat->zaa) (r:HV) (H':Nat->zaa):Prop :=
 ∀ (Γ:Ctx) m w vals,zag Γ m H w->zae m w (RR Γ m H w) args vals->Γ.m0=m ->
  (callFunc f vals.toArray).run P w=.ok (.enter f vals.toArray) w /\
  Calls P f vals.toArray w fun e w'=>∃ v m',e=.returned v/\zag Γ m' H' w'/\zad m' w' (RR Γ m' H' w') r v/\∀ id l,pin<=id->m id=some l->m' id=some l
theorem zcu.args {P:Program} {f:FuncId} {args args':List HV} {H:Nat->zaa} {r:HV} {H':Nat->zaa} (hw:∀ (m:zbk) w R vals,zae m w R args vals->zae m w R args' vals) (h:zcu P f args' H r H'):zcu P f args H r H' :=
 fun Γ m w vals hok hx h0=>h Γ m w vals hok (hw _ _ _ _ hx) h0
abbrev zar:Nat->zaa:=fun _=>.free
mutual
def zme:HV->Bool
 | .p (.v _)=>true
 | .agg l=>zrj l
 | .tup l=>zrj l
 | .und=>true
 | _=>false
def zrj:List HV->Bool
 | []=>true
 | x::r=>zme x&&zrj r
end
def zfb (H:Nat->zaa):List Bool->List HV->(List HV->List (Nat×zaa)->Prop)->Prop
 | _,[],K=>K [] []
 | [],x::xs,K=>zfb H [] xs fun ys us=>K (x::ys) us
 | true::ms,x::xs,K=>zbv H x fun y u=>zfb H ms xs fun ys us=>K (y::ys) (u++us)
 | false::ms,x::xs,K=>zfb H ms xs fun ys us=>K (x::ys) us
def ren (L:List (Nat×Nat)):Ren:=lkN (L.map fun p=>(p.1,some p.2))
def rnS (σ:Ren):zaa->zaa
 | .live b=>.live (rnB σ b)
 | .ro b=>.ro (rnB σ b)
 | x=>x
def zwr (σ:Ren):zaa->Bool
 | .live b=>zgd σ b
 | .ro b=>zgd σ b
 | .dead=>true
 | .free=>false
structure zwv (P:Program) (f:FuncId) (args:List HV) (H:Nat->zaa) (r:Res) (args':List HV) (us:List (Nat×zaa)):Prop where
 view:zdq H args fun a u=>a=args'/\u=us
 spec:zcu P f args' zar r.val zar
 zme:zme r.val=true
 ups:r.ups=[]
 tch:r.tch=us.map (·.1)
structure zwu (P:Program) (f:FuncId) (args:List HV) (H:Nat->zaa) (r:Res) (us:List (Nat×zaa)) (ms:List Bool) (args1:List HV) (B F:List (Nat×Nat)) (args':List HV) (H':Nat->zaa) (r':HV) (H'':Nat->zaa):Prop where
 mix:zfb H ms args fun a u=>a=args1/\u=us
 spec:zcu P f args' H' r' H''
 argsOk:zfe (ren B) args'=true
 args:rnL (ren B) args'=args1
 dom:∀ i,H' i=.free\/∃ p∈B,p.1=i
 has:∀ p∈B,pin<=p.1/\∃ b,zgd (ren B) b=true/\((H' p.1=.live b/\zba H us p.2=.live (rnB (ren B) b))\/(H' p.1=.ro b/\zba H us p.2=.ro (rnB (ren B) b)))
 ndB:(B.map (·.1)).Nodup
 ndB2:(B.map (·.2)).Nodup
 new:∀ p∈F,p.1<pin/\H p.2=.free
 ndF:(F.map (·.1)).Nodup
 ndF2:(F.map (·.2)).Nodup
 after:∀ p∈B++F,zwr (ren (B++F)) (H'' p.1)=true
 valOk:zed (ren (B++F)) r'=true
 val:r.val=rn (ren (B++F)) r'
 ups:r.ups=us++(B++F).map fun p=>(p.2,rnS (ren (B++F)) (H'' p.1))
structure Ov (P:Program) (f:FuncId) (args:List HV) (H:Nat->zaa) (r:Res):Prop where
 out : ∃ fn e i x y i1 i2 b1 b2, P.funcs[f]? = some fn /\ fn.body = none /\ fn.name ≠ "runtime.NumGoroutine" /\ Extern.findNext fn = none /\
  Extern.find fn=some (Extern.SlicesOverlaps.overlaps fn.params fn.resultTypes)/\(∃ t,fn.params[0]?=some t/\P.underlying t=some (.slice e))/\P.info? e=some i/\0<i.size /\
  args=[x,y]/\(x=.own i1\/∃ n o l,x=.osl i1 n o l)/\(y=.own i2\/∃ n o l,y=.osl i2 n o l)/\i1≠i2/\H i1=.live b1/\H i2=.live b2/\((∀ t cs,b1≠.cells t cs)/\(∀ k a es,b1≠.map k a es)/\∀ k a es x,b1≠.iter k a es x)/\((∀ t cs,b2≠.cells t cs)/\(∀ k a es,b2≠.map k a es)/\∀ k a es x,b2≠.iter k a es x)/\r=⟨zbo false,[],[i1,i2]⟩
inductive CR (P:Program):zai
 | lend {f:FuncId} {args:List HV} {H:Nat->zaa} {d:Nat} {r:Res} {args':List HV} {us:List (Nat×zaa)} (h:zwv P f args H r args' us):CR P f args H d r
 | give {f:FuncId} {args:List HV} {H:Nat->zaa} {d:Nat} {r:Res} {us:List (Nat×zaa)} {ms:List Bool} {args1:List HV} {B F:List (Nat×Nat)} {args':List HV} {H':Nat->zaa} {r':HV} {H'':Nat->zaa}
  (h:zwu P f args H r us ms args1 B F args' H' r' H''):CR P f args H d r
 | ov {f:FuncId} {args:List HV} {H:Nat->zaa} {d:Nat} {r:Res} (h:Ov P f args H r):CR P f args H d r
structure zwm (H:Nat->zaa) (ms:List Bool) (x y:List HV) (us:List (Nat×zaa)):Prop where
 frz:Frz H us
 rep:∀ m w R v,Kept m w R us->zae m w R x v->zae m w R y v
 loc:∀ H',(∀ id∈us.map (·.1),H' id=H id)->∀ K':List HV->List (Nat×zaa)->Prop,K' y us->zfb H' ms x K'
section
variable {Γ:Ctx} {P:Program} {m:zbk} {H:Nat->zaa} {w:World} {R:Nat->Prop}
theorem zdg:∀ (ms:List Bool) (xs:List HV) {K:List HV->List (Nat×zaa)->Prop},zfb H ms xs K->∃ ys us,K ys us/\zwm H ms xs ys us
 | ms,[],K,h=>⟨[],[],by cases ms<;>simpa only [zfb] using h,zdt,fun _ _ _ _ _ h=>h,fun H' _ K' hk=>by cases ms<;>simpa only [zfb] using hk⟩
 | [],x::xs,K,h=>by
  simp only [zfb] at h;obtain ⟨ys,us,h4,h5,h6,h7⟩:=zdg [] xs h;exact yy13
 | false::ms,x::xs,K,h=>by
  simp only [zfb] at h;obtain ⟨ys,us,h4,h5,h6,h7⟩:=zdg ms xs h;exact yy13
 | true::ms,x::xs,K,h=>by
  simp only [zfb] at h;obtain ⟨y,u,h1,hv⟩:=zga x h;obtain ⟨ys,us,h4,h5,h6,h7⟩:=zdg ms xs h1;refine ⟨_,_,h4,hv.frz.append h5,fun m w R vs hk hx=>?_,fun H' he K' hk=>?_⟩
  . simp only [zae] at hx ⊢
    obtain ⟨v,r,rfl,h7,h8⟩:=hx;exact ⟨v,r,rfl,hv.rep m w R v hk.left h7,h6 m w R r hk.right h8⟩
  . simp only [zfb]
    exact hv.loc H' (fun i hi=>he i zz12) _ (h7 H' (fun i hi=>he i zz8) _ hk)
theorem zpo {H':Nat->zaa}:∀ {us:List (Nat×zaa)} {H:Nat->zaa} {i:Nat},(H' i=H i\/i∈us.map (·.1))->zba H' us i=zba H us i
 | [],H,i,h=>(h.resolve_right zz0:H' i=H i)
 | (j,b)::us,H,i,h=>by
  simp only [zba];have gen:∀ {us:List (Nat×zaa)} {A B:Nat->zaa} {i:Nat},(A i=B i\/i∈us.map (·.1))->zba A us i=zba B us i:=by
   intro us
   induction us with
   | nil=>intro A B i h;exact (h.resolve_right zz0:A i=B i)
   | cons p us ih =>
    intro A B i h;obtain ⟨k,c⟩:=p;refine ih (A:=upd A k c) (B:=upd B k c) ?_;by_cases hk:i=k
    . subst hk;left;rw [zaf,zaf]
    . rcases h with h | h
      . left;rw [zah _ _ hk,zah _ _ hk];exact h
      . simp only [zy13,zy7] at h
        rcases h with h | h
        . exact absurd h hk
        . exact .inr h
  refine gen ?_;by_cases hk:i=j
  . subst hk;left;rw [zaf,zaf]
  . rcases h with h | h
    . left;rw [zah _ _ hk,zah _ _ hk];exact h
    . simp only [zy13,zy7] at h
      rcases h with h | h
      . exact absurd h hk
      . exact .inr h
theorem zrq:zcc (CR P):=by
 intro f args H H' d r h _ hd hu;cases h with
 | lend h =>
  rename_i args' us;obtain ⟨h1,h2,h3,h4,h5⟩:=h;obtain ⟨a,u,⟨rfl,rfl⟩,hv⟩:=zbu _ h1;exact .lend ⟨hv.loc H' (fun i hi=>hu i (by rw [h5];simp only [zy6];exact .inl hi)) _ ⟨rfl,rfl⟩,h2,h3,h4,h5⟩
 | give h =>
  rename_i us ms args1 B F args' H1 r' H2;obtain ⟨a,u,⟨rfl,rfl⟩,hv⟩:=zdg _ _ h.mix;have hups:∀ i,i∈u.map (·.1)\/i∈(B++F).map (·.2)->H' i=H i:=by
   intro i hi;refine hu i ?_;rw [h.ups];simp only [zy54,zy6,List.map_map] at hi ⊢;rcases hi with hi | hi
   . exact .inr (.inl hi)
   . refine .inr (.inr ?_)
     rcases hi with hi | hi
     . exact .inl hi
     . exact .inr hi
  refine .give ⟨hv.loc H' (fun i hi=>hups i (.inl hi)) _ ⟨rfl,rfl⟩,h.spec,h.argsOk,h.args,h.dom,fun p hp=>?_,h.ndB,h.ndB2,fun p hp=>⟨(h.new p hp).1,?_⟩,h.ndF,h.ndF2,h.after,h.valOk,h.val,h.ups⟩
  . rw [zpo (H:=H) (.inl (hups p.2 (.inr (by simp;exact .inl ⟨_,hp⟩))))]
    exact h.has p hp
  . rw [hups p.2 (.inr (by simp;exact .inr ⟨_,hp⟩))]
    exact (h.new p hp).2
 | ov h =>
  obtain ⟨fn,e,i,x,y,i1,i2,b1,b2,h1,h2,h3,h4,h5,h6,h7,h8,h9,h10,h11,h12,h13,h14,h15,h16,rfl⟩:=h.out;exact .ov ⟨fn,e,i,x,y,i1,i2,b1,b2,h1,h2,h3,h4,h5,h6,h7,h8,h9,h10,h11,h12,(hu i1 zz0).trans h13,(hu i2 zz0).trans h14,h15,h16,rfl⟩
theorem zrd {L:List (Nat×Nat)} {i:Nat} {o:Option Nat} (h:ren L i=some o):∃ j,o=some j/\(i,j)∈L:=by
 unfold ren at h
 induction L with
 | nil=>cases h
 | cons p L ih =>
  obtain ⟨a,b⟩:=p;simp only [zy13,lkN] at h;cases hb:Nat.beq i a with
  | true =>
   rw [hb] at h;cases h;have:=zy0 hb;subst this;exact ⟨b,rfl,by simp⟩
  | false =>
   rw [hb] at h;obtain ⟨j,h1,h2⟩:=ih h;exact ⟨j,h1,by simp [h2]⟩
theorem zuw {L:List (Nat×Nat)} {i j:Nat} (hn:(L.map (·.1)).Nodup) (h:(i,j)∈L):ren L i=some (some j):=by
 unfold ren
 induction L with
 | nil=>cases h
 | cons p L ih =>
  obtain ⟨a,b⟩:=p;simp only [zy13,zy65] at hn;simp only [zy13,lkN];rcases zy7.1 h with h | h
  . cases h
    simp
  . have:i≠a:=fun e=>hn.1 (zy4.2 ⟨(i,j),h,e⟩)
    have hb:Nat.beq i a=false:=by
     cases hb:Nat.beq i a with
     | false=>rfl
     | true=>exact absurd (zy0 hb) this
    rw [hb];exact ih hn.2 h
mutual
theorem ztw {m':zbk} {σ:Ren} {R':Nat->Prop} (hm:∀ i o,σ i=some o->∃ j,o=some j/\m' j=m i) (hR:∀ b,R b->R' b):(x:HV)->(v:Value)->zed σ x=true->zad m w R x v->zad m' w R' (rn σ x) v
 | .p x,v,_,h=>by simp only [rn,zad] at h ⊢;exact h.sub hR
 | .ptr i o,v,ho,h=>by
  exact yy2
 | .eptr i n k o,v,ho,h=>by
  exact yy2
 | .rp c,v,_,h=>by
  exact yy17
 | .own i,v,ho,h=>by
  simp only [zed] at ho;split at ho
  . rename_i o hj
    obtain ⟨j',rfl,hmj⟩:=hm i _ hj;simp only [rn,hj,zad] at h ⊢;obtain ⟨l,h1,h2⟩:=h;exact ⟨l,by rw [hmj];exact h1,h2⟩
  . cases ho
 | .osl i n o len,v,ho,h=>by
  simp only [zed] at ho;split at ho
  . rename_i j hj
    obtain ⟨j',hj',hmj⟩:=hm i _ hj;cases hj';simp only [rn,hj,zad] at h ⊢;obtain ⟨l,a,h1,h2⟩:=h;exact ⟨l,a,by rw [hmj];exact h1,h2⟩
  . cases ho
 | .mp i,v,ho,h=>by
  exact yy2
 | .agg l,v,ho,h=>by
  exact yy6
 | .tup l,v,ho,h=>by
  exact yy6
 | .clo f l,v,ho,h=>by
  exact yy6
 | .und,v,_,h=>by simp only [rn,zad] at h ⊢;exact h
 | .any,v,_,h=>by simp only [rn,zad]
theorem zia {m':zbk} {σ:Ren} {R':Nat->Prop} (hm:∀ i o,σ i=some o->∃ j,o=some j/\m' j=m i) (hR:∀ b,R b->R' b):(x:List HV)->(v:List Value)->zfe σ x=true->zae m w R x v->zae m' w R' (rnL σ x) v
 | [],v,_,h=>by simp only [rnL,zae] at h ⊢;exact h
 | x::xs,v,ho,h=>by
  simp only [zfe,zy1] at ho;simp only [rnL,zae] at h ⊢;obtain ⟨a,r,h1,h2,h3⟩:=h;exact ⟨a,r,h1,ztw hm hR x a ho.1 h2,zia hm hR xs r ho.2 h3⟩
end
theorem zre {m':zbk} {σ:Ren} {R':Nat->Prop} (hm:∀ i o,σ i=some o->∃ j,o=some j/\m' j=m i) (hR:∀ b,R b->R' b) {l:Loc} {b:zcv} (ho:zgd σ b=true) (h:zej m w R l b):zej m' w R' l (rnB σ b):=by
 cases b with
 | cells t cs =>
  obtain ⟨h1,arr,h2,h3⟩:=h;rw [<- zgc (σ:=σ) cs] at h1;exact ⟨h1,arr,h2,zia hm hR _ _ ho h3⟩
 | map kc agg es =>
  obtain ⟨h1,arr,c,h2,h3,h4⟩:=h;exact ⟨h1,arr,c,h2,h3.mono fun b hb=>⟨rfl,hR b hb⟩,h4⟩
 | iter kc agg left cur =>
  obtain ⟨h1,bm,arr,c,seen,h2,h3⟩:=h;exact ⟨h1,bm,arr,c,seen,h2,h3.mono fun b hb=>⟨rfl,hR b hb⟩⟩
 | row t n rows =>
  exact yy11
 | buf t n rows c =>
  exact yy20
mutual
theorem zrf:(x:HV)->zed zlg x=true->rn zlg x=x
 | .p _,_=>rfl
 | .rp _,_=>rfl
 | .und,_=>rfl
 | .any,_=>rfl
 | .ptr _ _,h=>by simp [zed] at h
 | .eptr _ _ _ _,h=>by simp [zed] at h
 | .own _,h=>by simp [zed] at h
 | .osl _ _ _ _,h=>by simp [zed] at h
 | .mp _,h=>by simp [zed] at h
 | .agg l,h=>by simp only [zed] at h;simp only [rn,zfd l h]
 | .tup l,h=>by simp only [zed] at h;simp only [rn,zfd l h]
 | .clo f l,h=>by simp only [zed] at h;simp only [rn,zfd l h]
theorem zfd:(x:List HV)->zfe zlg x=true->rnL zlg x=x
 | [],_=>rfl
 | x::xs,h=>by
  simp only [zfe,zy1] at h;simp only [rnL,zrf x h.1,zfd xs h.2]
end
mutual
theorem zoh {m':zbk} {w':World} {R':Nat->Prop}:(x:HV)->(v:Value)->zme x=true->zad m w R x v->zad m' w' R' x v
 | .p (.v x),v,_,h=>by simp only [zad] at h ⊢;cases h with | v _ h=>exact .v _ h
 | .p (.sl _ _),v,hs,h=>by simp [zme] at hs
 | .rp _,v,hs,h=>by simp [zme] at hs
 | .und,v,hs,h=>by simp only [zad] at h ⊢;exact h
 | .any,v,hs,h=>by simp [zme] at hs
 | .ptr _ _,v,hs,h=>by simp [zme] at hs
 | .eptr _ _ _ _,v,hs,h=>by simp [zme] at hs
 | .own _,v,hs,h=>by simp [zme] at hs
 | .osl _ _ _ _,v,hs,h=>by simp [zme] at hs
 | .mp _,v,hs,h=>by simp [zme] at hs
 | .agg l,v,hs,h=>by
  exact yy30
 | .tup l,v,hs,h=>by
  exact yy30
 | .clo _ _,v,hs,h=>by simp [zme] at hs
theorem zic {m':zbk} {w':World} {R':Nat->Prop}:(x:List HV)->(v:List Value)->zrj x=true->zae m w R x v->zae m' w' R' x v
 | [],v,_,h=>by simp only [zae] at h ⊢;exact h
 | x::xs,v,hs,h=>by
  simp only [zrj,zy1] at hs;simp only [zae] at h ⊢;obtain ⟨a,r,h1,h2,h3⟩:=h;exact ⟨a,r,h1,zoh x a hs.1 h2,zic xs r hs.2 h3⟩
end
theorem zag.grow (hok:zag Γ m H w) {w':World} (hs:w.heap.size<=w'.heap.size) (hh:∀ b,b<w.heap.size->w'.heap[b]?=w.heap[b]?) (ho:w'.os=w.os) (ht:w'.tape=w.tape) (hp:w'.output=w.output) :
 WS Γ H m w H m w':=by
 have hR:∀ b,RR Γ m H w b->w'.heap[b]?=w.heap[b]?/\RR Γ m H w' b:=fun b hb=>⟨hh b hb.2.1,hb.1,zy36 hb.2.1 hs,hb.2.2⟩
 refine ⟨.refl m,⟨zy60 hok.size hs,ho.trans hok.os,ht.trans hok.tape,hp.trans hok.output,fun b hb hn=>(hh b (zy36 hb hok.size)).trans (hok.frame b hb hn),hok.free,fun id b hb=>?_,fun id b hb=>?_,hok.inj,hok.dom⟩,hR⟩
 . obtain ⟨l,h1,h2,h3⟩:=hok.live id b hb
   exact ⟨l,h1,h2.mono (.refl m) hR fun hn=>hh _ (h3 hn).2,fun hn=>⟨(h3 hn).1,zy36 (h3 hn).2 hs⟩⟩
 . obtain ⟨l,h1,h2,h3⟩:=hok.ro id b hb
   exact ⟨l,h1,h2.mono (.refl m) hR fun hn=>(hR _ (h3 hn)).1,fun hn=>(hR _ (h3 hn)).2⟩
theorem zmz {m:zbk} {b:Nat}:¬ zet m zar b:=by rintro ⟨id,l,blk,h,_⟩;cases h
theorem zpd {f:FuncId} {args:List HV} {r:Res} {args':List HV} {us:List (Nat×zaa)} (h:zwv P f args H r args' us) {vals:List Value} (hok:zag Γ m H w) (hargs:zae m w (RR Γ m H w) args vals) :
 (callFunc f vals.toArray).run P w=.ok (.enter f vals.toArray) w /\
 Calls P f vals.toArray w fun e w'=>∃ v m',e=.returned v/\WS Γ H m w (zba H r.ups) m' w'/\zad m' w' (RR Γ m' (zba H r.ups) w') r.val v:=by
 obtain ⟨h1,h2,h3,h4,h5⟩:=h;obtain ⟨a,u,⟨rfl,rfl⟩,hv⟩:=zbu _ h1;have hRs:∀ b,RR Γ m H w b->w.heap[b]?=w.heap[b]?/\b<w.heap.size:=fun b hb=>⟨rfl,hb.2.1⟩
 have hkept:Kept m w (fun b=>b<w.heap.size) u:=by
  intro e he;obtain ⟨b,hb,hb2⟩:=hv.frz e he;rcases hb with hb | hb
  . obtain ⟨l,h1,h2,h3⟩:=hok.live _ _ hb
    exact ⟨b,l,hb2,h1,h2.mono (.refl m) hRs fun _=>rfl,fun hn=>(h3 hn).2⟩
  . obtain ⟨l,h1,h2,h3⟩:=hok.ro _ _ hb
    exact ⟨b,l,hb2,h1,h2.mono (.refl m) hRs fun _=>rfl,fun hn=>(h3 hn).2.1⟩
 have hargs':=hv.rep m w _ vals hkept (zae.mono (.refl m) hRs _ _ hargs)
 let Γc:Ctx:=⟨fun _=>True,w,fun _=>False,fun _=>none⟩
 have hokc:zag Γc (fun _=>none) zar w:=⟨zy49 _,rfl,rfl,rfl,fun _ _ _=>rfl,fun _ _=>rfl,(fun id b hb=>by cases hb),(fun id b hb=>by cases hb),(fun id id' b b' l l' hb=>by cases hb),fun b hb=>hb.elim⟩
 have hrep:zae (fun _=>none) w (RR Γc (fun _=>none) zar w) a vals:=by
  refine zeq (σ:=zlg) (m:=m) (R:=fun b=>b<w.heap.size) (fun i j hj=>by cases hj) (fun i hj=>by cases hj) (fun b hb=>⟨.inl trivial,hb,zmz⟩) a vals hv.noid ?_;rw [zfd a hv.noid];exact hargs'
 obtain ⟨hcf,hcalls⟩:=h2 Γc _ w vals hokc hrep rfl;refine ⟨hcf,hcalls.mono fun e w' he=>?_⟩;obtain ⟨v,m',rfl,hok',hv',_⟩:=he;have hws:=hok.grow (w':=w') hok'.size (fun b hb=>hok'.frame b hb (fun h=>h)) hok'.os hok'.tape hok'.output;refine ⟨v,m,rfl,by rw [h4];exact hws,by rw [h4];exact zoh _ _ h3 hv'⟩
end
end Go.HL
namespace Go.HL
section
variable {Γ:Ctx} {P:Program} {m:zbk} {H:Nat->zaa} {w:World} {R:Nat->Prop}
theorem zht {α β:Type} {f:α->β}:∀ {L:List α},(L.map f).Nodup->∀ {p q:α},p∈L->q∈L->f p=f q->p=q
 | [],_,_,_,hp,_,_=>by cases hp
 | z::L,hn,p,q,hp,hq,he=>by
  simp only [zy13,zy65] at hn;cases hp with
  | head=>cases hq with
   | head=>rfl
   | tail _ hq=>exact (hn.1 (zy4.2 ⟨q,hq,he.symm⟩)).elim
  | tail _ hp=>cases hq with
   | head=>exact (hn.1 (zy4.2 ⟨p,hp,he⟩)).elim
   | tail _ hq=>exact zht hn.2 hp hq he
theorem zva {L:List (Nat×Nat)} {g:Nat->zaa} {H:Nat->zaa} (hn:(L.map (·.2)).Nodup) {p:Nat×Nat} (hp:p∈L):zba H (L.map fun p=>(p.2,g p.1)) p.2=g p.1:=by
 induction L generalizing H with
 | nil=>cases hp
 | cons q L ih =>
  simp only [zy13,zy65] at hn;simp only [zy13,zba];rcases zy7.1 hp with rfl | hp
  . rw [zfi,zaf]
    intro h;simp only [List.map_map,zy4,Function.comp] at h;obtain ⟨q,hq,he⟩:=h;exact hn.1 (zy4.2 ⟨q,hq,he⟩)
  . exact ih hn.2 hp
theorem zvb {L:List (Nat×Nat)} {g:Nat->zaa} {H:Nat->zaa} {i:Nat} (hi:i∉L.map (·.2)):zba H (L.map fun p=>(p.2,g p.1)) i=H i:=by
 refine zfi fun h=>hi ?_
 simp only [List.map_map,zy4,Function.comp] at h ⊢;exact h
theorem zos {f:FuncId} {args:List HV} {r:Res} {us:List (Nat×zaa)} {ms:List Bool} {args1:List HV} {B F:List (Nat×Nat)} {args':List HV} {H':Nat->zaa} {r':HV} {H'':Nat->zaa}
 (h:zwu P f args H r us ms args1 B F args' H' r' H'') {vals:List Value} (hok0:zag Γ m H w) (hargs0:zae m w (RR Γ m H w) args vals) :
 (callFunc f vals.toArray).run P w=.ok (.enter f vals.toArray) w /\
 Calls P f vals.toArray w fun e w'=>∃ v m',e=.returned v/\WS Γ H m w (zba H r.ups) m' w'/\zad m' w' (RR Γ m' (zba H r.ups) w') r.val v:=by
 obtain ⟨a,u,⟨rfl,rfl⟩,hv⟩:=zdg _ _ h.mix;have hws0:=WS.frz hok0 hv.frz;have hok:=hws0.ok;have hargs1:zae m w (RR Γ m (zba H u) w) a vals:=hv.rep m w _ vals (WS.kept hv.frz hok) (hws0.repL hargs0);have hhas:=h.has;have hnewH:∀ p∈F,zba H u p.2=.free:=by
  intro p hp;rw [zfi]
  . exact (h.new p hp).2
  . intro hm
    obtain ⟨e,he,hee⟩:=zy4.1 hm;obtain ⟨b,hb,-⟩:=hv.frz e he;rw [hee,(h.new p hp).2] at hb;rcases hb with hb | hb<;>cases hb
 have hups:zba H r.ups=zba (zba H u) ((B++F).map fun p=>(p.2,rnS (ren (B++F)) (H'' p.1))):=by rw [h.ups,zer]
 generalize hH1:zba H u=H1 at hok hargs1 hws0 hhas hnewH hups
 let σ:=ren B
 let σ2:=ren (B++F)
 have hBF1:((B++F).map (·.1)).Nodup:=by
  rw [zy54];refine List.nodup_append.2 ⟨h.ndB,h.ndF,fun x hx y hy=>?_⟩;obtain ⟨p,hp,rfl⟩:=zy4.1 hx;obtain ⟨q,hq,rfl⟩:=zy4.1 hy;have:=(hhas p hp).1;have:=(h.new q hq).1;omega
 have hBne:∀ p∈B,H1 p.2≠.free/\H' p.1≠.free:=by
  intro p hp;obtain ⟨-,b,-,⟨h1,h2⟩ | ⟨h1,h2⟩⟩:=hhas p hp
  . rw [h1,h2];exact ⟨zaa.noConfusion,zaa.noConfusion⟩
  . rw [h1,h2];exact ⟨zaa.noConfusion,zaa.noConfusion⟩
 have hBF2:((B++F).map (·.2)).Nodup:=by
  rw [zy54];refine List.nodup_append.2 ⟨h.ndB2,h.ndF2,fun x hx y hy=>?_⟩;obtain ⟨p,hp,rfl⟩:=zy4.1 hx;obtain ⟨q,hq,rfl⟩:=zy4.1 hy;intro he;exact (hBne p hp).1 (by rw [he];exact hnewH q hq)
 have hσ:∀ i o,σ i=some o->∃ j,o=some j/\(i,j)∈B:=fun i o ho=>zrd ho
 have hσget:∀ p∈B,σ p.1=some (some p.2):=fun p hp=>zuw h.ndB hp
 have hσ2:∀ i o,σ2 i=some o->∃ j,o=some j/\(i,j)∈B++F:=fun i o ho=>zrd ho
 -- the callee's own names
 let mc:zbk:=zcg σ m
 have hmc:∀ p∈B,mc p.1=m p.2:=fun p hp=>by simp only [mc,zcg,hσget p hp]
 let own:Nat->Prop:=fun b=>zet mc H' b
 let Γc:Ctx:=⟨fun b=>RR Γ m H1 w b\/own b,w,own,mc⟩
 have hownB:∀ b,own b->∃ p∈B,∃ blk l,H1 p.2=.live blk/\m p.2=some l/\l.nil=false/\l.blk=b:=by
  rintro b ⟨id,l,blk,h1,h2,h3,h4⟩;rcases h.dom id with hf | ⟨p,hp,rfl⟩
  . rw [hf] at h1;cases h1
  . obtain ⟨-,b',-,⟨h5,h6⟩ | ⟨h5,h6⟩⟩:=hhas p hp
    . exact ⟨p,hp,_,l,h6,by rw [<- hmc p hp];exact h2,h3,h4⟩
    . rw [h5] at h1;cases h1
 have hown1:∀ b,own b->zet m H1 b:=fun b hb=>let ⟨p,_,blk,l,h1,h2,h3,h4⟩:=hownB b hb;⟨p.2,l,blk,h1,h2,h3,h4⟩
 have hownd:∀ b,own b->(Γ.own0 b\/Γ.w0.heap.size<=b)/\b<w.heap.size:=by
  intro b hb;obtain ⟨p,_,blk,l,h1,h2,h3,h4⟩:=hownB b hb;obtain ⟨l',h5,_,h6⟩:=hok.live _ _ h1;rw [h2] at h5;cases h5;rw [<- h4];exact h6 h3
 have hRc:∀ b,RR Γ m H1 w b->RR Γc mc H' w b:=fun b hb=>⟨.inl (.inl hb),hb.2.1,fun ho=>hb.2.2 (hown1 b ho)⟩
 have hmσ:∀ i j,σ i=some (some j)->mc i=m j:=fun i j hj=>by simp only [mc,zcg,hj]
 have hnσ:∀ i,σ i=some none->mc i=some ⟨0,0,0,true⟩:=fun i hj=>by simp only [mc,zcg,hj]
 have hokc:zag Γc mc H' w:=by
  refine ⟨zy49 _,rfl,rfl,rfl,fun _ _ _=>rfl,?_,?_,?_,?_,fun b hb=>.inr hb⟩
  . intro id hf
    cases hs:σ id with
    | none=>simp only [mc,zcg,hs]
    | some o =>
     obtain ⟨j,rfl,hj⟩:=hσ id o hs;exact absurd hf (hBne _ hj).2
  . intro id b hb
    rcases h.dom id with hf | ⟨p,hp,rfl⟩
    . rw [hf] at hb;cases hb
    . obtain ⟨-,b',hbo,⟨h5,h6⟩ | ⟨h5,h6⟩⟩:=hhas p hp
      . rw [hb] at h5;cases h5
        obtain ⟨l,h7,h8,h9⟩:=hok.live _ _ h6;have hl:mc p.1=some l:=by rw [hmc p hp];exact h7
        exact ⟨l,hl,zhz hmσ hnσ hRc hbo h8,fun hn=>⟨.inl ⟨p.1,l,b,hb,hl,hn,rfl⟩,(h9 hn).2⟩⟩
      . rw [hb] at h5;cases h5
  . intro id b hb
    rcases h.dom id with hf | ⟨p,hp,rfl⟩
    . rw [hf] at hb;cases hb
    . obtain ⟨-,b',hbo,⟨h5,h6⟩ | ⟨h5,h6⟩⟩:=hhas p hp
      . rw [hb] at h5;cases h5
      . rw [hb] at h5;cases h5
        obtain ⟨l,h7,h8,h9⟩:=hok.ro _ _ h6;have hl:mc p.1=some l:=by rw [hmc p hp];exact h7
        exact ⟨l,hl,zhz hmσ hnσ hRc hbo h8,fun hn=>hRc _ (h9 hn)⟩
  . intro id id' b b' l l' h1 h2 h3 h4 h5 h6 h7
    rcases h.dom id with hf | ⟨p,hp,rfl⟩
    . rw [hf] at h1;cases h1
    rcases h.dom id' with hf | ⟨q,hq,rfl⟩
    . rw [hf] at h2;cases h2
    rw [hmc p hp] at h3;rw [hmc q hq] at h4;have hp1:∃ blk,H1 p.2=.live blk:=by
     obtain ⟨-,b',-,⟨h8,h9⟩ | ⟨h8,h9⟩⟩:=hhas p hp
     . exact ⟨_,h9⟩
     . rw [h1] at h8;cases h8
    have hq1:∃ blk,H1 q.2=.live blk:=by
     obtain ⟨-,b',-,⟨h8,h9⟩ | ⟨h8,h9⟩⟩:=hhas q hq
     . exact ⟨_,h9⟩
     . rw [h2] at h8;cases h8
    obtain ⟨bp,hp1⟩:=hp1;obtain ⟨bq,hq1⟩:=hq1;have heq:=hok.inj _ _ _ _ _ _ hp1 hq1 h3 h4 h5 h6 h7
    -- names are other ones as the caller's are
    exact congrArg Prod.fst (zht h.ndB2 hp hq heq)
 have hrepc:zae mc w (RR Γc mc H' w) args' vals:=by
  refine zeq hmσ hnσ hRc args' vals h.argsOk ?_;rw [h.args];exact hargs1
 obtain ⟨hcf,hcalls⟩:=h.spec Γc mc w vals hokc hrepc rfl;refine ⟨hcf,hcalls.mono fun e w' he=>?_⟩;obtain ⟨v,m2,rfl,hok2,hv2,hpin⟩:=he
 -- the caller's names behind the call
 let L:=B++F
 let m3:zbk:=fun i=>match L.find? fun p=>Nat.beq p.2 i with
  | some p=>m2 p.1
  | none=>m i
 have zfo:∀ p∈L,m3 p.2=m2 p.1:=by
  intro p hp;have:L.find? (fun q=>Nat.beq q.2 p.2)=some p:=by
   have gen:∀ {L:List (Nat×Nat)},(L.map (·.2)).Nodup->p∈L->L.find? (fun q=>Nat.beq q.2 p.2)=some p:=by
    intro L
    induction L with
    | nil=>intro _ hp;cases hp
    | cons z L ih =>
     intro hn hp;simp only [zy13,zy65] at hn;rcases zy7.1 hp with rfl | hp
     . simp
     . have hz:Nat.beq z.2 p.2=false:=by
        cases hb:Nat.beq z.2 p.2 with
        | false=>rfl
        | true=>exact absurd (zy4.2 ⟨p,hp,(zy0 hb).symm⟩) hn.1
       rw [List.find?_cons,hz];exact ih hn.2 hp
   exact gen hBF2 hp
  simp only [m3,this]
 have hoff:∀ i,i∉L.map (·.2)->m3 i=m i:=by
  intro i hi;have:L.find? (fun q=>Nat.beq q.2 i)=none:=by
   rw [List.find?_eq_none];intro q hq hb;exact hi (zy4.2 ⟨q,hq,zy0 hb⟩)
  simp only [m3,this]
 have hBm:∀ p∈B,∃ l,m p.2=some l:=by
  intro p hp;obtain ⟨-,b',-,⟨h8,h9⟩ | ⟨h8,h9⟩⟩:=hhas p hp
  . obtain ⟨l,h1,_⟩:=hok.live _ _ h9;exact ⟨l,h1⟩
  . obtain ⟨l,h1,_⟩:=hok.ro _ _ h9;exact ⟨l,h1⟩
 have hB2:∀ p∈B,m2 p.1=m p.2:=by
  intro p hp;obtain ⟨l,hl⟩:=hBm p hp;rw [hl];exact hpin p.1 l (hhas p hp).1 (by rw [hmc p hp];exact hl)
 have hext:zki m m3:=by
  intro i l hl;by_cases hi:i∈L.map (·.2)
  . obtain ⟨p,hp,rfl⟩:=zy4.1 hi
    rw [zfo p hp];rcases zy6.1 hp with hp | hp
    . rw [hB2 p hp];exact hl
    . rw [hok.free _ (hnewH p hp)] at hl;cases hl
  . rw [hoff i hi];exact hl
 rw [hups]
 let H3:=zba H1 ((B++F).map fun p=>(p.2,rnS (ren (B++F)) (H'' p.1)))
 show ∃ v0 m',Ending.returned v=Ending.returned v0/\WS Γ H m w H3 m' w'/\zad m' w' (RR Γ m' H3 w') r.val v0;have hH3in:∀ p∈L,H3 p.2=rnS σ2 (H'' p.1):=fun p hp=>zva (g:=fun c=>rnS (ren (B++F)) (H'' c)) hBF2 hp
 have hH3off:∀ i,i∉L.map (·.2)->H3 i=H1 i:=fun i hi=>zvb (g:=fun c=>rnS (ren (B++F)) (H'' c)) hi
 have hframe:∀ b,b<w.heap.size->¬ own b->w'.heap[b]?=w.heap[b]?:=fun b hb hn=>hok2.frame b hb hn
 -- who owns what behind it
 have hliveL:∀ p∈L,∀ b3,H3 p.2=.live b3->∃ b2,H'' p.1=.live b2/\b3=rnB σ2 b2:=by
  intro p hp b3 hb;rw [hH3in p hp] at hb;cases hh:H'' p.1<;>rw [hh] at hb<;>simp only [rnS] at hb<;>cases hb
  exact ⟨_,rfl,rfl⟩
 have hlocL:∀ p∈L,∀ b2 l,H'' p.1=.live b2->m2 p.1=some l->l.nil=false->(own l.blk\/w.heap.size<=l.blk)/\l.blk<w'.heap.size:=by
  intro p hp b2 l h1 h2 h3;obtain ⟨l',h4,_,h5⟩:=hok2.live _ _ h1;rw [h2] at h4;cases h4;exact h5 h3
 have hOw3:∀ b,zet m3 H3 b->(∃ i l blk,i∉L.map (·.2)/\H1 i=.live blk/\m i=some l/\l.nil=false/\l.blk=b)\/(zet m2 H'' b/\(own b\/w.heap.size<=b)):=by
  rintro b ⟨i,l,blk,h1,h2,h3,h4⟩;by_cases hi:i∈L.map (·.2)
  . obtain ⟨p,hp,rfl⟩:=zy4.1 hi
    obtain ⟨b2,h5,_⟩:=hliveL p hp _ h1;rw [zfo p hp] at h2
    right
    exact ⟨⟨p.1,l,b2,h5,h2,h3,h4⟩,h4 ▸ (hlocL p hp b2 l h5 h2 h3).1⟩
  . rw [hH3off i hi] at h1
    rw [hoff i hi] at h2;exact .inl ⟨i,l,blk,hi,h1,h2,h3,h4⟩
 have hunt:∀ b i l blk,i∉L.map (·.2)->H1 i=.live blk->m i=some l->l.nil=false->l.blk=b->¬ own b:=by
  intro b i l blk hi h1 h2 h3 h4 ho;obtain ⟨p,hp,bp,lp,h5,h6,h7,h8⟩:=hownB b ho;have:=hok.inj _ _ _ _ _ _ h1 h5 h2 h6 h3 h7 (h4.trans h8.symm);exact hi (this ▸ zy4.2 ⟨p,by simp [L,hp],rfl⟩)
 have hR3:∀ b,RR Γ m H1 w b->w'.heap[b]?=w.heap[b]?/\RR Γ m3 H3 w' b:=by
  intro b hb;have hno:¬ own b:=fun ho=>hb.2.2 (hown1 b ho)
  refine ⟨hframe b hb.2.1 hno,hb.1,zy36 hb.2.1 hok2.size,fun ho=>?_⟩;rcases hOw3 b ho with ⟨i,l,blk,_,h1,h2,h3,h4⟩ | ⟨_,h1 | h1⟩
  . exact hb.2.2 ⟨i,l,blk,h1,h2,h3,h4⟩
  . exact hno h1
  . have:=hb.2.1;omega
 have hR2:∀ b,RR Γc m2 H'' w' b->RR Γ m3 H3 w' b:=by
  intro b ⟨h1,h2,h3⟩;have h1':RR Γ m H1 w b\/own b\/w.heap.size<=b:=by
   rcases h1 with (h1 | h1) | h1
   . exact .inl h1
   . exact .inr (.inl h1)
   . exact .inr (.inr h1)
  rcases h1' with h1 | h1
  . exact (hR3 b h1).2
  . refine ⟨?_,h2,fun ho=>?_⟩
    . rcases h1 with h1 | h1
      . rcases (hownd b h1).1 with h4 | h4
        . exact .inl (hok.dom b h4)
        . exact .inr h4
      . exact .inr (zy60 hok.size h1)
    . rcases hOw3 b ho with ⟨i,l,blk,hi,h4,h5,h6,h7⟩ | ⟨h4,_⟩
      . rcases h1 with h1 | h1
        . exact hunt b i l blk hi h4 h5 h6 h7 h1
        . obtain ⟨l',h8,_,h9⟩:=hok.live _ _ h4
          rw [h5] at h8;cases h8;have:=(h9 h6).2;omega
      . exact h3 h4
 have hm32:∀ i o,σ2 i=some o->∃ j,o=some j/\m3 j=m2 i:=by
  intro i o ho;obtain ⟨j,rfl,hj⟩:=hσ2 i o ho;exact ⟨j,rfl,zfo _ hj⟩
 have hafter:=h.after;have hok3:zag Γ m3 H3 w':=by
  refine ⟨zy60 hok.size hok2.size,hok2.os.trans hok.os,hok2.tape.trans hok.tape,hok2.output.trans hok.output,?_,?_,?_,?_,?_,hok.dom⟩
  . intro b hb hn
    have hlt:b<w.heap.size:=zy36 hb hok.size;refine (hframe b hlt fun ho=>?_).trans (hok.frame b hb hn);rcases (hownd b ho).1 with h1 | h1
    . exact hn h1
    . omega
  . intro i hf
    by_cases hi:i∈L.map (·.2)
    . obtain ⟨p,hp,rfl⟩:=zy4.1 hi
      rw [hH3in p hp] at hf;have:=hafter p hp;cases hh:H'' p.1<;>rw [hh] at hf this
      . cases this
      all_goals cases hf
    . rw [hH3off i hi] at hf
      rw [hoff i hi];exact hok.free i hf
  . intro i b hb
    by_cases hi:i∈L.map (·.2)
    . obtain ⟨p,hp,rfl⟩:=zy4.1 hi
      obtain ⟨b2,h5,rfl⟩:=hliveL p hp _ hb;obtain ⟨l,h6,h7,h8⟩:=hok2.live _ _ h5;have hb2:zgd σ2 b2=true:=by have:=hafter p hp;rw [h5] at this;exact this
      refine ⟨l,by rw [zfo p hp];exact h6,zre hm32 hR2 hb2 h7,fun hn=>⟨?_,(h8 hn).2⟩⟩;rcases (hlocL p hp b2 l h5 h6 hn).1 with h9 | h9
      . exact (hownd _ h9).1
      . exact .inr (zy60 hok.size h9)
    . rw [hH3off i hi] at hb
      obtain ⟨l,h6,h7,h8⟩:=hok.live _ _ hb;refine ⟨l,by rw [hoff i hi];exact h6,h7.mono hext hR3 fun hn=>hframe _ (h8 hn).2 (hunt _ i l b hi hb h6 hn rfl),fun hn=>⟨(h8 hn).1,zy36 (h8 hn).2 hok2.size⟩⟩
  . intro i b hb
    by_cases hi:i∈L.map (·.2)
    . obtain ⟨p,hp,rfl⟩:=zy4.1 hi
      rw [hH3in p hp] at hb;have hok':=hafter p hp;cases hh:H'' p.1<;>rw [hh] at hb hok'<;>simp only [rnS] at hb<;>cases hb
      obtain ⟨l,h6,h7,h8⟩:=hok2.ro _ _ hh;exact ⟨l,by rw [zfo p hp];exact h6,zre hm32 hR2 hok' h7,fun hn=>hR2 _ (h8 hn)⟩
    . rw [hH3off i hi] at hb
      obtain ⟨l,h6,h7,h8⟩:=hok.ro _ _ hb;exact ⟨l,by rw [hoff i hi];exact h6,h7.mono hext hR3 fun hn=>(hR3 _ (h8 hn)).1,fun hn=>(hR3 _ (h8 hn)).2⟩
  . intro i i' b b' l l' h1 h2 h3 h4 h5 h6 h7
    by_cases hi:i∈L.map (·.2)<;>by_cases hi':i'∈L.map (·.2)
    . obtain ⟨p,hp,rfl⟩:=zy4.1 hi
      obtain ⟨q,hq,rfl⟩:=zy4.1 hi';obtain ⟨b2,h8,-⟩:=hliveL p hp _ h1;obtain ⟨b2',h9,-⟩:=hliveL q hq _ h2;rw [zfo p hp] at h3;rw [zfo q hq] at h4;have heq:=hok2.inj _ _ _ _ _ _ h8 h9 h3 h4 h5 h6 h7;exact congrArg Prod.snd (zht hBF1 hp hq heq)
    . obtain ⟨p,hp,rfl⟩:=zy4.1 hi
      obtain ⟨b2,h8,-⟩:=hliveL p hp _ h1;rw [zfo p hp] at h3;rw [hH3off i' hi'] at h2;rw [hoff i' hi'] at h4;exfalso;rcases (hlocL p hp b2 l h8 h3 h5).1 with h9 | h9
      . exact hunt _ i' l' b' hi' h2 h4 h6 h7.symm h9
      . obtain ⟨lx,h10,_,h11⟩:=hok.live _ _ h2
        rw [h4] at h10;cases h10;have:=(h11 h6).2;omega
    . obtain ⟨p,hp,rfl⟩:=zy4.1 hi'
      obtain ⟨b2,h8,-⟩:=hliveL p hp _ h2;rw [zfo p hp] at h4;rw [hH3off i hi] at h1;rw [hoff i hi] at h3;exfalso;rcases (hlocL p hp b2 l' h8 h4 h6).1 with h9 | h9
      . exact hunt _ i l b hi h1 h3 h5 h7 h9
      . obtain ⟨lx,h10,_,h11⟩:=hok.live _ _ h1
        rw [h3] at h10;cases h10;have:=(h11 h5).2;omega
    . rw [hH3off i hi] at h1
      rw [hoff i hi] at h3;rw [hH3off i' hi'] at h2;rw [hoff i' hi'] at h4;exact hok.inj _ _ _ _ _ _ h1 h2 h3 h4 h5 h6 h7
 have hws2:WS Γ H1 m w H3 m3 w':=⟨hext,hok3,hR3⟩
 refine ⟨v,m3,rfl,hws0.trans hws2,?_⟩;rw [h.val];exact ztw hm32 hR2 _ _ h.valOk hv2
theorem zlu {ps rs:Array TypeId} {t e:TypeId} {i:TypeInfo} (h0:ps[0]?=some t) (hu:P.underlying t=some (.slice e)) (hi:P.info? e=some i) (hs:0<i.size) {a b:Option Addr} {la ca lb cb:Nat}
 (h:la≠0->lb≠0->∃ x y p q arr arr' t1 t2,a=some ⟨x,p,none⟩/\b=some ⟨y,q,none⟩/\x≠y/\w.heap[x]?=some (.cells arr t1 (0,0))/\w.heap[y]?=some (.cells arr' t2 (0,0))) :
 (Extern.SlicesOverlaps.overlaps ps rs #[.slice a la ca,.slice b lb cb]).run P w=.ok (.bool false) w:=by
 have hsz:¬ i.size=0:=by omega
 conv=>lhs;arg 2;whnf
 rw [h0];by_cases h1:la=0
 . cases a<;>cases b<;>simp [run_underlying hu,sizeOf,typeInfo,hi,h1]
 by_cases h2:lb=0
 . cases a<;>cases b<;>simp [run_underlying hu,sizeOf,typeInfo,hi,h2]
 obtain ⟨x,y,p,q,arr,arr',t1,t2,rfl,rfl,hxy,hx,hy⟩:=h h1 h2;have hb:(x==y)=false:=by simpa using hxy
 have f1:∀ o,w.frozen? ⟨x,o,none⟩=false:=fun o=>by simp [World.frozen?,hx]
 have f2:∀ o,w.frozen? ⟨y,o,none⟩=false:=fun o=>by simp [World.frozen?,hy]
 have s1:w.shape? x=some (t1,arr.size):=by simp [World.shape?,hx]
 have s2:w.shape? y=some (t2,arr'.size):=by simp [World.shape?,hy]
 simp [run_underlying hu,sizeOf,typeInfo,hi,h1,h2,hsz,hxy,hb,f1,f2,s1,s2,noView,viewAt,mayBeOne,stringish]
theorem ztv {x:HV} {id:Nat} {v:Value} {blk:zcv} (hok:zag Γ m H w) (hx:x=.own id\/∃ n o l,x=.osl id n o l) (h:zad m w (RR Γ m H w) x v) (hb:H id=.live blk) (hc:(∀ t cs,blk≠.cells t cs)/\(∀ k a es,blk≠.map k a es)/\∀ k a es x,blk≠.iter k a es x) :
 ∃ a len c l,v=.slice a len c/\m id=some l/\(len≠0->l.nil=false/\(∃ o,a=some ⟨l.blk,o,none⟩)/\∃ arr t,w.heap[l.blk]?=some (.cells arr t (0,0))):=by
 obtain ⟨l,hl,hbr,_⟩:=hok.live id _ hb;have hheap:l.nil=false->∃ arr t,w.heap[l.blk]?=some (.cells arr t (0,0)):=by
  intro hn;cases blk with
  | cells t cs=>exact absurd rfl (hc.1 t cs)
  | map k a es=>exact absurd rfl (hc.2.1 k a es)
  | iter k a es x=>exact absurd rfl (hc.2.2 k a es x)
  | row t n rows =>
   obtain ⟨_,_,⟨h1,_⟩ | ⟨_,_,_,arr,h2,_⟩⟩:=hbr
   . rw [hn] at h1;cases h1
   . exact ⟨arr,t,h2⟩
  | buf t n rows c =>
   obtain ⟨_,_,_,_,_,arr,h2,_⟩:=hbr;exact ⟨arr,t,h2⟩
 rcases hx with rfl | ⟨n,o,len,rfl⟩
 . simp only [zad] at h
   obtain ⟨l',hl',rfl⟩:=h;rw [hl] at hl';cases hl';cases hn:l.nil with
   | true=>exact ⟨none,0,0,l,by simp [hdr,hn],hl,fun h=>absurd rfl h⟩
   | false=>exact ⟨_,_,_,l,by simp only [hdr,hn];rfl,hl,fun _=>⟨hn,⟨_,rfl⟩,hheap hn⟩⟩
 . obtain ⟨l',a,c,hl',h1,h2,h3,rfl,h5⟩:=zfx h
   rw [hl] at hl';cases hl';exact ⟨a,len,c,l,rfl,hl,fun h=>⟨(h5 h).1,⟨_,(h5 h).2⟩,hheap (h5 h).1⟩⟩
theorem ztd {f:FuncId} {args:List HV} {r:Res} (h:Ov P f args H r) {vals:List Value} (hok:zag Γ m H w) (hargs:zae m w (RR Γ m H w) args vals) :
 ∃ v w' m',(callFunc f vals.toArray).run P w=.ok (.value v) w'/\WS Γ H m w (zba H r.ups) m' w'/\zad m' w' (RR Γ m' (zba H r.ups) w') r.val v:=by
 obtain ⟨fn,e,i,x,y,i1,i2,b1,b2,h1,h2,h3,h4,h5,⟨t,h6,h6'⟩,h7,h8,rfl,h10,h11,h12,h13,h14,h15,h16,rfl⟩:=h.out;simp only [zae] at hargs;obtain ⟨vx,_,rfl,hx,vy,_,rfl,hy,rfl⟩:=hargs;obtain ⟨a,la,ca,l1,rfl,g1,g2⟩:=ztv hok h10 hx h13 h15;obtain ⟨b,lb,cb,l2,rfl,g3,g4⟩:=ztv hok h11 hy h14 h16;have zbi:=zlu (P:=P) (w:=w) (ps:=fn.params) (rs:=fn.resultTypes) h6 h6' h7 h8 (a:=a) (b:=b) (la:=la) (ca:=ca) (lb:=lb) (cb:=cb) (fun k1 k2=>by
  obtain ⟨n1,⟨o1,rfl⟩,arr1,t1,q1⟩:=g2 k1;obtain ⟨n2,⟨o2,rfl⟩,arr2,t2,q2⟩:=g4 k2;exact ⟨l1.blk,l2.blk,o1,o2,arr1,arr2,t1,t2,rfl,rfl,fun he=>h12 (hok.inj _ _ _ _ _ _ h13 h14 g1 g3 n1 n2 he),q1,q2⟩)
 refine ⟨.bool false,w,m,?_,.refl hok,zbc _ rfl⟩;simp [callFunc,h1,h2,h3,h4,h5,zbi]
theorem zrr:zdc P (CR P):=by
 intro f args H d r h Γ m w vals hok hargs;cases h with
 | lend h=>exact .inl (zpd h hok hargs)
 | give h=>exact .inl (zos h hok hargs)
 | ov h=>exact .inr (ztd h hok hargs)
theorem zlt {f : FuncId} {fn : Func} {c : Code} (hf : P.funcs[f]? = some fn) (hb : fn.body = some c) (hn : fn.name ≠ "runtime.NumGoroutine") (vals : Array Value) :
 (callFunc f vals).run P w=.ok (.enter f vals) w:=by
 simp [callFunc,hf,hb,hn]
theorem zow (hm : P.follows .mixedOrders = true) {f : FuncId} {fn : Func} (hf : P.funcs[f]? = some fn) (hn : fn.name ≠ "runtime.NumGoroutine") {args : List HV} {pins : List Nat} (hpins : ∀ id, pin <= id -> H id = .free \/ id ∈ pins) {K : HV -> (Nat -> zaa) -> Prop}
 (h:zwn P (CR P) fn args H pins K) {vals:List Value} (hok:zag Γ m H w) (hargs:zae m w (RR Γ m H w) args vals) (h0:Γ.m0=m) :
 (callFunc f vals.toArray).run P w=.ok (.enter f vals.toArray) w /\
 Calls P f vals.toArray w fun e w'=>∃ x H' v m',e=.returned v/\K x H'/\zag Γ m' H' w'/\zad m' w' (RR Γ m' H' w') x v/\∀ id l,pin<=id->m id=some l->m' id=some l:=by
 unfold zwn at h;split at h
 . rename_i c hb
   refine ⟨zlt hf hb hn _,?_⟩;obtain ⟨hle,h⟩:=zab h;have hle:=zy2 hle;have hlen:=hargs.length;refine calls_of_wp hf hb ?_;have hc:zei Γ P m (zsd args fn.ntmps H pins) {tmps:=vals.toArray++Array.replicate (fn.ntmps-vals.toArray.size) undef,defers:=[]} w:=by
    refine ⟨hok,fun t=>?_,by simp [zsd];omega,rfl,fun id l hp hl=>⟨?_,by rw [<- h0];exact hl⟩⟩
    rotate_left
    . rcases hpins id hp with hf | hf
      . rw [h0,hok.free id hf] at hl;cases hl
      . exact hf
    simp only [zsd,zci];rw [zy20,Array.getElem?_append];by_cases ht:t<args.length
    . obtain ⟨v,hv,hrep⟩:=hargs.get t args[t] (zy15 ht)
      rw [zy12 (by simpa [hlen] using ht),zy15 ht];simp only [Option.getD_some,List.getElem?_toArray,hv];exact hrep
    . rw [zy10 (by simpa [hlen] using ht),zy25 (by omega)]
      simp only [Option.getD_none,zad];rw [Array.getElem?_replicate];split<;>rfl
   refine zqn hm zrr zrq c _ _ _ m _ w h hc fun e s' m' a' w' he hc'=>?_
   have fin:zwi P s' fn.results.toList (fun v=>K v s'.heap)->∃ v,(results fn a'.tmps).run P w'=.ok v w'/\∃ x H' v0 m',Ending.returned v=.returned v0/\K x H'/\zag Γ m' H' w'/\zad m' w' (RR Γ m' H' w') x v0/\∀ id l,pin<=id->m id=some l->m' id=some l:=by
    intro hr;obtain ⟨x,v,h1,h2,h3⟩:=zuj hc' hr;exact ⟨v,h3,x,s'.heap,v,m',rfl,h1,hc'.heap,h2,fun id l hp hl=>(hc'.pin id l hp (by rw [h0];exact hl)).2⟩
   cases e with
   | exit i=>exact he.elim
   | normal=>exact ⟨hc'.defers,fin he⟩
   | ret=>exact ⟨hc'.defers,fin he⟩
 . exact h.elim
theorem zbe (hm : P.follows .mixedOrders = true) {f : FuncId} {fn : Func} (hf : P.funcs[f]? = some fn) (hn : fn.name ≠ "runtime.NumGoroutine") {args : List HV} {r : HV}
 (h:zwn P (CR P) fn args zar [] fun x H2=>zbv H2 x fun y _=>zin (zhv P fn.resultTypes.toList y) fun y=>y=r):zcu P f args zar r zar:=by
 intro Γ m w vals hok hargs h0;obtain ⟨h1,h2⟩:=zow hm hf hn (fun _ _=>.inl rfl) h hok hargs h0;refine ⟨h1,h2.mono fun e w' he=>?_⟩;obtain ⟨x,H2,v,m',rfl,hk,hok',hv,hp⟩:=he;obtain ⟨y,us,hy,hview⟩:=zga _ hk;rw [zko] at hy;subst hy;have hws:=WS.frz hok' hview.frz;have hy:=hview.rep m' w' _ v (WS.kept hview.frz hws.ok) (hws.rep hv);have hRn:∀ b,RR Γ m' (zba H2 us) w' b->RR Γ (fun _=>none) zar w' b:=fun b hb=>⟨hb.1,hb.2.1,zmz⟩
 refine ⟨v,fun _=>none,rfl,⟨hok'.size,hok'.os,hok'.tape,hok'.output,hok'.frame,fun _ _=>rfl,(fun id b hb=>by cases hb),(fun id b hb=>by cases hb),(fun id id' b b' l l' hb=>by cases hb),hok'.dom⟩,?_,fun id l _ hl=>?_⟩
 . refine zad.zhv _ ?_
   refine zrg (σ:=zlg) (m:=m') (R:=RR Γ m' (zba H2 us) w') (fun i j hj=>by cases hj) (fun i hj=>by cases hj) hRn _ v hview.noid ?_;rw [zrf _ hview.noid];exact hy
 . rw [hok.free id rfl] at hl;cases hl
end
end Go.HL
namespace Go.HL
abbrev i64 (n:Int):HV:=.p (.v (.int .i64 n))
abbrev W (z:Int):Int:=IntKind.i64.wrap z
theorem zbh {b:Bool} {A B:Prop} (h1:b=true->A) (h2:b=false->B):hif b A B:=by cases b<;>simp_all [hif]
theorem zcf {k:IntKind} {z:Int} {K:Int->Prop} (h:K (k.wrap z)):zhn k z K:=⟨_,rfl,h⟩
theorem zlb {k:IntKind} {z:Int} {K:Int->Prop} (hz:k.wrap z=z) (h:K z):zhn k z K:=⟨z,hz.symm,h⟩
theorem zby {c k:Prop} (h:c) (hk:k):zes c k:=⟨h,hk⟩
theorem zbt {P:Program} {s0:HS} {all:Array Oper} {labs:List Lab} {k:Prop} (h:zeb all labs=true) (hk:k):zuf P s0 all labs k:=⟨.inl h,hk⟩
theorem zir {rows:List (List PV)} {i:Int} {K:List PV->Prop} {r:List PV} (h0:0<=i) (h:rows[i.toNat]?=some r) (hk:K r):zmp rows i K:=⟨r,h0,h,hk⟩
theorem zvh {z:Int} (h1:-9223372036854775808<=z) (h2:z<=9223372036854775807):W z=z:=by
 unfold W IntKind.wrap;simp [IntKind.bits,IntKind.signed];omega
section
variable {P:Program}
theorem zas {f:FuncId} {args:List HV} {d:Nat} {H:Nat->zaa} {K:Res->Prop} (h:zdq H args fun a us=>zen (normArgs P (zte P f) a) fun a=>∃ r,zcu P f a zar r zar/\zme r=true/\K ⟨r,[],us.map (·.1)⟩) :
 zvn (CR P) f args d H K:=by
 obtain ⟨a,us,h,hv⟩:=zbu _ h;rw [zde] at h;obtain ⟨r,h1,h2,h3⟩:=h;replace h1:=h1.args fun _ _ _ _ hx=>hx.normArgs _
 exact ⟨_,.lend ⟨hv.loc H (fun _ _=>rfl) _ ⟨rfl,rfl⟩,h1,h2,rfl,rfl⟩,h3⟩
end
def zvg (σ:Ren) (s:HS):List (Nat×HV)->Prop
 | []=>True
 | (i,x)::r=>(zed σ x=true/\rn σ x=s.slot i)/\zvg σ s r
def zsi (σ:Ren) (s:HS):List (Nat×zaa)->Prop
 | []=>True
 | (id,b)::r=>(match b with
  | .free=>False
  | .dead=>(σ id).isSome=true
  | .live b=>zgd σ b=true/\((∃ j,σ id=some (some j)/\s.heap j=.live (rnB σ b))\/(σ id=some none/\zvw b))
  | .ro b=>zgd σ b=true/\∃ j,σ id=some (some j)/\(s.heap j=.live (rnB σ b)\/s.heap j=.ro (rnB σ b)))/\zsi σ s r
def znd (σ:Ren):List Nat->Prop
 | []=>True
 | i::r=>σ i=some (some i)/\znd σ r
def ztn:List (Nat×Option Nat)->List Nat
 | []=>[]
 | (_,some j)::r=>j::ztn r
 | (_,none)::r=>ztn r
def zhs:List Nat->Bool
 | []=>true
 | x::r=>!(r.any (Nat.beq x))&&zhs r
def zhp (L:List (Nat×zaa)):List (Nat×Option Nat)->Bool
 | []=>true
 | (i,_)::r=>L.any (fun p=>Nat.beq i p.1)&&zhp L r
theorem zjx {α:Type} {d:α}:∀ {l:List (Nat×α)} {i:Nat},lk d l i=d\/∃ x,(i,x)∈l/\lk d l i=x
 | [],i=>.inl rfl
 | (j,x)::r,i=>by
  simp only [lk];cases hb:Nat.beq i j with
  | true=>have:=zy0 hb;subst this;exact .inr ⟨x,by simp,rfl⟩
  | false =>
   rcases zjx (d:=d) (l:=r) (i:=i) with h | ⟨y,h1,h2⟩
   . exact .inl h
   . exact .inr ⟨y,by simp [h1],h2⟩
theorem zoj {σ:Ren} {s:HS}:∀ {l:List (Nat×HV)} {i:Nat} {x:HV},zvg σ s l->(i,x)∈l->zed σ x=true/\rn σ x=s.slot i
 | (j,y)::r,i,x,h,hm=>by
  simp only [zvg] at h;cases hm with
  | head=>exact h.1
  | tail _ hm=>exact zoj h.2 hm
theorem zmw {l:List (Nat×Option Nat)} {i:Nat} {o:Option Nat} (h:lkN l i=some o):(i,o)∈l:=by
 induction l with
 | nil=>cases h
 | cons p l ih =>
  obtain ⟨a,b⟩:=p;simp only [lkN] at h;cases hb:Nat.beq i a with
  | true=>rw [hb] at h;cases h;have:=zy0 hb;subst this;simp
  | false=>rw [hb] at h;simp [ih h]
theorem ziw {L:List (Nat×zaa)}:∀ {l:List (Nat×Option Nat)} {i:Nat} {o:Option Nat},zhp L l=true->(i,o)∈l->∃ b,(i,b)∈L
 | (j,y)::r,i,o,h,hm=>by
  simp only [zhp,zy1] at h;cases hm with
  | head =>
   obtain ⟨p,hp,hb⟩:=zy50.1 h.1;have:=zy0 hb;subst this;exact ⟨p.2,hp⟩
  | tail _ hm=>exact ziw h.2 hm
theorem zqr {α:Type} {d:α}:∀ {l:List (Nat×α)} {i:Nat},(∀ x,(i,x)∉l)->lk d l i=d
 | [],i,_=>rfl
 | (j,x)::r,i,h=>by
  simp only [lk];cases hb:Nat.beq i j with
  | true=>have:=zy0 hb;subst this;exact absurd zz0 (h x)
  | false=>exact zqr fun y hy=>h y zz16
theorem znu {σ:Ren} {s:HS}:∀ {l:List (Nat×zaa)} {i:Nat} {x:zaa},zsi σ s l->(i,x)∈l->zsi σ s [(i,x)]
 | (j,y)::r,i,x,h,hm=>by
  simp only [zsi] at h;cases hm with
  | head=>exact ⟨h.1,trivial⟩
  | tail _ hm=>exact znu h.2 hm
theorem zkd:∀ {l:List (Nat×Option Nat)},zhs (ztn l)=true->∀ {i i' j:Nat},(i,some j)∈l->(i',some j)∈l->i=i'
 | [],_,i,i',j,h,_=>by cases h
 | (a,none)::r,hn,i,i',j,h,h'=>by
  cases h with
  | tail _ h=>cases h' with
   | tail _ h'=>exact zkd (l:=r) hn h h'
 | (a,some b)::r,hn,i,i',j,h,h'=>by
  simp only [ztn,zhs,zy1,zy31] at hn;have hin:∀ {r:List (Nat×Option Nat)} {i j:Nat},(i,some j)∈r->j∈ztn r:=by
   intro r
   induction r with
   | nil=>intro i j h;cases h
   | cons p r ih =>
    intro i j h;obtain ⟨a,o⟩:=p;cases h with
    | head=>simp [ztn]
    | tail _ h=>cases o<;>simp [ztn,ih h]
  have hno:∀ {i:Nat},(i,some b)∉r:=by
   intro i hi;have:=List.any_eq_false.1 hn.1 b (hin hi);simp at this
  cases h with
  | head=>cases h' with
   | head=>rfl
   | tail _ h'=>exact absurd h' hno
  | tail _ h=>cases h' with
   | head=>exact absurd h hno
   | tail _ h'=>exact zkd hn.2 h h'
theorem zse {s:HS} {heap:List (Nat×zaa)} {pins:List Nat} (l:List (Nat×Option Nat)) (h1:zhp heap l=true) (_:znd (lkN l) pins) (h5:zsi (lkN l) s heap):∀ id,match lk zaa.free heap id with
 | .free=>lkN l id=none
 | .dead=>True
 | .live b=>zgd (lkN l) b=true/\((∃ j,lkN l id=some (some j)/\s.heap j=.live (rnB (lkN l) b))\/(lkN l id=some none/\zvw b))
 | .ro b=>zgd (lkN l) b=true/\∃ j,lkN l id=some (some j)/\(s.heap j=.live (rnB (lkN l) b)\/s.heap j=.ro (rnB (lkN l) b)):=by
 intro id;by_cases hm:∃ x,(id,x)∈heap
 . rcases zjx (d:=zaa.free) (l:=heap) (i:=id) with h | ⟨x,hx,h⟩
   . exfalso
     obtain ⟨x,hx⟩:=hm;have gen:∀ {l:List (Nat×zaa)} {σ:Ren},zsi σ s l->(∃ x,(id,x)∈l)->lk .free l id≠.free:=by
      intro l
      induction l with
      | nil=>intro σ _ ⟨x,hx⟩;cases hx
      | cons p l ih =>
       obtain ⟨a,y⟩:=p;intro σ h ⟨x,hx⟩;simp only [lk];cases hb:Nat.beq id a with
       | true =>
        show y≠.free;intro hy;subst hy;exact h.1
       | false =>
        refine ih h.2 ?_;cases hx with
        | head=>simp at hb
        | tail _ hx=>exact ⟨x,hx⟩
     exact gen h5 ⟨x,hx⟩ h
   . rw [h]
     have:=(znu h5 hx).1;cases x<;>simp only at this ⊢
     . exact this
     . exact this
 . rw [zqr fun x hx=>hm ⟨x,hx⟩]
   show lkN l id=none;cases ho:lkN l id with
   | none=>rfl
   | some o=>exact absurd (ziw h1 (zmw ho)) hm
theorem zsf {pins:List Nat} (l:List (Nat×Option Nat)) (h3:znd (lkN l) pins):∀ id∈pins,lkN l id=some (some id):=by
 intro id hid;have gen:∀ {r:List Nat},znd (lkN l) r->id∈r->lkN l id=some (some id):=by
  intro r
  induction r with
  | nil=>intro _ h;cases h
  | cons a r ih =>
   intro h hm;simp only [znd] at h;cases hm with
   | head=>exact h.1
   | tail _ hm=>exact ih h.2 hm
 exact gen h3 hid
def zkl (heap:List (Nat×zaa)) (i:Nat):Bool:=match lk .free heap i with
 | .dead=>true
 | _=>false
def zkc (heap:List (Nat×zaa)):List (Nat×Option Nat)->List Nat
 | []=>[]
 | (i,some j)::r=>bif zkl heap i then zkc heap r else j::zkc heap r
 | (_,none)::r=>zkc heap r
theorem zom {heap:List (Nat×zaa)}:∀ (l:List (Nat×Option Nat)),zkc heap l=ztn (l.filter fun p=>!zkl heap p.1)
 | []=>rfl
 | (i,o)::r=>by
  cases hd:zkl heap i<;>cases o<;>simp [zkc,ztn,List.filter_cons,hd,zom r]
theorem zrn {heap:List (Nat×zaa)} {l:List (Nat×Option Nat)} (h:zhs (zkc heap l)=true) {i i' j:Nat} (h1:(i,some j)∈l) (h2:(i',some j)∈l) (d1:lk .free heap i≠.dead) (d2:lk .free heap i'≠.dead):i=i':=by
 rw [zom] at h;have hd:∀ k,lk .free heap k≠.dead->zkl heap k=false:=by
  intro k hk;unfold zkl;split
  . rename_i he;exact absurd he hk
  . rfl
 exact zkd h (List.mem_filter.2 ⟨h1,by simp [hd i d1]⟩) (List.mem_filter.2 ⟨h2,by simp [hd i' d2]⟩)
theorem zug {s:HS} {pins:List Nat} {n:Nat} {slots:List (Nat×HV)} {heap:List (Nat×zaa)} (l:List (Nat×Option Nat)) (hn:n=s.n) (hp:pins=s.pins) (h1:zhp heap l=true) (h2:zhs (zkc heap l)=true)
 (h3:znd (lkN l) pins) (h4:zvg (lkN l) s slots) (h5:zsi (lkN l) s heap):zwe s (hsP pins n slots heap):=by
 refine ⟨hn,hp,lkN l,fun i=>?_,zse l h1 h3 h5,fun id id' b j hb hd hj hj'=>zrn h2 (zmw hj) (zmw hj') (by intro he;have hb:lk zaa.free heap id=_:=hb;rw [he] at hb;cases hb) hd,fun id hid=>zsf l h3 id (hp ▸ hid)⟩;rcases zjx (d:=HV.any) (l:=slots) (i:=i) with h | ⟨x,hx,h⟩
 . exact .inl h
 . right
   show zed (lkN l) (lk .any slots i)=true/\rn (lkN l) (lk .any slots i)=s.slot i;rw [h];exact zoj h4 hx
theorem zvp {s:HS} {pins:List Nat} {n:Nat} {slots:List (Nat×HV)} {heap:List (Nat×zaa)} (l:List (Nat×Option Nat)) (hn:n=s.n) (hp:pins=s.pins) (h1:zhp heap l=true) (h2:zhs (zkc heap l)=true)
 (h3:znd (lkN l) pins) (h4:zvg (lkN l) s slots) (h5:zsi (lkN l) s heap):HLe s (hsP pins n slots heap):=⟨[],by rw [zud];exact zug l hn hp h1 h2 h3 h4 h5⟩
theorem zns {s:HS} {n:Nat} {slots:List (Nat×HV)} {heap:List (Nat×zaa)} (l:List (Nat×Option Nat)) (hn:n=s.n) (hp:[]=s.pins) (h1:zhp heap l=true) (h2:zhs (zkc heap l)=true)
 (h4:zvg (lkN l) s slots) (h5:zsi (lkN l) s heap):HLe s (hs n slots heap):=zvp l hn hp h1 h2 trivial h4 h5
end Go.HL
namespace Go.HL
section
variable {P:Program}
end
end Go.HL
namespace Go.HL
section
variable {P:Program}
end
end Go.HL
namespace Go.HL
section
variable {P:Program}
end
end Go.HL
namespace Go.HL
end Go.HL
namespace Go.HL
open Go.RowKit
mutual
def PV.bulk:PV->Nat
 | .v (.string s)=>s.size+1
 | .v _=>1
 | .sl _ rows=>zfl rows+1
def zda:List PV->Nat
 | []=>0
 | x::r=>x.bulk+zda r
def zfl:List (List PV)->Nat
 | []=>0
 | r::rs=>zda r+zfl rs
end
mutual
def dwb {H:Type}:DataW H->Nat
 | .lit (.string bytes)=>bytes.length+1
 | .lit _=>1
 | .nil=>1
 | .ptr d=>dwb d+1
 | .slice elems spare=>zgk elems+zgk spare+1
 | .agg parts=>zgk parts+1
 | .iface _ d=>dwb d+1
 | .map entries=>zvk entries+1
 | .held _=>1
def zgk {H:Type}:List (DataW H)->Nat
 | []=>0
 | d::r=>dwb d+zgk r
def zvk {H:Type}:List (Lit×DataW H)->Nat
 | []=>0
 | x::r=>zuc x+zvk r
def zuc {H:Type}:Lit×DataW H->Nat
 | (.string bytes,d)=>bytes.length+dwb d+1
 | (_,d)=>dwb d+1
end
def zlz (P:Program) (S:TypeId->Bool):Nat->Nat->List Field->Bool
 | off,tot,[]=>Nat.beq off tot
 | off,tot,f::fs=>Nat.beq f.offset off&&S f.type&&zlz P S (off+P.cellsOf f.type) tot fs
def ztl (P:Program):Nat->TypeId->Bool
 | 0,_=>false
 | n+1,t=>match P.underlying t with
  | some .bool=>true
  | some (.int _)=>true
  | some .string=>true
  | some (.slice e)=>ztl P n e&&Nat.blt 0 (P.cellsOf e)
  | some (.struct fs)=>zlz P (ztl P n) 0 (P.cellsOf t) fs.toList
  | _=>false
def zve (P:Program) (S:TypeId->List PV->Prop):List Field->List PV->Prop
 | [],pvs=>pvs=[]
 | f::fs,pvs=>∃ a b,pvs=a++b/\a.length=P.cellsOf f.type/\S f.type a/\zve P S fs b
def shp (P:Program):Nat->TypeId->List PV->Prop
 | 0,_,_=>False
 | n+1,t,pvs=>match P.underlying t with
  | some .bool=>∃ b,pvs=[.v (.bool b)]
  | some (.int k)=>∃ z,pvs=[.v (.int k z)]/\(Lit.int k z).wf=true
  | some .string=>∃ s,pvs=[.v (.string s)]/\s.size<=maxLen
  | some (.slice e)=>∃ rows,pvs=[.sl (P.cellsOf e) rows]/\∀ r∈rows,shp P n e r
  | some (.struct fs)=>zve P (shp P n) fs.toList pvs
  | _=>False
section
variable {H:Type} {enc:TypeId×Value->H} {P:Program} {W:World} {base:Nat} {sp:Nat->Bool} {held:Bool}
abbrev RW (W:World):Nat->Prop:=fun b=>b<W.heap.size
theorem zim {a:Addr} {n:Nat} {cs:List Value} (h:W.cells? base a n=some cs):cs.length=n/\(∀ k v,cs[k]?=some v->W.cell? (a.add k)=some v):=by
 unfold World.cells? at h;split at h
 . have hl:=mapM_some_length h
   refine ⟨by simpa using hl,fun k v hv=>?_⟩;have hk:k<n:=by
    have:=(zy8.1 hv).1
    simpa [hl] using this
   have:=mapM_some_get h k k (by rw [zy51 hk]);rw [this];exact hv
 . cases h
theorem zua {b o:Nat} {v:Value} (h:W.cell? ⟨b,o,none⟩=some v):b<W.heap.size:=by
 unfold World.cell? at h;cases hb:W.heap[b]? with
 | none=>simp only [hb] at h;cases h
 | some x=>exact (zy22.1 hb).1
theorem zgi:∀ (a b:List PV),zda (a++b)=zda a+zda b
 | [],b=>by simp [zda]
 | x::a,b=>by simp [zda,zgi a b];omega
theorem zma {fuel:Nat} {S:TypeId->Bool} {Sh:TypeId->List PV->Prop} {cs:List Value}
 (ih:∀ t cs d ps,S t=true->DataW.trod enc P W base sp held fuel t cs=some (d,ps)->∃ pvs,zbg W (RW W) pvs cs/\Sh t pvs/\zda pvs<=dwb d) :
 ∀ (fs:List Field) (off:Nat) (xs:List (DataW H×List MemPlace)),zlz P S off cs.length fs=true->off<=cs.length ->
  (∀ f∈fs,f.offset+P.cellsOf f.type<=cs.length) ->
  fs.mapM (fun f=>DataW.trod enc P W base sp held fuel f.type ((cs.drop f.offset).take (P.cellsOf f.type)))=some xs ->
  ∃ pvs,zbg W (RW W) pvs (cs.drop off)/\zve P Sh fs pvs/\zda pvs<=zgk (xs.map (·.1))
 | [],off,xs,hs,hle,_,h=>by
  simp only [zlz] at hs;have:=zy0 hs;subst this;simp only [List.mapM_nil,Option.pure_def,Option.some.injEq] at h;subst h;exact ⟨[],by rw [zy55 (zy49 _)];exact .nil,rfl,by simp [zda,zgk]⟩
 | f::fs,off,xs,hs,hle,hb,h=>by
  simp only [zlz,zy1] at hs;obtain ⟨⟨h1,h2⟩,h3⟩:=hs;have h1:=zy0 h1;subst h1;simp only [List.mapM_cons,Option.bind_eq_bind,Option.pure_def] at h;cases hx:DataW.trod enc P W base sp held fuel f.type ((cs.drop f.offset).take (P.cellsOf f.type)) with
  | none=>rw [hx] at h;simp at h
  | some x =>
   obtain ⟨d,ps⟩:=x;rw [hx] at h;simp only [zy68] at h;cases hr:fs.mapM (fun f=>DataW.trod enc P W base sp held fuel f.type ((cs.drop f.offset).take (P.cellsOf f.type))) with
   | none=>rw [hr] at h;simp at h
   | some r =>
    rw [hr] at h;simp only [zy68,Option.some.injEq] at h;subst h;obtain ⟨pa,ha1,ha2,ha3⟩:=ih _ _ _ _ h2 hx;have hbf:=hb f zz0;obtain ⟨pb,hb1,hb2,hb3⟩:=zma ih fs (f.offset+P.cellsOf f.type) r h3 hbf (fun g hg=>hb g (by simp [hg])) hr;have hl:=ha1.length;have htl:((cs.drop f.offset).take (P.cellsOf f.type)).length=P.cellsOf f.type:=by simp;omega
    refine ⟨pa++pb,?_,⟨pa,pb,rfl,by omega,ha2,hb2⟩,by rw [zgi];simp only [zy13,zgk];omega⟩;have:=ha1.append hb1;rw [<- List.drop_drop,zy59] at this;exact this
theorem zol {S:TypeId->Bool} {tot:Nat}:∀ {fs:List Field} {off:Nat},zlz P S off tot fs=true->off<=tot/\∀ f∈fs,f.offset+P.cellsOf f.type<=tot
 | [],off,h=>by simp only [zlz] at h;have:=zy0 h;exact ⟨by omega,by simp⟩
 | f::fs,off,h=>by
  simp only [zlz,zy1] at h;obtain ⟨⟨h1,h2⟩,h3⟩:=h;have h1:=zy0 h1;obtain ⟨h4,h5⟩:=zol h3;refine ⟨by omega,fun g hg=>?_⟩;rcases zy7.1 hg with rfl | hg
  . omega
  . exact h5 g hg
theorem zke:∀ (n fuel:Nat) (t:TypeId) (cs:List Value) (d:DataW H) (ps:List MemPlace),ztl P n t=true->DataW.trod enc P W base sp held fuel t cs=some (d,ps) ->
 ∃ pvs,zbg W (RW W) pvs cs/\shp P n t pvs/\zda pvs<=dwb d
 | 0,fuel,t,cs,d,ps,hs,h=>by cases hs
 | n+1,0,t,cs,d,ps,hs,h=>by simp [DataW.trod] at h
 | n+1,fuel+1,t,cs,d,ps,hs,h=>by
  simp only [ztl] at hs;simp only [shp];unfold DataW.trod at h;cases hu:P.underlying t with
  | none=>rw [hu] at hs;cases hs
  | some u =>
   rw [hu] at hs h;cases u with
   | bool =>
    rcases cs with _ | ⟨c,_ | ⟨c2,cs⟩⟩
    . cases h
    . cases c<;>try cases h
      rename_i b;exact ⟨[.v (.bool b)],.cons (.v _ rfl) .nil,⟨b,rfl⟩,by simp [zda,PV.bulk,dwb]⟩
    . cases c<;>first | cases h | simp at h
   | int k =>
    rcases cs with _ | ⟨c,_ | ⟨c2,cs⟩⟩
    . cases h
    . cases c<;>try cases h
      rename_i k' z;simp only at h;split at h
      . rename_i hw
        obtain ⟨rfl,hw⟩:=hw;cases h;exact ⟨[.v (.int k' z)],.cons (.v _ rfl) .nil,⟨z,rfl,hw⟩,by simp [zda,PV.bulk,dwb]⟩
      . cases h
    . cases c<;>first | cases h | simp at h
   | string =>
    rcases cs with _ | ⟨c,_ | ⟨c2,cs⟩⟩
    . cases h
    . cases c<;>try cases h
      rename_i s;simp only at h;split at h
      . rename_i hw
        cases h;exact ⟨[.v (.string s)],.cons (.v _ rfl) .nil,⟨s,rfl,hw⟩,by simp only [zda,PV.bulk,dwb,Array.length_toList,zy38];exact zy49 _⟩
      . cases h
    . cases c<;>first | cases h | simp at h
   | slice e =>
    simp only [zy1] at hs;obtain ⟨hs,hpos⟩:=hs;have hpos:0<P.cellsOf e:=zy2 hpos;rcases cs with _ | ⟨c,_ | ⟨c2,cs⟩⟩
    . cases h
    . cases c<;>try cases h
      rename_i a len cap;cases a with
      | none =>
       cases len with
       | zero=>cases cap with
        | zero =>
         cases h;exact ⟨[.sl (P.cellsOf e) []],.cons (.sl0 _ _ _ (Nat.zero_le _)) .nil,⟨[],rfl,by simp⟩,by simp [zda,PV.bulk,zfl,dwb]⟩
        | succ cap=>cases h
       | succ len=>cases h
      | some a =>
       simp only at h;split at h
       . rename_i hb
         obtain ⟨hb,hlc,hcm⟩:=hb;cases he:(List.range len).mapM (fun i=>(W.cells? base (a.add (i*P.cellsOf e)) (P.cellsOf e)).bind (DataW.trod enc P W base sp held fuel e)) with
         | none=>rw [he] at h;simp at h
         | some elems =>
          rw [he] at h;simp only [zy68] at h;have hle:=mapM_some_length he;simp only [List.length_range] at hle;have hd:zgk (elems.map (·.1))+1<=dwb d:=by
           obtain ⟨rest,hr,hx⟩:=zy3.1 h;cases hx;simp only [dwb];omega
          -- each element
          have hat:∀ i,i<len->∃ cs x,W.cells? base (a.add (i*P.cellsOf e)) (P.cellsOf e)=some cs/\elems[i]?=some x/\DataW.trod enc P W base sp held fuel e cs=some x:=by
           intro i hi;have hg:=mapM_some_get he i i (by rw [zy51 hi]);obtain ⟨x,hx⟩:∃ x,elems[i]?=some x:=⟨_,zy15 zz1⟩
           rw [hx] at hg;cases hc:W.cells? base (a.add (i*P.cellsOf e)) (P.cellsOf e) with
           | none=>rw [hc] at hg;simp at hg
           | some cs=>rw [hc] at hg;exact ⟨cs,x,rfl,hx,by simpa using hg⟩
          cases len with
          | zero =>
           have:elems=[]:=zy5 hle;subst this;refine ⟨[.sl (P.cellsOf e) []],.cons (.sl0 _ _ _ hcm) .nil,⟨[],rfl,by simp⟩,?_⟩;simp [zda,PV.bulk,zfl] at hd ⊢;omega
          | succ len =>
           have hspot:a=⟨a.block,a.off,none⟩:=by
            obtain ⟨cs0,x0,h1,_,_⟩:=hat 0 zz1;obtain ⟨hl0,hc0⟩:=zim h1;have h2:=hc0 0 (cs0[0]'zz1) (zy15 zz1);simp only [Nat.zero_mul,Addr.add,if_true] at h2;obtain ⟨blk,off,spot⟩:=a;unfold World.cell? at h2;split at h2
            . split at h2
              . cases h2
              . rename_i hsn
                cases spot with
                | none=>rfl
                | some x=>simp at hsn
            . cases h2
           obtain ⟨blk,off,spot⟩:=a;simp only [Addr.mk.injEq,true_and] at hspot;subst hspot;have hadd:∀ off j,(⟨blk,off,none⟩:Addr).add j=⟨blk,off+j,none⟩:=by
            intro off j;unfold Addr.add;split
            . rename_i h0;subst h0;rfl
            . rfl
           have zmp:∀ i,i<len+1->∃ r:List PV,r.length=P.cellsOf e/\shp P n e r/\(∃ x,elems[i]?=some x/\zda r<=dwb x.1)/\∀ (k:Nat) y,r[k]?=some y->∃ cv,W.cell? ⟨blk,off+(i*P.cellsOf e+k),none⟩=some cv/\zcn W (RW W) y cv:=by
            intro i hi;obtain ⟨cs,x,h1,h2,h3⟩:=hat i hi;obtain ⟨r,h4,h5,h6⟩:=zke n fuel e cs x.1 x.2 hs h3;obtain ⟨h7,h8⟩:=zim h1;refine ⟨r,by rw [<- h7];exact h4.length.symm,h5,⟨x,h2,h6⟩,fun k y hk=>?_⟩;obtain ⟨v,hv,hp⟩:=h4.get k y hk;have h9:=h8 k v hv;rw [hadd,hadd] at h9;exact ⟨v,by rw [<- h9,zy63],hp⟩
           let row:Nat->List PV:=fun i=>if hi:i<len+1 then Classical.choose (zmp i hi) else []
           have hrowi:∀ i (hi:i<len+1),(row i).length=P.cellsOf e/\shp P n e (row i)/\(∃ x,elems[i]?=some x/\zda (row i)<=dwb x.1)/\∀ (k:Nat) y,(row i)[k]?=some y->∃ cv,W.cell? ⟨blk,off+(i*P.cellsOf e+k),none⟩=some cv/\zcn W (RW W) y cv:=by
            intro i hi;have:=Classical.choose_spec (zmp i hi);simp only [row,dif_pos hi];exact this
           let rows:=(List.range (len+1)).map row
           have hrl:rows.length=len+1:=by simp [rows]
           have hmem:∀ r∈rows,∃ i,i<len+1/\r=row i:=by
            intro r hr;obtain ⟨i,hi,rfl⟩:=zy4.1 hr;exact ⟨i,List.mem_range.1 hi,rfl⟩
           have hlens:∀ r∈rows,r.length=P.cellsOf e:=by
            intro r hr;obtain ⟨i,hi,rfl⟩:=hmem r hr;exact (hrowi i hi).1
           have hcell:∀ k y,rows.flatten[k]?=some y->∃ cv,W.cell? ⟨blk,off+k,none⟩=some cv/\zcn W (RW W) y cv:=by
            intro k y hk;obtain ⟨i,j,r,e1,hj,hr,hy⟩:=zbn hlens hk;have hi:i<len+1:=by
             have:=(zy8.1 hr).1;rw [hrl] at this;exact this
            have hre:r=row i:=by
             simp only [rows,zy9,zy51 hi,zy18,Option.some.injEq] at hr;exact hr.symm
            subst hre;obtain ⟨cv,h1,h2⟩:=(hrowi i hi).2.2.2 j y hy;exact ⟨cv,by rw [e1];exact h1,h2⟩
           have hblk:blk<W.heap.size:=by
            obtain ⟨hl0,_,_,hc0⟩:=hrowi 0 zz1;obtain ⟨cv,h1,_⟩:=hc0 0 ((row 0)[0]'zz1) (zy15 zz1);exact zua h1
           have hprep:zcn W (RW W) (.sl (P.cellsOf e) rows) (.slice (some ⟨blk,off,none⟩) (len+1) cap):=by
            have:=zcn.sl (w:=W) (R:=RW W) (P.cellsOf e) rows blk off cap (fun k=>(W.cell? ⟨blk,off+k,none⟩).getD undef) zz1 hcm hlens hblk
             (fun k y hk=>by obtain ⟨cv,h1,_⟩:=hcell k y hk;simp only [h1];rfl) (fun k y hk=>by obtain ⟨cv,h1,h2⟩:=hcell k y hk;simp only [h1];exact h2)
            rw [hrl] at this;exact this
           refine ⟨[.sl (P.cellsOf e) rows],.cons hprep .nil,⟨rows,rfl,fun r hr=>?_⟩,?_⟩
           . obtain ⟨i,hi,rfl⟩:=hmem r hr
             exact (hrowi i hi).2.1
           . have hbr:∀ (es:List (DataW H×List MemPlace)) (g:Nat->List PV) (m:Nat),es.length=m->(∀ i,i<m->∃ x,es[i]?=some x/\zda (g i)<=dwb x.1)->zfl ((List.range m).map g)<=zgk (es.map (·.1)):=by
              intro es
              induction es with
              | nil=>intro g m hm _;simp at hm;subst hm;simp [zfl,zgk]
              | cons x es ih =>
               intro g m hm hg;simp at hm;subst hm;rw [List.range_succ_eq_map];simp only [zy13,List.map_map,zfl,zgk];obtain ⟨x0,h1,h2⟩:=hg 0 zz1;simp at h1;subst h1;have:=ih (g∘Nat.succ) es.length rfl fun i hi=>by
                obtain ⟨y,h3,h4⟩:=hg (i+1) zz1;exact ⟨y,by simpa using h3,h4⟩
               omega
             have:zfl rows<=zgk (elems.map (·.1)):=hbr elems row (len+1) hle fun i hi=>(hrowi i hi).2.2.1
             simp only [zda,PV.bulk];show zfl rows+1+0<=dwb d;omega
       . cases h
    . cases c<;>first | cases h | simp at h
   | struct fs =>
    simp only at h;split at h
    . rename_i hl
      obtain ⟨xs,hx,hx2⟩:=zy3.1 h;cases hx2;rw [<- hl] at hs;obtain ⟨h1,h2⟩:=zol hs;obtain ⟨pvs,h3,h4,h5⟩:=zma (S:=ztl P n) (Sh:=shp P n) (fun t cs d ps=>zke n fuel t cs d ps) fs.toList 0 xs hs h1 h2 hx;exact ⟨pvs,by simpa using h3,h4,by simp only [dwb];omega⟩
    . cases h
   | _=>cases hs
def zhg (P:Program) (t:TypeId) (pvs:List PV):HV:=match P.underlying t with
 | some (.struct _)=>.agg (pvs.map .p)
 | _=>match pvs with | [x]=>.p x | _=>.any
theorem zrc {m:zbk} {R:Nat->Prop} {pvs:List PV} {vs:List Value} (h:zbg W R pvs vs):zae m W R (pvs.map .p) vs:=by
 induction h with
 | nil=>simp only [List.map_nil,zae]
 | cons h _ ih=>simp only [zy13,zae];exact ⟨_,_,rfl,by simp only [zad];exact h,ih⟩
theorem zty {n:Nat} {t:TypeId} {v:Value} {d:DataW H} {ps:List MemPlace} {r:Reach} {b0:Nat} {m:zbk} (hs:ztl P n t=true) (hok:Value.okWide P W r b0 t v) (h:DataW.Trod enc P W base sp held t v d ps) :
 ∃ pvs,shp P n t pvs/\zda pvs<=dwb d/\zad m W (RW W) (zhg P t pvs) v:=by
 obtain ⟨fuel,h⟩:=h;obtain ⟨pvs,h1,h2,h3⟩:=zke n fuel t _ d ps hs h;refine ⟨pvs,h2,h3,?_⟩;cases n with
 | zero=>cases hs
 | succ n =>
  have one:∀ {x:PV},pvs=[x]->v.cells=#[v]->zad m W (RW W) (.p x) v:=by
   intro x hx hv;subst hx;rw [hv] at h1;cases h1 with
   | cons h _=>simp only [zad];exact h
  simp only [ztl] at hs;simp only [shp] at h2;simp only [Value.okWide] at hok;unfold zhg;cases hu:P.underlying t with
  | none=>rw [hu] at hs;cases hs
  | some u =>
   rw [hu] at hs h2 hok;cases u with
   | bool =>
    simp only [Cell.okWide,Cell.ok,hu] at hok;obtain ⟨b,rfl⟩:=h2;cases v<;>try exact hok.elim
    exact one rfl rfl
   | int k =>
    exact yy8
   | string =>
    exact yy8
   | slice e =>
    exact yy8
   | struct fs =>
    obtain ⟨cs,rfl,_,_⟩:=hok;simp only [zad];exact ⟨cs,rfl,zrc h1⟩
   | _=>cases hs
def zvf (P:Program) (n:Nat):List TypeId->List (List PV)->Prop
 | [],[]=>True
 | t::ts,x::xs=>shp P n t x/\zvf P n ts xs
 | _,_=>False
def zhh (P:Program):List TypeId->List (List PV)->List HV
 | t::ts,x::xs=>zhg P t x::zhh P ts xs
 | _,_=>[]
theorem zni {n:Nat} {r:Reach} {b0:Nat} {m:zbk}:∀ {ts:List TypeId} {vs:List Value} {ds:List (DataW H)} {ps:List MemPlace},(∀ t∈ts,ztl P n t=true)->(∀ (j:Nat) t v,ts[j]?=some t->vs[j]?=some v->Value.okWide P W r b0 t v) ->
 DataW.TrodAll enc P W base sp held ts vs ds ps->∃ L,zvf P n ts L/\zfl L<=zgk ds/\zae m W (RW W) (zhh P ts L) vs/\ds.length=ts.length
 | [],[],[],ps,_,_,_=>⟨[],trivial,by simp [zfl,zgk],by simp only [zhh,zae],rfl⟩
 | t::ts,v::vs,d::ds,ps,hs,hok,h=>by
  obtain ⟨p,q,h1,h2,rfl⟩:=h;obtain ⟨x,h3,h4,h5⟩:=zty (m:=m) (hs t zz0) (hok 0 t v rfl rfl) h1;obtain ⟨L,h6,h7,h8,h9⟩:=zni (fun t ht=>hs t (by simp [ht])) (fun j t v hj hv=>hok (j+1) t v (by simpa using hj) zz7) h2;exact ⟨x::L,⟨h3,h6⟩,by simp only [zfl,zgk];omega,by simp only [zhh,zae];exact ⟨v,vs,rfl,h5,h8⟩,by simp [h9]⟩
 | [],[],_::_,_,_,_,h=>h.elim
 | [],_::_,_,_,_,_,h=>h.elim
 | _::_,[],_,_,_,_,h=>h.elim
 | _::_,_::_,[],_,_,_,h=>h.elim
theorem zfh (hl:laidOutB P=true) {W':World} (hb:Below W.heap.size W W'):∀ {ts:List TypeId} {vs:List Value} {ds:List (DataW H)} {ps:List MemPlace},(∀ t∈ts,P.readableRec t=true/\t<P.types.size) ->
 DataW.TrodAll enc P W 0 (fun _=>true) true ts vs ds ps->(∀ x∈ps,x.block<W.heap.size)->DataW.TrodAll enc P W' 0 (fun b=>decide (b<W.heap.size)) true ts vs ds ps
 | [],[],[],ps,_,h,_=>h
 | t::ts,v::vs,d::ds,ps,hr,h,hlt=>by
  obtain ⟨p,q,h1,h2,rfl⟩:=h;exact ⟨p,q,Below.trod hl (hr t zz0).1 (hr t zz0).2 h1 hb fun x hx=>hlt x (by simp [hx]),zfh hl hb (fun t ht=>hr t (by simp [ht])) h2 fun x hx=>hlt x (by simp [hx]),rfl⟩
 | [],[],_::_,_,_,h,_=>h.elim
 | [],_::_,_,_,_,h,_=>h.elim
 | _::_,[],_,_,_,h,_=>h.elim
 | _::_,_::_,[],_,_,h,_=>h.elim
theorem zld {f:FuncId} {fn:Func} {s:ChangeSpec} {args:Array Value} {ds gs:List (DataW H)} {before:List MemPlace} {b0:Nat} {tb:TypeId} (n:Nat) (hl:laidOutB P=true)
 (hsupp:fn.params.toList.all (ztl P n)=true) (hread:fn.params.toList.all (fun t=>P.readableRec t&&decide (t<P.types.size))=true)
 (hrt:fn.resultTypes=#[tb]) (htb:P.underlying tb=some .bool) (hvars:s.vars=[]) (hfn:∀ ds:List (DataW H),ds.length=fn.params.toList.length->(s.fn H ds).results=[.lit (.bool true)]/\(s.fn H ds).args=ds/\(s.fn H ds).vars=[])
 (hval:∀ (j:Nat) t v,fn.params[j]?=some t->args[j]?=some v->Value.okWide P W .any b0 t v)
 (hW:DataW.Whole enc P fn.params.toList s.vars false W args.toList ds gs before)
 (hspec:∀ L,zvf P n fn.params.toList L->zfl L<=zgk ds->zcu P f (zhh P fn.params.toList L) zar (zbo true) zar) :
 Calls P f args W fun e W'=>∃ v,e=.returned v/\s.post enc P fn false true false false W args v W':=by
 have hW':=hW;obtain ⟨p,q,hA,hV,rfl,hfz,hnd⟩:=hW;have hVe:gs=[]/\q=[]:=by
  rw [hvars] at hV;cases gs with
  | nil=>exact ⟨rfl,hV⟩
  | cons=>exact hV.elim
 obtain ⟨rfl,rfl⟩:=hVe;obtain ⟨L,h1,h2,h3,h4⟩:=zni (m:=fun _=>none) (n:=n) (fun t ht=>zy19.1 hsupp t ht) (fun j t v hj hv=>hval j t v (by simpa using hj) zz7) hA
 let Γ:Ctx:=⟨fun _=>True,W,fun _=>False,fun _=>none⟩
 have hok:zag Γ (fun _=>none) zar W:=⟨zy49 _,rfl,rfl,rfl,fun _ _ _=>rfl,fun _ _=>rfl,(fun id b hb=>by cases hb),(fun id b hb=>by cases hb),(fun id id' b b' l l' hb=>by cases hb),fun b hb=>hb.elim⟩
 have hrep:zae (fun _=>none) W (RR Γ (fun _=>none) zar W) (zhh P fn.params.toList L) args.toList:=zae.mono (.refl _) (fun b hb=>⟨rfl,.inl trivial,hb,zmz⟩) _ _ h3;obtain ⟨-,hcalls⟩:=hspec L h1 h2 Γ _ W args.toList hok hrep rfl;have hat:args.toList.toArray=args:=by simp
 rw [hat] at hcalls;refine hcalls.mono fun e W1 he=>?_
 obtain ⟨v,m',rfl,hok',hv,_⟩:=he;have hvb:=zck hv;subst hvb;have hb:Below W.heap.size W W1:=⟨hok'.os,hok'.tape,hok'.output,hok'.size,fun k hk=>hok'.frame k hk fun h=>h⟩
 obtain ⟨hf1,hf2,hf3⟩:=hfn (ds++[]) (by simp [h4]);refine ⟨_,rfl,ds,[],p++[],[],p,[],hW',?_,?_,?_,hb.frame _,fun h=>by cases h⟩
 . rw [hf1,hrt]
   have:(Value.bool true).resultList (#[tb]:Array TypeId).size=[.bool true]:=by simp [Value.resultList]
   rw [this];exact ⟨[],[],⟨1,by simp [DataW.trod,htb,Value.cells]⟩,rfl,rfl⟩
 . rw [hf2]
   have hlt:∀ x∈p,x.block<W.heap.size:=fun x hx=>by simpa using hW'.lt x zz5
   have:=zfh hl hb (fun t ht=>by
    have:=zy19.1 hread t ht;simp only [zy1,zy32] at this;exact this) hA hlt
   simpa using this
 . rw [hvars,hf3]
   rfl
end
end Go.HL
namespace Go.HL
section
variable {P:Program} {n:Nat} {t e:TypeId} {pvs:List PV}
theorem zdn {k:IntKind} (hu:P.underlying t=some (.int k)) (h:shp P n t pvs):∃ z,pvs=[.v (.int k z)]/\(Lit.int k z).wf=true:=by
 cases n with
 | zero=>exact h.elim
 | succ n=>simpa only [shp,hu] using h
theorem zti (hu:P.underlying t=some .bool) (h:shp P n t pvs):∃ b,pvs=[.v (.bool b)]:=by
 cases n with
 | zero=>exact h.elim
 | succ n=>simpa only [shp,hu] using h
theorem zrk (hu:P.underlying t=some (.slice e)) (h:shp P n t pvs):∃ rows,pvs=[.sl (P.cellsOf e) rows]/\∀ r∈rows,shp P (n-1) e r:=by
 cases n with
 | zero=>exact h.elim
 | succ n=>simpa only [shp,hu,Nat.add_sub_cancel] using h
theorem zpj {fs:Array Field} (hu:P.underlying t=some (.struct fs)) (h:shp P n t pvs):zve P (shp P (n-1)) fs.toList pvs:=by
 cases n with
 | zero=>exact h.elim
 | succ n=>simpa only [shp,hu,Nat.add_sub_cancel] using h
theorem zct {S:TypeId->List PV->Prop} {f:Field} {fs:List Field} (h:zve P S (f::fs) pvs):∃ a b,pvs=a++b/\S f.type a/\zve P S fs b:=by
 obtain ⟨a,b,h1,_,h2,h3⟩:=h;exact ⟨a,b,h1,h2,h3⟩
theorem zrh {β:Type} {row:β->List PV} {Q:β->Prop}:∀ {rows:List (List PV)},(∀ r∈rows,∃ x,r=row x/\Q x)->∃ xs:List β,rows=xs.map row/\∀ x∈xs,Q x
 | [],_=>⟨[],rfl,by simp⟩
 | r::rows,h=>by
  obtain ⟨x,rfl,hx⟩:=h r zz0;obtain ⟨xs,rfl,hxs⟩:=zrh (rows:=rows) fun r hr=>h r (by simp [hr])
  exact ⟨x::xs,rfl,by intro y hy;rcases zy7.1 hy with rfl | hy;exact hx;exact hxs y hy⟩
theorem wf_i64 {z:Int} (h:(Lit.int .i64 z).wf=true):-9223372036854775808<=z/\z<=9223372036854775807:=by
 simpa [Lit.wf,IntKind.min,IntKind.max,IntKind.signed,IntKind.bits] using h
theorem zdy {ts:List TypeId} {L:List (List PV)} (h:zvf P n (t::ts) L):∃ x xs,L=x::xs/\shp P n t x/\zvf P n ts xs:=by
 cases L with
 | nil=>exact h.elim
 | cons x xs=>exact ⟨x,xs,rfl,h.1,h.2⟩
theorem zth {L:List (List PV)} (h:zvf P n [] L):L=[]:=by
 cases L with
 | nil=>rfl
 | cons x xs=>exact h.elim
end
end Go.HL
namespace Go.HL
abbrev pi (n:Int):PV:=.v (.int .i64 n)
abbrev pb (b:Bool):PV:=.v (.bool b)
def inI (z:Int):Prop:=-9223372036854775808<=z/\z<=9223372036854775807
section
variable {P:Program} {n c:Nat} {t e:TypeId} {pvs:List PV}
theorem zey {z:Int} (h:(Lit.int .i64 z).wf=true):inI z:=wf_i64 h
theorem ztj {α:Type} {row:α->List PV} {Q:α->Prop} (hu:P.underlying t=some (.slice e)) (hc:P.cellsOf e=c) (he:∀ r,shp P (n-1) e r->∃ x,r=row x/\Q x) (h:shp P n t pvs) :
 ∃ l:List α,pvs=[.sl c (l.map row)]/\∀ y∈l,Q y:=by
 obtain ⟨rows,h1,h2⟩:=zrk hu h;obtain ⟨l,h3,h4⟩:=zrh (row:=row) (Q:=Q) fun r hr=>he r (h2 r hr)
 exact ⟨l,by rw [h1,h3,hc],h4⟩
theorem zpt {z:Int} (hu:P.underlying t=some (.int .i64)):zhg P t [.v (.int .i64 z)]=i64 z:=by unfold zhg;rw [hu]
theorem zrv {b:Bool} (hu:P.underlying t=some .bool):zhg P t [.v (.bool b)]=zbo b:=by unfold zhg;rw [hu]
theorem zpu {rows:List (List PV)} {k:Nat} (hu:P.underlying t=some (.slice e)):zhg P t [.sl k rows]=.p (.sl k rows):=by unfold zhg;rw [hu]
end
end Go.HL
namespace Go.HL
end Go.HL
namespace Go.HL
end Go.HL
namespace Go.HL
end Go.HL
namespace Go.HL
section
variable {P:Program}
end
end Go.HL
namespace Go.HL
end Go.HL
namespace Go.HL
theorem sG {X:(HX->HS->Prop)->Prop} {Y:HWP} {K:HX->HS->Prop} {Q:Prop} (q:Q) (e:Q->X fun e s'=>match e with | .normal=>Y s' K | .exit id=>K (.exit id) s' | .ret=>K .ret s':=by (intro h;(conv=>whnf);exact h)):zsc X Y K:=.go (e q)
theorem z2 {P:Prop} (h:P:=by first | (simp;done) | (simp;rfl)):P:=h
theorem z1 {P Q:Prop} (q:Q) (e:Q->P:=by first | exact fun h=>.inl ⟨_,rfl,h⟩ | exact fun h=>⟨_,rfl,h⟩ | exact fun h=>.inr ⟨rfl,h⟩):P:=e q
end Go.HL
namespace Go.HL
end Go.HL
namespace Go.Proofs.Ytkadjamdjfefeaa
open Go.HL Go.ChangeShapes Go.WideShapes Go.ChangeAt Go.RowKit
theorem own:ownKnob Try.prog.godebug=none:=by kernel_rfl
mutual
theorem zjl {H:Type}:(d:DataW H)->Rows.uptoBulk d=dwb d
 | .lit l=>by cases l<;>simp only [Rows.uptoBulk,dwb]
 | .nil=>by simp only [Rows.uptoBulk,dwb]
 | .ptr d=>by simp only [Rows.uptoBulk,dwb,zjl d]
 | .slice a b=>by simp only [Rows.uptoBulk,dwb,zdd a,zdd b]
 | .agg p=>by simp only [Rows.uptoBulk,dwb,zdd p]
 | .iface _ d=>by simp only [Rows.uptoBulk,dwb,zjl d]
 | .map e=>by simp only [Rows.uptoBulk,dwb,znm e]
 | .held _=>by simp only [Rows.uptoBulk,dwb]
theorem zdd {H:Type}:(l:List (DataW H))->Rows.uptoBulkAll l=zgk l
 | []=>by simp only [Rows.uptoBulkAll,zgk]
 | d::r=>by simp only [Rows.uptoBulkAll,zgk,zjl d,zdd r]
theorem znm {H:Type}:(l:List (Lit×DataW H))->Rows.uptoBulkEntries l=zvk l
 | []=>by simp only [Rows.uptoBulkEntries,zvk]
 | d::r=>by simp only [Rows.uptoBulkEntries,zvk,zpv d,znm r]
theorem zpv {H:Type}:(x:Lit×DataW H)->Rows.uptoBulkEntry x=zuc x
 | (l,d)=>by cases l<;>simp only [Rows.uptoBulkEntry,zuc,zjl d]
end
theorem zmh {H:Type} (l r:List (DataW H)):zgk (l++r)=zgk l+zgk r:=by
 induction l with
 | nil=>simp [zgk]
 | cons x l ih=>simp only [List.cons_append,zgk,ih];omega
theorem zvl {H:Type} {ds gs:List (DataW H)} (hk:Rows.uptoSmall H (ds++gs)=true):zgk ds<=1048576:=by
 have h:=of_decide_eq_true hk;rw [zdd,zmh] at h;omega
theorem zvi {a b:Bool} (ha:a=true) (hb:b=true):(a&&b)=true:=by rw [ha,hb];rfl
end Go.Proofs.Ytkadjamdjfefeaa
namespace Go.HL
theorem mixed:Try.prog.follows .mixedOrders=true:=by kernel_rfl
structure Path where
 window:Int
 slow:Int
 gathered:Int
 flight:Int
 errors:Int
 alarm:Int
 wait:Int
def Path.row (x:Path):List PV:=[pi x.window,pi x.slow,pi x.gathered,pi x.flight,pi x.errors,pi x.alarm,pi x.wait]
def Path.hv (x:Path):HV:=.agg [.p (pi x.window),.p (pi x.slow),.p (pi x.gathered),.p (pi x.flight),.p (pi x.errors),.p (pi x.alarm),.p (pi x.wait)]
structure Path.Wf (x:Path):Prop where
 window:inI x.window
 slow:inI x.slow
 gathered:inI x.gathered
 flight:inI x.flight
 errors:inI x.errors
 alarm:inI x.alarm
 wait:inI x.wait
theorem zoi {n:Nat} {pvs:List PV} (h:shp Try.prog n 23 pvs):∃ x:Path,pvs=x.row/\x.Wf:=by
 have t0:=zpj Try.underlying23 h;obtain ⟨a1,b1,e1,h1,t1⟩:=zct t0;obtain ⟨a2,b2,e2,h2,t2⟩:=zct t1;obtain ⟨a3,b3,e3,h3,t3⟩:=zct t2;obtain ⟨a4,b4,e4,h4,t4⟩:=zct t3;obtain ⟨a5,b5,e5,h5,t5⟩:=zct t4;obtain ⟨a6,b6,e6,h6,t6⟩:=zct t5;obtain ⟨a7,b7,e7,h7,t7⟩:=zct t6;obtain ⟨z1,i1,w1⟩:=zdn Try.underlying3 h1;obtain ⟨z2,i2,w2⟩:=zdn Try.underlying3 h2;obtain ⟨z3,i3,w3⟩:=zdn Try.underlying3 h3;obtain ⟨z4,i4,w4⟩:=zdn Try.underlying3 h4;obtain ⟨z5,i5,w5⟩:=zdn Try.underlying3 h5;obtain ⟨z6,i6,w6⟩:=zdn Try.underlying3 h6;obtain ⟨z7,i7,w7⟩:=zdn Try.underlying3 h7;have e8:b7=[]:=t7;rw [e1,e2,e3,e4,e5,e6,e7,e8,i1,i2,i3,i4,i5,i6,i7];exact ⟨⟨z1,z2,z3,z4,z5,z6,z7⟩,rfl,⟨zey w1,zey w2,zey w3,zey w4,zey w5,zey w6,zey w7⟩⟩
theorem zru (x:Path):zhg Try.prog 23 x.row=x.hv:=by
 unfold zhg;rw [Try.underlying23]
 rfl
namespace Paths
def new (part:Int):Path:=⟨W (2*part),W (32*part),0,0,0,0,3⟩
def zrs (p:Path) (bytes part:Int) (moved:Bool):Path :=
 match moved with
 | false=>p
 | true =>
  if bytes=0 then {p with errors:=0,wait:=3,alarm:=0} else
  if p.window<=p.slow then {p with errors:=0,wait:=3,alarm:=0,window:=W (p.window+min bytes part)} else
  if W (p.gathered+bytes)>=p.window then {p with errors:=0,wait:=3,alarm:=0,gathered:=W (W (p.gathered+bytes)-p.window),window:=W (p.window+part)} else
  {p with errors:=0,wait:=3,alarm:=0,gathered:=W (p.gathered+bytes)}
def zkq (p:Path) (part:Int):Path :=
 {p with slow:=max (W (p.window.tdiv 2)) (W (4*part)),window:=min p.window (max (W (p.window.tdiv 2)) (W (4*part))),gathered:=0}
def late (p:Path) (part:Int):Path :=
 {p with slow:=max (W (p.window.tdiv 2)) (W (4*part)),window:=part,gathered:=0,flight:=0,errors:=W (p.errors+1),wait:=min (W (2*p.wait)) 24,alarm:=0}
def zbm (k:Nat):List Path->Int
 | []=>0
 | p::r=>if p.errors<=3 then k else zbm (k+1) r
theorem ziy (a b:Int):(if b<a then b else a)=min a b:=by omega
theorem zix (a b:Int):(if b>a then b else a)=max a b:=by omega
theorem ztk (part:Int):zcu Try.prog 9 [i64 part] zar (new part).hv zar:=by
 refine zbe mixed Try.func9 zz9 ?_;(conv=>whnf)
 repeat' (first | (refine zbh (fun h=>?_) (fun h=>?_)<;>conv=>whnf) | (refine zcf ?_;conv=>whnf))
 rfl
theorem zpk (p:Path) (bytes part:Int) (moved:Bool):zcu Try.prog 10 [p.hv,i64 bytes,i64 part,zbo moved] zar (zrs p bytes part moved).hv zar:=by
 cases moved
 all_goals refine zbe mixed Try.func10 zz9 ?_
 all_goals conv=>whnf
 all_goals (repeat' (first | (refine zcf ?_;conv=>whnf) | (refine zby ?_ ?_;(first | kernel_rfl | decide);conv=>whnf) | (refine zbt ?_ ?_;kernel_rfl;conv=>whnf) | (refine zsc.go ?_;conv=>whnf) | (refine zas ?_;(conv=>whnf);refine ⟨_,zca ⟨_,_,_,_,_,_,_⟩ _,rfl,?_⟩;conv=>whnf) | (refine zbh (fun h=>?_) (fun h=>?_)<;>conv=>whnf)))
 all_goals try simp only [zy34,zy31,zy43,zy48,zy41,zy32,zy21] at *
 all_goals simp only [zrs,W]
 all_goals (repeat' split)
 all_goals first | rfl | omega | (simp only [Path.hv,ziy,zix,HV.agg.injEq,List.cons.injEq,HV.p.injEq,PV.v.injEq,Value.int.injEq,true_and,and_true]<;>first | omega | (congr 1;omega))
theorem znf (p:Path) (bytes part:Int) (moved:Bool):zcu Try.prog 11 [p.hv,i64 bytes,i64 part,zbo moved] zar (zrs p bytes part moved).hv zar:=by
 cases moved
 all_goals refine zbe mixed Try.func11 zz9 ?_
 all_goals conv=>whnf
 all_goals (repeat' (first | (refine zcf ?_;conv=>whnf) | (refine zby ?_ ?_;(first | kernel_rfl | decide);conv=>whnf) | (refine zbt ?_ ?_;kernel_rfl;conv=>whnf) | (refine zsc.go ?_;conv=>whnf) | (refine zas ?_;(conv=>whnf);refine ⟨_,zca ⟨_,_,_,_,_,_,_⟩ _,rfl,?_⟩;conv=>whnf) | (refine zbh (fun h=>?_) (fun h=>?_)<;>conv=>whnf)))
 all_goals try simp only [zy34,zy31,zy43,zy48,zy41,zy32,zy21] at *
 all_goals simp only [zrs,W]
 all_goals (repeat' split)
 all_goals first | rfl | omega | (simp only [Path.hv,ziy,zix,HV.agg.injEq,List.cons.injEq,HV.p.injEq,PV.v.injEq,Value.int.injEq,true_and,and_true]<;>first | omega | (congr 1;omega))
theorem zca (p:Path) (part:Int):zcu Try.prog 12 [p.hv,i64 part] zar (zkq p part).hv zar:=by
 refine zbe mixed Try.func12 zz9 ?_;(conv=>whnf)
 (repeat' (first | (refine zcf ?_;conv=>whnf) | (refine zby ?_ ?_;(first | kernel_rfl | decide);conv=>whnf) | (refine zbt ?_ ?_;kernel_rfl;conv=>whnf) | (refine zsc.go ?_;conv=>whnf) | (refine zas ?_;(conv=>whnf);refine ⟨_,zca ⟨_,_,_,_,_,_,_⟩ _,rfl,?_⟩;conv=>whnf) | (refine zbh (fun h=>?_) (fun h=>?_)<;>conv=>whnf)))
 all_goals try simp only [zy34,zy31,zy43,zy48,zy41,zy32,zy21] at *
 all_goals simp only [zkq,W]
 all_goals (repeat' split)
 all_goals first | rfl | omega | (simp only [Path.hv,ziy,zix,HV.agg.injEq,List.cons.injEq,HV.p.injEq,PV.v.injEq,Value.int.injEq,true_and,and_true]<;>first | omega | (congr 1;omega))
theorem zgp (p:Path) (part:Int):zcu Try.prog 13 [p.hv,i64 part] zar (zkq p part).hv zar:=by
 refine zbe mixed Try.func13 zz9 ?_;(conv=>whnf)
 (repeat' (first | (refine zcf ?_;conv=>whnf) | (refine zby ?_ ?_;(first | kernel_rfl | decide);conv=>whnf) | (refine zbt ?_ ?_;kernel_rfl;conv=>whnf) | (refine zsc.go ?_;conv=>whnf) | (refine zas ?_;(conv=>whnf);refine ⟨_,zca ⟨_,_,_,_,_,_,_⟩ _,rfl,?_⟩;conv=>whnf) | (refine zbh (fun h=>?_) (fun h=>?_)<;>conv=>whnf)))
 all_goals try simp only [zy34,zy31,zy43,zy48,zy41,zy32,zy21] at *
 all_goals simp only [zkq,W]
 all_goals (repeat' split)
 all_goals first | rfl | omega | (simp only [Path.hv,ziy,zix,HV.agg.injEq,List.cons.injEq,HV.p.injEq,PV.v.injEq,Value.int.injEq,true_and,and_true]<;>first | omega | (congr 1;omega))
theorem zrl (p:Path) (part:Int):zcu Try.prog 14 [p.hv,i64 part] zar (late p part).hv zar:=by
 refine zbe mixed Try.func14 zz9 ?_;(conv=>whnf)
 (repeat' (first | (refine zcf ?_;conv=>whnf) | (refine zby ?_ ?_;(first | kernel_rfl | decide);conv=>whnf) | (refine zbt ?_ ?_;kernel_rfl;conv=>whnf) | (refine zsc.go ?_;conv=>whnf) | (refine zas ?_;(conv=>whnf);refine ⟨_,zca ⟨_,_,_,_,_,_,_⟩ _,rfl,?_⟩;conv=>whnf) | (refine zbh (fun h=>?_) (fun h=>?_)<;>conv=>whnf)))
 all_goals try simp only [zy34,zy31,zy43,zy48,zy41,zy32,zy21] at *
 all_goals simp only [late,W]
 all_goals (repeat' split)
 all_goals first | rfl | omega | (simp only [Path.hv,ziy,zix,HV.agg.injEq,List.cons.injEq,HV.p.injEq,PV.v.injEq,Value.int.injEq,true_and,and_true]<;>first | omega | (congr 1;omega))
theorem zpl (p:Path) (part:Int):zcu Try.prog 15 [p.hv,i64 part] zar (late p part).hv zar:=by
 refine zbe mixed Try.func15 zz9 ?_;(conv=>whnf)
 (repeat' (first | (refine zcf ?_;conv=>whnf) | (refine zby ?_ ?_;(first | kernel_rfl | decide);conv=>whnf) | (refine zbt ?_ ?_;kernel_rfl;conv=>whnf) | (refine zsc.go ?_;conv=>whnf) | (refine zas ?_;(conv=>whnf);refine ⟨_,zgp ⟨_,_,_,_,_,_,_⟩ _,rfl,?_⟩;conv=>whnf) | (refine zbh (fun h=>?_) (fun h=>?_)<;>conv=>whnf)))
 all_goals try simp only [zy34,zy31,zy43,zy48,zy41,zy32,zy21] at *
 all_goals simp only [late,zkq,W]
 all_goals (repeat' split)
 all_goals first | rfl | omega | (simp only [Path.hv,ziy,zix,HV.agg.injEq,List.cons.injEq,HV.p.injEq,PV.v.injEq,Value.int.injEq,true_and,and_true]<;>first | omega | (congr 1;omega))
theorem zrm (p:Path):zcu Try.prog 16 [p.hv] zar (zbo (decide (p.flight<p.window))) zar:=by
 refine zbe mixed Try.func16 zz9 ?_;(conv=>whnf)
theorem zne (ps:List Path) (hb:ps.length<2 ^ 63):zcu Try.prog 17 [.p (.sl 7 (ps.map Path.row))] zar (i64 (zbm 0 ps)) zar:=by
 refine zbe mixed Try.func17 zz9 ?_;exact yy0
theorem zlw (ps:List Path) (hb:ps.length<2 ^ 63):zcu Try.prog 18 [.p (.sl 7 (ps.map Path.row))] zar (i64 (zbm 0 ps)) zar:=by
 refine zbe mixed Try.func18 zz9 ?_;exact yy0
end Paths
namespace Paths
theorem zkx {m:zbk} {w:World} {R:Nat->Prop}:∀ {xs:List HV} {vs:List Value},zae m w R xs vs->∀ x∈xs,∃ v,zad m w R x v
 | [],_,_,x,hx=>by cases hx
 | y::xs,vs,h,x,hx=>by
  simp only [zae] at h;obtain ⟨v,r,rfl,h2,h3⟩:=h;rcases zy7.1 hx with rfl | hx
  . exact ⟨v,h2⟩
  . exact zkx h3 x hx
theorem zpy {P:Program} {f:FuncId} {args:List HV} {H H':Nat->zaa} {r:HV} {n:Nat} (rows:List (List PV)) (hm:.p (.sl n rows)∈args) (h:rows.length<2 ^ 63->zcu P f args H r H'):zcu P f args H r H':=by
 intro Γ m w vals hok hargs h0;obtain ⟨v,hv⟩:=zkx hargs _ hm;refine h ?_ Γ m w vals hok hargs h0;simp only [zad] at hv;have h1:rows.length<=maxLen:=by
  cases hv with
  | sl0 _ _ _ _=>exact Nat.zero_le _
  | sl _ _ _ _ _ _ hc hm _ _ _ _=>exact zy60 hc hm
 unfold maxLen at h1;omega
theorem zwt (p:Path) (bytes part:Int) (moved:Bool) (l:List Path) (hl:l.length<2 ^ 63) :
 zcu Try.prog 3 [p.hv,i64 bytes,i64 part,zbo moved,.p (.sl 7 (l.map Path.row))] zar (zbo true) zar:=by
 refine zbe mixed Try.func3 zz9 ?_;(conv=>whnf)
 (repeat' (first | (refine zcf ?_;conv=>whnf) | (refine zby ?_ ?_;(first | kernel_rfl | decide);conv=>whnf) | (refine zbt ?_ ?_;kernel_rfl;conv=>whnf) | (refine zsc.go ?_;conv=>whnf) | (refine zas ?_;(conv=>whnf);refine ⟨_,ztk _,rfl,?_⟩;conv=>whnf) | (refine zas ?_;(conv=>whnf);refine ⟨_,zpk ⟨_,_,_,_,_,_,_⟩ _ _ _,rfl,?_⟩;conv=>whnf) | (refine zas ?_;(conv=>whnf);refine ⟨_,znf ⟨_,_,_,_,_,_,_⟩ _ _ _,rfl,?_⟩;conv=>whnf) | (refine zas ?_;(conv=>whnf);refine ⟨_,zca ⟨_,_,_,_,_,_,_⟩ _,rfl,?_⟩;conv=>whnf) | (refine zas ?_;(conv=>whnf);refine ⟨_,zgp ⟨_,_,_,_,_,_,_⟩ _,rfl,?_⟩;conv=>whnf) | (refine zas ?_;(conv=>whnf);refine ⟨_,zrl ⟨_,_,_,_,_,_,_⟩ _,rfl,?_⟩;conv=>whnf) | (refine zas ?_;(conv=>whnf);refine ⟨_,zpl ⟨_,_,_,_,_,_,_⟩ _,rfl,?_⟩;conv=>whnf) | (refine zas ?_;(conv=>whnf);refine ⟨_,zrm ⟨_,_,_,_,_,_,_⟩,rfl,?_⟩;conv=>whnf) | (refine zas ?_;(conv=>whnf);refine ⟨_,zne l hl,rfl,?_⟩;conv=>whnf) | (refine zas ?_;(conv=>whnf);refine ⟨_,zlw l hl,rfl,?_⟩;conv=>whnf) | (refine zbh (fun h=>?_) (fun h=>?_)<;>conv=>whnf)))
 all_goals first | rfl | (rename_i h;exfalso;revert h;simp [new];done) | (simp;done)
 all_goals trace_state
theorem ztm (p:Path) (bytes part:Int) (moved:Bool) (l:List Path) :
 zcu Try.prog 3 [p.hv,i64 bytes,i64 part,zbo moved,.p (.sl 7 (l.map Path.row))] zar (zbo true) zar :=
 zpy (l.map Path.row) (.tail _ (.tail _ (.tail _ (.tail _ (.head _))))) fun h=>zwt p bytes part moved l (by rw [zy34] at h;exact h)
end Paths
end Go.HL
