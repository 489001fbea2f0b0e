/- Walks, contracts and laws of the law's functions: part 2. No condition. -/
import Derived.Test.YtkadjamdjfefeaaQAa
import Derived.Test.YtkadjamdjfefeaaRows
import Derived.Test.YtkadjamdjfefeaaProg
open Go.Proofs
set_option maxHeartbeats 32000000
set_option maxRecDepth 100000
set_option linter.unusedSimpArgs false
theorem yy0 {P:Prop} (h:P:=by
 simp only [zbu] at h;obtain ⟨y,us,h1,h2,h3,h4,h5⟩:=zbt l h;refine ⟨_,_,h1,h2,fun m w R v hk hx=>?_,h4,fun H' he K' hk=>by simp only [zbu];exact h5 H' he _ hk⟩;simp only [zad] at hx ⊢;obtain ⟨arr,h4,h5⟩:=hx;exact ⟨arr,h4,h3 m w R _ hk h5⟩):P:=h
theorem yy1 {P:Prop} (h:P:=by
 simp only [zeb] at ho;split at ho
 . rename_i j hj
   obtain ⟨j',hj',hmj⟩:=hm i _ hj;cases hj';simp only [rn,hj,zad] at h ⊢;obtain ⟨l,h1,h2⟩:=h;exact ⟨l,by rw [hmj];exact h1,h2⟩
 . cases ho):P:=h
theorem yy2 {P:Prop} (h:P:=by
 simp only [zeb] at ho;split at ho
 . rename_i j hj
   simp only [rn,hj,zad] at h ⊢;obtain ⟨l,h1,h2⟩:=h;exact ⟨l,by rw [hm i j hj];exact h1,h2⟩
 . cases ho):P:=h
theorem yy4 {P:Prop} (h:P:=by
 simp only [zeb] at ho;simp only [rn,zad] at h ⊢;obtain ⟨arr,h1,h2⟩:=h;exact ⟨arr,h1,zep hm hn hR l _ ho h2⟩):P:=h
theorem yy5 {P:Prop} (h:P:=by
 simp only [zeb] at ho;simp only [rn,zad] at h ⊢;obtain ⟨arr,h1,h2⟩:=h;exact ⟨arr,h1,zic hm hR l _ ho h2⟩):P:=h
theorem yy10 {P:Prop} (h:P:=by
 obtain ⟨h1,h2,h3⟩:=h;refine ⟨h1,h2,?_⟩;rcases h3 with h3 | ⟨h3,h4,h5,arr,h6,h7,h8⟩
 . exact .inl h3
 . exact .inr ⟨h3,h4,h5,arr,h6,h7,fun k x hk=>let ⟨cv,h9,h10⟩:=h8 k x hk;⟨cv,h9,h10.sub hR⟩⟩):P:=h
theorem yy12 {P:Prop} (h:P:=by
 refine ⟨_,_,h4,h5,fun m w R vs hk hx=>?_,fun H' he K' hk=>by simp only [zfa];exact h7 H' he _ hk⟩;simp only [zae] at hx ⊢;obtain ⟨v,r,rfl,h7,h8⟩:=hx;exact ⟨v,r,rfl,h7,h6 m w R r hk h8⟩):P:=h
theorem yy16 {P:Prop} (h:P:=by
 simp only [rn,zad] at h ⊢;obtain ⟨b,o,h1,h2,h3⟩:=h;exact ⟨b,o,h1,fun hc=>hR b (h2 hc),fun k x hk=>let ⟨cv,h4,h5⟩:=h3 k x hk;⟨cv,h4,h5.sub hR⟩⟩):P:=h
theorem yy17 {P:Prop} (h:P:=by
 cases h;obtain ⟨l,h1,h2,h3⟩:=hok.live id _ hb;exact ⟨l,h1,hB _ _ h2,h3⟩):P:=h
theorem yy19 {P:Prop} (h:P:=by
 obtain ⟨h1,h2,h3,h4,h5,arr,h6,h7,h8⟩:=h;exact ⟨h1,h2,h3,h4,h5,arr,h6,h7,fun k x hk=>let ⟨cv,h9,h10⟩:=h8 k x hk;⟨cv,h9,h10.sub hR⟩⟩):P:=h
theorem yy25 {P:Prop} (h:P:=by
 simp only [execOp,resolve,hfv,Deferred.ofValue,Sem.run_bind,Sem.run_pure,Result.andThen_ok,invoke]
 simpa using hcf):P:=h
theorem yy26 {P:Prop} (h:P:=by
 split<;>first | rfl | skip
 . rename_i id;rw [h id (by simp [zau])]
 . rename_i id _ _ _;rw [h id (by simp [zau])]):P:=h
theorem yy28 {P:Prop} (h:P:=by
 split
 . split
   . split
     . exact zap zac
     . exact False.elim
   . exact False.elim
 . exact False.elim):P:=h
theorem yy29 {P:Prop} (h:P:=by
 simp only [zmf] at hs;simp only [zad] at h ⊢;obtain ⟨arr,h1,h2⟩:=h;exact ⟨arr,h1,zie l _ hs h2⟩):P:=h
theorem yy7 {P:Prop} (h:P:=by
 simp only [Cell.okWide,Cell.ok,hu] at hok;obtain ⟨b,rfl,_⟩:=h2;cases v<;>try exact hok.elim
 exact one rfl rfl):P:=h
namespace Go.HL
open Go.RowKit (Below)
section
variable {Γ:Ctx} {P:Program} {m:zbj} {H:Nat->zaa} {w:World} {ρ:Operand->Value} {ev:Operand->HV} {dst:Option Tmp} {ty:TypeId} {pos:String} {after:Array Edge} {guard:Option (Nat×Bool)}
theorem zme.vals {R:Nat->Prop} {n:Nat} {rows:List (List PV)} {v:Value} (h:zme w R n rows v) :
 ∃ a c vs,v=.slice a rows.length c/\rows.length<=c/\c<=maxLen/\zbg w R rows.flatten vs/\(rows=[]\/∃ b o,a=some ⟨b,o,none⟩/\∀ (j:Nat) u,vs[j]?=some u->w.cell? ⟨b,o+j,none⟩=some u):=by
 obtain ⟨a,c,hv,hle,hm,hcell⟩:=h.out;by_cases hne:rows=[]
 . subst hne;exact ⟨a,c,[],hv,hle,hm,.nil,.inl rfl⟩
 . obtain ⟨b,o,ha,hpc⟩:=hcell hne
   have:∀ (l:List PV) (k:Nat),(∀ (j:Nat) x,l[j]?=some x->∃ cv,w.cell? ⟨b,o+(k+j),none⟩=some cv/\zcj w R x cv)->∃ vs,zbg w R l vs/\∀ (j:Nat) u,vs[j]?=some u->w.cell? ⟨b,o+(k+j),none⟩=some u:=by
    intro l
    induction l with
    | nil=>intro k _;exact ⟨[],.nil,fun j u hu=>by simp at hu⟩
    | cons x l ih =>
     intro k hk;obtain ⟨cv,h1,h2⟩:=hk 0 x zz1;obtain ⟨vs,h3,h4⟩:=ih (k+1) (fun j y hy=>by
      have:=hk (j+1) y (by simpa using hy)
      rwa [show k+(j+1)=k+1+j by omega] at this)
     refine ⟨cv::vs,.cons h2 h3,fun j u hu=>?_⟩;cases j with
     | zero=>simp at hu;subst hu;exact h1
     | succ j=>have:=h4 j u (by simpa using hu);rwa [show k+1+j=k+(j+1) by omega] at this
   obtain ⟨vs,h1,h2⟩:=this rows.flatten 0 (fun j x hx=>by simpa using hpc j x hx);exact ⟨a,c,vs,hv,hle,hm,h1,.inr ⟨b,o,ha,fun j u hu=>by simpa using h2 j u hu⟩⟩
theorem zme.src {R:Nat->Prop} {n:Nat} {rows:List (List PV)} {v:Value} (h:zme w R n rows v) {t e:TypeId} (hu:P.underlying t=some (.slice e)) :
 ∃ vs,zbg w R rows.flatten vs/\Src P n t v rows.length vs w:=by
 obtain ⟨a,c,vs,rfl,hle,hm,hp,hc⟩:=h.vals;have hl:vs.length=rows.length*n:=by rw [hp.length,zam h.lens]
 refine ⟨vs,hp,?_⟩;rcases hc with rfl | ⟨b,o,rfl,hc⟩
 . have hv:vs=[]:=zy5 zz3
   subst hv;cases a with
   | none=>exact Src.ofNil w hu c
   | some ad=>exact Src.ofSlice w hu ad 0 c [] zz1 (fun j u hj=>by simp at hj) zz1
 . exact Src.ofSlice w hu _ _ c vs hl (fun j u hj=>by rw [Addr.add_mid];exact hc j u hj) hp.one
theorem OS.newRow' {w1:World} {H':Nat->zaa} (hws:WS Γ H m w1 H' m w) {id:Nat} (hf:H' id=.free) {arr:Array Value} {t:TypeId} {n cap:Nat} {rows:List (List PV)} (hlens:∀ r∈rows,r.length=n)
 (hle:rows.length<=cap) (hm:cap<=maxLen) (hsz:arr.size=cap*n) (hr:∀ (k:Nat) x,rows.flatten[k]?=some x->∃ cv,arr[k]?=some cv/\zcj w (RR Γ m H' w) x cv) {x:Sem Next}
 {ups:List (Nat×zaa)} (hups:zbb H ups=upd H' id (.live (.row t n rows)))
 (tch:List Nat) (hx:x.run P w1=.ok (.value (.slice (some ⟨w.heap.size,0,none⟩) rows.length cap)) (w.alloc (.cells arr t))):OS Γ P m H w1 x ⟨.own id,ups,tch⟩:=by
 obtain ⟨m',hws2,hm'⟩:=WS.new hws.ok hf (arr:=arr) (t:=t) (b:=.row t n rows) (cap:=cap) (len:=rows.length) (fun m' R' hext hk =>
  ⟨rfl,hlens,.inr ⟨rfl,hle,hm,arr,heap_alloc_new w _,hsz,fun k y hy=>by
   obtain ⟨cv,h1,h2⟩:=hr k y hy;exact ⟨cv,h1,h2.mono hk⟩⟩⟩)
 refine ⟨_,_,m',.inl hx,?_,?_⟩
 . simp only [hups];exact hws.trans hws2
 . simp only [zad]
   exact ⟨_,hm',by simp [hdr]⟩
theorem zby (z:Array Value) (n:Nat):(Builtin.zeroCells z n).size=n*z.size:=by simp [Builtin.zeroCells]
theorem zdp {H':Nat->zaa} (hws:WS Γ H m w H' m w) {d:Nat} (hf:H' d=.free) {t e:TypeId} {de:TyD} {u:TypeDesc} {i:TypeInfo} {z:Value} (hu:P.underlying t=some (.slice e)) (ht:zgh P e de u i z) (hzs:de.zero.length=de.size)
 (hb:0<de.bytes) {rows ys:List (List PV)} {base:Option Addr} {cap:Nat} {vy:Value} (hx:zme w (RR Γ m H w) de.size rows (.slice base rows.length cap)) (hy:zme w (RR Γ m H w) de.size ys vy)
 (hg:cap<rows.length+ys.length) (h47:(rows.length+ys.length)*de.bytes<=140737488355328) {ups:List (Nat×zaa)} (hups:zbb H ups=upd H' d (.live (.row e de.size (rows++ys)))) (tch:List Nat) {x:Sem Next}
 (zbh:∀ {v:Value} {w':World},(Builtin.append_ #[t,t] ty #[.slice base rows.length cap,vy]).run P w=.ok v w'->x.run P w=.ok (.value v) w'):OS Γ P m H w x ⟨.own d,ups,tch⟩:=by
 obtain ⟨olds,ho,hso⟩:=hx.src hu;obtain ⟨news,hn,hsn⟩:=hy.src hu;have hN:rows.length+ys.length<=140737488355328:=by
  have:(rows.length+ys.length)*1<=(rows.length+ys.length)*de.bytes:=Nat.mul_le_mul_left _ hb;omega
 rw [ht.size] at hso hsn;have hr:=run_append_grow_src (P:=P) w t t ty e i z hu ht.info ht.zero base rows.length cap olds hso.cellsD vy ys.length news hsn hg zz0 (growslice_fits hg (by rw [<- ht.bytes];exact h47));have hcap:=grownCap_ge w (rows.length+ys.length) cap e;have hcm:=grownCap_le_maxLen w (rows.length+ys.length) cap e zz14;have hlr:(rows++ys).length=rows.length+ys.length:=by simp
 rw [<- hlr] at hr;have hws':WS Γ H m w H' m w.drew:=hws.trans (WS.drew hws.ok);have hzz:z.cells.size=de.size:=by rw [<- hzs,ht.zeros];simp
 have holds:olds.length=rows.length*de.size:=by rw [ho.length,zam hx.lens]
 have hnews:news.length=ys.length*de.size:=by rw [hn.length,zam hy.lens]
 have hall:=ho.append hn;refine OS.newRow' (w:=w.drew) hws' hf (arr:=(olds++news).toArray++Builtin.zeroCells z.cells (grownCap w (rows++ys).length cap e-(rows++ys).length)) (t:=e) (n:=de.size) (cap:=grownCap w (rows++ys).length cap e) (rows:=rows++ys) ?_ (by rw [hlr];exact hcap) (by rw [hlr];exact hcm) ?_ ?_ hups tch (zbh hr)
 . intro r hr
   rcases zy6.1 hr with hr | hr
   . exact hx.lens r hr
   . exact hy.lens r hr
 . rw [hlr]
   simp only [Array.size_append,zby,hzz,List.size_toArray,zy36,holds,hnews];rw [<- zy12,<- zy12];congr 1;omega
 . intro k y hy
   rw [zy34] at hy;obtain ⟨cv,hcv,hp⟩:=hall.get k y hy;refine ⟨cv,?_,hp.mono hws'.keep⟩;have hlt:k<(olds++news).length:=(zy8.1 hcv).1;rw [zy59 (by simpa using hlt)]
   simpa using hcv
theorem zcd (b:Builtin) (args:Array Operand) (ats:Array TypeId) (f:Sem Value) (hb:∀ consts,builtin b ats ty consts (args.map ρ)=(do pure (Next.value (<- f)):Sem Next)) {v:Value} {w':World} (h:f.run P w=.ok v w') :
 (execOp ρ ⟨dst,.call ⟨.builtin b,args,ats⟩,ty,pos,after,guard⟩).run P w=.ok (.value v) w':=by
 simp only [execOp,resolve,Sem.run_bind,Sem.run_pure,Result.andThen_ok,invoke,hb,h]
theorem zni {n o:Nat} {rows ys:List (List PV)} (h1:∀ r∈rows,r.length=n) (h2:∀ r∈ys,r.length=n):∀ r∈zde rows o ys,r.length=n:=by
 intro r hr;simp only [zde,zy6] at hr;rcases hr with (hr | hr) | hr
 . exact h1 r (zy27 hr)
 . exact h2 r hr
 . exact h1 r (zy46 hr)
theorem zpm {o:Nat} {rows ys:List (List PV)} (h:o<=rows.length):(zde rows o ys).length=max rows.length (o+ys.length):=by
 simp [zde];omega
theorem zpl {o n:Nat} {rows ys:List (List PV)} (h1:∀ r∈rows,r.length=n) (h2:∀ r∈ys,r.length=n) (ho:o<=rows.length) {k:Nat} {x:PV} (h:(zde rows o ys).flatten[k]?=some x) :
 (o*n<=k/\k<o*n+ys.flatten.length/\ys.flatten[k-o*n]?=some x)\/(¬ (o*n<=k/\k<o*n+ys.flatten.length)/\rows.flatten[k]?=some x):=by
 have hl1:(rows.take o).flatten.length=o*n:=by
  rw [zam (n:=n) fun r hr=>h1 r (zy27 hr),zy49];congr 1;omega
 have hl2:ys.flatten.length=ys.length*n:=zam h2;simp only [zde,zy34] at h;rcases zy39 k (o*n) with hk | hk
 . right
   refine ⟨by omega,?_⟩;rw [List.append_assoc,zy23 (by omega)] at h;have:rows.flatten=(rows.take o).flatten++(rows.drop o).flatten:=by rw [<- zy34,zy57]
   rw [this,zy23 (by omega)];exact h
 . rcases zy39 k (o*n+ys.flatten.length) with hk2 | hk2
   . left
     rw [List.append_assoc,zy29 (by omega),zy23 (by omega),hl1] at h;exact ⟨hk,hk2,h⟩
   . right
     refine ⟨by omega,?_⟩;rw [zy29 (by rw [zy36];omega)] at h;simp only [zy36,hl1] at h;by_cases hle:o+ys.length<=rows.length
     . have:rows.flatten=(rows.take (o+ys.length)).flatten++(rows.drop (o+ys.length)).flatten:=by rw [<- zy34,zy57]
       have hl3:(rows.take (o+ys.length)).flatten.length=o*n+ys.flatten.length:=by
        rw [zam (n:=n) fun r hr=>h1 r (zy27 hr),zy49,hl2,<- zy12];congr 1;omega
       rw [this,zy29 (by omega),hl3];exact h
     . rw [zy66 (by omega)] at h
       simp at h
theorem zdw (hok:zag Γ m H w) {id:Nat} {b:zcq} {l:Loc} (hH:H id=.live b) (hl:m id=some l) {t1:TypeId} {n:Nat} {rows:List (List PV)} {mk:List (List PV)->zcq} {lim:Nat} (hw:Win m w (RR Γ m H w) l b t1 n rows mk lim)
 (hlim:lim=rows.length\/∃ c,b=.buf t1 n rows c/\lim=c/\l.cap=c) {ys:List (List PV)} {vs:List Value} (hys:∀ r∈ys,r.length=n) (hp:zbg w (RR Γ m H w) ys.flatten vs) {o:Nat} (h1:o<=rows.length) (h2:o+ys.length<=lim) (hne:ys≠[]) :
 l.nil=false/\(∀ j,j<vs.length->(w.cell? ⟨l.blk,o*n+j,none⟩).isSome=true)/\(∀ j,j<vs.length->w.frozen? ⟨l.blk,o*n+j,none⟩=false) /\
  WS Γ H m w (upd H id (.live (mk (zde rows o ys)))) m (w.setCells l.blk (o*n) vs):=by
 have hpos:0<ys.length:=Nat.pos_of_ne_zero fun h=>hne (zy5 h)
 have hroom:=hw.room;have hn:l.nil=false:=by
  cases h:l.nil with
  | false=>rfl
  | true=>simp [Loc.room,h] at hroom;omega
 have hvl:vs.length=ys.length*n:=by rw [hp.length,zam hys]
 obtain ⟨arr,harr,hsz,hcell,hset⟩:=hw.arr hn;have hcap:lim<=l.cap:=by simpa [Loc.room,hn] using hroom
 have hfit:o*n+vs.length<=arr.size:=by
  rw [hvl,hsz,<- zy12];exact zy28 _ zz0
 refine ⟨hn,fun j hj=>?_,fun j hj=>by simp [World.frozen?,harr],?_⟩
 . rw [cell_of_row w l.blk _ arr _ (0,0) harr,zy30 (by omega)];rfl
 . refine WS.set hok hH hl hn (zal _ _ _ _).1 (zal _ _ _ _).2.1 (zal _ _ _ _).2.2.1 (zal _ _ _ _).2.2.2 (fun k hk=>zbs _ _ _ _ _ hk) fun R' hk=>?_
   refine hset _ R' (putAt arr (o*n) vs) _ (zbr _ _ _ _ _ harr hfit) (zbx _ _ _) (zni hw.lens hys) ?_ fun k x hx=>?_
   . rw [zpm h1]
     rcases hlim with rfl | ⟨c,hb,rfl,hc⟩
     . left;omega
     . right;exact ⟨hc.symm,by have:=hw.le;omega,lim,hb⟩
   . rw [zbq]
     rcases zpl hw.lens hys h1 hx with ⟨g1,g2,g3⟩ | ⟨g1,g3⟩
     . obtain ⟨cv,h4,h5⟩:=hp.get _ _ g3
       have hlt:=(zy8.1 h4).1;rw [zy11 (by omega)];exact ⟨cv,h4,h5.mono hk⟩
     . rw [zy7 (by rw [hp.length];omega)]
       obtain ⟨cv,h4,h5⟩:=hcell k x g3;exact ⟨cv,h4,h5.mono hk⟩
theorem zec {rows:List (List PV)} {o:Nat}:zde rows o []=rows:=by simp [zde]
theorem zjm (hok:zag Γ m H w) {id:Nat} {b:zcq} {l:Loc} (hH:H id=.live b) (hl:m id=some l) {e:TypeId} {de:TyD} {rows:List (List PV)} {mk:List (List PV)->zcq} {lim:Nat} (hw:Win m w (RR Γ m H w) l b e de.size rows mk lim)
 (hlim:lim=rows.length\/∃ c,b=.buf e de.size rows c/\lim=c/\l.cap=c) {off len:Nat} {vx vy:Value} (hx:zad m w (RR Γ m H w) (.osl id de.size off len) vx) {t:TypeId} {u:TypeDesc} {i:TypeInfo} {z:Value} (hu:P.underlying t=some (.slice e)) (ht:zgh P e de u i z)
 {ys:List (List PV)} (hs:zme w (RR Γ m H w) de.size ys vy) (h1:off+len<=rows.length) (h2:off+len+ys.length<=lim) {x:Sem Next}
 (zbh:∀ {v:Value} {w':World},(Builtin.append_ #[t,t] ty #[vx,vy]).run P w=.ok v w'->x.run P w=.ok (.value v) w') (tch:List Nat) :
 OS Γ P m H w x ⟨.osl id de.size off (len+ys.length),[(id,.live (mk (zde rows (off+len) ys)))],tch⟩:=by
 have hx':=hx;simp only [zad] at hx;obtain ⟨l',a,hl',g1,g2,rfl,g5⟩:=hx;rw [hl] at hl';cases hl';have hroom:=hw.room;obtain ⟨news,hnw,hsn⟩:=hs.src hu;rw [ht.size] at hsn;by_cases hys:ys=[]
 . subst hys
   have hnn:news=[]:=zy5 zz17;subst hnn;have hr:=run_append_nothing (P:=P) w t t ty e i hu ht.info a len (l.room-off) zz0 vy hsn;refine ⟨_,_,m,.inl (zbh hr),?_,?_⟩
   . simp only [zbb,zec,hw.set,<- hH,zed];exact .refl hok
   . simp only [zbb,zec,hw.set,<- hH,zed];simpa using hx'
 . obtain ⟨hn,hc,hf,hws⟩:=zdw hok hH hl hw hlim hs.lens hnw h1 h2 hys
   have hpos:0<ys.length:=Nat.pos_of_ne_zero fun h=>hys (zy5 h)
   have ha:a=some ⟨l.blk,off*de.size,none⟩:=(g5 (.inl zz0)).trans zz15;subst ha;have hr:=run_append_room_src (P:=P) w t t ty _ i hu ht.info l.blk (off*de.size) len (l.room-off) vy ys.length news hsn zz0
    (fun j hj=>by rw [<- ht.size,<- zy12];exact hc j hj) (fun j hj=>by rw [<- ht.size,<- zy12];exact hf j hj)
   rw [<- ht.size,<- zy12] at hr;refine ⟨_,_,m,.inl (zbh hr),hws,?_⟩;simp only [zad];exact ⟨l,_,hl,by omega,g2,rfl,fun _=>by simp [Loc.at,hn]⟩
theorem zmd (z:List Value):∀ k:Nat,(List.replicate k (z.map PV.v)).flatten=((List.replicate k z).flatten).map PV.v
 | 0=>rfl
 | k+1=>by rw [zy51,zy51,zy54,zy54,zy53,zmd z k]
theorem zej (z:Array Value) (k:Nat):(Builtin.zeroCells z k).toList=(List.replicate k z.toList).flatten:=by
 apply zy40;intro j;have hl:((List.replicate k z.toList).flatten).length=k*z.size:=by
  rw [zam (n:=z.size) fun r hr=>by rw [zy31 hr];simp,zy56]
 rcases zy39 j (k*z.size) with h | h
 . have hzs:0<z.size:=by
    rcases Nat.eq_zero_or_pos z.size with h0 | h0
    . rw [h0] at h;simp at h
    . exact h0
   have e1:(Builtin.zeroCells z k).toList[j]?=some (z[j % z.size]!):=by
    rw [zy42,zy30 (by rw [zby];exact h)];simp [Builtin.zeroCells]
   have hlt:=Nat.mod_lt j hzs;have hd:j / z.size<k:=Nat.div_lt_of_lt_mul (by rw [Nat.mul_comm];exact h);have e2:=zaw (rows:=List.replicate k z.toList) (n:=z.size) (i:=j / z.size) (j:=j % z.size) (r:=z.toList) (x:=z[j % z.size]) (fun r hr=>by rw [zy31 hr];simp)
    (by rw [zy64,zy11 hd]) (by simp [hlt])
   rw [show j / z.size*z.size+j % z.size=j by rw [Nat.mul_comm];exact Nat.div_add_mod j z.size] at e2;rw [e1,e2,getElem!_pos z _ hlt]
 . rw [zy24 (by rw [Array.length_toList,zby];exact h),zy24 (by rw [hl];exact h)]
theorem zij {R:Nat->Prop}:∀ {l:List Value},(∀ v∈l,v.oneCell'=true)->zbg w R (l.map PV.v) l
 | [],_=>.nil
 | v::r,h=>.cons (.v v (h v zz1)) (zij fun x hx=>h x (by simp [hx]))
theorem zjj {R:Nat->Prop} {z:List Value} (h:z.all (·.oneCell')=true) (k:Nat):zbg w R (List.replicate k (z.map PV.v)).flatten (List.replicate k z).flatten:=by
 rw [zmd];refine zij fun v hv=>?_
 obtain ⟨l,hl,hv⟩:=List.mem_flatten.1 hv;rw [zy31 hl] at hv;exact zy19.1 h v hv
theorem zgr (t tx ty e:TypeId) (i:TypeInfo) (z:Value) (hu:P.underlying t=some (.slice e)) (hx:P.underlying tx=some (.int .i64)) (hi:P.info? e=some i) (hz:i.zero=some z) (base:Option Addr) (sLen sCap:Nat) (olds:List Value)
 (hold:(Builtin.firstCells i.size sLen (.slice base sLen sCap)).run P w.drew=.ok olds.toArray w.drew) (n:Int) (h0:0<=n) (h9:n<=9223372036854775807) (hs:0<i.size) (hb:n*i.bytes<=281474976710656)
 (hg:sCap<sLen+n.toNat) (h63:((sLen+n.toNat:Nat):Int)<=9223372036854775807) (hfit:Builtin.nextslicecap (sLen+n.toNat) sCap*i.bytes<=281474976710656) (hpos:0<n) :
 (Builtin.append_ #[t,tx] ty #[.slice base sLen sCap,.int .i64 n]).run P w =
  .ok (.slice (some ⟨w.heap.size,0,none⟩) (sLen+n.toNat) (grownCap w (sLen+n.toNat) sCap e))
   (w.drew.alloc (.cells ((olds++(Builtin.zeroCells z.cells n.toNat).toList).toArray++Builtin.zeroCells z.cells (grownCap w (sLen+n.toNat) sCap e-(sLen+n.toNat))) e)):=by
 have hn:¬ (sLen+n.toNat<=sCap):=by omega
 have h63':¬ (9223372036854775807<((sLen:Int)+(n.toNat:Int))):=by omega
 have h48':¬ (281474976710656<Builtin.nextslicecap (sLen+n.toNat) sCap*i.bytes):=by omega
 have hw:IntKind.i64.wrap n=n:=by
  unfold IntKind.wrap;simp [IntKind.bits,IntKind.signed];omega
 have hneg:¬ n<0:=by omega
 have hbig:¬ (281474976710656<n*(i.bytes:Int)):=by omega
 have hnz:¬ (n.toNat*i.size=0):=by
  have:0<n.toNat*i.size:=Nat.mul_pos zz0 hs;omega
 have hnz2:¬ (n<=0\/i.size=0):=by omega
 have h63'':¬ (9223372036854775807<((sLen:Int)+max n 0)):=by omega
 simp [Builtin.append_,run_underlying hu,run_underlying hx,sizeOf,typeInfo,zeroValue,hi,hz,hn,h63',h48',Question.forced,hold,newRow,grownCap,asInt,asIntOf,hw,hneg,hbig,hnz,hnz2,h63''];congr 2;apply Array.ext';simp [List.append_assoc]
theorem zpg {K:Res->Prop} {d:Nat} {x y:Operand} {t t':TypeId} (hok:zag Γ m H w) (hx:zad m w (RR Γ m H w) (ev x) (ρ x)) (hy:zad m w (RR Γ m H w) (ev y) (ρ y))
 (h:tyK P t' fun td=>match td.k with | .int .i64=>(match ev y with | .p (.v (.int .i64 z))=>zch P t (ev x) z d H K | _=>False) | _=>False) :
 ∃ r,K r/\OS Γ P m H w (execOp ρ ⟨dst,.call ⟨.builtin .append,#[x,y],#[t,t']⟩,ty,pos,after,guard⟩) r:=by
 obtain ⟨td,u',i',z',ht',h⟩:=zbf h;split at h
 case h_2=>exact h.elim
 rename_i hk;split at h
 case h_2=>exact h.elim
 rename_i n hyy;rw [hyy] at hy;have hyv:=zax hy;unfold zch at h;have hq:=zbe h;clear h;obtain ⟨e,de,u,i,z,hu,ht,h⟩:=hq;have hx2:=zab h;clear h;obtain ⟨hc,h⟩:=hx2;simp only [zy1] at hc;obtain ⟨⟨⟨hpos,hby⟩,hzs⟩,hone⟩:=hc;have hpos:0<de.size:=zy2 hpos;have hby:0<de.bytes:=zy2 hby;have hzs:=zy0 hzs;have hrunx:∀ {v:Value} {w':World},(Builtin.append_ #[t,t'] ty #[ρ x,ρ y]).run P w=.ok v w'->(execOp ρ ⟨dst,.call ⟨.builtin .append,#[x,y],#[t,t']⟩,ty,pos,after,guard⟩).run P w=.ok (.value v) w' :=
  fun hr=>zco .append #[x,y] #[t,t'] (fun _ _=>rfl) zz19
 split at h
 case h_2=>exact h.elim
 rename_i id n1 off len hxx;rw [hxx] at hx;have hq:=zan h;clear h;obtain ⟨b,hb,h⟩:=hq;obtain ⟨l,hl,hbr⟩:=hok.blk hb;split at h
 case h_2=>exact h.elim
 rename_i t1 n2 rows cap;have hx2:=zab h;clear h;obtain ⟨hee,⟨g0,g9,g1,g2,g3⟩,h⟩:=hx2;simp only [zy1] at hee;have he2:=zy0 hee.1;have he3:=zy0 hee.2;subst he2 he3;split at h
 case h_2=>exact h.elim
 rename_i hfree;refine ⟨_,h,?_⟩;have hbr':=hbr;obtain ⟨b1,b2,b3,b4,b5,_⟩:=hbr';have hsx:=zhc hl hx hbr.2.2.1 (fun _=>zhi hbr) g2;simp only [zad] at hx;obtain ⟨l',a,hl',k1,k2,hxv,k5⟩:=hx;rw [hl] at hl';cases hl';have hroom:l.room=cap:=by simp [Loc.room,b1,b2]
 rw [hxv] at hsx hrunx;obtain ⟨olds,ho,hso⟩:=hsx.src hu;have hwl:((rows.drop off).take len).length=len:=by rw [zy49,List.length_drop];omega
 rw [hwl] at hso;rw [ht.size] at hso;rw [hyv] at hrunx;have hcast:(((len+n.toNat)*de.bytes:Nat):Int)=(len+n)*de.bytes:=by rw [Int.natCast_mul,Int.natCast_add,Int.toNat_of_nonneg g0]
 have h47:(len+n.toNat)*de.bytes<=140737488355328:=by
  have h1:(((len+n.toNat)*de.bytes:Nat):Int)<=((140737488355328:Nat):Int):=by rw [hcast];exact g3
  exact Int.ofNat_le.1 h1
 have hN:len+n.toNat<=140737488355328:=by
  have:(len+n.toNat)*1<=(len+n.toNat)*de.bytes:=Nat.mul_le_mul_left _ hby;omega
 have hnb:n*(i.bytes:Int)<=281474976710656:=by
  rw [<- ht.bytes];have h1:n*(de.bytes:Int)<=(len+n)*de.bytes:=Int.mul_le_mul_of_nonneg_right zz0 zz0;omega
 have hr:=zgr (P:=P) (w:=w) t t' ty e i z hu (ht'.int hk) ht.info ht.zero a len (l.room-off) olds hso.cellsD n g0 g9 (by rw [<- ht.size];exact hpos) hnb zz0 zz0 (growslice_fits zz0 (by rw [<- ht.bytes];exact h47)) zz0;have hcap:=grownCap_ge w (len+n.toNat) (l.room-off) e;have hcm:=grownCap_le_maxLen w (len+n.toNat) (l.room-off) e zz14;have hzz:z.cells.size=de.size:=by rw [<- hzs,ht.zeros];simp
 have hzl:(Builtin.zeroCells z.cells n.toNat).toList=(List.replicate n.toNat de.zero).flatten:=by rw [zej,ht.zeros]
 have hlr:((rows.drop off).take len++List.replicate n.toNat (de.zero.map PV.v)).length=len+n.toNat:=by rw [zy36,hwl,zy56]
 rw [<- hlr] at hr;have hws':WS Γ H m w H m w.drew:=WS.drew hok;have holds:olds.length=len*de.size:=by rw [ho.length,zam hsx.lens,hwl]
 have hall:=ho.append (zjj (w:=w) (R:=RR Γ m H w) hone n.toNat);rw [hzl] at hr;refine OS.newRow' (w:=w.drew) hws' hfree (arr:=(olds++(List.replicate n.toNat de.zero).flatten).toArray++Builtin.zeroCells z.cells (grownCap w ((rows.drop off).take len++List.replicate n.toNat (de.zero.map PV.v)).length (l.room-off) e-((rows.drop off).take len++List.replicate n.toNat (de.zero.map PV.v)).length)) (t:=e) (n:=de.size)
  (cap:=grownCap w ((rows.drop off).take len++List.replicate n.toNat (de.zero.map PV.v)).length (l.room-off) e) (rows:=(rows.drop off).take len++List.replicate n.toNat (de.zero.map PV.v)) ?_ (by rw [hlr];exact hcap) (by rw [hlr];exact hcm) ?_ ?_ rfl _ (hrunx hr)
 . intro r hr
   rcases zy6.1 hr with hr | hr
   . exact hsx.lens r hr
   . rw [zy31 hr,zy37,hzs]
 . have hfl:((List.replicate n.toNat de.zero).flatten).length=n.toNat*de.size:=by
    rw [zam (n:=de.size) fun r hr=>by rw [zy31 hr];exact hzs,zy56]
   rw [hlr];simp only [Array.size_append,zby,hzz,List.size_toArray,zy36,holds,hfl];rw [<- zy12,<- zy12];congr 1;omega
 . intro k y hy
   rw [zy34] at hy;obtain ⟨cv,hcv,hp⟩:=hall.get k y hy;refine ⟨cv,?_,hp.mono hws'.keep⟩;have hlt:k<(olds++(List.replicate n.toNat de.zero).flatten).length:=(zy8.1 hcv).1;rw [zy59 (by simpa using hlt)]
   simpa using hcv
theorem zuh (hok:zag Γ m H w) {n0 most:Nat} {y:HV} {v:Value} {K:Nat->List (List PV)->List Nat->Prop} (hy:zad m w (RR Γ m H w) y v) (h:zpr H n0 y most K) :
 ∃ n ys ids a len c,K n ys ids/\v=.slice a len c/\ys.length=Nat.min len most/\ys.length<=c/\zme w (RR Γ m H w) n ys (.slice a ys.length c):=by
 unfold zpr at h;split at h
 . rename_i id n1 off len
   have hq:=zan h;clear h;obtain ⟨b,hb,h⟩:=hq;obtain ⟨l,hl,hbr⟩:=hok.blk hb;have hq:=zji hbr h;clear h;obtain ⟨t1,n2,rows,mk,lim,h,hw,_⟩:=hq;have hq:=zab h;clear h;obtain ⟨hnn,rs,rfl,hle,h⟩:=hq;have hnn:=zy0 hnn;subst hnn;have hmin:Nat.min len most<=len:=Nat.min_le_left _ _;have hlen:((rows.drop off).take (Nat.min len most)).length=Nat.min len most:=by rw [zy49,List.length_drop];omega
   have hy':=hy;simp only [zad] at hy;obtain ⟨l',a,hl',k1,k2,rfl,k5⟩:=hy;rw [hl] at hl';cases hl';have hy2:zad m w (RR Γ m H w) (.osl id n1 off (Nat.min len most)) (.slice a (Nat.min len most) (l.room-off)):=by
    simp only [zad];exact ⟨l,a,hl,by omega,k2,rfl,k5⟩
   have hs:=zhc hl hy2 hw.lens hw.cells hle;exact ⟨_,_,_,a,len,_,h,rfl,hlen,by omega,by rw [hlen];exact hs⟩
 . have hq:=zew hok hy h;clear h;obtain ⟨n,rows,ids,h,hs⟩:=hq
   obtain ⟨a,c,hv,hle,hm,hcell⟩:=hs.out;have hlen:(rows.take most).length=Nat.min rows.length most:=by rw [zy49];exact Nat.min_comm _ _
   refine ⟨n,rows.take most,ids,a,rows.length,c,h,hv,hlen,by simp;omega,⟨a,c,rfl,by simp;omega,hm,fun hne=>?_⟩,fun r hr=>hs.lens r (zy27 hr)⟩;obtain ⟨b,o,ha,hpc⟩:=hcell (by rintro rfl;simp at hne);refine ⟨b,o,ha,fun k x hk=>hpc k x ?_⟩;have:rows.flatten=(rows.take most).flatten++(rows.drop most).flatten:=by rw [<- zy34,zy57]
   rw [this,zy23 ((zy8.1 hk).1)];exact hk
theorem zum {K:Res->Prop} {C:zai} {d:Nat} {args:Array Operand} {ats:Array TypeId} (hok:zag Γ m H w) (hxs:∀ x∈args.toList,zad m w (RR Γ m H w) (ev x) (ρ x)) (h:zat P C (.call ⟨.builtin .copy,args,ats⟩) d ev H K) :
 ∃ r,K r/\OS Γ P m H w (execOp ρ ⟨dst,.call ⟨.builtin .copy,args,ats⟩,ty,pos,after,guard⟩) r:=by
 simp only [zat] at h;split at h
 case h_2=>exact h.elim
 rename_i x y hargs;have hargs':args=#[x,y]:=by rw [<- zy16 (xs:=args),hargs]
 subst hargs';split at h
 case h_2=>exact h.elim
 rename_i t t' hats;have hats':ats=#[t,t']:=by rw [<- zy16 (xs:=ats),hats]
 subst hats';have hx:=hxs x zz1;have hy:=hxs y zz1;unfold zkw at h;have hq:=zbe h;clear h;obtain ⟨e,de,u,i,z,hu,ht,h⟩:=hq;split at h
 case h_2=>exact h.elim
 rename_i id n1 off len hxx;rw [hxx] at hx;split at h
 case h_2=>exact h.elim
 rename_i b hH;obtain ⟨l,hl,hbr,_⟩:=hok.live id _ hH;have hq:=zji hbr h;clear h;obtain ⟨t1,n2,rows,mk,lim,h,hw,hlim⟩:=hq;have hq:=zuh hok hy h;clear h;obtain ⟨n,ys,ids,a,ylen,c,h,hyv,hyl,hyc,hs⟩:=hq;have hx2:=zab h;clear h;obtain ⟨hee,⟨g1,g2⟩,h⟩:=hx2;simp only [zy1] at hee;have he1:=zy0 hee.1.1;have he2:=zy0 hee.1.2;have he3:=zy0 hee.2;subst he1 he2 he3;have hx':=hx;simp only [zad] at hx;obtain ⟨l',ad,hl',k1,k2,hxv,k5⟩:=hx;rw [hl] at hl';cases hl';have hroom:=hw.room;obtain ⟨vs,hp,zpr⟩:=hs.src hu;rw [ht.size] at zpr;have hcl:(Builtin.firstCells i.size ys.length (ρ y)).run P w=.ok vs.toArray w:=by
  have:=zpr.cells;rw [hyv];cases a<;>exact this
 refine ⟨_,h,?_⟩;have hlen:(Builtin.lenOf (ρ y)).run P w=.ok ylen w:=by rw [hyv];rfl
 by_cases hys:ys=[]
 . subst hys
   have hvs:vs=[]:=zy5 (by simpa using hp.length);subst hvs;have zbh:(Builtin.copy_ #[t,t'] ty #[ρ x,ρ y]).run P w=.ok (goInt 0) w:=by
    rw [hxv];simp only [List.length_nil] at hyl hcl;cases ad<;>simp [Builtin.copy_,run_underlying hu,hlen,sizeOf,typeInfo,ht.info,<- hyl,hcl,storeCells]
   refine ⟨_,_,m,.inl (zcd .copy #[x,y] #[t,t'] _ (fun _=>rfl) zz18),?_,?_⟩
   . simp only [zbb,zec,hw.set,<- hH,zed];exact .refl hok
   . exact zbd _ rfl
 . obtain ⟨hn,hc,hf,hws⟩:=zdw hok hH hl hw hlim hs.lens hp g1 g2 hys
   have hpos:0<ys.length:=Nat.pos_of_ne_zero fun h=>hys (zy5 h)
   have ha:ad=some ⟨l.blk,off*de.size,none⟩:=(k5 (.inl zz0)).trans zz15;subst ha;have hst:=run_storeCells_cells (P:=P) l.blk (off*de.size) vs 0 w (by simpa using hc) (by simpa using hf) hp.one;simp only [zy38] at hst;have zbh:(Builtin.copy_ #[t,t'] ty #[ρ x,ρ y]).run P w=.ok (goInt ys.length) (w.setCells l.blk (off*de.size) vs):=by
    rw [hxv];simp [Builtin.copy_,run_underlying hu,hlen,sizeOf,typeInfo,ht.info,<- hyl,hcl,hst]
   refine ⟨_,_,m,.inl (zcd .copy #[x,y] #[t,t'] _ (fun _=>rfl) zz18),hws,?_⟩;exact zbd _ rfl
theorem zsq {K:Res->Prop} {C:zai} {d:Nat} {args:Array Operand} {ats:Array TypeId} (hok:zag Γ m H w) (hxs:∀ x∈args.toList,zad m w (RR Γ m H w) (ev x) (ρ x)) (h:zat P C (.call ⟨.builtin .clear,args,ats⟩) d ev H K) :
 ∃ r,K r/\OS Γ P m H w (execOp ρ ⟨dst,.call ⟨.builtin .clear,args,ats⟩,ty,pos,after,guard⟩) r:=by
 simp only [zat] at h;split at h
 case h_2=>exact h.elim
 rename_i x hargs;have hargs':args=#[x]:=by rw [<- zy16 (xs:=args),hargs]
 subst hargs';split at h
 case h_2=>exact h.elim
 rename_i t hats;have hats':ats=#[t]:=by rw [<- zy16 (xs:=ats),hats]
 subst hats';have hx:=hxs x zz1;unfold zgo at h;have hq:=zbe h;clear h;obtain ⟨e,de,u,i,z,hu,ht,h⟩:=hq;have hx2:=zab h;clear h;obtain ⟨hc,h⟩:=hx2;simp only [zy1] at hc;obtain ⟨hzs,hone⟩:=hc;have hzs:=zy0 hzs;split at h
 case h_2=>exact h.elim
 rename_i id n1 off len hxx;rw [hxx] at hx;split at h
 case h_2=>exact h.elim
 rename_i b hH;obtain ⟨l,hl,hbr,_⟩:=hok.live id _ hH;have hq:=zji hbr h;clear h;obtain ⟨t1,n2,rows,mk,lim,h,hw,hlim⟩:=hq;have hx2:=zab h;clear h;obtain ⟨hee,⟨g1,g2⟩,h⟩:=hx2;simp only [zy1] at hee;have he1:=zy0 hee.1;have he2:=zy0 hee.2;subst he1 he2;simp only [zad] at hx;obtain ⟨l',ad,hl',k1,k2,hxv,k5⟩:=hx;rw [hl] at hl';cases hl';have hroom:=hw.room;refine ⟨_,h,?_⟩;by_cases hl0:len=0
 . subst hl0
   have zbh:(Builtin.clear_ #[t] ty #[ρ x]).run P w=.ok (.tuple #[]) w:=by
    rw [hxv];cases ad<;>simp [Builtin.clear_,run_underlying hu]
   refine ⟨_,_,m,.inl (zcd .clear #[x] #[t] _ (fun _=>rfl) zz18),?_,?_⟩
   . simp only [zbb,List.replicate_zero,zec,hw.set,<- hH,zed];exact .refl hok
   . simp only [zad,zae];exact ⟨#[],rfl,rfl⟩
 . have hp:=zjj (w:=w) (R:=RR Γ m H w) hone len
   obtain ⟨hn,hc,hf,hws⟩:=zdw hok hH hl hw hlim (ys:=List.replicate len (de.zero.map PV.v)) (fun r hr=>by rw [zy31 hr,zy37,hzs]) hp g1 (by rw [zy56];exact g2) (fun h=>hl0 (by simpa using congrArg List.length h));have ha:ad=some ⟨l.blk,off*de.size,none⟩:=(k5 (.inl zz0)).trans zz15;subst ha;have hst:=run_storeCells_cells (P:=P) l.blk (off*de.size) _ 0 w (by simpa using hc) (by simpa using hf) hp.one;simp only [zy38] at hst;have hzl:(Builtin.zeroCells z.cells len).toList=(List.replicate len de.zero).flatten:=by rw [zej,ht.zeros]
   have zbh:(Builtin.clear_ #[t] ty #[ρ x]).run P w=.ok (.tuple #[]) (w.setCells l.blk (off*de.size) (List.replicate len de.zero).flatten):=by
    rw [hxv];obtain ⟨k,rfl⟩:∃ k,len=k+1:=⟨len-1,by omega⟩
    simp [Builtin.clear_,run_underlying hu,zeroValue,typeInfo,ht.info,ht.zero,hzl,hst]
   refine ⟨_,_,m,.inl (zcd .clear #[x] #[t] _ (fun _=>rfl) zz18),hws,?_⟩;simp only [zad,zae];exact ⟨#[],rfl,rfl⟩
theorem zvu {K:Res->Prop} {C:zai} {d:Nat} {args:Array Operand} {ats:Array TypeId} (hok:zag Γ m H w) (hxs:∀ x∈args.toList,zad m w (RR Γ m H w) (ev x) (ρ x)) (h:zat P C (.call ⟨.builtin .cap,args,ats⟩) d ev H K) :
 ∃ r,K r/\OS Γ P m H w (execOp ρ ⟨dst,.call ⟨.builtin .cap,args,ats⟩,ty,pos,after,guard⟩) r:=by
 simp only [zat] at h;split at h
 case h_2=>exact h.elim
 rename_i x hargs;have hargs':args=#[x]:=by rw [<- zy16 (xs:=args),hargs]
 subst hargs';split at h
 case h_2=>exact h.elim
 rename_i t hats;have hats':ats=#[t]:=by rw [<- zy16 (xs:=ats),hats]
 subst hats';have hx:=hxs x zz1;have hq:=zbe h;clear h;obtain ⟨e,de,u,i,z,hu,ht,h⟩:=hq;have he:P.elem t=e:=by simp [Program.elem,hu]
 have hu':P.underlying t=some (.slice (P.elem t)):=by rw [he];exact hu
 split at h
 case h_2=>exact h.elim
 rename_i id n1 off len hxx;rw [hxx] at hx;have hq:=zan h;clear h;obtain ⟨b,hb,h⟩:=hq;obtain ⟨l,hl,hbr⟩:=hok.blk hb;split at h
 case h_2=>exact h.elim
 rename_i t1 n2 rows cap;obtain ⟨g,h⟩:=h;obtain ⟨b1,b2,_⟩:=hbr;simp only [zad] at hx;obtain ⟨l',ad,hl',k1,k2,hxv,k5⟩:=hx;rw [hl] at hl';cases hl';have hroom:l.room=cap:=by simp [Loc.room,b1,b2]
 have zbh:(Builtin.cap_ #[t] ty #[ρ x]).run P w=.ok (goInt ((cap-off:Nat))) w:=by rw [hxv,hroom];exact run_cap_slice w t ty ad len _ hu'
 exact ⟨_,h,.ret hok (zcd .cap #[x] #[t] _ (fun _=>rfl) (by simpa [goInt] using zbh)) (zbd _ rfl) _⟩
theorem zqt {K:Res->Prop} {C:zai} {d:Nat} {args:Array Operand} {ats:Array TypeId} (hok:zag Γ m H w) (hxs:∀ x∈args.toList,zad m w (RR Γ m H w) (ev x) (ρ x)) (h:zat P C (.call ⟨.builtin .append,args,ats⟩) d ev H K) :
 ∃ r,K r/\OS Γ P m H w (execOp ρ ⟨dst,.call ⟨.builtin .append,args,ats⟩,ty,pos,after,guard⟩) r:=by
 simp only [zat] at h;split at h
 . rename_i x y hargs
   have hargs':args=#[x,y]:=by rw [<- zy16 (xs:=args),hargs]
   subst hargs';split at h
   . rename_i t t' hats
     have hats':ats=#[t,t']:=by rw [<- zy16 (xs:=ats),hats]
     subst hats';have hx:=hxs x zz1;have hy:=hxs y zz1;split at h
     case h_2=>exact zpg hok hx hy h
     rename_i htt;have htt:=zy0 htt;subst htt;unfold zdr at h;obtain ⟨e,de,u,i,z,hu,ht,h⟩:=zbe h;obtain ⟨n,ys,ids,hK,hs⟩:=zew hok hy h;clear h;have hx2:=zab hK;clear hK;obtain ⟨hc,hK⟩:=hx2;simp only [zy1] at hc;obtain ⟨⟨⟨hn,hpos⟩,hby⟩,hzs⟩:=hc;have hn:=zy0 hn;subst hn;have hpos:0<de.size:=zy2 hpos;have hby:0<de.bytes:=zy2 hby;have hzs:=zy0 hzs;have hrunx:∀ {v:Value} {w':World},(Builtin.append_ #[t,t] ty #[ρ x,ρ y]).run P w=.ok v w'->(execOp ρ ⟨dst,.call ⟨.builtin .append,#[x,y],#[t,t]⟩,ty,pos,after,guard⟩).run P w=.ok (.value v) w' :=
      fun hr=>zco .append #[x,y] #[t,t] (fun _ _=>rfl) zz19
     split at hK
     . rename_i hxx
       rw [hxx] at hx;have hxv:=zfu hx;rw [hxv] at hrunx;split at hK
       . rename_i hfree
         obtain ⟨h47,hK⟩:=hK;refine ⟨_,hK,?_⟩;have zro:zme w (RR Γ m H w) de.size [] (.slice none 0 0):=⟨⟨none,0,rfl,by simp,by simp [maxLen],fun h=>absurd rfl h⟩,by simp⟩
         by_cases hys:ys=[]
         . subst hys
           obtain ⟨news,hnw,hsn⟩:=hs.src hu;have hnn:news=[]:=zy5 zz17;subst hnn;rw [ht.size] at hsn;have hr:=run_append_nothing (P:=P) w t t ty e i hu ht.info none 0 0 (zy47 _) (ρ y) hsn;obtain ⟨m',hws,hm'⟩:=WS.newNil hok hfree e de.size;refine ⟨_,_,m',.inl (hrunx hr),hws,?_⟩;simp only [zad];exact ⟨_,hm',rfl⟩
         . exact zdp (.refl hok) hfree hu ht hzs hby zro hs zz4 (by simpa using h47) rfl _ hrunx
       . exact hK.elim
     . rename_i id hxx
       rw [hxx] at hx;simp only [zad] at hx;obtain ⟨l,hl,hxv⟩:=hx;split at hK
       . rename_i e' n' rows hH
         have hx2:=zab hK;clear hK;obtain ⟨hee,hK⟩:=hx2;simp only [zy1] at hee;obtain ⟨he1,he2⟩:=hee;have he1:=zy0 he1;have he2:=zy0 he2;subst he1 he2;split at hK
         . rename_i hfree
           obtain ⟨h47,hK⟩:=hK;refine ⟨_,hK,?_⟩;obtain ⟨l',hl',hbr,_⟩:=hok.live id _ hH;rw [hl] at hl';cases hl';have hsx:=zgy hbr;have hdrop:=WS.drop hok hH;have hdid:d≠id:=by rintro rfl;rw [hH] at hfree;cases hfree
           have hfree':upd H id .dead d=.free:=(zah _ _ hdid).trans hfree;rw [hxv] at hrunx;have hbr':=hbr;obtain ⟨hlen,hlens,hb3⟩:=hbr;rcases hb3 with ⟨zro,hr0⟩ | ⟨hnn,hc1,hc2,arr,harr,hsz,hcell⟩
           . subst hr0
             have hhd:hdr l=.slice none 0 0:=by simp [hdr,zro]
             rw [hhd] at hrunx hsx;by_cases hys:ys=[]
             . subst hys
               obtain ⟨news,hnw,hsn⟩:=hs.src hu;have hnn:news=[]:=zy5 zz17;subst hnn;rw [ht.size] at hsn;have hr:=run_append_nothing (P:=P) w t t ty _ i hu ht.info none 0 0 (zy47 _) (ρ y) hsn;obtain ⟨m',hws,hm'⟩:=WS.newNil hdrop.ok hfree' e' de.size;refine ⟨_,_,m',.inl (hrunx hr),hdrop.trans hws,?_⟩;simp only [zad];exact ⟨_,hm',rfl⟩
             . exact zdp hdrop hfree' hu ht hzs hby hsx hs zz4 (by simpa using h47) rfl _ hrunx
           . have hhd:hdr l=.slice (some ⟨l.blk,0,none⟩) rows.length l.cap:=by simp [hdr,hnn,hlen]
             rw [hhd] at hrunx hsx;by_cases hroom:rows.length+ys.length<=l.cap
             . obtain ⟨news,hnw,hsn⟩:=hs.src hu
               have hnl:news.length=ys.length*de.size:=by rw [hnw.length,zam hs.lens]
               have hfit:rows.length*de.size+news.length<=arr.size:=by
                rw [hnl,hsz,<- zy12];exact zy28 _ hroom
               rw [ht.size] at hsn;have hr:=run_append_room_src (P:=P) w t t ty _ i hu ht.info l.blk 0 rows.length l.cap (ρ y) ys.length news hsn hroom
                (fun j hj=>by rw [cell_of_row w l.blk _ arr _ (0,0) harr,zy30 (by rw [<- ht.size];omega)];rfl) (fun j hj=>by simp [World.frozen?,harr])
               rw [<- ht.size,zy25] at hr;obtain ⟨m',hws,hm'⟩:=WS.rename hok hH hl hnn hfree (b':=.row e' de.size (rows++ys)) (rows++ys).length (w':=w.setCells l.blk (rows.length*de.size) news)
                (zal _ _ _ _).1 (zal _ _ _ _).2.1 (zal _ _ _ _).2.2.1 (zal _ _ _ _).2.2.2 (fun k hk=>zbs _ _ _ _ _ hk) (fun m' R' hext hk=>by
                 refine ⟨rfl,fun r hr=>?_,.inr ⟨rfl,by simpa using hroom,hc2,putAt arr (rows.length*de.size) news,zbr _ _ _ _ _ harr hfit,by rw [zbx,hsz],fun k y hy=>?_⟩⟩
                 . rcases zy6.1 hr with hr | hr
                   . exact hlens r hr
                   . exact hs.lens r hr
                 . rw [zy34] at hy
                   have hfl:=zam hlens;rw [zbq];rcases zy39 k rows.flatten.length with hlt | hge
                   . rw [zy23 hlt] at hy
                     rw [zy7 (by omega)];obtain ⟨cv,h1,h2⟩:=hcell k y hy;exact ⟨cv,h1,h2.mono hk⟩
                   . rw [zy29 hge] at hy
                     obtain ⟨cv,h1,h2⟩:=hnw.get _ _ hy;have hklt:=(zy8.1 h1).1;refine ⟨cv,?_,h2.mono hk⟩;rw [zy11 (by omega),<- hfl];exact h1)
               refine ⟨_,_,m',.inl (hrunx hr),hws,?_⟩;simp only [zad];exact ⟨_,hm',by simp [hdr]⟩
             . exact zdp hdrop hfree' hu ht hzs hby hsx hs zz0 h47 rfl _ hrunx
         . exact hK.elim
       . exact hK.elim
     . rename_i id n1 off len hxx
       rw [hxx] at hx;split at hK
       . rename_i b hH
         obtain ⟨l,hl,hbr,_⟩:=hok.live id _ hH;have hq:=zji hbr hK;clear hK;obtain ⟨t1,n2,rows,mk,lim,hK,hw,hlim⟩:=hq;have hx2:=zab hK;clear hK;obtain ⟨hee,hg,hK⟩:=hx2;simp only [zy1] at hee;obtain ⟨⟨he1,he2⟩,he3⟩:=hee;have he1:=zy0 he1;have he2:=zy0 he2;have he3:=zy0 he3;subst he1 he2 he3;obtain ⟨hg1,hg2⟩:=hg;refine ⟨_,hK,?_⟩;exact zjm hok hH hl hw hlim hx hu ht hs hg1 hg2 hrunx _
       . exact hK.elim
     . exact hK.elim
   . exact h.elim
 . exact h.elim
theorem zsm {u:TypeDesc} {v:Value} (h:zmy (zey (zcn u)) v=true):zmx (zey (zcn u))=u:=by
 cases u<;>simp only [zcn] at h ⊢<;>try rfl
 all_goals first | (rename_i k;cases k<;>rfl) | (exfalso;cases v<;>simp [zey,zmy] at h;rename_i k n;cases k<;>simp [zey] at h)
theorem zvp {n:Nat} {v:Value} (h:zmy n v=true):MapKept.IsKey (zmx n) v:=by
 cases v<;>simp only [zmy] at h<;>try cases h
 all_goals (have h:=zy0 h;subst h)
 . trivial
 . rename_i k z;cases k<;>rfl
 . trivial
theorem zqm {d:TypeDesc} {a b:Value} (ha:MapKept.IsKey d a) (hb:MapKept.IsKey d b):zpd a b=true↔a=b:=by
 cases d<;>cases a<;>cases b<;>simp_all [MapKept.IsKey,zpd,MapKept.bytes_beq]
theorem zck.snoc {R:Nat->Prop} {agg:Bool} {xs:List (Value×List PV)} {es:List MapEntry} (h:zck w R agg xs es) {x:Value×List PV} {e:MapEntry} (hx:zrn w R agg x e):zck w R agg (xs++[x]) (es++[e]):=by
 induction h with
 | nil=>exact .cons hx .nil
 | cons h1 _ ih=>exact .cons h1 ih
theorem zmm {R:Nat->Prop} {agg:Bool} {d:TypeDesc} {k:Value} (hk:MapKept.IsKey d k):∀ {xs:List (Value×List PV)} {es:List MapEntry},zck w R agg xs es->∀ (i:Nat),(∀ x∈es,MapKept.IsKey d x.key) ->
 (Instr.findNow d k es i=some none/\zml xs k=none/\(∀ x∈es,x.key≠k)/\∀ v,zus xs k v=xs++[(k,v)]) \/
 ∃ j e cs,Instr.findNow d k es i=some (some (i+j,e.val))/\es[j]?=some e/\e.key=k/\zml xs k=some cs/\zrn w R agg (k,cs) e /\
  ∀ v e',zrn w R agg (k,v) e'->zck w R agg (zus xs k v) (es.set j e')
 | _,_,.nil,_,_=>.inl ⟨rfl,rfl,by simp,fun _=>rfl⟩
 | (k',cs)::xs,e::es,.cons hx hr,i,h=>by
  obtain ⟨r,hr1,hiff⟩:=MapKept.sameNow_of_keys hk (h e (.head _));have hke:e.key=k':=hx.1;have hq:zpd k k'=r:=by
   have h1:=zqm hk (h e (.head _));rw [hke] at h1 hiff;cases r with
   | true=>exact h1.2 (hiff.1 rfl)
   | false=>cases hc:zpd k k' with
    | false=>rfl
    | true=>have:=hiff.2 (h1.1 hc);cases this
  cases r with
  | true =>
   have hkk:=hiff.1 rfl;refine .inr ⟨0,e,cs,by simp [Instr.findNow,hr1],rfl,hkk.symm,by simp [zml,hq],by rw [hkk,hke];exact hx,fun v e' he'=>?_⟩;simp only [zus,hq,if_true,List.set_cons_zero];exact .cons he' hr
  | false =>
   have hne:e.key≠k:=fun q=>by have:=hiff.2 q.symm;cases this
   rcases zmm hk hr (i+1) (fun x hx=>h x (.tail _ hx)) with ⟨h1,h2,h3,h4⟩ | ⟨j,e',cs',h1,h2,h3,h4,h5,h6⟩
   . refine .inl ⟨by simp [Instr.findNow,hr1,h1],by simp [zml,hq,h2],fun x hx=>?_,fun v=>by simp [zus,hq,h4]⟩
     cases hx with
     | head=>exact hne
     | tail _ hx=>exact h3 x hx
   . refine .inr ⟨j+1,e',cs',by simp [Instr.findNow,hr1,h1];omega,by simpa using h2,h3,by simp [zml,hq,h4],h5,fun v e'' he=>?_⟩
     simp only [zus,hq,List.set_cons_succ];exact .cons hx (h6 v e'' he)
theorem zlf {k:TypeId} {dk:TyD} {uk:TypeDesc} {ik:TypeInfo} {zk:Value} (ht:zgh P k dk uk ik zk) {v:Value} (h:zmy (zey dk.k) v=true):zmx (zey dk.k)=uk/\MapKept.IsKey uk v:=by
 have hd:dk.k=zcn uk:=ht.kind;rw [hd] at h ⊢;have:=zsm h;exact ⟨this,this ▸ zvp h⟩
theorem zpk {K:Res->Prop} {C:zai} {d:Nat} {t:TypeId} {r:Option Operand} (hok:zag Γ m H w) (h:zat P C (.makeMap t r) d ev H K) :
 ∃ r',K r'/\OS Γ P m H w (execOp ρ ⟨dst,.makeMap t r,ty,pos,after,guard⟩) r':=by
 simp only [zat] at h;cases r with
 | some _=>exact h.elim
 | none =>
  obtain ⟨k,e,dk,uk,ik,zk,de,u,i,z,hu,htk,ht,h⟩:=zgx h;split at h
  . rename_i hfree
    obtain ⟨m',hws,hm'⟩:=WS.newObj hok hfree (o:=.map #[] 0) (b:=.map (zey dk.k) (zba de.k) []) (cap:=0) (len:=0)
     (fun m' R' hext hk=>⟨rfl,#[],0,(MapKept.heap_alloc w _).1,.nil,MapKept.stamped_empty 0,by simp⟩)
    refine ⟨_,h,.map (some w.heap.size),_,m',.inl ?_,hws,?_⟩
    . simp only [execOp]
      exact zak _ (by rfl)
    . simp only [zad]
      exact ⟨_,hm',rfl,rfl⟩
  . exact h.elim
theorem zck.split {w:World} {R:Nat->Prop} {agg:Bool}:∀ {A':List MapEntry} {e:MapEntry} {B':List MapEntry} {xs:List (Value×List PV)},zck w R agg xs (A'++e::B') ->
 ∃ A x B,xs=A++x::B/\zck w R agg A A'/\zrn w R agg x e/\zck w R agg B B'
 | [],e,B',xs,h=>by cases h with | cons h1 h2=>exact ⟨[],_,_,rfl,.nil,h1,h2⟩
 | a::A',e,B',xs,h=>by
  cases h with
  | cons h1 h2 =>
   obtain ⟨A,x,B,rfl,k1,k2,k3⟩:=zck.split h2;exact ⟨_::A,x,B,rfl,.cons h1 k1,k2,k3⟩
theorem zck.join {w:World} {R:Nat->Prop} {agg:Bool}:∀ {A':List MapEntry} {B':List MapEntry} {A B:List (Value×List PV)},zck w R agg A A'->zck w R agg B B'->zck w R agg (A++B) (A'++B')
 | [],B',A,B,h,k=>by cases h;exact k
 | a::A',B',A,B,h,k=>by cases h with | cons h1 h2=>exact .cons h1 (h2.join k)
theorem zqn {arr:Array MapEntry} {seen:Array Nat} {e:MapEntry} {A B:List MapEntry} (hn:(arr.toList.map (·.born)).Nodup) (h:(leftOf arr seen).toList=A++e::B):(leftOf arr (seen.push e.born)).toList=A++B:=by
 have h1:(leftOf arr (seen.push e.born)).toList=(leftOf arr seen).toList.filter fun x=>!(x.born==e.born):=by
  unfold leftOf;rw [Array.toList_filter,Array.toList_filter,List.filter_filter];refine List.filter_congr fun x _=>?_
  rw [contains_push];cases seen.contains x.born<;>cases x.born==e.born<;>rfl
 have hs:(leftOf arr seen).toList.Sublist arr.toList:=by unfold leftOf;rw [Array.toList_filter];exact List.filter_sublist
 have h2:((A++e::B).map (·.born)).Nodup:=by rw [<- h];exact (hs.map _).nodup hn
 rw [zy53,zy13,List.nodup_append] at h2;obtain ⟨_,h3,h4⟩:=h2;have h5:=(zy62.1 h3).1;rw [h1,h,List.filter_append,List.filter_cons_of_neg (by simp),List.filter_eq_self.2 fun x hx=>?_,List.filter_eq_self.2 fun x hx=>?_]
 . have:x.born≠e.born:=fun q=>h5 (q ▸ List.mem_map_of_mem hx)
   simpa using this
 . have:x.born≠e.born:=h4 x.born (List.mem_map_of_mem hx) e.born zz1
   simpa using this
theorem zui {kc:Nat} {v:Value} (h:MapKept.IsKey (zmx kc) v):v.oneCell'=true:=by
 generalize zmx kc=d at h;cases d<;>cases v<;>first | rfl | exact h.elim
theorem zsu {K:Res->Prop} {C:zai} {d:Nat} {t:TypeId} {x:Operand} (hok:zag Γ m H w) (hx:zad m w (RR Γ m H w) (ev x) (ρ x)) (h:zat P C (.range t x) d ev H K) :
 ∃ r',K r'/\OS Γ P m H w (execOp ρ ⟨dst,.range t x,ty,pos,after,guard⟩) r':=by
 simp only [zat] at h;obtain ⟨k,e,dk,uk,ik,zk,de,u,i,z,hu,htk,ht,h⟩:=zgx h;split at h
 . rename_i id hxx
   rw [hxx] at hx;simp only [zad] at hx;obtain ⟨l,hl,hn,hv⟩:=hx;split at h
   . rename_i kc agg es hb
     split at h
     . rename_i hfree
       obtain ⟨l',hl',hbr,hlo⟩:=hok.live id _ hb;rw [hl] at hl';cases hl';obtain ⟨_,arr,clock,harr,her,hst,hks⟩:=hbr;obtain ⟨hws1,hrr⟩:=WS.kill hok hb hl hn (w':=w) rfl rfl rfl rfl (fun _ _=>rfl);have hne:d≠id:=by rintro rfl;rw [hb] at hfree;cases hfree
       obtain ⟨m',hws2,hm'⟩:=WS.newObj hws1.ok (id:=d) (by rw [zah _ _ hne];exact hfree) (o:=.mapIter (some l.blk) clock #[] clock) (b:=.iter kc agg es none) (cap:=0) (len:=0)
        (fun m' R' hext hk=>⟨rfl,l.blk,arr,clock,#[],heap_alloc_new _ _,⟨(hk _ hrr).1.trans harr,(hk _ hrr).2,hst,hks,by
         have:(leftOf arr #[]).toList=arr.toList:=by unfold leftOf;simp
         rw [this];exact (her.mono hws1.keep).mono hk,by simp⟩⟩)
       refine ⟨_,h,.pointer (some ⟨w.heap.size,0,none⟩),_,m',.inl ?_,hws1.trans hws2,?_⟩
       . simp only [execOp]
         rw [hv];exact zak _ (run_range_map w t k e l.blk arr clock hu harr)
       . simp only [zad]
         exact ⟨_,hm',rfl,rfl⟩
     . exact h.elim
   . exact h.elim
 . exact h.elim
theorem zup {K:Res->Prop} {C:zai} {d:Nat} {x:Operand} {str:Bool} (hok:zag Γ m H w) (hx:zad m w (RR Γ m H w) (ev x) (ρ x)) (h:zat P C (.next x str) d ev H K) :
 ∃ r',K r'/\OS Γ P m H w (execOp ρ ⟨dst,.next x str,ty,pos,after,guard⟩) r':=by
 simp only [zat] at h;split at h
 . exact h.elim
 split at h
 . rename_i id hxx
   rw [hxx] at hx;simp only [zad] at hx;obtain ⟨l,hl,hn,hv⟩:=hx;split at h
   . rename_i kc agg left cur hb
     obtain ⟨l',hl',hbr,hlo⟩:=hok.live id _ hb;rw [hl] at hl';cases hl';obtain ⟨_,bm,arr,clock,seen,hit,hI⟩:=hbr;have hst:=hI.stamped;rcases run_next_at (P:=P) w ty l.blk bm clock clock seen arr clock hit hI.map hst.1 (zy47 _) with ⟨h0,zbh⟩ | ⟨e,he,w1,hw1,zbh⟩
     . have hl0:left=[]:=by
        have:=hI.left;rw [Array.eq_empty_of_size_eq_zero h0] at this;cases this;rfl
       refine ⟨_,h.1 hl0,.ret hok (v:=.tuple #[.bool false]) ?_ ?_ _⟩
       . simp only [execOp]
         rw [hv];exact zak _ zbh
       . simp only [zad,zae]
         exact ⟨_,rfl,.bool false,[],rfl,.v _ rfl,rfl⟩
     . obtain ⟨A',B',hAB⟩:=List.append_of_mem he
       have hleft:=hI.left;rw [hAB] at hleft;obtain ⟨A,y,B,rfl,hA,hy,hB⟩:=zck.split hleft;have hw0:WS Γ H m w H m w1:=by
        rcases hw1 with rfl | rfl
        . exact .refl hok
        . exact .drew hok
       have hheap:w1.heap=w.heap:=by rcases hw1 with rfl | rfl<;>rfl
       have hother:∀ k,k≠l.blk->(ChangeMaps.setBlock w1 l.blk (.mapIter (some bm) clock (seen.push e.born) clock)).heap[k]?=w1.heap[k]?:=fun k hk=>by
        show (w1.heap.setIfInBounds _ _)[k]?=_;rw [Array.getElem?_setIfInBounds_ne (fun q=>hk q.symm)]
       have hself:(ChangeMaps.setBlock w1 l.blk (.mapIter (some bm) clock (seen.push e.born) clock)).heap[l.blk]?=some (.mapIter (some bm) clock (seen.push e.born) clock):=by
        show (w1.heap.setIfInBounds _ _)[l.blk]?=_;rw [Array.getElem?_setIfInBounds_self_of_lt];rw [hheap];exact (zy21.1 hit).1
       have hws:WS Γ H m w1 (upd H id (.live (.iter kc agg (A++B) (some y)))) m (ChangeMaps.setBlock w1 l.blk (.mapIter (some bm) clock (seen.push e.born) clock)):=by
        refine WS.set hw0.ok hb hl hn (by show (w1.heap.setIfInBounds _ _).size=_;simp) rfl rfl rfl hother fun R' hR=>?_
        have hk:∀ b,RR Γ m H w b->(ChangeMaps.setBlock w1 l.blk (.mapIter (some bm) clock (seen.push e.born) clock)).heap[b]?=w.heap[b]?/\R' b:=fun b hb=>by
         have h1:=hw0.keep b hb;have h2:=hR b h1.2;exact ⟨h2.1.trans h1.1,h2.2⟩
        refine ⟨hn,bm,arr,clock,seen.push e.born,hself,⟨(hk _ hI.ok).1.trans hI.map,(hk _ hI.ok).2,hst,hI.keys,?_,fun z hz=>?_⟩⟩
        . rw [zqn hst.2.1 hAB]
          exact (hA.join hB).mono hk
        . cases hz
          exact ⟨e,(mem_left he).1,⟨seen,rfl⟩,hy.mono hk⟩
       refine ⟨_,h.2 A y B rfl,.tuple #[.bool true,e.key,e.val],_,m,.inl ?_,hw0.trans hws,?_⟩
       . simp only [execOp]
         rw [hv];exact zak _ zbh
       . simp only [zad,zae]
         exact ⟨_,rfl,.bool true,[e.key,e.val],rfl,.v _ rfl,e.key,[e.val],rfl,trivial,e.val,[],rfl,trivial,rfl⟩
   . exact h.elim
 . exact h.elim
theorem zsr {K:Res->Prop} {C:zai} {d:Nat} {x:Operand} (hok:zag Γ m H w) (hx:zad m w (RR Γ m H w) (ev x) (ρ x)) (h:zat P C (.entry x) d ev H K) :
 ∃ r',K r'/\OS Γ P m H w (execOp ρ ⟨dst,.entry x,ty,pos,after,guard⟩) r':=by
 simp only [zat] at h;split at h
 . rename_i id hxx
   rw [hxx] at hx;simp only [zad] at hx;obtain ⟨l,hl,hn,hv⟩:=hx;obtain ⟨b,hb,h⟩:=zan h;obtain ⟨l',hl',hbr⟩:=hok.blk hb;rw [hl] at hl';cases hl';split at h
   . rename_i kc agg left cur
     obtain ⟨k,v,rfl,hc,h⟩:=h;obtain ⟨_,bm,arr,clock,seen,hit,hI⟩:=hbr;obtain ⟨e,he,⟨s0,rfl⟩,hk,hone,hp⟩:=hI.cur _ hc;have hst:=hI.stamped;refine ⟨_,h,.ret hok (v:=.tuple #[e.key,e.val]) ?_ ?_ _⟩
     . simp only [execOp]
       rw [hv];exact zak _ (run_entry_at (P:=P) w l.blk bm clock s0 arr clock e hit hI.map he hst.2.1)
     . have hk:e.key=k:=hk
       have h1:=zui (hI.keys e he);rw [hk] at h1;cases hp with
       | cons h2 h3 =>
        simp only [zad,zae];exact ⟨_,rfl,e.key,[e.val],rfl,by rw [hk];exact .v k h1,e.val,[],rfl,h2,rfl⟩
   . exact h.elim
 . exact h.elim
theorem ztb {e:TypeId} {de:TyD} {u:TypeDesc} {i:TypeInfo} {z:Value} (ht:zgh P e de u i z) {arr:Array Value} {off:Nat} {us:List Value}
 (hus:(zba de.k=true/\us.length=de.size)\/(zba de.k=false/\us.length=1)) (huc:∀ (k:Nat) v,us[k]?=some v->arr.toList[off+k]?=some v) :
 (part e arr off).run P w=.ok (if zba de.k then .agg us.toArray else us.headD undef) w:=by
 unfold part;rw [Sem.run_bind,ht.isAgg w,Result.andThen_ok];rcases hus with ⟨ha,hl⟩ | ⟨ha,hl⟩
 . rw [ha]
   simp only [if_true];have hsz:(sizeOf e).run P w=.ok de.size w:=by simp [sizeOf,typeInfo,ht.info,ht.size]
   simp only [Sem.run_bind,hsz,Result.andThen_ok,Sem.run_pure];congr 2;apply Array.ext';apply zy40;intro k;simp only [Array.toList_extract,List.extract_eq_take_drop,Nat.add_sub_cancel_left];rw [zy14];by_cases hk:k<de.size
   . rw [zy11 hk,zy17]
     have h1:=huc k (us[k]'zz0) (zy15 zz0);rw [h1,zy15 (by omega)]
   . rw [zy7 hk,zy24 (by omega)]
 . rw [ha]
   simp only [zy26,if_false]
   match us,hl with
   | [c],_ =>
    have h1:=huc 0 c rfl;simp only [zy38,zy42] at h1;simp [h1]
theorem zjc {R:Nat->Prop} {td:TyD} {cs:List PV} {K:HV->Prop} {vs:List Value} (hr:zbg w R cs vs) (h:zct td cs 0 K) :
 ∃ x,K x/\(zba td.k=true->td.size<=vs.length)/\(∀ v,(if zba td.k then (∃ us,v=.agg (us:List Value).toArray/\us=vs.take td.size) else vs[0]?=some v)->zad m w R x v):=by
 unfold zct at h;split at h
 . rename_i ha
   obtain ⟨hle,h⟩:=zab h;rw [zbw,zff] at h;have hle:=zy2 hle;refine ⟨_,h,fun _=>by rw [hr.length];omega,fun v hv=>?_⟩;rw [ha] at hv;simp only [if_true] at hv;obtain ⟨us,rfl,rfl⟩:=hv;simp only [zad];refine ⟨_,rfl,zae.of_get (by simp [hr.length]) fun k x v hx hv=>?_⟩;rw [zy10,List.drop_zero] at hx;obtain ⟨x',hx',rfl⟩:=zy3.1 hx;have hv:(vs.take td.size)[k]?=some v:=by simpa using hv
   rw [zy14] at hx' hv;by_cases hk:k<td.size
   . rw [zy11 hk] at hx' hv
     obtain ⟨v',hv',hp⟩:=hr.get _ _ hx';rw [hv'] at hv;cases hv;simp only [zad];exact hp
   . rw [zy7 hk] at hx';cases hx'
 . rename_i ha
   have hfin:∀ y,nth cs 0=some y->∀ v,vs[0]?=some v->zcj w R y v:=by
    intro y hy v hv;rw [zce] at hy;obtain ⟨v',hv',hp⟩:=hr.get _ _ hy;rw [hv'] at hv;cases hv;exact hp
   split at h
   . rename_i x hx
     exact ⟨_,h,by simp [ha],fun v hv=>by rw [ha] at hv;simp only [zad];exact hfin _ hx v zz6⟩
   . rename_i n r hx
     exact ⟨_,h,by simp [ha],fun v hv=>by rw [ha] at hv;simp only [zad];exact hfin _ hx v zz6⟩
   . exact h.elim
theorem zsc {e:TypeId} {de:TyD} {ok agg:Bool} {o:Option (List PV)} {K:Res->Prop} {id:Nat} (h:zoy P e de ok agg o K id) :
 agg=zba de.k/\match o with
  | some cs=>cs.length=de.size/\zct de cs 0 fun v=>okK ok v true id K
  | none=>de.zero.length=de.size/\(de.zero.all (·.oneCell'))=true/\de.zagg=zba de.k/\zct de (ziz (lay P e) (de.zero.map .v)) 0 fun v=>okK ok v false id K:=by
 unfold zoy at h;obtain ⟨h1,h⟩:=zab h;refine ⟨eq_of_beq h1,?_⟩;cases o with
 | some cs =>
  obtain ⟨h2,h⟩:=zab h;exact ⟨zy0 h2,h⟩
 | none =>
  obtain ⟨h2,h⟩:=zab h;simp only [zy1] at h2;exact ⟨zy0 h2.1.1,h2.1.2,eq_of_beq h2.2,h⟩
theorem zqv {K:Res->Prop} {C:zai} {d:Nat} {t:TypeId} {x i:Operand} {ok:Bool} (hok:zag Γ m H w) (hx:zad m w (RR Γ m H w) (ev x) (ρ x)) (hi:zad m w (RR Γ m H w) (ev i) (ρ i)) (h:zat P C (.lookup t x i ok) d ev H K) :
 ∃ r,K r/\OS Γ P m H w (execOp ρ ⟨dst,.lookup t x i ok,ty,pos,after,guard⟩) r:=by
 simp only [zat] at h;obtain ⟨k,e,dk,uk,ik,zk,de,u,inf,z,hu,htk,ht,h⟩:=zgx h;split at h
 . rename_i kv hii
   rw [hii] at hi;have hiv:ρ i=kv:=by simp only [zad] at hi;cases hi;rfl
   obtain ⟨hki,h⟩:=zab h;obtain ⟨hkd,hkey⟩:=zlf htk hki;split at h
   . rename_i id hxx
     rw [hxx] at hx;simp only [zad] at hx;obtain ⟨l,hl,hn,hv⟩:=hx;obtain ⟨b,hb,h⟩:=zan h;obtain ⟨l',hl',hbr⟩:=hok.blk hb;rw [hl] at hl';cases hl';split at h
     . rename_i kc agg es
       have hx2:=zab h;clear h;obtain ⟨hkc,o,ho,h⟩:=hx2;have hkc:=zy0 hkc;subst hkc;obtain ⟨_,arr,clock,harr,her,hst,hks⟩:=hbr;rw [hkd] at hks;obtain ⟨hag,h⟩:=zsc h;have hget:=MapKept.run_getObj_map (P:=P) harr;have hck:=fun em=>MapKept.run_checkKey (P:=P) (w:=w) htk.und hkey em 9999
       have fin:∀ (v:Value) (bb:Bool) (y:HV),(Instr.lookup t (ρ x) (ρ i) ok).run P w=.ok (if ok then .tuple #[v,.bool bb] else v) w->zad m w (RR Γ m H w) y v ->
        okK ok y bb id K->∃ r,K r/\OS Γ P m H w (execOp ρ ⟨dst,.lookup t x i ok,ty,pos,after,guard⟩) r:=by
        intro v bb y zbh hy hk;cases ok with
        | true =>
         refine ⟨_,hk,.ret hok (v:=.tuple #[v,.bool bb]) ?_ ?_ _⟩
         . simp only [execOp];exact zak _ zbh
         . simp only [zad]
           refine ⟨_,rfl,?_⟩;simp only [zae];exact ⟨v,[.bool bb],rfl,hy,.bool bb,[],rfl,zbd _ rfl,rfl⟩
        | false =>
         refine ⟨_,hk,.ret hok (v:=v) ?_ hy _⟩;simp only [execOp];exact zak _ zbh
       rcases zmm hkey her 0 (fun x hx=>hks x hx) with ⟨h1,h2,_,_⟩ | ⟨j,en,cs,h1,h2,h3,h4,h5,_⟩
       . rw [h2] at ho
         subst ho;obtain ⟨hz1,hz2,hz3,h⟩:=h;rw [ht.zagg] at hz3;have hzp:zbg w (RR Γ m H w) (ziz (lay P e) (de.zero.map .v)) z.cells.toList:=by
          refine zbg.norm _ ?_;rw [<- ht.zeros];exact zij fun v hv=>zy19.1 hz2 v hv
         obtain ⟨y,hk,hlen,hrep⟩:=zjc (m:=m) hzp h;refine fin z false y ?_ (hrep z ?_) hk
         . rw [hv,hiv]
           simp [Instr.lookup,run_underlying hu,hget,hck,MapKept.run_findKey htk.und h1,zeroValue,typeInfo,ht.info,ht.zero,Result.andThen]
         . rw [ht.zeros] at hz1
           cases hza:zba de.k with
           | true =>
            rw [hza] at hz3;simp only [if_true];cases z with
            | agg arr =>
             refine ⟨arr.toList,by simp,?_⟩;rw [List.take_of_length_le (by simp [Value.cells] at hz1 ⊢;omega)]
             rfl
            | _=>simp [zoe] at hz3
           | false =>
            rw [hza] at hz3;simp only [zy26,if_false];cases z<;>first | rfl | simp [zoe] at hz3
       . rw [h4] at ho
         subst ho;obtain ⟨hcl,h⟩:=h;have hvs:∃ vs,zbg w (RR Γ m H w) cs vs/\(if zba de.k then (∃ us,en.val=.agg (us:List Value).toArray/\us=vs.take de.size) else vs[0]?=some en.val):=by
          obtain ⟨_,h5⟩:=h5;rw [<- hag];cases agg with
          | true =>
           obtain ⟨arr',h6,h7⟩:=h5;refine ⟨arr'.toList,h7,?_⟩;simp only [if_true];exact ⟨arr'.toList,by simp [h6],by rw [List.take_of_length_le (by have:=h7.length;dsimp only at this;omega)]⟩
          | false=>exact ⟨[en.val],h5.2,by simp⟩
         obtain ⟨vs,hp,hval⟩:=hvs;obtain ⟨y,hk,hlen,hrep⟩:=zjc (m:=m) hp h;refine fin en.val true y ?_ (hrep _ hval) hk;rw [hv,hiv];simp [Instr.lookup,run_underlying hu,hget,hck,MapKept.run_findKey htk.und h1,Result.andThen]
     . exact h.elim
   . exact h.elim
 . exact h.elim
theorem zst {K:Res->Prop} {C:zai} {d:Nat} {t:TypeId} {x i:Operand} (hok:zag Γ m H w) (hx:zad m w (RR Γ m H w) (ev x) (ρ x)) (hi:zad m w (RR Γ m H w) (ev i) (ρ i)) (h:zat P C (.index t x i) d ev H K) :
 ∃ r,K r/\OS Γ P m H w (execOp ρ ⟨dst,.index t x i,ty,pos,after,guard⟩) r:=by
 simp only [zat] at h;obtain ⟨n,e,de,u,inf,z,hu,ht,h⟩:=znl h;split at h
 . rename_i l hxx
   rw [hxx] at hx;split at h
   . rename_i k i' hii
     rw [hii] at hi;have hiv:=zax hi;obtain ⟨j,rfl,hj,h⟩:=h;simp only [zad] at hx;obtain ⟨arr,hv,hrl⟩:=hx;obtain ⟨y,us,hk,hus,huc,hrep⟩:=zfb hrl h;have hsz:∀ W:World,(sizeOf e).run P W=.ok de.size W:=fun W=>by simp [sizeOf,typeInfo,ht.info,ht.size]
     have hpart:=ztb (w:=w) ht (arr:=arr) hus huc;refine ⟨_,hk,.ret hok ?_ hrep _⟩;simp only [execOp,hv,hiv];refine zak _ ?_;simp only [Instr.index,asIntOf,Sem.run_bind,Sem.run_pure,Result.andThen_ok,run_underlying hu];rw [zy11 ⟨by omega,by omega⟩];simp only [Sem.run_bind,hsz,Result.andThen_ok,Int.toNat_natCast];exact hpart
   . exact h.elim
 . exact h.elim
theorem zlp {K:Res->Prop} {t:TypeId} {x i y:Operand} (hok:zag Γ m H w) (hx:zad m w (RR Γ m H w) (ev x) (ρ x)) (hi:zad m w (RR Γ m H w) (ev i) (ρ i)) (hy:zad m w (RR Γ m H w) (ev y) (ρ y))
 (h:zcw P t (ev x) (ev i) (ev y) H K):∃ r,K r/\∀ {xo:Sem Next},(xo=(do Instr.mapUpdate t (ρ x) (ρ i) (ρ y);pure Next.skip:Sem Next))->OS Γ P m H w xo r:=by
 unfold zcw at h;obtain ⟨k,e,dk,uk,ik,zk,de,u,inf,z,hu,htk,ht,h⟩:=zgx h;split at h
 . rename_i kv hii
   rw [hii] at hi;have hiv:ρ i=kv:=by simp only [zad] at hi;cases hi;rfl
   obtain ⟨hki,h⟩:=zab h;obtain ⟨hkd,hkey⟩:=zlf htk hki;split at h
   . rename_i id hxx
     rw [hxx] at hx;simp only [zad] at hx;obtain ⟨l,hl,hn,hv⟩:=hx;split at h
     . rename_i kc agg es hH
       obtain ⟨hb,h⟩:=zab h;simp only [zy1] at hb;obtain ⟨⟨h1,hag⟩,hkc⟩:=hb;have hag:agg=zod (ev y):=eq_of_beq hag;have hkc:=zy0 hkc;subst hkc;obtain ⟨l',hl',hbr,_⟩:=hok.live id _ hH;rw [hl] at hl';cases hl';obtain ⟨_,arr,clock,harr,her,hst,hks⟩:=hbr;have hks':=hks;rw [hkd] at hks';obtain ⟨vs,us,h,hfz,hprep⟩:=zmr hok (hy.cells h1) h;have hx2:=zab h;clear h;obtain ⟨hb,es',hes,h⟩:=hx2;simp only [zy1] at hb;have hlen:=zy0 hb.1;have hus:us=[]:=by simpa using hb.2
       subst hus;have hcl:(ρ y).cells.size=de.size:=by have:=hprep.length;simp at this;omega
       have her':∀ born,zrn w (RR Γ m H w) agg (kv,vs) ⟨kv,ρ y,born⟩:=by
        intro born;refine ⟨rfl,?_⟩;simp only [zbb] at hprep;rw [hag];cases hyy:ev y<;>rw [hyy] at hy h1
        case agg l2 =>
         simp only [zad] at hy;obtain ⟨arr2,hv2,_⟩:=hy;simp only [zod];exact ⟨arr2,hv2,by rw [hv2] at hprep;exact hprep⟩
        all_goals (
         simp only [zod];have hone:=hy.one h1;rw [zgk hone] at hprep;exact ⟨hone,hprep⟩)
       have hrunG:∀ (j:Option (Nat×Value)),(Instr.findKey k kv arr.toList).run P w=.ok j w->(∀ i v,j=some (i,v)->∃ e,arr[i]?=some e/\e.key=kv) ->
        (Instr.mapUpdate t (.map (some l.blk)) kv (ρ y)).run P w=(setObj l.blk (match j with
         | some (i,_)=>.map (arr.modify i fun e=>{e with key:=kv,val:=ρ y}) clock
         | none=>.map (arr.push {key:=kv,val:=ρ y,born:=clock}) (clock+1))).run P w:=by
        intro j hj hjk;simp only [Instr.mapUpdate,Sem.run_bind,run_underlying hu,Result.andThen_ok,MapKept.run_getObj_map harr,MapKept.run_checkKey htk.und hkey,hj];cases j with
        | none=>rfl
        | some q =>
         obtain ⟨i,v⟩:=q;obtain ⟨e1,he1,he2⟩:=hjk i v rfl;simp [he1,he2,MapKept.run_keyThatStays hkey,Result.andThen]
       have fin:∀ (o':Obj),(Instr.mapUpdate t (.map (some l.blk)) kv (ρ y)).run P w=(setObj l.blk o').run P w ->
        (∀ (w':World) (R':Nat->Prop),w'.heap[l.blk]?=some o'->(∀ b,RR Γ m H w b->w'.heap[b]?=w.heap[b]?/\R' b)->zeh m w' R' l (.map (zey dk.k) agg es')) ->
        ∃ r,K r/\∀ {xo:Sem Next},(xo=(do Instr.mapUpdate t (ρ x) (ρ i) (ρ y);pure Next.skip:Sem Next))->OS Γ P m H w xo r:=by
        intro o' zbh hbr';refine ⟨_,h,fun {xo} hxo=>⟨undef,{w with heap:=w.heap.setIfInBounds l.blk o'},m,.inr ⟨?_,rfl⟩,WS.set hok hH hl hn ?_ rfl rfl rfl ?_ ?_,by simp only [zad]⟩⟩
        . rw [hxo,hv,hiv,Sem.run_bind,zbh,MapKept.run_setObj_map _ harr];rfl
        . simp
        . exact fun k hk=>(MapKept.heap_set harr).2 k hk
        . exact fun R' hk=>hbr' _ R' (MapKept.heap_set harr).1 hk
       rcases zmm hkey her 0 (fun x hx=>hks' x hx) with ⟨a1,a2,a3,a4⟩ | ⟨j,en,cs,a1,a2,a3,a4,a5,a6⟩
       . refine fin _ (hrunG none (MapKept.run_findKey htk.und a1) zz1) fun w' R' hw' hk=>?_
         rw [hes,a4];refine ⟨hn,_,_,hw',?_,MapKept.stamped_push hst a3,?_⟩
         . rw [Array.toList_push]
           exact ((her.mono hk).snoc ((her' clock).mono hk))
         . intro x hx
           simp only [Array.toList_push,zy6,zy41] at hx;rcases hx with hx | rfl
           . exact hks x hx
           . rw [hkd];exact hkey
       . have hj:arr[j]?=some en:=by simpa using a2
         rw [zy25] at a1;refine fin _ (hrunG (some (j,en.val)) (MapKept.run_findKey htk.und a1) (by intro i v hiv;cases hiv;exact ⟨en,hj,a3⟩)) fun w' R' hw' hk=>?_
         have hkey':∀ e',arr[j]?=some e'->({e' with key:=kv,val:=ρ y}:MapEntry).key=e'.key:=fun e' he'=>by rw [hj] at he';cases he';exact a3.symm
         refine ⟨hn,_,_,hw',?_,MapKept.stamped_modify hst _ _ (fun _ _=>rfl) (fun e' _ he'=>hkey' e' he'),MapKept.isKey_modify hks _ _ hkey'⟩;have:=(a6 vs {en with key:=kv,val:=ρ y} (her' en.born)).mono hk;rw [hes];have hl2:(arr.modify j fun e=>{e with key:=kv,val:=ρ y}).toList=arr.toList.set j {en with key:=kv,val:=ρ y}:=by
          apply zy40;intro q;simp only [zy42,zy55,zy65];by_cases hq:j=q
          . subst hq
            have:j<arr.size:=(zy21.1 hj).1;rw [zy11 rfl,zy11 rfl,zy11 (by simpa using this),hj];rfl
          . rw [zy7 hq,zy7 hq]
         rw [hl2];exact this
     . exact h.elim
   . exact h.elim
 . exact h.elim
end
end Go.HL
namespace Go.HL
section
variable {α:Type} {K:Res->Prop} {P:Program} {H:Nat->zaa}
theorem zac {r0:Res}:K r0->∃ r,K r/\r0=r:=fun h=>⟨r0,h,rfl⟩
theorem zap {c:Prop} {A:Prop} {B:Res->Prop} (h:A->∃ r,K r/\B r):zer c A->∃ r,K r/\zer c (B r):=fun ⟨hc,ha⟩=>let ⟨r,h1,h2⟩:=h ha;⟨r,h1,hc,h2⟩
theorem zdt {k:IntKind} {z:Int} {A:Int->Prop} {B:Int->Res->Prop} (h:∀ y,A y->∃ r,K r/\B y r):zgq k z A->∃ r,K r/\zgq k z (fun y=>B y r) :=
 fun ⟨y,hy,ha⟩=>let ⟨r,h1,h2⟩:=h y ha;⟨r,h1,y,hy,h2⟩
theorem zjw {rows:List (List PV)} {i:Int} {A:List PV->Prop} {B:List PV->Res->Prop} (h:∀ y,A y->∃ r,K r/\B y r):zms rows i A->∃ r,K r/\zms rows i (fun y=>B y r) :=
 fun ⟨y,h0,hy,ha⟩=>let ⟨r,h1,h2⟩:=h y ha;⟨r,h1,y,h0,hy,h2⟩
theorem zov {rows:List (List PV)} {A:List UInt8->Prop} {B:List UInt8->Res->Prop} (h:∀ y,A y->∃ r,K r/\B y r):zpy rows A->∃ r,K r/\zpy rows (fun y=>B y r) :=
 fun ⟨y,hy,ha⟩=>let ⟨r,h1,h2⟩:=h y ha;⟨r,h1,y,hy,h2⟩
theorem zgw {rows:List (List PV)} {o n:Nat} {A:List (List PV)->Prop} {B:List (List PV)->Res->Prop} (h:∀ y,A y->∃ r,K r/\B y r):zkj rows o n A->∃ r,K r/\zkj rows o n (fun y=>B y r) :=
 fun ⟨y,h0,hy,ha⟩=>let ⟨r,h1,h2⟩:=h y ha;⟨r,h1,y,h0,hy,h2⟩
theorem zaj {b:Bool} {A:Prop} {B:Res->Prop} (h:A->∃ r,K r/\B r):(bif b then A else False)->∃ r,K r/\(bif b then B r else False):=by
 cases b
 . exact fun h=>h.elim
 . exact h
theorem zaz {t:TypeId} {A:TyD->Prop} {B:TyD->Res->Prop} (h:∀ y,A y->∃ r,K r/\B y r):tyK P t A->∃ r,K r/\tyK P t (fun y=>B y r):=by
 unfold tyK;cases zvy P t
 . exact False.elim
 . exact h _
theorem zbc {t:TypeId} {A:TypeId->TyD->Prop} {B:TypeId->TyD->Res->Prop} (h:∀ e y,A e y->∃ r,K r/\B e y r):zbv P t A->∃ r,K r/\zbv P t (fun e y=>B e y r):=by
 unfold zbv;refine zaz fun d=>?_
 cases d.k<;>first | exact False.elim | exact zaz (h _)
theorem zqi {t:TypeId} {A:Prop} {B:Res->Prop} (h:A->∃ r,K r/\B r):zqh P t A->∃ r,K r/\zqh P t (B r):=by
 unfold zqh;cases (P.info? t).map (·.size) with
 | none=>exact False.elim
 | some n=>cases n with
  | zero=>exact False.elim
  | succ n=>exact h
theorem zcb {x:HV} {A:HV->Prop} {B:HV->Res->Prop} (h:∀ y,A y->∃ r,K r/\B y r):force x A->∃ r,K r/\force x (fun y=>B y r):=by
 rw [force_eq];intro ha;obtain ⟨r,h1,h2⟩:=h x ha;exact ⟨r,h1,by rw [force_eq];exact h2⟩
theorem zdx {x:List HV} {A:List HV->Prop} {B:List HV->Res->Prop} (h:∀ y,A y->∃ r,K r/\B y r):zbo x A->∃ r,K r/\zbo x (fun y=>B y r):=by
 rw [zca];intro ha;obtain ⟨r,h1,h2⟩:=h x ha;exact ⟨r,h1,by rw [zca];exact h2⟩
theorem zen {x:List PV} {A:List PV->Prop} {B:List PV->Res->Prop} (h:∀ y,A y->∃ r,K r/\B y r):zdh x A->∃ r,K r/\zdh x (fun y=>B y r):=by
 rw [zbw];intro ha;obtain ⟨r,h1,h2⟩:=h x ha;exact ⟨r,h1,by rw [zbw];exact h2⟩
theorem zpv {ev:Operand->HV} {x:List Operand} {A:List HV->Prop} {B:List HV->Res->Prop} (h:∀ y,A y->∃ r,K r/\B y r):evL ev x A->∃ r,K r/\evL ev x (fun y=>B y r):=by
 rw [zgn];intro ha;obtain ⟨r,h1,h2⟩:=h _ ha;exact ⟨r,h1,by rw [zgn];exact h2⟩
theorem zar {s:zaa} {A:zcq->Prop} {B:zcq->Res->Prop} (h:∀ y,A y->∃ r,K r/\B y r):zaq s A->∃ r,K r/\zaq s (fun y=>B y r):=by
 unfold zaq;cases s<;>first | exact False.elim | exact h _
theorem znv {s:zaa} {id:Nat} {b:zcq} {x:HV}:zue s id b x K->∃ r,K r/\zue s id b x (·=r):=by
 unfold zue;cases s<;>first | exact False.elim | exact zac
theorem zgb {d:TyD} {cs:List HV} {o:Nat} {A:HV->Prop} {B:HV->Res->Prop} (h:∀ y,A y->∃ r,K r/\B y r):zei d cs o A->∃ r,K r/\zei d cs o (fun y=>B y r):=by
 unfold zei;cases zba d.k
 . simp only
   cases nth cs o
   . exact False.elim
   . exact zcb h
 . exact zaj (zdx fun y=>h _)
theorem zea {d:TyD} {cs:List PV} {o:Nat} {A:HV->Prop} {B:HV->Res->Prop} (h:∀ y,A y->∃ r,K r/\B y r):zct d cs o A->∃ r,K r/\zct d cs o (fun y=>B y r):=by
 unfold zct;cases zba d.k
 . simp only
   cases nth cs o with
   | none=>exact False.elim
   | some x=>cases x<;>exact h _
 . exact zaj (zen fun y=>h _)
theorem zuf {x:HV} {A:PV->List (Nat×zaa)->Prop} {B:PV->List (Nat×zaa)->Res->Prop} (h:∀ y u,A y u->∃ r,K r/\B y u r):hpv H x A->∃ r,K r/\hpv H x (fun y u=>B y u r):=by
 unfold hpv;cases x<;>simp only<;>first | exact False.elim | exact h _ _ | skip
 rename_i id;cases H id with
 | live b=>cases b<;>first | exact False.elim | exact h _ _
 | ro b=>cases b<;>first | exact False.elim | exact h _ _
 | _=>exact False.elim
theorem znx:∀ {xs:List HV} {A:List PV->List (Nat×zaa)->Prop} {B:List PV->List (Nat×zaa)->Res->Prop},(∀ y u,A y u->∃ r,K r/\B y u r)->zmq H xs A->∃ r,K r/\zmq H xs (fun y u=>B y u r)
 | [],A,B,h=>h _ _
 | x::xs,A,B,h=>by simp only [zmq];exact zuf fun y u=>znx fun ys us=>h _ _
theorem zds {n:Nat} {x:HV} {A:Nat->List (List PV)->List Nat->Prop} {B:Nat->List (List PV)->List Nat->Res->Prop} (h:∀ n y u,A n y u->∃ r,K r/\B n y u r):zdb H n x A->∃ r,K r/\zdb H n x (fun n y u=>B n y u r):=by
 unfold zdb;split
 . exact h _ _ _
 . exact h _ _ _
 . refine zar fun b=>?_
   cases b<;>first | exact False.elim | exact h _ _ _
 . refine zar fun b=>?_
   cases b<;>first | exact False.elim | exact zaj (zgw fun y=>h _ _ _)
 . exact False.elim
theorem zef {b:zcq} {A:TypeId->Nat->List (List PV)->(List (List PV)->zcq)->Nat->Prop} {B:TypeId->Nat->List (List PV)->(List (List PV)->zcq)->Nat->Res->Prop} (h:∀ t n r k l,A t n r k l->∃ r',K r'/\B t n r k l r'):zti b A->∃ r,K r/\zti b (fun t n r' k l=>B t n r' k l r):=by
 cases b<;>first | exact False.elim | exact h _ _ _ _ _
theorem zsh {id n off len sz:Nat} {lo hi:Option HV}:zsg H id n off len sz lo hi K->∃ r,K r/\zsg H id n off len sz lo hi (·=r):=by
 unfold zsg;refine zar fun b=>zef fun t n r k l=>zaj ?_
 split
 . split<;>first | exact zap zac | exact False.elim
 . split<;>first | exact zap zac | exact False.elim
 . exact False.elim
theorem zmu {x:HV} {sz:Nat} {l hh mx:Int}:zdj x H sz l hh mx K->∃ r,K r/\zdj x H sz l hh mx (·=r):=by
 unfold zdj;split
 . exact zap (zaj (zgw fun y=>zac))
 . refine zar fun b=>?_
   cases b<;>first | exact False.elim | exact zap zac
 . exact zar fun b=>zef fun t n r k l=>zap zac
 . exact False.elim
theorem zku {t:TypeId} {x:HV} {z:Int} {d:Nat}:zch P t x z d H K->∃ r,K r/\zch P t x z d H (·=r):=by
 unfold zch;refine zbc fun e de=>zaj ?_
 split
 . refine zar fun b=>?_
   cases b<;>try exact False.elim
   refine zaj (zap ?_);cases H d<;>first | exact False.elim | exact zac
 . exact False.elim
theorem zsi {n most:Nat} {x:HV} {A:Nat->List (List PV)->List Nat->Prop} {B:Nat->List (List PV)->List Nat->Res->Prop} (h:∀ n y u,A n y u->∃ r,K r/\B n y u r):zpr H n x most A->∃ r,K r/\zpr H n x most (fun n y u=>B n y u r):=by
 unfold zpr;split
 . exact zar fun b=>zef fun t n r k l=>zaj (zgw fun y=>h _ _ _)
 . exact zds fun n y u=>h _ _ _
theorem zpz {t:TypeId} {x y:HV}:zkw P t x y H K->∃ r,K r/\zkw P t x y H (·=r):=by
 unfold zkw;refine zbc fun e de=>?_
 split
 . rename_i id n off len
   cases H id<;>first | exact False.elim | exact zef fun t n r k l=>zsi fun n y u=>zaj (zap zac)
 . exact False.elim
theorem zow {t:TypeId} {x:HV}:zgo P t x H K->∃ r,K r/\zgo P t x H (·=r):=by
 unfold zgo;refine zbc fun e de=>zaj ?_
 split
 . rename_i id n off len
   cases H id<;>first | exact False.elim | exact zef fun t n r k l=>zaj (zap zac)
 . exact False.elim
theorem zgv {n:Nat} {i:Int} {A:Nat->Prop} {B:Nat->Res->Prop} (h:∀ j,A j->∃ r,K r/\B j r):zva n i A->∃ r,K r/\zva n i (fun j=>B j r) :=
 fun ⟨j,h1,h2,h3⟩=>let ⟨r,h4,h5⟩:=h j h3;⟨r,h4,j,h1,h2,h5⟩
theorem zqa {es:List (Value×List PV)} {k:Value} {A:Option (List PV)->Prop} {B:Option (List PV)->Res->Prop} (h:∀ j,A j->∃ r,K r/\B j r):zfn es k A->∃ r,K r/\zfn es k (fun j=>B j r) :=
 fun ⟨j,h1,h3⟩=>let ⟨r,h4,h5⟩:=h j h3;⟨r,h4,j,h1,h5⟩
theorem zse {es:List (Value×List PV)} {k:Value} {v:List PV} {A:List (Value×List PV)->Prop} {B:List (Value×List PV)->Res->Prop} (h:∀ j,A j->∃ r,K r/\B j r):zwk es k v A->∃ r,K r/\zwk es k v (fun j=>B j r) :=
 fun ⟨j,h1,h3⟩=>let ⟨r,h4,h5⟩:=h j h3;⟨r,h4,j,h1,h5⟩
theorem zez {t:TypeId} {A:TyD->TypeId->TyD->Prop} {B:TyD->TypeId->TyD->Res->Prop} (h:∀ a b c,A a b c->∃ r,K r/\B a b c r):zka P t A->∃ r,K r/\zka P t (fun a b c=>B a b c r):=by
 unfold zka;refine zaz fun d=>?_
 split
 . exact zaz fun dk=>zaz fun de=>h _ _ _
 . exact False.elim
theorem zkn {t:TypeId} {A:Nat->TyD->Prop} {B:Nat->TyD->Res->Prop} (h:∀ a b,A a b->∃ r,K r/\B a b r):zmi P t A->∃ r,K r/\zmi P t (fun a b=>B a b r):=by
 unfold zmi;refine zaz fun d=>?_
 split
 . exact zaz fun de=>h _ _
 . exact False.elim
theorem zqs {ok b:Bool} {v:HV} {id:Nat}:okK ok v b id K->∃ r,K r/\okK ok v b id (·=r):=by
 cases ok<;>exact zac
theorem zqc {e:TypeId} {de:TyD} {ok agg:Bool} {o:Option (List PV)} {id:Nat}:zoy P e de ok agg o K id->∃ r,K r/\zoy P e de ok agg o (·=r) id:=by
 unfold zoy;refine zaj ?_;cases o with
 | some cs=>exact zaj (zea fun v=>zqs)
 | none=>exact zaj (zea fun v=>zqs)
theorem zhe:∀ {xs ys:List HV} {A:Bool->Prop} {B:Bool->Res->Prop},(∀ y,A y->∃ r,K r/\B y r)->zhd xs ys A->∃ r,K r/\zhd xs ys (fun y=>B y r)
 | [],[],A,B,h=>h _
 | [],y::ys,A,B,h=>False.elim
 | x::xs,[],A,B,h=>False.elim
 | x::xs,y::ys,A,B,h=>by
  simp only [zhd];split
  . split
    . exact zaj (zhe fun z=>h _)
    . exact False.elim
  . split
    . exact zhe fun z=>h _
    . exact False.elim
  . exact False.elim
theorem zfy {fs:List (Nat×Nat)}:∀ {ps:List (Nat×HV)} {cs:List HV} {A:List HV->Prop} {B:List HV->Res->Prop},(∀ y,A y->∃ r,K r/\B y r)->zgp P fs ps cs A->∃ r,K r/\zgp P fs ps cs (fun y=>B y r)
 | [],cs,A,B,h=>h _
 | (i,x)::ps,cs,A,B,h=>by
  simp only [zgp];cases nth fs i with
  | none=>exact False.elim
  | some q=>exact zaj (zfy h)
theorem zjv {os:List (Option Nat)} {xs:List HV} {A:List PV->List (Nat×zaa)->Prop} {B:List PV->List (Nat×zaa)->Res->Prop} (h:∀ y u,A y u->∃ r,K r/\B y u r):ztn H os xs A->∃ r,K r/\ztn H os xs (fun y u=>B y u r) :=
 znx fun _ u=>zen fun z=>h z u
theorem zlt {os:List (Option Nat)} {n:Nat}:∀ {xs:List HV} {A:List (List PV)->List (Nat×zaa)->Prop} {B:List (List PV)->List (Nat×zaa)->Res->Prop},(∀ y u,A y u->∃ r,K r/\B y u r)->zin H os n xs A->∃ r,K r/\zin H os n xs (fun y u=>B y u r)
 | [],A,B,h=>h _ _
 | x::xs,A,B,h=>by
  simp only [zin];exact zaj (zjv fun y u=>zaj (zlt fun ys us=>h _ _))
theorem zlb {x:HV} {sz n:Nat} {l h:Int}:zho x H sz K n l h->∃ r,K r/\zho x H sz (·=r) n l h:=by
 unfold zho;refine zap ?_;split
 . exact zaj (zgw fun y=>zac)
 . rename_i id
   cases H id with
   | live b=>cases b<;>first | exact False.elim | exact zaj zac
   | ro b=>cases b<;>first | exact False.elim | exact zaj zac
   | _=>exact False.elim
 . exact False.elim
theorem zoz {t:TypeId} {s:ByteArray} {lo hi:Option HV}:ziu P t s lo hi K->∃ r,K r/\ziu P t s lo hi (·=r):=by
 unfold ziu;refine zaz fun td=>?_
 exact yy28
theorem zpb {x:HV} {sz:Nat} {lo hi:Option HV}:zex x H sz lo hi K->∃ r,K r/\zex x H sz lo hi (·=r):=by
 unfold zex;refine zds fun n rows u=>?_
 split
 . split<;>first | exact zlb | exact False.elim
 . split<;>first | exact zlb | exact False.elim
 . exact False.elim
theorem zmo {t:TypeId} {x y:HV} {d:Nat}:zdr P t x y d H K->∃ r,K r/\zdr P t x y d H (·=r):=by
 unfold zdr;refine zbc fun e de=>zds fun n ys u=>zaj ?_
 split
 . cases H d<;>first | exact False.elim | exact zap zac
 . rename_i id
   cases H id with
   | live b=>cases b with
    | cells=>exact False.elim
    | map=>exact False.elim
    | iter=>exact False.elim
    | row=>refine zaj ?_;cases H d<;>first | exact False.elim | exact zap zac
    | buf=>exact False.elim
   | _=>exact False.elim
 . rename_i id n off len
   cases H id<;>first | exact False.elim | exact zef fun t n r k l=>zaj (zap zac)
 . exact False.elim
theorem zrx {t:TypeId} {op:BinOp} {x y:HV}:zuz P false t op x y K->∃ r,K r/\zuz P false t op x y (·=r):=by
 unfold zuz;split
 . split
   . split<;>first | exact False.elim | exact zap zac | exact zap (zdt fun y=>zac) | exact zaj (zdt fun y=>zac) | exact zaj (zap (zdt fun y=>zac)) | exact zaj (zap zac) | exact zaj zac
   . exact False.elim
 . split
   . refine zaz fun td=>?_
     split
     . split<;>first | exact False.elim | exact zac
     . exact False.elim
   . exact False.elim
 . split
   . split<;>first | exact False.elim | exact zac | exact zap zac
   . exact False.elim
 . split
   . refine zap ?_
     split<;>first | exact False.elim | exact zhe fun y=>zac
   . exact False.elim
 . split
   . refine zbc fun e de=>?_
     split<;>exact False.elim
   . exact False.elim
 . split
   . refine zbc fun e de=>?_
     split<;>first | exact False.elim | exact zac
   . exact False.elim
 . exact False.elim
theorem zkx {t:TypeId} {x i:HV}:zci P t x i H K->∃ r,K r/\zci P t x i H (·=r):=by
 unfold zci;refine zbc fun e de=>?_
 split
 . split
   . exact zaj (zjw fun r=>zac)
   . refine zar fun b=>?_
     cases b<;>first | exact False.elim | exact zaj (zap zac) | exact zaj (zgv fun j=>zac)
   . exact zaj (zap zac)
   . exact False.elim
 . exact False.elim
theorem zhm {t:TypeId} {x i y:HV}:zcw P t x i y H K->∃ r,K r/\zcw P t x i y H (·=r):=by
 unfold zcw;refine zez fun a b c=>?_
 split
 . refine zaj ?_
   split
   . rename_i id
     cases H id with
     | live b=>cases b with
      | map=>exact zaj (zjv fun vs us=>zaj (zse fun es=>zac))
      | _=>exact False.elim
     | _=>exact False.elim
   . exact False.elim
 . exact False.elim
theorem znt {C:zai} {op:Op} {d:Nat} {ev:Operand->HV} (hd:zik op=true) :
 zat P C op d ev H K->∃ r,K r/\zat P C op d ev H (·=r):=by
 cases op<;>simp only [zat]<;>try exact False.elim
 case move x=>exact zcb fun v=>zac
 case assign x=>exact zcb fun v=>zac
 case pick c a b =>
  split
  . rename_i b _
    cases b<;>simp only [hif]
    . exact zcb fun v=>zac
    . exact zcb fun v=>zac
  . exact False.elim
 case alloc t=>exact zaz fun td=>zaj znv
 case box t x=>exact zcb fun v=>zaj znv
 case build t ps =>
  refine zaz fun td=>?_
  split
  . exact zaj (zfy fun l=>zdx fun l=>zaj zac)
  . exact zaz fun de=>zaj (zfy fun l=>zdx fun l=>zaj zac)
  . exact False.elim
 case buildSlice t n ps =>
  refine zbc fun e de=>zaj (zlt fun rows us=>?_)
  cases H d<;>first | exact False.elim | exact zac
 case load t a =>
  refine zaz fun td=>?_
  split
  . refine zar fun b=>?_
    cases b<;>first | exact False.elim | exact zgb fun v=>zac
  . exact zea fun v=>zac
  . refine zar fun b=>?_
    cases b<;>first | exact False.elim | exact zaj (zjw fun r=>zea fun v=>zac)
  . exact False.elim
 case store t a x =>
  refine zaz fun td=>?_
  split
  . rename_i id off _
    cases H id with
    | live b=>cases b with
     | cells=>exact zcb fun v=>zaj (zdx fun cs=>zac)
     | row=>exact False.elim
     | map=>exact False.elim
     | iter=>exact False.elim
     | buf=>exact False.elim
    | _=>exact False.elim
  . rename_i id n i off _
    cases H id with
    | live b=>cases b with
     | cells=>exact False.elim
     | map=>exact False.elim
     | iter=>exact False.elim
     | buf=>exact False.elim
     | row=>exact zaj (zjv fun vs us=>zjw fun r=>zaj (zen fun r'=>zac))
    | _=>exact False.elim
  . exact False.elim
 case nilCheck x =>
  split<;>first | exact False.elim | exact zac
 case binOp b t x y yt =>
  have hcs:zjo y=false:=by simpa [zik] using hd
  rw [hcs];cases zmw (ev x) with
  | some id=>exact False.elim
  | none=>exact zrx
 case unOp o t x =>
  split
  . split<;>first | exact False.elim | exact zac
  . split
    . exact zdt fun y=>zac
    . exact False.elim
  . exact False.elim
 case convert src dt x =>
  refine zaz fun ts=>zaz fun td=>?_
  split
  . split
    . exact zdt fun y=>zac
    . exact False.elim
  . split
    . refine zaz fun de=>?_
      split
      . split
        . exact zap zac
        . exact False.elim
      . exact False.elim
    . exact False.elim
  . split
    . split
      . refine zaz fun de=>?_
        split
        . exact zds fun n rows u=>zaj (zov fun bs=>zac)
        . exact False.elim
      . exact False.elim
    . refine zaj (zaz fun de=>?_)
      exact yy28
    . exact False.elim
 case makeFunc fn first caps =>
  split
  . exact zaj (zpv fun l=>zac)
  . exact False.elim
 case makeSlice t l c =>
  refine zbc fun e de=>zaj ?_
  split
  . split
    . refine zap ?_
      cases H d<;>try exact False.elim
      dsimp only;split
      . split
        . exact zgv fun j=>zac
        . exact False.elim
      . exact zac
    . exact False.elim
  . exact False.elim
 case slice t x lo hi mx =>
  cases mx
  . cases isStr (ev x) with
    | some s=>exact zoz
    | none =>
     refine zbc fun e de=>?_
     split
     . exact zsh
     . exact zpb
  . refine zbc fun e de=>?_
    split
    . split
      . split
        . exact zmu
        . exact False.elim
      . exact False.elim
    . exact False.elim
 case fieldAddr t x f =>
  refine zaz fun td=>?_
  split
  . split
    . refine zqi ?_
      split<;>first | exact False.elim | exact zac
    . exact False.elim
  . exact False.elim
 case field t x f =>
  refine zaz fun td=>?_
  split
  . split
    . split
      . exact zaz fun tdf=>zgb fun y=>zac
      . exact False.elim
    . exact False.elim
  . exact False.elim
 case indexAddr t x i =>
  split
  . refine zkn fun n de=>?_
    split
    . exact zgv fun j=>zac
    . exact False.elim
  . exact zkx
 case index t x i =>
  refine zkn fun n de=>?_
  split
  . split
    . exact zgv fun j=>zgb fun v=>zac
    . exact False.elim
  . exact False.elim
 case makeMap t r =>
  cases r
  . refine zez fun a b c=>?_
    cases H d<;>first | exact False.elim | exact zac
  . exact False.elim
 case lookup t x i ok =>
  refine zez fun a b c=>?_
  split
  . refine zaj ?_
    split
    . refine zar fun b=>?_
      cases b<;>first | exact False.elim | exact zaj (zqa fun o=>zqc)
    . exact False.elim
  . exact False.elim
 case range t x =>
  refine zez fun a b c=>?_
  split
  . rename_i id _
    cases H id with
    | live b=>cases b with
     | map=>cases H d<;>first | exact False.elim | exact zac
     | _=>exact False.elim
    | _=>exact False.elim
  . exact False.elim
 case next x s=>cases hd
 case entry x =>
  split
  . refine zar fun b=>?_
    cases b with
    | iter=>exact fun ⟨k,v,h1,h2,h3⟩=>⟨_,h3,k,v,h1,h2,rfl⟩
    | _=>exact False.elim
  . exact False.elim
 case mapUpdate t x i y=>exact zhm
 case insert t x i y=>exact zhm
 case extract t i =>
  split
  . split
    . exact zcb fun v=>zac
    . exact False.elim
  . exact False.elim
 case call c =>
  split
  . split
    . split
      . refine zaz fun td=>?_
        split
        . split<;>first | exact False.elim | exact zac
        . split
          . exact zac
          . refine zar fun b=>?_
            cases b<;>first | exact False.elim | exact zac
          . exact zds fun n rows u=>zac
        . exact False.elim
      . exact False.elim
    . exact False.elim
  . split
    . split
      . split<;>first | exact False.elim | exact zac
      . exact False.elim
    . exact False.elim
  . split
    . split
      . split<;>first | exact False.elim | exact zac
      . exact False.elim
    . exact False.elim
  . split
    . split
      . split
        . exact zmo
        . refine zaz fun td=>?_
          split
          . split
            . exact zku
            . exact False.elim
          . exact False.elim
      . exact False.elim
    . exact False.elim
  . split
    . split
      . exact zpz
      . exact False.elim
    . exact False.elim
  . split
    . split
      . exact zow
      . exact False.elim
    . exact False.elim
  . split
    . split
      . refine zbc fun e de=>?_
        split
        . refine zar fun b=>?_
          cases b<;>first | exact False.elim | exact zap zac
        . exact False.elim
      . exact False.elim
    . exact False.elim
  . split
    . exact zpv fun l=>fun ⟨r,h1,h2⟩=>⟨r,h2,r,h1,rfl⟩
    . exact False.elim
  . exact False.elim
end
end Go.HL
namespace Go.HL
section
variable {P:Program} {H H':Nat->zaa}
theorem ziv:∀ {l:List HV} {x:HV} {id:Nat},x∈l->id∈zau x->id∈zcm l
 | y::l,x,id,hx,hi=>by
  simp only [zcm,zy6];rcases zy9.1 hx with rfl | hx
  . exact .inl hi
  . exact .inr (ziv hx hi)
theorem zjy (a b:List HV):zcm (a++b)=zcm a++zcm b:=by
 induction a with
 | nil=>simp [zcm]
 | cons x a ih=>simp [zcm,ih]
theorem zfz {x y:HV} (h:y∈zbi x) {id:Nat} (hi:id∈zau y):id∈zau x:=by
 cases x<;>simp only [zbi,zy41] at h<;>first | (subst h;exact hi) | (simp only [zau];exact ziv h hi)
theorem zjb {ev:Operand->HV}:∀ {l:List Operand} {x:Operand} {id:Nat},x∈l->id∈zau (ev x)->id∈zll ev l
 | y::l,x,id,hx,hi=>by
  simp only [zll,zy6];rcases zy9.1 hx with rfl | hx
  . exact .inl hi
  . exact .inr (zjb hx hi)
theorem zqf {x:HV} (h:∀ id∈zau x,H' id=H id) (K:PV->List (Nat×zaa)->Prop):hpv H' x K=hpv H x K:=by
 unfold hpv;cases x<;>try rfl
 rename_i id;simp only [h id zz8]
theorem zit:∀ {xs:List HV} (_:∀ x∈xs,∀ id∈zau x,H' id=H id) (K:List PV->List (Nat×zaa)->Prop),zmq H' xs K=zmq H xs K
 | [],_,K=>rfl
 | x::xs,h,K=>by
  simp only [zmq];rw [zqf (h x (by simp))];congr 1;funext v u;rw [zit fun y hy=>h y (by simp [hy])]
theorem zcl {n:Nat} {x:HV} (h:∀ id∈zau x,H' id=H id) (K:Nat->List (List PV)->List Nat->Prop):zdb H' n x K=zdb H n x K:=by
 unfold zdb;exact yy26
theorem zpa {id:Nat} (h:H' id=H id) (n off len sz:Nat) (lo hi:Option HV) (K:Res->Prop):zsg H' id n off len sz lo hi K=zsg H id n off len sz lo hi K:=by
 unfold zsg;rw [h]
theorem zjx {x:HV} (h:∀ id∈zau x,H' id=H id) (sz:Nat) (l hh mx:Int) (K:Res->Prop):zdj x H' sz l hh mx K=zdj x H sz l hh mx K:=by
 unfold zdj;exact yy26
theorem zpc {n most:Nat} {x:HV} (h:∀ id∈zau x,H' id=H id) (K:Nat->List (List PV)->List Nat->Prop):zpr H' n x most K=zpr H n x most K:=by
 unfold zpr;split
 . rename_i id _ _ _;rw [h id (by simp [zau])]
 . exact zcl h _
theorem zmp {t:TypeId} {x y:HV} (hx:∀ id∈zau x,H' id=H id) (hy:∀ id∈zau y,H' id=H id) (K:Res->Prop):zkw P t x y H' K=zkw P t x y H K:=by
 unfold zkw;congr 1;funext e de;split
 . rename_i id _ _ _
   simp only [hx id zz8,zpc hy]
 . rfl
theorem zkv {t:TypeId} {x:HV} (hx:∀ id∈zau x,H' id=H id) (K:Res->Prop):zgo P t x H' K=zgo P t x H K:=by
 unfold zgo;congr 1;funext e de;congr 1;split
 . rename_i id _ _ _
   simp only [hx id zz8]
 . rfl
theorem zil {t:TypeId} {x:HV} {z:Int} {d:Nat} (hx:∀ id∈zau x,H' id=H id) (hd:H' d=H d) (K:Res->Prop):zch P t x z d H' K=zch P t x z d H K:=by
 unfold zch;congr 1;funext e de;congr 1;split
 . rename_i id _ _ _
   simp only [hx id zz8,hd]
 . rfl
theorem zfp {os:List (Option Nat)} {xs:List HV} (h:∀ x∈xs,∀ id∈zau x,H' id=H id) (K:List PV->List (Nat×zaa)->Prop):ztn H' os xs K=ztn H os xs K:=zit h _
theorem zid {os:List (Option Nat)} {n:Nat}:∀ {xs:List HV} (_:∀ x∈xs,∀ id∈zau x,H' id=H id) (K:List (List PV)->List (Nat×zaa)->Prop),zin H' os n xs K=zin H os n xs K
 | [],_,K=>rfl
 | x::xs,h,K=>by
  simp only [zin];rw [zfp fun y hy id hi=>h x (by simp) id (zfz hy hi)];congr 2;funext r u;rw [zid fun y hy=>h y (by simp [hy])]
theorem zmt {x:HV} (h:∀ id∈zau x,H' id=H id) (sz:Nat) (K:Res->Prop) (n:Nat) (l hh:Int):zho x H' sz K n l hh=zho x H sz K n l hh:=by
 unfold zho;congr 1;split
 . rfl
 . rename_i id;simp only [h id zz8]
 . rfl
theorem zlc {x:HV} (h:∀ id∈zau x,H' id=H id) (sz:Nat) (lo hi:Option HV) (K:Res->Prop):zex x H' sz lo hi K=zex x H sz lo hi K:=by
 unfold zex;rw [zcl h];simp only [zmt h]
theorem zjs {t:TypeId} {x y:HV} {d:Nat} (hx:∀ id∈zau x,H' id=H id) (hy:∀ id∈zau y,H' id=H id) (hd:H' d=H d) (K:Res->Prop):zdr P t x y d H' K=zdr P t x y d H K:=by
 unfold zdr;congr 1;funext e de;rw [zcl hy];congr 1;funext n ys u;congr 1;split
 . simp only [hd]
 . rename_i id
   simp only [hx id zz8,hd]
 . rename_i id _ _ _
   simp only [hx id zz8]
 . rfl
theorem zim {t:TypeId} {x i:HV} (hx:∀ id∈zau x,H' id=H id) (K:Res->Prop):zci P t x i H' K=zci P t x i H K:=by
 unfold zci;congr 1;funext e de;split
 . split
   . rfl
   . rename_i id
     rw [hx id (by simp [zau])]
   . rfl
   . rfl
 . rfl
theorem zev {t:TypeId} {x i y:HV} (hx:∀ id∈zau x,H' id=H id) (hy:∀ id∈zau y,H' id=H id) (K:Res->Prop):zcw P t x i y H' K=zcw P t x i y H K:=by
 unfold zcw;congr 1;funext a b c;split
 . congr 1
   split
   . rename_i id
     rw [hx id (by simp [zau])];simp only [zfp fun z hz id hi=>hy id (zfz hz hi)]
   . rfl
 . rfl
def zbz (C:zai):Prop:=∀ f args H H' d r,C f args H d r->(∀ id∈zcm args,H' id=H id)->H' d=H d->(∀ id∈r.tch++r.ups.map (·.1),H' id=H id)->C f args H' d r
theorem zou {C:zai} (hC:zbz C) {op:Op} {d:Nat} {ev ev':Operand->HV} {r:Res} (h:zat P C op d ev H (·=r)) (hev:∀ x∈op.operands.toList,ev' x=ev x)
 (hH:∀ id∈zfw op ev d++(r.tch++r.ups.map (·.1)),H' id=H id):zat P C op d ev' H' (·=r):=by
 have hd:looks op=true->H' d=H d:=fun hlk=>hH d (by simp [zfw,hlk])
 have hids:looks op=true->∀ x∈op.operands.toList,∀ id∈zau (ev x),H' id=H id:=fun hlk x hx id hi=>hH id (by simp only [zfw,hlk,List.cons_append,zy9,zy6];exact .inr (.inl (zjb hx hi)))
 have key:∀ {A B:Prop},A->B=A->B:=fun a e=>e ▸ a
 cases op<;>simp only [Op.operands,Array.toList_empty] at hev hids<;>try exact False.elim h
 all_goals try (replace hd:=hd rfl;replace hids:=hids rfl)
 case move x=>refine key h ?_;simp only [zat];rw [hev x (by simp)]
 case assign x=>refine key h ?_;simp only [zat];rw [hev x (by simp)]
 case pick c a b=>refine key h ?_;simp only [zat];rw [hev c (by simp),hev a (by simp),hev b (by simp)]
 case alloc t=>refine key h ?_;simp only [zat,hd]
 case box t x=>refine key h ?_;simp only [zat,hd];rw [hev x (by simp)]
 case build t ps =>
  refine key h ?_;simp only [zat];have:(ps.toList.map fun x=>(x.1,ev' x.2))=(ps.toList.map fun x=>(x.1,ev x.2)):=zy61 fun x hx=>by rw [hev x.2 (by simpa using ⟨x.1,by simpa using hx⟩)]
  rw [this]
 case buildSlice t n ps =>
  refine key h ?_;simp only [zat,hd];have:(ps.toList.map fun x=>ev' x.2)=(ps.toList.map fun x=>ev x.2):=zy61 fun x hx=>by rw [hev x.2 (by simpa using ⟨x.1,by simpa using hx⟩)]
  rw [this];congr 1;funext e de;rw [zid fun y hy id hi=>?_];obtain ⟨x,hx,rfl⟩:=zy4.1 hy;exact hids x.2 (by simpa using ⟨x.1,by simpa using hx⟩) id hi
 case load t a =>
  refine key h ?_;simp only [zat];rw [hev a (by simp)];congr 1;funext td;have hi:=hids a zz1;cases hx:ev a<;>rw [hx] at hi<;>simp only
  . rename_i id off;rw [hi id (by simp [zau])]
  . rename_i id n i off;rw [hi id (by simp [zau])]
 case store t a x =>
  refine key h ?_;simp only [zat];rw [hev a (by simp),hev x (by simp)];congr 1;funext td;have hi:=hids a zz1;have hi2:=hids x zz1;cases hx:ev a<;>rw [hx] at hi<;>simp only
  . rename_i id off;rw [hi id (by simp [zau])]
  . rename_i id n i off
    rw [hi id (by simp [zau])];simp only [zfp fun y hy id hi'=>hi2 id (zfz hy hi')]
 case nilCheck x=>refine key h ?_;simp only [zat];rw [hev x (by simp)]
 case binOp b t x y yt =>
  refine key h ?_;simp only [zat];rw [hev x (by simp),hev y (by simp)];have hi:=hids x zz1;cases hq:zmw (ev x) with
  | none=>rfl
  | some id =>
   have he:ev x=.own id:=by
    unfold zmw at hq;split at hq
    . rename_i i hx;cases hq;exact hx
    . cases hq
   simp only [zju,hi id (by rw [he];simp [zau])]
 case unOp o t x=>refine key h ?_;simp only [zat];rw [hev x (by simp)]
 case convert src dt x =>
  refine key h ?_;simp only [zat];rw [hev x (by simp)];have hi:=hids x zz1;congr 1;funext ts;congr 1;funext td;split
  . rfl
  . rfl
  . simp only [zcl hi]
    cases hxx:ev x with
    | own id =>
     have e:=hi id (by rw [hxx];simp [zau]);simp only [e]
    | _=>rfl
 case makeFunc fn first caps =>
  refine key h ?_;simp only [zat];congr 1;funext f;rw [zgn,zgn];have:caps.toList.map ev'=caps.toList.map ev:=zy61 fun x hx=>hev x (by simp;exact .inr (by simpa using hx))
  rw [this]
 case makeSlice t l c=>refine key h ?_;simp only [zat,hd];rw [hev l (by simp),hev c (by simp)]
 case slice t x lo hi mx =>
  refine key h ?_;simp only [zat];rw [hev x (by simp)];have hlo:lo.map ev'=lo.map ev:=by cases lo<;>simp only [Option.map_none,zy18,Option.some.injEq];exact hev _ zz1
  have hhi:hi.map ev'=hi.map ev:=by cases hi<;>simp only [Option.map_none,zy18,Option.some.injEq];exact hev _ zz1
  rw [hlo,hhi];have hi':=hids x zz1;cases mx with
  | none =>
   simp only;cases isStr (ev x) with
   | some s=>rfl
   | none =>
   simp only;congr 1;funext e de;cases hxx:ev x<;>rw [hxx] at hi'<;>simp only [zlc hi']
   rename_i id n off len;exact zpa (hi' id zz8) _ _ _ _ _ _ _
  | some m =>
   simp only;rw [hev m (by simp)];simp only [zjx hi']
 case fieldAddr t x f=>refine key h ?_;simp only [zat];rw [hev x (by simp)]
 case field t x f=>refine key h ?_;simp only [zat];rw [hev x (by simp)]
 case indexAddr t x i =>
  refine key h ?_;simp only [zat];rw [hev x (by simp),hev i (by simp)];have hi:=hids x zz1;split
  . rfl
  . exact zim hi _
 case index t x i=>refine key h ?_;simp only [zat];rw [hev x (by simp),hev i (by simp)]
 case makeMap t r=>refine key h ?_;simp only [zat,hd]
 case lookup t x i ok =>
  refine key h ?_;simp only [zat];rw [hev x (by simp),hev i (by simp)];have hi:=hids x zz1;congr 1;funext a b c;split
  . congr 1
    split
    . rename_i id hx
      rw [hi id (by rw [hx];simp [zau])]
    . rfl
  . rfl
 case range t x =>
  refine key h ?_;simp only [zat];rw [hev x (by simp)];have hi:=hids x zz1;congr 1;funext a b c;split
  . rename_i id hx
    rw [hi id (by rw [hx];simp [zau]),hd]
  . rfl
 case next x str =>
  refine key h ?_;simp only [zat];rw [hev x (by simp)];have hi:=hids x zz1;cases str with
  | true=>rfl
  | false =>
   simp only;split
   . rename_i id hx
     rw [hi id (by rw [hx];simp [zau])]
   . rfl
 case entry x =>
  refine key h ?_;simp only [zat];rw [hev x (by simp)];have hi:=hids x zz1;split
  . rename_i id hx
    rw [hi id (by rw [hx];simp [zau])]
  . rfl
 case mapUpdate t x i y=>refine key h ?_;simp only [zat];rw [hev x (by simp),hev i (by simp),hev y (by simp)];exact zev (hids x zz1) (hids y zz1) _
 case insert t x i y=>refine key h ?_;simp only [zat];rw [hev x (by simp),hev i (by simp),hev y (by simp)];exact zev (hids x zz1) (hids y zz1) _
 case extract t i=>refine key h ?_;simp only [zat];rw [hev t (by simp)]
 case call c =>
  obtain ⟨callee,args,ats⟩:=c;simp only [Call.operands] at hev hids;cases callee with
  | builtin b =>
   have hev2:∀ x∈args.toList,ev' x=ev x:=fun x hx=>hev x zz5
   have hids2:∀ x∈args.toList,∀ id∈zau (ev x),H' id=H id:=fun x hx=>hids x zz5
   refine key h ?_;cases b<;>simp only [zat]
   . -- append
     cases hl:args.toList with
     | nil=>rfl
     | cons x l=>cases l with
      | nil=>rfl
      | cons y l=>cases l with
       | cons=>rfl
       | nil =>
        rw [hl] at hev2 hids2;simp only;rw [hev2 x (by simp),hev2 y (by simp)];cases ats.toList with
        | nil=>rfl
        | cons t l=>cases l with
         | nil=>rfl
         | cons t' l=>cases l with
          | cons=>rfl
          | nil=>simp only [zjs (P:=P) (hids2 x zz1) (hids2 y zz1) hd,zil (P:=P) (hids2 x zz1) hd]
   . -- cap
     cases hl:args.toList with
     | nil=>rfl
     | cons x l=>cases l with
      | cons=>rfl
      | nil =>
       rw [hl] at hev2 hids2;simp only;rw [hev2 x (by simp)];split
       . congr 1;funext e de
         have hi:=hids2 x zz1;split
         . rename_i id _ _ _ hx
           rw [hi id (by rw [hx];simp [zau])]
         . rfl
       . rfl
   . -- clear
     cases hl:args.toList with
     | nil=>rfl
     | cons x l=>cases l with
      | cons=>rfl
      | nil =>
       rw [hl] at hev2 hids2;simp only;rw [hev2 x (by simp)];split
       . exact zkv (hids2 x zz1) _
       . rfl
   . -- copy
     cases hl:args.toList with
     | nil=>rfl
     | cons x l=>cases l with
      | nil=>rfl
      | cons y l=>cases l with
       | cons=>rfl
       | nil =>
        rw [hl] at hev2 hids2;simp only;rw [hev2 x (by simp),hev2 y (by simp)];split
        . exact zmp (hids2 x zz1) (hids2 y zz1) _
        . rfl
   . -- len
     cases hl:args.toList with
     | nil=>rfl
     | cons x l=>cases l with
      | cons=>rfl
      | nil =>
       rw [hl] at hev2 hids2;simp only;rw [hev2 x (by simp)];split
       . congr 1;funext td
         split
         . rfl
         . have hi:=hids2 x zz1
           split
           . rfl
           . rename_i id hxx
             rw [hi id (by rw [hxx];simp [zau])]
           . rw [zcl hi]
         . rfl
       . rfl
   . -- max
     cases hl:args.toList with
     | nil=>rfl
     | cons x l=>cases l with
      | nil=>rfl
      | cons y l=>cases l with
       | cons=>rfl
       | nil =>
        rw [hl] at hev2;simp only;rw [hev2 x (by simp),hev2 y (by simp)]
   . cases hl:args.toList with
     | nil=>rfl
     | cons x l=>cases l with
      | nil=>rfl
      | cons y l=>cases l with
       | cons=>rfl
       | nil =>
        rw [hl] at hev2;simp only;rw [hev2 x (by simp),hev2 y (by simp)]
  | invoke r mth=>exact False.elim h
  | value f =>
   simp only [zat] at h ⊢;rw [hev f (by simp)];cases hx:ev f<;>rw [hx] at h<;>try exact False.elim h
   rename_i g caps;simp only at h ⊢;rw [zgn] at h ⊢;have hargs:args.toList.map ev'=args.toList.map ev:=zy61 fun x hx=>hev x (by simp;exact .inr (by simpa using hx))
   rw [hargs];obtain ⟨r',hc,rfl⟩:=h;refine ⟨r',hC _ _ _ _ _ _ hc (fun id hi=>?_) hd (fun id hi=>hH id (zy6.2 (.inr hi))),rfl⟩;rw [zjy,zy6] at hi;rcases hi with hi | hi
   . have:∀ l:List Operand,id∈zcm (l.map ev)->∃ x∈l,id∈zau (ev x):=by
      intro l
      induction l with
      | nil=>simp [zcm]
      | cons y l ih =>
       intro h;simp only [zy13,zcm,zy6] at h;rcases h with h | h
       . exact ⟨y,by simp,h⟩
       . obtain ⟨x,hx,h⟩:=ih h;exact ⟨x,by simp [hx],h⟩
     obtain ⟨x,hx2,h2⟩:=this _ hi;exact hids x (by simp;exact .inr (by simpa using hx2)) id h2
   . exact hids f zz1 id (by rw [hx];simpa only [zau] using hi)
end
end Go.HL
namespace Go.HL
structure zeg (Γ:Ctx) (P:Program) (m:zbj) (s:HS) (a:Act) (w:World):Prop where
 heap:zag Γ m s.heap w
 slots:∀ t,zad m w (RR Γ m s.heap w) (s.slot t) (a.tmps.getD t undef)
 size:a.tmps.size=s.n
 defers:a.defers=[]
 pin:∀ id l,pin<=id->Γ.m0 id=some l->id∈s.pins/\m id=some l
def zcx (P:Program) (C:zai):Prop:=∀ f args H d r,C f args H d r->∀ (Γ:Ctx) m w vals,zag Γ m H w->zae m w (RR Γ m H w) args vals ->
 ((callFunc f vals.toArray).run P w=.ok (.enter f vals.toArray) w /\
 Calls P f vals.toArray w fun e w'=>∃ v m',e=.returned v/\WS Γ H m w (zbb H r.ups) m' w'/\zad m' w' (RR Γ m' (zbb H r.ups) w') r.val v) \/
 ∃ v w' m',(callFunc f vals.toArray).run P w=.ok (.value v) w'/\WS Γ H m w (zbb H r.ups) m' w'/\zad m' w' (RR Γ m' (zbb H r.ups) w') r.val v
section
variable {Γ:Ctx} {P:Program} {m m':zbj} {s:HS} {a:Act} {w w':World} {C:zai}
theorem zeg.eval (h:zeg Γ P m s a w) (x:Operand):zad m w (RR Γ m s.heap w) (evalOp s.slot x) (a.eval x):=by
 cases x with
 | tmp t=>exact h.slots t
 | const v=>exact zor v
 | global g=>simp only [evalOp,zad]
 | func f=>simp only [evalOp,zad,Act.eval];exact ⟨#[],rfl,by simp only [zae]⟩
theorem zns (a:Act) (d t:Nat) (v:Value) (hd:d<a.tmps.size):(a.put (some d) v).tmps.getD t undef=if t=d then v else a.tmps.getD t undef:=by
 simp only [Act.put,zy20,Array.getElem?_setIfInBounds];by_cases h:t=d
 . subst h;simp [hd]
 . rw [zy7 (fun e=>h e.symm),zy7 h]
theorem zeg.step (h:zeg Γ P m s a w) {dst:Option Nat} {r:Res} {v:Value} (hws:WS Γ s.heap m w (zbb s.heap r.ups) m' w') (hv:zad m' w' (RR Γ m' (zbb s.heap r.ups) w') r.val v) (hd:∀ d,dst=some d->d<s.n) :
 zeg Γ P m' (s.app dst r) (a.put dst v) w':=by
 cases dst with
 | none=>exact ⟨hws.ok,fun t=>hws.rep (h.slots t),h.size,h.defers,fun id l hp hl=>⟨(h.pin id l hp hl).1,hws.ext _ _ (h.pin id l hp hl).2⟩⟩
 | some d =>
  have hlt:d<a.tmps.size:=by rw [h.size];exact hd d rfl
  refine ⟨hws.ok,fun t=>?_,by simp [Act.put,HS.app,h.size],h.defers,fun id l hp hl=>⟨(h.pin id l hp hl).1,hws.ext _ _ (h.pin id l hp hl).2⟩⟩;rw [zns a d t v hlt];by_cases ht:t=d
  . subst ht;rw [zy11 rfl];simp only [HS.app,zaf];exact hv
  . rw [zy7 ht];simp only [HS.app,zah _ _ ht];exact hws.rep (h.slots t)
theorem zeg.skip (h:zeg Γ P m s a w) {dst:Option Nat} (hd:∀ d,dst=some d->d<s.n):zeg Γ P m (s.put dst .und) (a.put dst undef) w:=by
 cases dst with
 | none=>exact h
 | some d =>
  have hlt:d<a.tmps.size:=by rw [h.size];exact hd d rfl
  refine ⟨h.heap,fun t=>?_,by simp [Act.put,HS.put,h.size],h.defers,h.pin⟩;rw [zns a d t undef hlt];by_cases ht:t=d
  . subst ht;rw [zy11 rfl];simp only [HS.put,zaf,zad]
  . rw [zy7 ht];simp only [HS.put,zah _ _ ht];exact h.slots t
def zix:Op->Bool
 | .call ⟨.value _,_,_⟩=>true
 | _=>false
theorem zua {K:Res->Prop} {d:Nat} {ev:Operand->HV} {ρ:Operand->Value} {H:Nat->zaa} {o:Oper} (hok:zag Γ m H w) (hev:∀ x,zad m w (RR Γ m H w) (ev x) (ρ x)) (h:zat P C o.op d ev H K) (hf:zix o.op=false) :
 ∃ r,K r/\OS Γ P m H w (execOp ρ o) r:=by
 obtain ⟨dst,op,ty,pos,after,guard⟩:=o;simp only at h hf;cases op<;>try exact False.elim h
 case move x=>exact zuo hok (hev x) h
 case assign x=>exact zqu hok (hev x) h
 case pick c x y=>exact zuq hok (fun z _=>hev z) h
 case alloc t=>exact zso hok h
 case box t x=>exact zvt hok (hev x) h
 case build t ps=>exact zsp hok (fun x _=>hev x.2) h
 case buildSlice t n ps=>exact zkc hok (fun x _=>hev x.2) h
 case load t x=>exact zun hok (hev x) h
 case store t x y=>exact zsw hok (hev x) (hev y) h
 case nilCheck x=>exact zne hok (hev x) h
 case binOp b t x y yt =>
  simp only [zat] at h;cases hq:zmw (ev x) with
  | none=>rw [hq] at h;exact zvs hok (hev x) (hev y) h
  | some id =>
   rw [hq] at h;simp only at h;split at h
   . exact zqw hok (by rw [<- zsk hq];exact hev x) (hev y) h
   . exact h.elim
 case unOp u t x=>exact zur hok (hev x) h
 case convert src dt x=>exact zph hok (hev x) h
 case makeFunc fn first caps=>exact znd hok (fun x _=>hev x) h
 case makeSlice t x y=>exact zlo hok (hev x) (hev y) h
 case slice t x lo hi mx=>exact zsv hok hev h
 case fieldAddr t x f=>exact zlm hok (hev x) h
 case field t x f=>exact zss hok (hev x) h
 case indexAddr t x i=>exact zln hok (hev x) (hev i) h
 case extract t i=>exact zpi hok (hev t) h
 case index t x i=>exact zst hok (hev x) (hev i) h
 case makeMap t r=>exact zpk hok h
 case lookup t x i b=>exact zqv hok (hev x) (hev i) h
 case range t x=>exact zsu hok (hev x) h
 case next x b=>exact zup hok (hev x) h
 case entry x=>exact zsr hok (hev x) h
 case mapUpdate t x i y=>obtain ⟨r,h1,h2⟩:=zlp hok (hev x) (hev i) (hev y) h;exact ⟨r,h1,h2 (by rfl)⟩
 case insert t x i y=>obtain ⟨r,h1,h2⟩:=zlp hok (hev x) (hev i) (hev y) h;exact ⟨r,h1,h2 (by rfl)⟩
 case call c =>
  obtain ⟨callee,args,ats⟩:=c;cases callee with
  | value f=>cases hf
  | invoke r mth=>exact False.elim h
  | builtin b =>
   cases b<;>try exact False.elim h
   . exact zqt hok (fun x _=>hev x) h
   . exact zvu hok (fun x _=>hev x) h
   . exact zsq hok (fun x _=>hev x) h
   . exact zum hok (fun x _=>hev x) h
   . exact zvv hok (fun x _=>hev x) h
   . exact zvw hok (fun x _=>hev x) h
   . exact zvx hok (fun x _=>hev x) h
theorem zul (hC:zcx P C) (hc:zeg Γ P m s a w) {o:Oper} {K:Res->Prop} {next:Act->World->Prop} {Q:Exit->Act->World->Prop} (h:zat P C o.op (o.dst.getD 0) (evalOp s.slot) s.heap K)
 (hn:∀ r v m' w',K r->WS Γ s.heap m w (zbb s.heap r.ups) m' w'->zad m' w' (RR Γ m' (zbb s.heap r.ups) w') r.val v->next (a.put o.dst v) w'):o.wp P a w next Q:=by
 unfold Oper.wp;cases hf:zix o.op with
 | false =>
  obtain ⟨r,hk,v,w',m',zbh,hws,hrep⟩:=zua hc.heap hc.eval h hf;rcases zbh with zbh | ⟨zbh,rfl⟩
  . rw [zbh];exact hn r v m' w' hk hws hrep
  . rw [zbh];exact hn r undef m' w' hk hws hrep
 | true =>
  obtain ⟨dst,op,ty,pos,after,guard⟩:=o;simp only at hf h;cases op<;>try cases hf
  rename_i c;obtain ⟨callee,args,ats⟩:=c;cases callee with
  | invoke r mth=>cases hf
  | builtin b=>cases hf
  | value f =>
   simp only [zat] at h;split at h
   . rename_i g caps hg
     rw [zgn] at h;obtain ⟨r,hCr,hk⟩:=h;have hfv:=hc.eval f;rw [hg] at hfv;simp only [zad] at hfv;obtain ⟨arr,hfv,hcaps⟩:=hfv;have hargs:=zae.map (ρ:=a.eval) (ev:=evalOp s.slot) args.toList fun x _=>hc.eval x
     have happ:∀ {xs ys:List HV} {vs us:List Value} {R:Nat->Prop},zae m w R xs vs->zae m w R ys us->zae m w R (xs++ys) (vs++us):=by
      intro xs
      induction xs with
      | nil=>intro ys vs us R h1 h2;simp only [zae] at h1;subst h1;exact h2
      | cons x xs ih =>
       intro ys vs us R h1 h2;simp only [zae,List.cons_append] at h1 ⊢;obtain ⟨v,r,rfl,h3,h4⟩:=h1;exact ⟨v,r++us,rfl,h3,ih h4 h2⟩
     have hvals:(args.toList.map a.eval++arr.toList).toArray=args.map a.eval++arr:=by apply Array.ext';simp
     have hboth:=hC g _ _ _ r hCr Γ m w _ hc.heap (happ hargs hcaps);rw [hvals] at hboth;rcases hboth with ⟨hcf,hcalls⟩ | ⟨v,w',m',hcf,hws,hrep⟩
     case inr =>
      have zbh:(execOp a.eval ⟨dst,.call ⟨.value f,args,ats⟩,ty,pos,after,guard⟩).run P w=.ok (.value v) w':=by
       exact yy25
      rw [zbh];exact hn r v m' w' hk hws hrep
     have zbh:(execOp a.eval ⟨dst,.call ⟨.value f,args,ats⟩,ty,pos,after,guard⟩).run P w=.ok (.enter g (args.map a.eval++arr)) w:=by
      exact yy25
     rw [zbh];refine hcalls.mono fun e w' he=>?_
     obtain ⟨v,m',rfl,hws,hrep⟩:=he;exact hn r v m' w' hk hws hrep
   . exact h.elim
end
end Go.HL
namespace Go.HL
def zav (all:List Oper) (o:Oper) (slot:Nat->HV):Option Bool :=
 match o.guard with
 | none=>some true
 | some (j,want)=>match (nth all j).bind (·.dst) with
  | some g=>match slot g with
   | .p (.v (.bool b))=>some (b==want)
   | .und=>some false
   | _=>none
  | none=>none
def zdn (P:Program) (C:zai) (all:List Oper) (o:Oper) (l:Lab) (s s':HS):Prop :=
 (∀ d,o.dst=some d->d<s.n)/\match l with
 | some (r,ids)=>zav all o s.slot=some true/\zat P C o.op (o.dst.getD 0) (evalOp s.slot) s.heap (·=r)/\ids=zfw o.op (evalOp s.slot) (o.dst.getD 0)/\s'=s.app o.dst r
 | none=>zav all o s.slot=some false/\s'=s.put o.dst .und
inductive Ev (P:Program) (C:zai) (all:List Oper):List (Oper×Lab)->HS->HS->Prop where
 | nil (s:HS):Ev P C all [] s s
 | cons {o:Oper} {l:Lab} {r:List (Oper×Lab)} {s s1 s2:HS} (h:zdn P C all o l s s1) (k:Ev P C all r s1 s2):Ev P C all ((o,l)::r) s s2
section
variable {Γ:Ctx} {P:Program} {C:zai} {all:List Oper}
theorem zha (s:HS) {g:Nat} {x:HV} (h:s.slot g=x):s.put (some g) x=s:=by
 subst h;simp only [HS.put,zed]
theorem zfo:∀ (os:List Oper) (s:HS) (acc:List Lab) (K:List Lab->HS->Prop),(∀ o∈os,zik o.op=true)->zki P C all os s acc K ->
 ∃ labs s',labs.length=os.length/\Ev P C all (os.zip labs) s s'/\K (labs.reverse++acc) s'
 | [],s,acc,K,hd,h=>⟨[],s,rfl,.nil s,h⟩
 | ⟨dst,op,ty,pos,after,guard⟩::os,s,acc,K,hd,h=>by
  have hdo:zik op=true:=hd ⟨dst,op,ty,pos,after,guard⟩ zz1;have hrest:∀ o∈os,zik o.op=true:=fun o ho=>hd o (by simp [ho])
  have run:∀ (K':Res->HS->Prop),zbh P C dst op s K'->∃ r,(∀ d,dst=some d->d<s.n)/\zat P C op (dst.getD 0) (evalOp s.slot) s.heap (·=r)/\K' r (s.app dst r):=by
   intro K' hr;unfold zbh at hr;cases dst with
   | none =>
    obtain ⟨r,h1,h2⟩:=znt hdo hr;exact ⟨r,by simp,h2,h1⟩
   | some d =>
    obtain ⟨hlt,hr⟩:=zab hr;obtain ⟨r,h1,h2⟩:=znt hdo hr;refine ⟨r,fun d' hd'=>?_,h2,h1⟩;cases hd';exact zy2 hlt
  have skip:∀ (K':HS->Prop),zla dst s K'->(∀ d,dst=some d->d<s.n)/\K' (s.put dst .und):=by
   intro K' hr;unfold zla at hr;cases dst with
   | none=>exact ⟨by simp,hr⟩
   | some d =>
    obtain ⟨hlt,hr⟩:=zab hr;refine ⟨fun d' hd'=>?_,hr⟩;cases hd';exact zy2 hlt
  have ran:∀ (hw:zav all ⟨dst,op,ty,pos,after,guard⟩ s.slot=some true),zbh P C dst op s (fun r s'=>zki P C all os s' (some (r,zfw op (evalOp s.slot) (dst.getD 0))::acc) K) ->
   ∃ labs s',labs.length=(⟨dst,op,ty,pos,after,guard⟩::os).length/\Ev P C all ((⟨dst,op,ty,pos,after,guard⟩::os).zip labs) s s'/\K (labs.reverse++acc) s':=by
   intro hw hr;obtain ⟨r,h1,h2,h3⟩:=run _ hr;obtain ⟨labs,s',hl,hev,hk⟩:=zfo os _ _ K hrest h3;refine ⟨some (r,zfw op (evalOp s.slot) (dst.getD 0))::labs,s',by simp [hl],.cons ⟨h1,hw,h2,rfl,rfl⟩ hev,?_⟩
   simpa using hk
  have skipped:∀ (hw:zav all ⟨dst,op,ty,pos,after,guard⟩ s.slot=some false),zla dst s (fun s'=>zki P C all os s' (none::acc) K) ->
   ∃ labs s',labs.length=(⟨dst,op,ty,pos,after,guard⟩::os).length/\Ev P C all ((⟨dst,op,ty,pos,after,guard⟩::os).zip labs) s s'/\K (labs.reverse++acc) s':=by
   intro hw hr;obtain ⟨h1,h3⟩:=skip _ hr;obtain ⟨labs,s',hl,hev,hk⟩:=zfo os _ _ K hrest h3;refine ⟨none::labs,s',by simp [hl],.cons ⟨h1,hw,rfl⟩ hev,?_⟩
   simpa using hk
  rw [zky] at h;simp only [zjt] at h;split at h
  . exact ran rfl h
  . rename_i j want
    split at h
    . rename_i g hg
      split at h
      . rename_i b hb
        have h2:=zcs h;clear h;rcases h2 with ⟨rfl,h⟩ | ⟨rfl,h⟩
        . rw [zha s hb] at h
          have h2:=zcs h;clear h;rcases h2 with ⟨rfl,h⟩ | ⟨rfl,h⟩
          . exact ran zz2 h
          . exact skipped zz2 h
        . rw [zha s hb] at h
          have h2:=zcs h;clear h;rcases h2 with ⟨rfl,h⟩ | ⟨rfl,h⟩
          . exact skipped zz2 h
          . exact ran zz2 h
      . rename_i hb
        exact skipped zz2 h
      . exact h.elim
    . exact h.elim
theorem zfj {m:zbj} {s:HS} {a:Act} {w:World} {ops:Array Oper} {o:Oper} {b:Bool} (hc:zeg Γ P m s a w) (h:zav ops.toList o s.slot=some b):Region.wanted o (yielded ops a.tmps)=b:=by
 unfold zav at h;unfold Region.wanted;cases hg:o.guard with
 | none=>rw [hg] at h;cases h;rfl
 | some jw =>
  obtain ⟨j,want⟩:=jw;rw [hg] at h;simp only at h ⊢;rw [zce] at h;have hj:ops.toList[j]?=ops[j]?:=by simp
  rw [hj] at h;unfold yielded;cases hd:(ops[j]?).bind (·.dst) with
  | none=>rw [hd] at h;cases h
  | some g =>
   rw [hd] at h;simp only at h;have hs:=hc.slots g;rw [zy67];split at h
   . rename_i c hcg
     rw [hcg] at hs;have hv:=zcg hs;have:a.tmps[g]?=some (.bool c):=by
      rw [zy20] at hv;cases ht:a.tmps[g]? with
      | none=>rw [ht] at hv;cases hv
      | some v=>rw [ht] at hv;simp at hv;rw [hv]
     rw [this];cases h;simp only;cases c<;>cases want<;>rfl
   . rename_i hcg
     rw [hcg] at hs;simp only [zad] at hs;cases h;cases ht:a.tmps[g]? with
     | none=>simp only;rfl
     | some v =>
      have:v=undef:=by rw [zy20,ht] at hs;simpa using hs
      subst this
      rfl
   . cases h
theorem zuu (hC:zcx P C) {m:zbj} {s s':HS} {a:Act} {w:World} {ops:Array Oper} {o:Oper} {l:Lab} (hc:zeg Γ P m s a w) (h:zdn P C ops.toList o l s s') {K:Act->World->Prop} {Q:Exit->Act->World->Prop}
 (hK:∀ m' a' w',zeg Γ P m' s' a' w'->K a' w'):if Region.wanted o (yielded ops a.tmps) then o.wp P a w K Q else K (a.put o.dst undef) w:=by
 obtain ⟨hd,h⟩:=h;cases l with
 | none =>
  obtain ⟨hw,rfl⟩:=h;rw [zfj hc hw];simp only [zy26,if_false];exact hK m _ w (hc.skip hd)
 | some ri =>
  obtain ⟨r,ids⟩:=ri;obtain ⟨hw,ha,_,rfl⟩:=h;rw [zfj hc hw];simp only [if_true];refine zul hC hc ha fun r' v m' w' hr hws hrep=>?_
  subst hr;exact hK m' _ w' (hc.step hws hrep hd)
theorem zhn (hC:zcx P C) {ops:Array Oper} {Q:Exit->Act->World->Prop}:∀ (os:List Oper) (s:HS) (acc:List Lab) (K:List Lab->HS->Prop) (m:zbj) (a:Act) (w:World),zki P C ops.toList os s acc K->zeg Γ P m s a w ->
 (∀ labs s' m' a' w',K labs s'->zeg Γ P m' s' a' w'->Q .normal a' w')->wpList P ops Q os a w
 | [],s,acc,K,m,a,w,h,hc,hK=>wpList_nil (hK acc s m a w h hc)
 | ⟨dst,op,ty,pos,after,guard⟩::os,s,acc,K,m,a,w,h,hc,hK=>by
  refine wpList_step fun K' hK'=>?_
  have ran:∀ (hw:zav ops.toList ⟨dst,op,ty,pos,after,guard⟩ s.slot=some true) (L:Res->Lab),zbh P C dst op s (fun r s'=>zki P C ops.toList os s' (L r::acc) K) ->
   if Region.wanted ⟨dst,op,ty,pos,after,guard⟩ (yielded ops a.tmps) then Oper.wp P ⟨dst,op,ty,pos,after,guard⟩ a w K' Q else K' (a.put dst undef) w:=by
   intro hw L hr;rw [zfj hc hw];simp only [if_true];unfold zbh at hr;cases dst with
   | none =>
    refine zul hC hc (o:=⟨none,op,ty,pos,after,guard⟩) hr fun r v m' w' hk hws hrep=>?_
    exact hK' _ _ (zhn hC os _ _ K m' _ w' hk (hc.step hws hrep zz1) hK)
   | some d =>
    obtain ⟨hlt,hr⟩:=zab hr;refine zul hC hc (o:=⟨some d,op,ty,pos,after,guard⟩) hr fun r v m' w' hk hws hrep=>?_
    exact hK' _ _ (zhn hC os _ _ K m' _ w' hk (hc.step hws hrep (fun d' hd'=>by cases hd';exact zy2 hlt)) hK)
  have skipped:∀ (hw:zav ops.toList ⟨dst,op,ty,pos,after,guard⟩ s.slot=some false),zla dst s (fun s'=>zki P C ops.toList os s' (none::acc) K) ->
   if Region.wanted ⟨dst,op,ty,pos,after,guard⟩ (yielded ops a.tmps) then Oper.wp P ⟨dst,op,ty,pos,after,guard⟩ a w K' Q else K' (a.put dst undef) w:=by
   intro hw hr;rw [zfj hc hw];simp only [zy26,if_false];unfold zla at hr;cases dst with
   | none=>exact hK' _ _ (zhn hC os _ _ K m _ w hr (hc.skip (dst:=none) zz1) hK)
   | some d =>
    obtain ⟨hlt,hr⟩:=zab hr;exact hK' _ _ (zhn hC os _ _ K m _ w hr (hc.skip (dst:=some d) (fun d' hd'=>by cases hd';exact zy2 hlt)) hK)
  rw [zky] at h;simp only [zjt] at h;split at h
  . exact ran rfl _ h
  . rename_i j want
    split at h
    . rename_i g hg
      split at h
      . rename_i b hb
        have h2:=zcs h;clear h;rcases h2 with ⟨rfl,h⟩ | ⟨rfl,h⟩
        . rw [zha s hb] at h
          have h2:=zcs h;clear h;rcases h2 with ⟨rfl,h⟩ | ⟨rfl,h⟩
          . exact ran zz2 _ h
          . exact skipped zz2 h
        . rw [zha s hb] at h
          have h2:=zcs h;clear h;rcases h2 with ⟨rfl,h⟩ | ⟨rfl,h⟩
          . exact skipped zz2 h
          . exact ran zz2 _ h
      . rename_i hb
        exact skipped zz2 h
      . exact h.elim
    . exact h.elim
end
end Go.HL
namespace Go.HL
def zfr:Lab->Res
 | some (r,_)=>r
 | none=>⟨.und,[],[]⟩
section
variable {Γ:Ctx} {P:Program} {C:zai} {all:List Oper}
theorem zfh {α:List (Nat×zaa)} {H:Nat->zaa} {id:Nat} (h:id∉α.map (·.1)):zbb H α id=H id :=
 zgf (us:=α) fun _ he hi=>h (hi ▸ List.mem_map_of_mem he)
theorem zop {α:Type} (f:Nat->α) {i j:Nat} (x y:α) (h:i≠j):upd (upd f i x) j y=upd (upd f j y) i x:=by
 funext k
 by_cases h1:k=i
 . subst h1;rw [zaf,zah _ _ h,zaf]
 . by_cases h2:k=j
   . subst h2;rw [zaf,zah _ _ h1,zaf]
   . rw [zah _ _ h2,zah _ _ h1,zah _ _ h1,zah _ _ h2]
theorem zoo (H:Nat->zaa):∀ (α:List (Nat×zaa)) {i:Nat} (b:zaa),i∉α.map (·.1)->zbb (upd H i b) α=upd (zbb H α) i b
 | [],i,b,h=>rfl
 | (j,c)::α,i,b,h=>by
  simp only [zy13,zy9,not_or] at h;simp only [zbb];rw [zop _ _ _ h.1,zoo _ α b h.2]
theorem zmc:∀ (α β:List (Nat×zaa)) (H:Nat->zaa),(∀ i∈α.map (·.1),i∉β.map (·.1))->zbb (zbb H α) β=zbb (zbb H β) α
 | [],β,H,h=>rfl
 | (i,b)::α,β,H,h=>by
  simp only [zbb];rw [zmc α β _ fun j hj=>h j (by simp at hj ⊢;exact .inr hj),zoo _ β b (h i (by simp))]
theorem zdk {o:Oper} {l:Lab} {s s':HS}:zdn P C all o l s s'↔(∀ d,o.dst=some d->d<s.n)/\zav all o s.slot=some l.isSome /\
 (∀ r ids,l=some (r,ids)->zat P C o.op (o.dst.getD 0) (evalOp s.slot) s.heap (·=r)/\ids=zfw o.op (evalOp s.slot) (o.dst.getD 0))/\s'=s.app o.dst (zfr l):=by
 unfold zdn;refine and_congr Iff.rfl ?_;cases l with
 | none =>
  simp only [Option.isSome_none,reduceCtorEq,false_implies,implies_true,true_and,zfr];refine and_congr Iff.rfl ?_;obtain ⟨dst,op,ty,pos,after,guard⟩:=o;cases dst<;>exact Iff.rfl
 | some ri =>
  obtain ⟨r,ids⟩:=ri;simp only [Option.isSome_some,zfr]
  constructor
  . rintro ⟨h1,h2,h3,h4⟩
    exact ⟨h1,fun r' ids' he=>by cases he;exact ⟨h2,h3⟩,h4⟩
  . rintro ⟨h1,h2,h4⟩
    exact ⟨h1,(h2 r ids rfl).1,(h2 r ids rfl).2,h4⟩
theorem zjl {s:HS} {dst:Option Nat} {r:Res} {t:Nat} (h:dst≠some t):(s.app dst r).slot t=s.slot t:=by
 cases dst with
 | none=>rfl
 | some d=>exact zah _ _ fun e=>h (by rw [e])
theorem zeu {s:HS} {dst:Option Nat} {r:Res}:(s.app dst r).heap=zbb s.heap r.ups:=by
 cases dst<;>rfl
theorem zos {s:HS} {dst:Option Nat} {r:Res}:(s.app dst r).n=s.n:=by
 cases dst<;>rfl
theorem zjk {s:HS} {x y:Option Nat} {r q:Res} (h:∀ d,x=some d->y≠some d) (hu:∀ i∈r.ups.map (·.1),i∉q.ups.map (·.1)) :
 (s.app x r).app y q=(s.app y q).app x r:=by
 have hh:=zmc r.ups q.ups s.heap hu;cases x with
 | none=>cases y<;>simp only [HS.app,hh]
 | some d=>cases y with
  | none=>simp only [HS.app,hh]
  | some e =>
   simp only [HS.app,hh];rw [zop _ _ _ fun e'=>h d rfl (by rw [e'])]
theorem zgt {s:HS} {dst:Option Nat} {r:Res} {x:Operand} (h:∀ d,dst=some d->x≠.tmp d):evalOp (s.app dst r).slot x=evalOp s.slot x:=by
 cases x<;>try rfl
 rename_i t;simp only [evalOp];exact zjl fun e=>h t e rfl
theorem zee {ops:Array Oper} {o:Oper} {s:HS} {dst:Option Nat} {r:Res} (h:∀ d,dst=some d->d∉o.looksAt ops):zav ops.toList o (s.app dst r).slot=zav ops.toList o s.slot:=by
 unfold zav;cases hg:o.guard with
 | none=>rfl
 | some jw =>
  obtain ⟨j,want⟩:=jw;simp only;cases hd:(nth ops.toList j).bind (·.dst) with
  | none=>rfl
  | some g =>
   simp only;rw [zjl fun e=>?_];refine h g e ?_;simp only [Oper.looksAt,hg,zy6]
   right
   rw [zce] at hd;have hj:ops.toList[j]?=ops[j]?:=by simp
   rw [hj] at hd;rw [hd];simp
theorem zhy {op:Op} {ev ev':Operand->HV} {d:Nat} (h:∀ x∈op.operands.toList,ev' x=ev x):zfw op ev' d=zfw op ev d:=by
 unfold zfw;cases looks op<;>dsimp only
 congr 1
 revert h
 generalize op.operands.toList=l
 induction l with
 | nil=>intro _;rfl
 | cons y l ih=>intro h;simp only [zll];rw [h y (by simp),ih fun x hx=>h x (by simp [hx])]
theorem zhj:∀ {a b:List Nat},zru a b=true->∀ i∈a,i∉b
 | [],b,h,i,hi=>by simp at hi
 | x::a,b,h,i,hi=>by
  simp only [zru,zy1,zy44] at h;rcases zy9.1 hi with rfl | hi
  . intro hb
    have:=List.any_eq_false.1 h.1 i hb;simp at this
  . exact zhj h.2 i hi
def Ind (ops:Array Oper) (x:Oper×Lab) (y:Oper×Lab):Prop:=x.1.apart ops y.1=true/\zru (znj x.2) (zih y.2)=true/\zru (znj y.2) (zih x.2)=true
theorem zoq (l:Lab):znj l=(zfr l).ups.map (·.1):=by cases l<;>rfl
theorem zfe (hC:zbz C) {ops:Array Oper} {o:Oper} {l:Lab} {s s' t:HS} (h:zdn P C ops.toList o l s s') (hn:t.n=s.n)
 (hw:zav ops.toList o t.slot=zav ops.toList o s.slot) (he:∀ x∈o.op.operands.toList,evalOp t.slot x=evalOp s.slot x)
 (hH:∀ i∈zih l,t.heap i=s.heap i):zdn P C ops.toList o l t (t.app o.dst (zfr l)):=by
 rw [zdk] at h ⊢;obtain ⟨h1,h2,h3,-⟩:=h;refine ⟨fun d hd=>by rw [hn];exact h1 d hd,by rw [hw];exact h2,fun r ids hl=>?_,rfl⟩;subst hl;obtain ⟨h4,h5⟩:=h3 r ids rfl;refine ⟨zou hC h4 he fun i hi=>hH i ?_,by rw [zhy he];exact h5⟩;subst h5;exact hi
theorem swap (hC:zbz C) {ops:Array Oper} {x y:Oper} {lx ly:Lab} {s s1 s2:HS} (hx:zdn P C ops.toList x lx s s1) (hy:zdn P C ops.toList y ly s1 s2) (hi:Ind ops (x,lx) (y,ly)) :
 ∃ s1',zdn P C ops.toList y ly s s1'/\zdn P C ops.toList x lx s1' s2:=by
 obtain ⟨hap,hd1,hd2⟩:=hi;obtain ⟨a1,a2,a3⟩:=Oper.apart_spec hap;have e1:s1=s.app x.dst (zfr lx):=(zdk.1 hx).2.2.2;have e2:s2=s1.app y.dst (zfr ly):=(zdk.1 hy).2.2.2;subst e1;have zki:∀ {o:Oper} {z:Operand} {d:Nat},z∈o.op.operands.toList->d∉o.looksAt ops->z≠.tmp d:=by
  rintro o z d hz hd rfl;apply hd;simp only [Oper.looksAt,zy6,List.mem_filterMap];exact .inl ⟨_,hz,rfl⟩
 have hu1:∀ i∈(zfr lx).ups.map (·.1),i∉zih ly:=fun i hi=>zhj hd1 i (by rw [zoq];exact hi)
 have hu2:∀ i∈(zfr ly).ups.map (·.1),i∉zih lx:=fun i hi=>zhj hd2 i (by rw [zoq];exact hi)
 have zkj:∀ {l:Lab} {i:Nat},i∈(zfr l).ups.map (·.1)->i∈zih l:=by
  intro l i hi;cases l with
  | none=>simp [zfr] at hi
  | some ri=>simp only [zih,zy6];exact .inr (.inr hi)
 refine ⟨s.app y.dst (zfr ly),zfe hC hy zos.symm (zee a1).symm (fun z hz=>(zgt fun d hd=>zki hz (a1 d hd)).symm) fun i hi=>?_,?_⟩
 . rw [zeu,zfh fun h=>hu1 i h hi]
 . have:=zfe hC (t:=s.app y.dst (zfr ly)) hx zos (zee a3) (fun z hz=>zgt fun d hd=>zki hz (a3 d hd)) fun i hi=>by
    rw [zeu,zfh fun h=>hu2 i h hi]
   rw [e2,zjk a2 fun i hi h=>hu1 i hi (zkj h)];exact this
structure ztk (P:Program) (C:zai) (ops:Array Oper) (M:Oper->Lab->Prop) where
 Z:HS->Prop
 S:Oper->Lab->Prop
 keep:∀ {o l s s'},M o l->zdn P C ops.toList o l s s'->Z s->Z s'
 same:∀ {o l s s' t},M o l->S o l->Z s->Z t->zdn P C ops.toList o l s s'->t.n=s.n->zav ops.toList o t.slot=zav ops.toList o s.slot->(∀ x∈o.op.operands.toList,evalOp t.slot x=evalOp s.slot x)->zdn P C ops.toList o l t (t.app o.dst (zfr l))
 quiet:∀ {o l},M o l->S o l->(zfr l).ups=[]
def zwb {P:Program} {C:zai} {ops:Array Oper} {M:Oper->Lab->Prop} (z:ztk P C ops M) (x y:Oper×Lab):Prop:=Ind ops x y\/(x.1.apart ops y.1=true/\(z.S x.1 x.2\/z.S y.1 y.2))
theorem zwo (hC:zbz C) {ops:Array Oper} {M:Oper->Lab->Prop} (z:ztk P C ops M) {x y:Oper} {lx ly:Lab} {s s1 s2:HS} (mx:M x lx) (my:M y ly) (hz:z.Z s) (hx:zdn P C ops.toList x lx s s1) (hy:zdn P C ops.toList y ly s1 s2) (hi:zwb z (x,lx) (y,ly)) :
 ∃ s1',zdn P C ops.toList y ly s s1'/\zdn P C ops.toList x lx s1' s2:=by
 rcases hi with hi | ⟨hap,hs⟩
 . exact swap hC hx hy hi
 obtain ⟨a1,a2,a3⟩:=Oper.apart_spec hap;have hz1:=z.keep mx hx hz;have e1:s1=s.app x.dst (zfr lx):=(zdk.1 hx).2.2.2;have e2:s2=s1.app y.dst (zfr ly):=(zdk.1 hy).2.2.2;subst e1;have zki:∀ {o:Oper} {z:Operand} {d:Nat},z∈o.op.operands.toList->d∉o.looksAt ops->z≠.tmp d:=by
  rintro o z d hz hd rfl;apply hd;simp only [Oper.looksAt,zy6,List.mem_filterMap];exact .inl ⟨_,hz,rfl⟩
 have wy:=(zee (ops:=ops) (o:=y) (s:=s) (dst:=x.dst) (r:=zfr lx) a1).symm;have ey:∀ q∈y.op.operands.toList,evalOp s.slot q=evalOp (s.app x.dst (zfr lx)).slot q:=fun q hq=>(zgt fun d hd=>zki hq (a1 d hd)).symm
 have wx:=zee (ops:=ops) (o:=x) (s:=s) (dst:=y.dst) (r:=zfr ly) a3;have ex:∀ q∈x.op.operands.toList,evalOp (s.app y.dst (zfr ly)).slot q=evalOp s.slot q:=fun q hq=>zgt fun d hd=>zki hq (a3 d hd)
 rcases hs with hs | hs
 . have hq:=z.quiet mx hs
   have hy':zdn P C ops.toList y ly s (s.app y.dst (zfr ly)):=zfe hC hy zos.symm wy ey fun i _=>by rw [zeu,hq];rfl
   have hz2:=z.keep my hy' hz;have:=z.same mx hs hz hz2 hx zos wx ex;rw [e2,zjk a2 fun i hi=>by rw [hq] at hi;cases hi];exact ⟨_,hy',this⟩
 . have hq:=z.quiet my hs
   have hy':=z.same my hs hz1 hz hy zos.symm wy ey;have:=zfe hC (t:=s.app y.dst (zfr ly)) hx zos wx ex fun i _=>by rw [zeu,hq];rfl
   rw [e2,zjk a2 fun i hi h=>by rw [hq] at h;cases h];exact ⟨_,hy',this⟩
theorem znq (hC:zbz C) {ops:Array Oper} {M:Oper->Lab->Prop} (z:ztk P C ops M) {e:Oper×Lab} (me:M e.1 e.2):∀ {pre post:List (Oper×Lab)} {s t:HS},Ev P C ops.toList (pre++e::post) s t->z.Z s->(∀ x∈pre,M x.1 x.2)->(∀ x∈pre,zwb z x e)->Ev P C ops.toList (e::(pre++post)) s t
 | [],post,s,t,h,_,_,_=>h
 | x::pre,post,s,t,h,hz,hm,hi=>by
  cases h with
  | cons h k =>
   rename_i o l s1;have mx:M o l:=hm (o,l) zz1;have h2:=znq hC z me k (z.keep mx h hz) (fun y hy=>hm y zz16) fun y hy=>hi y zz16
   cases h2 with
   | cons h3 k2 =>
    obtain ⟨s1',h4,h5⟩:=zwo hC z mx me hz h h3 (hi _ zz1);exact .cons h4 (.cons h5 k2)
theorem zht:∀ (os:List Oper) (ms:List Nat),∃ tl,zft os ms=ms++tl/\tl.length=os.length
 | [],ms=>⟨[],by simp [zft],rfl⟩
 | o::os,ms=>by
  obtain ⟨tl,h1,h2⟩:=zht os (ms++[zfs ms o.after.toList]);exact ⟨zfs ms o.after.toList::tl,by simp [zft,h1],by simp [h2]⟩
theorem zlg:∀ (os:List Oper) (ms:List Nat) (k:Nat),k<os.length->∃ o,os[k]?=some o/\(zft os ms)[ms.length+k]?=some (zfs ((zft os ms).take (ms.length+k)) o.after.toList)
 | [],ms,k,h=>by simp at h
 | o::os,ms,k,h=>by
  cases k with
  | zero =>
   obtain ⟨tl,h1,h2⟩:=zht os (ms++[zfs ms o.after.toList]);refine ⟨o,rfl,?_⟩;simp [zft,h1]
  | succ k =>
   obtain ⟨o',h1,h2⟩:=zlg os (ms++[zfs ms o.after.toList]) k zz21;refine ⟨o',by simpa using h1,?_⟩;simp only [zft];have:(ms++[zfs ms o.after.toList]).length+k=ms.length+(k+1):=by simp;omega
   rw [this] at h2;exact h2
theorem zhs {ms:List Nat} {b:Nat}:∀ {l:List Edge},Nat.testBit (zfs ms l) b=true->∃ e∈l,Region.binds .any e=true/\(e.on=b\/∃ m,ms[e.on]?=some m/\m.testBit b=true)
 | [],h=>by simp [zfs] at h
 | e::l,h=>by
  simp only [zfs] at h;cases hb:Region.binds .any e with
  | false =>
   rw [hb] at h;obtain ⟨e',h1,h2⟩:=zhs h;exact ⟨e',by simp [h1],h2⟩
  | true =>
   rw [hb] at h;have h':Nat.testBit ((ztv e.on ||| (nth ms e.on).getD 0) ||| zfs ms l) b=true:=h;rw [Nat.testBit_or,Nat.testBit_or,zy68,zy68] at h';rcases h' with (h' | h') | h'
   . have:ztv e.on=2 ^ e.on:=Nat.one_shiftLeft _
     rw [this,Nat.testBit_two_pow] at h';exact ⟨e,by simp,hb,.inl (by simpa using h')⟩
   . refine ⟨e,by simp,hb,.inr ?_⟩
     rw [zce] at h';cases hm:ms[e.on]? with
     | none=>rw [hm] at h';simp at h'
     | some m=>rw [hm] at h';exact ⟨m,rfl,by simpa using h'⟩
   . obtain ⟨e',h1,h2⟩:=zhs h'
     exact ⟨e',by simp [h1],h2⟩
theorem znb {ops:Array Oper} {listed:Array Bool} (hcl:∀ k o,ops[k]?=some o->listed.getD k true=true->∀ e∈o.after,Region.binds .any e=true->listed.getD e.on false=true) :
 ∀ (k m b:Nat),(zft ops.toList [])[k]?=some m->m.testBit b=true->(∀ o,ops[k]?=some o->∀ e∈o.after,Region.binds .any e=true->listed.getD e.on false=true)->listed.getD b false=true:=by
 intro k
 induction k using Nat.strongRecOn with
 | ind k ih =>
  intro m b hm hb hk;have hlen:k<ops.toList.length:=by
   obtain ⟨tl,h1,h2⟩:=zht ops.toList [];rw [h1] at hm;have:=(zy8.1 hm).1
   simpa [h2] using this
  obtain ⟨o,ho,hmo⟩:=zlg ops.toList [] k hlen;simp only [List.length_nil,zy25] at hmo;rw [hm] at hmo;cases hmo;have ho':ops[k]?=some o:=by simpa using ho
  obtain ⟨e,he,hbd,h⟩:=zhs hb;have hel:=hk o ho' e (by simpa using he) hbd;rcases h with rfl | ⟨m',hm',hb'⟩
  . exact hel
  . rw [zy14] at hm'
    split at hm'
    . rename_i hlt
      refine ih e.on hlt m' b hm' hb' fun o' ho''=>hcl e.on o' ho'' ?_
      have:e.on<listed.size:=by
       rcases zy39 e.on listed.size with h' | h'
       . exact h'
       . simp [Array.getElem?_eq_none h'] at hel
      rw [zy20] at hel ⊢;rw [zy30 this] at hel ⊢;exact hel
    . cases hm'
theorem zhg {ops:Array Oper} {o:Oper} {l:Lab} {m:Nat}:∀ {xs:List Oper} {ls:List Lab} {k:Nat},zkm ops o l m k xs ls=true->∀ (i:Nat) x lx,xs[i]?=some x->ls[i]?=some lx->m.testBit (k+i)=true\/Ind ops (x,lx) (o,l)
 | [],ls,k,h,i,x,lx,hx,hl=>by simp at hx
 | y::xs,[],k,h,i,x,lx,hx,hl=>by simp at hl
 | y::xs,ly::ls,k,h,i,x,lx,hx,hl=>by
  simp only [zkm,zy1,zy68] at h;obtain ⟨h1,h2⟩:=h;cases i with
  | zero =>
   simp at hx hl;subst hx;subst hl;rcases h1 with h1 | ⟨⟨h1,h3⟩,h4⟩
   . exact .inl h1
   . exact .inr ⟨h1,h3,h4⟩
  | succ i =>
   have:=zhg h2 i x lx zz5 zz3;rw [show k+1+i=k+(i+1) by omega] at this;exact this
theorem ziw {ops:Array Oper} {labs:List Lab} {ms:List Nat}:∀ {os:List Oper} {ls:List Lab} {k:Nat},indep ops labs ms k os ls=true->∀ (i:Nat) o l,os[i]?=some o->ls[i]?=some l->zkm ops o l ((nth ms (k+i)).getD 0) 0 (ops.toList.take (k+i)) (labs.take (k+i))=true
 | [],ls,k,h,i,x,lx,hx,hl=>by simp at hx
 | y::os,[],k,h,i,x,lx,hx,hl=>by simp at hl
 | y::os,ly::ls,k,h,i,o,l,hx,hl=>by
  simp only [indep,zy1] at h;cases i with
  | zero=>simp at hx hl;subst hx;subst hl;exact h.1
  | succ i =>
   have:=ziw h.2 i o l zz5 zz3;rw [show k+1+i=k+(i+1) by omega] at this;exact this
theorem zgm:∀ {os:List Oper} {k:Nat},zdg k os=true->∀ (i:Nat) o,os[i]?=some o->∀ e∈o.after,Region.binds .any e=true->e.on<k+i
 | [],k,h,i,o,ho,e,he,hb=>by simp at ho
 | y::os,k,h,i,o,ho,e,he,hb=>by
  simp only [zdg,zy1] at h;cases i with
  | zero =>
   simp at ho;subst ho;have:=zy19.1 h.1 e (by simpa using he);simp only [hb,Bool.not_true,Bool.false_or] at this;exact zy2 this
  | succ i =>
   have:=zgm h.2 i o zz9 e he hb;omega
def zlq:Nat->List Oper->List Lab->List (Nat×Oper×Lab)
 | k,o::os,l::ls=>(k,o,l)::zlq (k+1) os ls
 | _,_,_=>[]
theorem zkd:∀ (k:Nat) (os:List Oper) (ls:List Lab),(zlq k os ls).map (·.2)=os.zip ls
 | _,[],_=>by simp [zlq]
 | _,_::_,[]=>by simp [zlq]
 | k,o::os,l::ls=>by simp [zlq,zkd (k+1) os ls]
theorem zgz:∀ {k:Nat} {os:List Oper} {ls:List Lab} {i:Nat} {o:Oper} {l:Lab},(i,o,l)∈zlq k os ls->k<=i/\os[i-k]?=some o/\ls[i-k]?=some l
 | _,[],_,_,_,_,h=>by simp [zlq] at h
 | _,_::_,[],_,_,_,h=>by simp [zlq] at h
 | k,o'::os,l'::ls,i,o,l,h=>by
  simp only [zlq,zy9] at h;rcases h with h | h
  . cases h;simp
  . obtain ⟨h1,h2,h3⟩:=zgz h
    obtain ⟨j,rfl⟩:∃ j,i=k+1+j:=⟨i-(k+1),by omega⟩
    rw [show k+1+j-(k+1)=j by omega] at h2 h3;rw [show k+1+j-k=j+1 by omega];exact ⟨by omega,by simpa using h2,by simpa using h3⟩
theorem zoh:∀ {k:Nat} {os:List Oper} {ls:List Lab} {i:Nat},ls.length=os.length->i<os.length->k+i∈(zlq k os ls).map (·.1)
 | _,[],_,_,_,h=>by simp at h
 | _,_::_,[],_,h,_=>by simp at h
 | k,o::os,l::ls,i,hl,h=>by
  simp only [zlq,zy13,zy9];cases i with
  | zero=>exact .inl rfl
  | succ i =>
   right
   have:=zoh (k:=k+1) (os:=os) (ls:=ls) (i:=i) zz3 zz21;rw [show k+1+i=k+(i+1) by omega] at this;exact this
theorem zia:∀ (k:Nat) (os:List Oper) (ls:List Lab),(zlq k os ls).Pairwise (fun x y=>x.1<y.1)
 | _,[],_=>by simp [zlq]
 | _,_::_,[]=>by simp [zlq]
 | k,o::os,l::ls=>by
  simp only [zlq,List.pairwise_cons];refine ⟨fun y hy=>?_,zia (k+1) os ls⟩;obtain ⟨i,o',l'⟩:=y;have:=(zgz hy).1;simp only;omega
structure zwf (ops:Array Oper) (labs:List Lab) (listed:Array Bool) (L:List (Nat×Oper×Lab)):Prop where
 mem:∀ i o l,(i,o,l)∈L->ops[i]?=some o/\labs[i]?=some l
 has:∀ j,listed.getD j true=false↔j∈L.map (·.1)
 sorted:L.Pairwise (fun x y=>x.1<y.1)
 closed:∀ k o,ops[k]?=some o->listed.getD k true=true->∀ e∈o.after,Region.binds .any e=true->listed.getD e.on false=true
 size:listed.size=ops.size
theorem zpx {listed:Array Bool} {k:Nat} (hk:k<listed.size):listed.getD k false=listed.getD k true:=by
 rw [zy20,zy20,zy30 hk];rfl
def Mem (ops:Array Oper) (labs:List Lab) (o:Oper) (l:Lab):Prop:=∃ i:Nat,ops[i]?=some o/\labs[i]?=some l
def zwc {ops:Array Oper} {labs:List Lab} (z:ztk P C ops (Mem ops labs)):Prop:=∀ (j i:Nat) xo xl o l,j<i->ops[j]?=some xo->labs[j]?=some xl->ops[i]?=some o->labs[i]?=some l ->
 Nat.testBit ((nth (zft ops.toList []) i).getD 0) j=true\/zwb z (xo,xl) (o,l)
theorem zve (hC:zcx P C) (hL:zbz C) {ops:Array Oper} {labs:List Lab} {Q:Exit->Act->World->Prop} {sEnd:HS} (hup:zdg 0 ops.toList=true) (z:ztk P C ops (Mem ops labs)) (hmay:zwc z)
 (hQ:∀ m a w,zeg Γ P m sEnd a w->Q .normal a w):∀ (fuel:Nat) (listed:Array Bool) (L:List (Nat×Oper×Lab)) (s:HS) (m:zbj) (a:Act) (w:World),zwf ops labs listed L->L.length<=fuel ->
  Ev P C ops.toList (L.map (·.2)) s sEnd->z.Z s->zeg Γ P m s a w->wpAny P .any ops Q fuel listed a w:=by
 have none_ready:∀ {listed:Array Bool} {L:List (Nat×Oper×Lab)},zwf ops labs listed L->Region.ready .any ops listed=[]->L=[]:=by
  intro listed L hp hr;cases L with
  | nil=>rfl
  | cons x L =>
   exfalso;obtain ⟨i,o,l⟩:=x;obtain ⟨ho,-⟩:=hp.mem i o l zz1;have hun:listed.getD i true=false:=(hp.has i).2 zz1;have:i∈Region.ready .any ops listed:=by
    refine mem_ready.2 ⟨hun,o,ho,fun e he hb=>?_⟩;have hlt:=zgm hup i o zz9 e he hb;have hi:i<ops.size:=(zy21.1 ho).1;rw [zpx (by rw [hp.size];omega)];cases hf:listed.getD e.on true with
    | true=>rfl
    | false =>
     exfalso;have hm:=(hp.has e.on).1 hf;simp only [zy13,zy9] at hm;rcases hm with hm | hm
     . omega
     . obtain ⟨⟨j,o',l'⟩,hj,hje⟩:=zy4.1 hm
       have:=(List.pairwise_cons.1 hp.sorted).1 _ hj;simp only at hje this;omega
   rw [hr] at this;simp at this
 intro fuel
 induction fuel with
 | zero =>
  intro listed L s m a w hp hf hev _ hc;have zro:L=[]:=zy5 zz0;subst zro;cases hev;refine ⟨?_,hQ m a w hc⟩;cases hr:Region.ready .any ops listed with
  | nil=>rfl
  | cons j r =>
   exfalso;have hj:j∈Region.ready .any ops listed:=by rw [hr];simp
   have:=(hp.has j).1 (mem_ready.1 hj).1;simp at this
 | succ fuel ih =>
  intro listed L s m a w hp hf hev hz hc;refine ⟨fun hr=>?_,fun i hi=>?_⟩
  . have zro:=none_ready hp hr
    subst zro;cases hev;exact hQ m a w hc
  . obtain ⟨hun,o,ho,hedge⟩:=mem_ready.1 hi
    obtain ⟨⟨i',o',l⟩,hmem,rfl⟩:=zy4.1 ((hp.has i).1 hun);simp only at hun ho hi hedge;obtain ⟨pre,post,rfl⟩:=List.append_of_mem hmem;obtain ⟨ho2,hl⟩:=hp.mem i' o' l hmem;rw [ho2] at ho;cases ho;have hsp:=List.pairwise_append.1 hp.sorted;have hsc:=List.pairwise_cons.1 hsp.2.1;have hlen:i'<ops.size:=(zy21.1 ho2).1;have hpre:∀ x∈pre.map (·.2),zwb z x (o,l):=by
     intro x hx;obtain ⟨⟨j,xo,xl⟩,hj,rfl⟩:=zy4.1 hx;have hlt:j<i':=hsp.2.2 _ hj (i',o,l) zz1;obtain ⟨hjo,hjl⟩:=hp.mem j xo xl (by simp [hj]);have h2:=hmay j i' xo xl o l hlt hjo hjl ho2 hl;rcases h2 with h2 | h2
     . exfalso
       simp only [zce] at h2;cases hm:(zft ops.toList [])[i']? with
       | none=>rw [hm] at h2;simp at h2
       | some mk =>
        rw [hm] at h2;have:=znb hp.closed i' mk j hm (by simpa using h2) fun o'' ho''=>by rw [ho2] at ho'';cases ho'';exact hedge
        have hjs:j<listed.size:=by rw [hp.size];omega
        rw [zpx hjs] at this;have h3:listed.getD j true=false:=(hp.has j).2 (by simp;exact .inl ⟨_,_,hj⟩);rw [this] at h3;cases h3
     . exact h2
    have mo:Mem ops labs o l:=⟨i',ho2,hl⟩
    have hmp:∀ x∈pre.map (·.2),Mem ops labs x.1 x.2:=by
     intro x hx;obtain ⟨⟨j,xo,xl⟩,hj,rfl⟩:=zy4.1 hx;exact ⟨j,hp.mem j xo xl (by simp [hj])⟩
    have hev':=znq hL z (e:=(o,l)) mo (pre:=pre.map (·.2)) (post:=post.map (·.2)) (by simpa using hev) hz hmp hpre;cases hev' with
    | cons hstep hrest =>
     have hz':=z.keep mo hstep hz;have hp':zwf ops labs (listed.setIfInBounds i' true) (pre++post):=by
      refine ⟨fun j x xl hj=>hp.mem j x xl ?_,fun j=>?_,?_,fun k x hk hkl e he hb=>?_,by simp [hp.size]⟩
      . rcases zy6.1 hj with hj | hj<;>simp [hj]
      . by_cases hj:j=i'
        . subst hj
          have h1:(listed.setIfInBounds j true).getD j true=true:=by simp [hp.size,hlen]
          rw [h1];simp only [Bool.true_eq_false,false_iff,zy53,zy6,not_or]
          constructor
          . intro h
            obtain ⟨⟨j',xo,xl⟩,hj',he⟩:=zy4.1 h;have:=hsp.2.2 _ hj' (j,o,l) zz1;simp only at he this;omega
          . intro h
            obtain ⟨⟨j',xo,xl⟩,hj',he⟩:=zy4.1 h;have:=hsc.1 _ hj';simp only at he this;omega
        . rw [getD_set_ne true (Ne.symm hj),hp.has j]
          simp [hj]
      . exact List.pairwise_append.2 ⟨hsp.1,hsc.2,fun x hx y hy=>hsp.2.2 x hx y zz16⟩
      . apply getD_set_true
        by_cases hki:k=i'
        . subst hki
          rw [ho2] at hk;cases hk;exact hedge e he hb
        . rw [getD_set_ne true (Ne.symm hki)] at hkl
          exact hp.closed k x hk hkl e he hb
     unfold wpOp;rw [ho2];simp only;have hs:=zuu (Γ:=Γ) hC hc hstep (K:=wpAny P .any ops Q fuel (listed.setIfInBounds i' true)) (Q:=Q) fun m' a' w' hc' =>
      ih _ (pre++post) _ m' a' w' hp' (by simp at hf ⊢;omega) (by simpa using hrest) hz' hc'
     split at hs
     . rename_i hw;rw [zy11 hw];exact .inl hs
     . rename_i hw;rw [zy7 hw];exact hs
def zlr (P:Program) (C:zai) (ops:Array Oper) (M:Oper->Lab->Prop):ztk P C ops M:=⟨fun _=>True,fun _ _=>False,fun _ _ _=>trivial,fun _ h=>h.elim,fun _ h=>h.elim⟩
theorem zra {ops:Array Oper} {labs:List Lab} (hall:zdz ops labs=true):zwc (zlr P C ops (Mem ops labs)):=by
 simp only [zdz,zy1] at hall;obtain ⟨⟨-,-⟩,hind⟩:=hall;intro j i xo xl o l hlt hjo hjl ho hl;have h1:=ziw hind i o l zz9 hl;simp only [zy25] at h1;have h2:=zhg h1 j xo xl (by rw [zy14];simp [hlt,hjo]) (by rw [zy14];simp [hlt,hjl]);rw [zy25] at h2;exact h2.imp id .inl
theorem zta {ops:Array Oper} {labs:List Lab} (hall:zdz ops labs=true):zdg 0 ops.toList=true:=by
 simp only [zdz,zy1] at hall;exact hall.1.2
theorem zii {id:Nat} {b:zaa}:∀ {us:List (Nat×zaa)},b∈zpo id us↔(id,b)∈us
 | []=>by simp [zpo]
 | (i,c)::r=>by
  simp only [zpo];by_cases h:i=id
  . subst h;simp [zii (us:=r)]
  . have:Nat.beq i id=false:=by
     cases hb:Nat.beq i id with
     | false=>rfl
     | true=>exact (h (zy0 hb)).elim
    rw [this];simp only [cond_false,zy9,Prod.mk.injEq];rw [zii (us:=r)]
    constructor
    . exact .inr
    . rintro (⟨rfl,_⟩ | h2)
      . exact (h rfl).elim
      . exact h2
theorem zuw (us:List (Nat×zaa)):∀ (H:Nat->zaa) (id:Nat),zbb H us id=H id\/(id,zbb H us id)∈us:=by
 induction us with
 | nil=>intro H id;exact .inl rfl
 | cons e r ih =>
  obtain ⟨i,b⟩:=e;intro H id;simp only [zbb];rcases ih (upd H i b) id with h | h
  . by_cases hi:id=i
    . subst hi
      right
      rw [h,zaf];simp
    . left;rw [h,zah _ _ hi]
  . exact .inr (by simp [h])
theorem zgg {id:Nat} {b:zaa}:∀ {labs:List Lab} {r:Res} {ids:List Nat},some (r,ids)∈labs->(id,b)∈r.ups->b∈zfi id labs
 | [],_,_,h,_=>by cases h
 | none::ls,r,ids,h,hb=>by
  simp only [zfi];rcases zy9.1 h with h | h
  . cases h
  . exact zgg h hb
 | some (q,k)::ls,r,ids,h,hb=>by
  simp only [zfi,zy6];rcases zy9.1 h with h | h
  . cases h;exact .inl (zii.2 hb)
  . exact .inr (zgg h hb)
theorem zjh {a:Nat}:∀ {os:List Oper} {ls:List Lab} {i:Nat} {o:Oper} {r:Res} {ids:List Nat},os[i]?=some o->ls[i]?=some (some (r,ids))->o.dst=some a->r.val∈zdf a os ls
 | [],ls,i,o,r,ids,ho,_,_=>by simp at ho
 | _::os,[],i,o,r,ids,_,hl,_=>by simp at hl
 | x::os,l::ls,i,o,r,ids,ho,hl,hd=>by
  cases i with
  | zero =>
   simp at ho hl;subst ho;subst hl;simp only [zdf,isDst,hd,Nat.beq_refl,cond_true];exact List.mem_cons_self ..
  | succ i =>
   have ih:=zjh (os:=os) (ls:=ls) (i:=i) zz9 zz3 hd;cases l with
   | none=>simpa only [zdf] using ih
   | some q =>
    simp only [zdf];cases isDst a x.dst
    . exact ih
    . exact List.mem_cons_of_mem _ ih
theorem zcf {α:Type} {p:α->Prop}:∀ {l:List α} {x:α},zrr p l->x∈l->p x
 | y::l,x,h,hx=>by
  rcases zy9.1 hx with rfl | hx
  . exact h.1
  . exact zcf h.2 hx
theorem zuj {K:Res->Prop} {t:TypeId} {x:Operand} {d:Nat} {ev:Operand->HV} {H:Nat->zaa} (h:zat P C (.load t x) d ev H K):(∃ id,placeOf (ev x)=some id/\zqb P t (ev x) (H id) K)\/∃ cs,ev x=.rp cs:=by
 simp only [zat] at h;cases hx:ev x with
 | ptr i o=>rw [hx] at h;exact .inl ⟨i,rfl,h⟩
 | eptr i n j o=>rw [hx] at h;exact .inl ⟨i,rfl,h⟩
 | rp cs=>exact .inr ⟨cs,rfl⟩
 | _=>rw [hx] at h;obtain ⟨d,u,i,z,ht,h⟩:=zbf h;exact h.elim
theorem zuk {K:Res->Prop} {t:TypeId} {x:Operand} {d:Nat} {ev:Operand->HV} {H:Nat->zaa} {id:Nat} (hp:placeOf (ev x)=some id) (h:zqb P t (ev x) (H id) K):zat P C (.load t x) d ev H K:=by
 simp only [zat];cases hx:ev x with
 | ptr i o=>rw [hx] at h hp;cases hp;exact h
 | eptr i n j o=>rw [hx] at h hp;cases hp;exact h
 | _=>rw [hx] at hp;cases hp
theorem zsn {K:Res->Prop} {c:Call} {a d:Nat} {ev ev':Operand->HV} {H H':Nat->zaa} (hc:c.callee=.builtin .len) (ha:c.args.toList=[.tmp a]) (h:zat P C (.call c) d ev H K) (hx:ev' (.tmp a)=ev (.tmp a))
 (hs:∀ id,ev (.tmp a)=.own id->zsb (H' id) id K) (hn:(∃ id,ev (.tmp a)=.own id)\/ev (.tmp a)=.any\/ev (.tmp a)=.und):zat P C (.call c) d ev' H' K:=by
 simp only [zat,hc,ha] at h ⊢;cases hat:c.argTypes.toList with
 | nil=>simp only [hat] at h
 | cons t r=>cases r with
  | cons _ _=>simp only [hat] at h
  | nil =>
   simp only [hat] at h ⊢;unfold tyK at h ⊢;cases htd:zvy P t with
   | none=>rw [htd] at h;exact h.elim
   | some td =>
    rw [htd] at h;simp only at h ⊢;cases hk:td.k with
    | str=>rw [hk] at h;simp only at h;rcases hn with ⟨id,e⟩ | e | e<;>rw [e] at h<;>exact h.elim
    | slice e' =>
     simp only [hk] at h ⊢;rw [hx];rcases hn with ⟨id,e⟩ | e | e
     . rw [e];exact hs id e
     . rw [e] at h;exact h.elim
     . rw [e] at h;exact h.elim
    | _=>rw [hk] at h;exact h.elim
theorem zlz {s0:HS} {all:List Oper} {labs:List Lab} {j:Nat} (h:zly P s0 all labs j):∃ o r ids,nth all j=some o/\nth labs j=some (some (r,ids))/\r.ups=[] /\
 ((∃ t a,o.op=.load t (.tmp a)/\zol P s0 all labs t a r)\/∃ c a,o.op=.call c/\c.callee=.builtin .len/\c.args.toList=[.tmp a]/\zvq s0 all labs a r):=by
 have hu:∀ r:Res,(match r.ups with | []=>True | _=>False)->r.ups=[]:=fun r h=>by
  cases hr:r.ups with
  | nil=>rfl
  | cons x y=>rw [hr] at h;exact h.elim
 unfold zly at h;split at h
 . rename_i o ho
   split at h
   . rename_i t a hop
     split at h
     . rename_i r ids hl
       exact ⟨o,r,ids,ho,hl,hu r h.1,.inl ⟨t,a,hop,h.2⟩⟩
     . exact h.elim
   . rename_i c hop
     split at h
     . rename_i hc
       split at h
       . rename_i a ha
         split at h
         . rename_i r ids hl
           exact ⟨o,r,ids,ho,hl,hu r h.1,.inr ⟨c,a,hop,hc,ha,h.2⟩⟩
         . exact h.elim
       . exact h.elim
     . exact h.elim
   . exact h.elim
 . exact h.elim
def ztj (s0:HS) (ops:Array Oper) (labs:List Lab) (s:HS):Prop :=
 (∀ a,s.slot a=.und\/s.slot a∈s0.slot a::zdf a ops.toList labs)/\∀ id,s.heap id∈s0.heap id::zfi id labs
theorem zld (s0:HS) (ops:Array Oper) (labs:List Lab):ztj s0 ops labs s0:=⟨fun _=>.inr (List.mem_cons_self ..),fun _=>List.mem_cons_self ..⟩
def znp (P:Program) (C:zai) (s0:HS) (ops:Array Oper) (labs:List Lab):ztk P C ops (Mem ops labs) where
 Z:=ztj s0 ops labs
 S:=fun o l=>∃ i,ops[i]?=some o/\labs[i]?=some l/\zly P s0 ops.toList labs i
 keep:=by
  rintro o l s s' ⟨i,ho,hl⟩ h ⟨h1,h2⟩;obtain ⟨-,-,-,rfl⟩:=zdk.1 h;refine ⟨fun a=>?_,fun id=>?_⟩
  . by_cases hd:o.dst=some a
    . have e:(s.app o.dst (zfr l)).slot a=(zfr l).val:=by rw [hd];exact zaf _ _ _
      rw [e];cases l with
      | none=>exact .inl rfl
      | some q =>
       obtain ⟨r,ids⟩:=q;exact .inr (List.mem_cons_of_mem _ (zjh zz9 hl hd))
    . rw [zjl hd];exact h1 a
  . rw [zeu]
    rcases zuw (zfr l).ups s.heap id with e | e
    . rw [e];exact h2 id
    . cases l with
      | none=>simp [zfr] at e
      | some q =>
       obtain ⟨r,ids⟩:=q;exact List.mem_cons_of_mem _ (zgg (zy22 hl) e)
 same:=by
  rintro o l s s' t - ⟨i,ho,hl,hs⟩ ⟨z1,z2⟩ ⟨y1,y2⟩ h hn hw he;rw [zdk] at h ⊢;obtain ⟨h1,h2,h3,-⟩:=h;refine ⟨fun d hd=>by rw [hn];exact h1 d hd,by rw [hw];exact h2,fun r ids hr=>?_,rfl⟩;subst hr;obtain ⟨h4,h5⟩:=h3 r ids rfl;refine ⟨?_,by rw [zhy he];exact h5⟩;have ho':nth ops.toList i=some o:=by rw [zce];simpa using ho
  have hl':nth labs i=some (some (r,ids)):=by rw [zce];exact hl
  obtain ⟨o2,r2,ids2,e1,e2,-,hs⟩:=zlz hs;rw [ho'] at e1;cases e1;rw [hl'] at e2;cases e2;rcases hs with ⟨ty,a,hop,hs⟩ | ⟨c,a,hop,hc,ha,hs⟩
  . rw [hop] at h4 he ⊢
    have hea:t.slot a=s.slot a:=he (.tmp a) (by simp [Op.operands]);have hv:evalOp s.slot (.tmp a)=s.slot a:=rfl;have hvt:evalOp t.slot (.tmp a)=s.slot a:=hea;have hmem:=z1 a;rcases zuj h4 with ⟨id,hp,hld⟩ | ⟨cs,hcs⟩
    . rw [hv] at hp
      have hin:s.slot a∈s0.slot a::zdf a ops.toList labs:=hmem.resolve_left fun e=>by rw [e] at hp;cases hp
      have hst:=zcf hs hin;simp only [hp] at hst;have:=zcf hst (y2 id);exact zuk (id:=id) (by rw [hvt];exact hp) (by rw [hvt];exact this)
    . rw [hv] at hcs
      have hin:s.slot a∈s0.slot a::zdf a ops.toList labs:=hmem.resolve_left fun e=>by rw [e] at hcs;cases hcs
      have hst:=zcf hs hin;rw [hcs] at hst;exact hst.elim
  . rw [hop] at h4 he ⊢
    have hea:evalOp t.slot (.tmp a)=evalOp s.slot (.tmp a):=he (.tmp a) (by
     have:Operand.tmp a∈c.args.toList:=by rw [ha];exact zy41.2 rfl
     simp [Op.operands,Call.operands] at this ⊢
     first | exact this | exact .inr this | exact .inl this)
    have hv:evalOp s.slot (.tmp a)=s.slot a:=rfl;refine zsn hc ha h4 hea (fun id e=>?_) ?_
    . rw [hv] at e
      have hin:s.slot a∈s0.slot a::zdf a ops.toList labs:=(z1 a).resolve_left fun e2=>by rw [e2] at e;cases e
      have hst:=zcf hs hin;rw [e] at hst;have hst2:zrr (fun b=>zsb b id (·=_)) (s0.heap id::zfi id labs):=hst;exact (zcf (p:=fun b=>zsb b id (·=_)) hst2 (y2 id):_)
    . rw [hv]
      rcases z1 a with e | hin
      . exact .inr (.inr e)
      . have hst:=zcf hs hin
        cases hx:s.slot a with
        | own id=>exact .inl ⟨id,rfl⟩
        | any=>exact .inr (.inl rfl)
        | _=>rw [hx] at hst;exact hst.elim
 quiet:=by
  rintro o l - ⟨i,ho,hl,hs⟩;have hl':nth labs i=some l:=by rw [zce];exact hl
  obtain ⟨o2,r,ids,-,e2,hu,-⟩:=zlz hs;rw [hl'] at e2;cases e2;exact hu
theorem zgi {ex:List Nat} {q:Nat} {ops:Array Oper} {o:Oper} {l:Lab} {m:Nat}:∀ {xs:List Oper} {ls:List Lab} {k:Nat},zhf ex q ops o l m k xs ls=true->∀ (i:Nat) x lx,xs[i]?=some x->ls[i]?=some lx->m.testBit (k+i)=true\/Ind ops (x,lx) (o,l)\/(x.apart ops o=true/\(k+i∈ex\/q∈ex))
 | [],ls,k,h,i,x,lx,hx,hl=>by simp at hx
 | y::xs,[],k,h,i,x,lx,hx,hl=>by simp at hl
 | y::xs,ly::ls,k,h,i,x,lx,hx,hl=>by
  simp only [zhf,zy1,zy68] at h;obtain ⟨h1,h2⟩:=h;cases i with
  | zero =>
   simp at hx hl;subst hx;subst hl;rcases h1 with h1 | ⟨h1,(h3 | h3) | h3⟩
   . exact .inl h1
   . obtain ⟨z,hz,e⟩:=zy48.1 h3
     have:=zy0 e;subst this;exact .inr (.inr ⟨h1,.inl hz⟩)
   . obtain ⟨z,hz,e⟩:=zy48.1 h3
     have:=zy0 e;subst this;exact .inr (.inr ⟨h1,.inr hz⟩)
   . exact .inr (.inl ⟨h1,h3.1,h3.2⟩)
  | succ i =>
   have:=zgi h2 i x lx zz5 zz3;rw [show k+1+i=k+(i+1) by omega] at this;exact this
theorem zhq {ex:List Nat} {ops:Array Oper} {labs:List Lab} {ms:List Nat}:∀ {os:List Oper} {ls:List Lab} {k:Nat},zoc ex ops labs ms k os ls=true->∀ (i:Nat) o l,os[i]?=some o->ls[i]?=some l->zhf ex (k+i) ops o l ((nth ms (k+i)).getD 0) 0 (ops.toList.take (k+i)) (labs.take (k+i))=true
 | [],ls,k,h,i,x,lx,hx,hl=>by simp at hx
 | y::os,[],k,h,i,x,lx,hx,hl=>by simp at hl
 | y::os,ly::ls,k,h,i,o,l,hx,hl=>by
  simp only [zoc,zy1] at h;cases i with
  | zero=>simp at hx hl;subst hx;subst hl;exact h.1
  | succ i =>
   have:=zhq h.2 i o l zz5 zz3;rw [show k+1+i=k+(i+1) by omega] at this;exact this
theorem zrv {s0:HS} {ex:List Nat} {ops:Array Oper} {labs:List Lab} (hall:zdv ex ops labs=true) (hst:zrr (zly P s0 ops.toList labs) ex):zwc (znp P C s0 ops labs):=by
 simp only [zdv,zy1] at hall;obtain ⟨-,hind⟩:=hall;intro j i xo xl o l hlt hjo hjl ho hl;have h1:=zhq hind i o l zz9 hl;simp only [zy25] at h1;have h2:=zgi h1 j xo xl (by rw [zy14];simp [hlt,hjo]) (by rw [zy14];simp [hlt,hjl]);rw [zy25] at h2;rcases h2 with h2 | h2 | ⟨h2,h3⟩
 . exact .inl h2
 . exact .inr (.inl h2)
 . refine .inr (.inr ⟨h2,?_⟩)
   rcases h3 with h3 | h3
   . exact .inl ⟨j,hjo,hjl,zcf hst h3⟩
   . exact .inr ⟨i,ho,hl,zcf hst h3⟩
theorem ztx {ex:List Nat} {ops:Array Oper} {labs:List Lab} (hall:zdv ex ops labs=true):zdg 0 ops.toList=true:=by
 simp only [zdv,zy1] at hall;exact hall.1
end
end Go.HL
namespace Go.HL
section
variable {Γ:Ctx} {P:Program} {C:zai}
section
variable {m m':zbj} {σ:Ren} {w:World} {R R':Nat->Prop}
theorem zcj.sub (hR:∀ b,R b->R' b) {x:PV} {v:Value} (h:zcj w R x v):zcj w R' x v:=h.mono fun b hb=>⟨rfl,hR b hb⟩
mutual
theorem zrf (hm:∀ i j,σ i=some (some j)->m' i=m j) (hn:∀ i,σ i=some none->m' i=some ⟨0,0,0,true⟩) (hR:∀ b,R b->R' b) :
 (x:HV)->(v:Value)->zeb σ x=true->zad m w R (rn σ x) v->zad m' w R' x v
 | .p x,v,_,h=>by simp only [rn,zad] at h ⊢;exact h.sub hR
 | .ptr i o,v,ho,h=>by
  exact yy2
 | .eptr i n k o,v,ho,h=>by
  exact yy2
 | .rp c,v,_,h=>by
  exact yy16
 | .own i,v,ho,h=>by
  simp only [zeb] at ho;split at ho
  . rename_i o hj
    cases o with
    | some j =>
     simp only [rn,hj,zad] at h ⊢;obtain ⟨l,h1,h2⟩:=h;exact ⟨l,by rw [hm i j hj];exact h1,h2⟩
    | none =>
     simp only [rn,hj,zad] at h ⊢;cases h;exact ⟨_,hn i hj,rfl⟩
  . cases ho
 | .osl i n o len,v,ho,h=>by
  simp only [zeb] at ho;split at ho
  . rename_i j hj
    simp only [rn,hj,zad] at h ⊢;obtain ⟨l,a,h1,h2⟩:=h;exact ⟨l,a,by rw [hm i j hj];exact h1,h2⟩
  . cases ho
 | .mp i,v,ho,h=>by
  exact yy2
 | .agg l,v,ho,h=>by
  exact yy4
 | .tup l,v,ho,h=>by
  exact yy4
 | .clo f l,v,ho,h=>by
  exact yy4
 | .und,v,_,h=>by simp only [rn,zad] at h ⊢;exact h
 | .any,v,_,h=>by simp only [zad]
theorem zep (hm:∀ i j,σ i=some (some j)->m' i=m j) (hn:∀ i,σ i=some none->m' i=some ⟨0,0,0,true⟩) (hR:∀ b,R b->R' b) :
 (x:List HV)->(v:List Value)->zfd σ x=true->zae m w R (rnL σ x) v->zae m' w R' x v
 | [],v,_,h=>by simp only [rnL,zae] at h ⊢;exact h
 | x::xs,v,ho,h=>by
  simp only [zfd,zy1] at ho;simp only [rnL,zae] at h ⊢;obtain ⟨a,r,h1,h2,h3⟩:=h;exact ⟨a,r,h1,zrf hm hn hR x a ho.1 h2,zep hm hn hR xs r ho.2 h3⟩
end
theorem zgc:∀ (l:List HV),(rnL σ l).length=l.length
 | []=>rfl
 | x::l=>by simp only [rnL,zy35,zgc l]
theorem zib (hm:∀ i j,σ i=some (some j)->m' i=m j) (hn:∀ i,σ i=some none->m' i=some ⟨0,0,0,true⟩) (hR:∀ b,R b->R' b) {l:Loc} {b:zcq}
 (ho:zgd σ b=true) (h:zeh m w R l (rnB σ b)):zeh m' w R' l b:=by
 cases b with
 | cells t cs =>
  obtain ⟨h1,arr,h2,h3⟩:=h;rw [zgc] at h1;exact ⟨h1,arr,h2,zep hm hn hR _ _ ho h3⟩
 | map kc agg es =>
  obtain ⟨h1,arr,c,h2,h3,h4⟩:=h;exact ⟨h1,arr,c,h2,h3.mono fun b hb=>⟨rfl,hR b hb⟩,h4⟩
 | iter kc agg left cur =>
  obtain ⟨h1,bm,arr,c,seen,h2,h3⟩:=h;exact ⟨h1,bm,arr,c,seen,h2,h3.mono fun b hb=>⟨rfl,hR b hb⟩⟩
 | row t n rows =>
  exact yy10
 | buf t n rows c =>
  exact yy19
end
def zcc (σ:Ren) (m:zbj):zbj:=fun i=>match σ i with
 | none=>none
 | some none=>some ⟨0,0,0,true⟩
 | some (some j)=>m j
theorem zvz.conc {m:zbj} {s t:HS} {a:Act} {w:World} (hc:zeg Γ P m s a w) (h:zvz s t):∃ m',zeg Γ P m' t a w:=by
 obtain ⟨hn,hpp,σ,hs,hh,hi,hpin⟩:=h;have hm:∀ i j,σ i=some (some j)->zcc σ m i=m j:=fun i j hj=>by simp only [zcc,hj]
 have hnn:∀ i,σ i=some none->zcc σ m i=some ⟨0,0,0,true⟩:=fun i hj=>by simp only [zcc,hj]
 have zro:zeh (zcc σ m) w (RR Γ (zcc σ m) t.heap w) ⟨0,0,0,true⟩=fun b=>zeh (zcc σ m) w (RR Γ (zcc σ m) t.heap w) ⟨0,0,0,true⟩ b:=rfl
 have hlive:∀ id b,t.heap id=.live b->zgd σ b=true/\((∃ j,σ id=some (some j)/\s.heap j=.live (rnB σ b))\/(σ id=some none/\zvr b)):=fun id b hb=>by
  have:=hh id;rw [hb] at this;exact this
 have hown:∀ b,zes (zcc σ m) t.heap b->zes m s.heap b:=by
  rintro b ⟨id,l,blk,h1,h2,h3,h4⟩;obtain ⟨-,⟨j,hj,hsj⟩ | ⟨hj,-⟩⟩:=hlive id blk h1
  . rw [hm id j hj] at h2
    exact ⟨j,l,_,hsj,h2,h3,h4⟩
  . rw [hnn id hj] at h2;cases h2;cases h3
 have hR:∀ b,RR Γ m s.heap w b->RR Γ (zcc σ m) t.heap w b:=fun b hb=>⟨hb.1,hb.2.1,fun ho=>hb.2.2 (hown b ho)⟩
 have hok:=hc.heap;refine ⟨zcc σ m,⟨hok.size,hok.os,hok.tape,hok.output,hok.frame,?_,?_,?_,?_,hok.dom⟩,?_,by rw [hc.size,hn],hc.defers,fun id l hp hl=>?_⟩
 . intro id hf
   have:=hh id;rw [hf] at this;simp only at this;simp only [zcc,this]
 . intro id b hb
   obtain ⟨hob,⟨j,hj,hsj⟩ | ⟨hj,hnb⟩⟩:=hlive id b hb
   . obtain ⟨l,h1,h2,h3⟩:=hok.live j _ hsj
     exact ⟨l,by rw [hm id j hj];exact h1,zib hm hnn hR hob h2,h3⟩
   . refine ⟨_,hnn id hj,?_,fun h=>by cases h⟩
     cases b with
     | cells=>exact hnb.elim
     | map=>exact hnb.elim
     | iter=>exact hnb.elim
     | buf=>exact hnb.elim
     | row ty n rows =>
      simp only [zvr] at hnb;subst hnb;exact ⟨rfl,by simp,.inl ⟨rfl,rfl⟩⟩
 . intro id b hb
   have:=hh id;rw [hb] at this;obtain ⟨hob,j,hj,hsj⟩:=this;rcases hsj with hsj | hsj
   . obtain ⟨l,h1,h2,h3⟩:=hok.live j _ hsj
     refine ⟨l,by rw [hm id j hj];exact h1,zib hm hnn hR hob h2,fun hl=>?_⟩;obtain ⟨h4,h5⟩:=h3 hl;refine ⟨?_,h5,?_⟩
     . rcases h4 with h4 | h4
       . exact .inl (hok.dom _ h4)
       . exact .inr h4
     . rintro ⟨id',l',blk,h6,h7,h8,h9⟩
       obtain ⟨-,⟨j',hj',hsj'⟩ | ⟨hj',-⟩⟩:=hlive id' blk h6
       . rw [hm id' j' hj'] at h7
         have:=hok.inj j j' _ _ l l' hsj hsj' h1 h7 hl h8 h9.symm;subst this;have:=hi id' id blk j h6 (by rw [hb];exact zaa.noConfusion) hj' hj;subst this;rw [hb] at h6;cases h6
       . rw [hnn id' hj'] at h7;cases h7;cases h8
   . obtain ⟨l,h1,h2,h3⟩:=hok.ro j _ hsj
     exact ⟨l,by rw [hm id j hj];exact h1,zib hm hnn hR hob h2,fun hl=>hR _ (h3 hl)⟩
 . intro id id' b b' l l' h1 h2 h3 h4 h5 h6 h7
   obtain ⟨-,⟨j,hj,hsj⟩ | ⟨hj,-⟩⟩:=hlive id b h1
   . obtain ⟨-,⟨j',hj',hsj'⟩ | ⟨hj',-⟩⟩:=hlive id' b' h2
     . rw [hm id j hj] at h3
       rw [hm id' j' hj'] at h4;have:=hok.inj j j' _ _ l l' hsj hsj' h3 h4 h5 h6 h7;subst this;exact hi id id' b j h1 (by rw [h2];exact zaa.noConfusion) hj hj'
     . rw [hnn id' hj'] at h4;cases h4;cases h6
   . rw [hnn id hj] at h3;cases h3;cases h5
 . intro i
   rcases hs i with h1 | ⟨h1,h2⟩
   . rw [h1];simp only [zad]
   . refine zrf hm hnn hR _ _ h1 ?_
     rw [h2];exact hc.slots i
 . obtain ⟨hmp,hml⟩:=hc.pin id l hp hl
   exact ⟨by rw [hpp];exact hmp,by rw [hm id id (hpin id hmp)];exact hml⟩
section
variable {m:zbj} {w:World} {R R':Nat->Prop}
theorem zog {l:Loc} {t:TypeId} {n:Nat} {rows:List (List PV)} (hb:zeh m w R l (.row t n rows)) (hR:l.nil=false->R l.blk):zcj w R (.sl n rows) (hdr l):=by
 obtain ⟨h1,h2,h3⟩:=hb;rcases h3 with ⟨hn,h4⟩ | ⟨hn,h4,h5,arr,h6,h7,h8⟩
 . subst h4;rw [show hdr l=.slice none 0 0 by simp [hdr,hn]];exact .sl0 _ _ _ (by simp [maxLen])
 . rw [show hdr l=.slice (some ⟨l.blk,0,none⟩) rows.length l.cap by simp [hdr,hn,h1]]
   refine .sl n rows l.blk 0 l.cap (fun k=>(arr[k]?).getD undef) h4 h5 h2 (hR hn) (fun k x hk=>?_) (fun k x hk=>?_)
   . obtain ⟨cv,h9,_⟩:=h8 k x hk
     rw [zy25,cell_of_row w l.blk k arr t (0,0) h6,h9];rfl
   . obtain ⟨cv,h9,h10⟩:=h8 k x hk
     rw [h9];exact h10
mutual
theorem ztm {fz:List Nat} {H:Nat->zaa} (hR:∀ b,R b->R' b)
 (hf:∀ id t n rows,id∈fz->(H id=.live (.row t n rows)\/H id=.ro (.row t n rows))->∃ l,m id=some l/\zeh m w R l (.row t n rows)/\(l.nil=false->R' l.blk)) :
 (x:HV)->(v:Value)->zad m w R x v->zad m w R' (fzV fz H x) v
 | .own id,v,h=>by
  have hold:zad m w R' (.own id) v:=by simp only [zad] at h ⊢;exact h
  simp only [zad] at h;obtain ⟨l,h1,rfl⟩:=h;simp only [fzV];cases hm:fz.any (Nat.beq id) with
  | false=>exact hold
  | true =>
   have hin:id∈fz:=by
    obtain ⟨y,hy,he⟩:=zy48.1 hm;rw [zy0 he];exact hy
   have key:∀ t n rows,(H id=.live (.row t n rows)\/H id=.ro (.row t n rows))->zad m w R' (.p (.sl n rows)) (hdr l):=by
    intro t n rows hb;obtain ⟨l',h2,h3,h4⟩:=hf id t n rows hin hb;rw [h1] at h2;cases h2;simp only [zad];refine zog (t:=t) (h3.mono (fun _ _ h=>h) (fun b hb=>⟨rfl,hR b hb⟩) fun _=>rfl) h4
   simp only [cond_true];split
   . rename_i hb;exact key _ _ _ (.inl hb)
   . rename_i hb;exact key _ _ _ (.inr hb)
   . exact hold
 | .agg l,v,h=>by
  simp only [fzV,zad] at h ⊢;obtain ⟨arr,h1,h2⟩:=h;exact ⟨arr,h1,zjr hR hf l _ h2⟩
 | .tup l,v,h=>by
  simp only [fzV,zad] at h ⊢;obtain ⟨arr,h1,h2⟩:=h;exact ⟨arr,h1,zjr hR hf l _ h2⟩
 | .p x,v,h=>zad.mono (fun _ _ h=>h) (fun b hb=>⟨rfl,hR b hb⟩) (.p x) v h
 | .ptr i o,v,h=>zad.mono (fun _ _ h=>h) (fun b hb=>⟨rfl,hR b hb⟩) (.ptr i o) v h
 | .eptr i n k o,v,h=>zad.mono (fun _ _ h=>h) (fun b hb=>⟨rfl,hR b hb⟩) (.eptr i n k o) v h
 | .rp c,v,h=>zad.mono (fun _ _ h=>h) (fun b hb=>⟨rfl,hR b hb⟩) (.rp c) v h
 | .osl i n o l,v,h=>zad.mono (fun _ _ h=>h) (fun b hb=>⟨rfl,hR b hb⟩) (.osl i n o l) v h
 | .mp i,v,h=>zad.mono (fun _ _ h=>h) (fun b hb=>⟨rfl,hR b hb⟩) (.mp i) v h
 | .clo f c,v,h=>zad.mono (fun _ _ h=>h) (fun b hb=>⟨rfl,hR b hb⟩) (.clo f c) v h
 | .und,v,h=>zad.mono (fun _ _ h=>h) (fun b hb=>⟨rfl,hR b hb⟩) .und v h
 | .any,v,h=>zad.mono (fun _ _ h=>h) (fun b hb=>⟨rfl,hR b hb⟩) .any v h
theorem zjr {fz:List Nat} {H:Nat->zaa} (hR:∀ b,R b->R' b)
 (hf:∀ id t n rows,id∈fz->(H id=.live (.row t n rows)\/H id=.ro (.row t n rows))->∃ l,m id=some l/\zeh m w R l (.row t n rows)/\(l.nil=false->R' l.blk)) :
 (x:List HV)->(v:List Value)->zae m w R x v->zae m w R' (fzL fz H x) v
 | [],v,h=>by simp only [fzL,zae] at h ⊢;exact h
 | x::xs,v,h=>by
  simp only [fzL,zae] at h ⊢;obtain ⟨a,r,h1,h2,h3⟩:=h;exact ⟨a,r,h1,ztm hR hf x a h2,zjr hR hf xs r h3⟩
end
theorem zis {fz:List Nat} {H:Nat->zaa}:∀ (l:List HV),(fzL fz H l).length=l.length
 | []=>rfl
 | x::l=>by simp only [fzL,zy35,zis l]
end
mutual
theorem zpw {H:Nat->zaa}:(x:HV)->fzV [] H x=x
 | .own id=>rfl
 | .agg l=>by simp only [fzV,zjq l]
 | .tup l=>by simp only [fzV,zjq l]
 | .p x=>rfl
 | .ptr i o=>rfl
 | .eptr i n k o=>rfl
 | .rp c=>rfl
 | .osl i n o l=>rfl
 | .mp i=>rfl
 | .clo f c=>rfl
 | .und=>rfl
 | .any=>rfl
theorem zjq {H:Nat->zaa}:(x:List HV)->fzL [] H x=x
 | []=>rfl
 | x::r=>by simp only [fzL,zpw x,zjq r]
end
theorem ztz (s:HS):fzS [] s=s:=by
 have h1:(fun i=>fzV [] s.heap (s.slot i))=s.slot:=funext fun i=>zpw _
 have h2:fzH [] s.heap=s.heap:=by
  funext id
  unfold fzH;split<;>rename_i h<;>rw [h]<;>first | rfl | (rw [zjq])
 unfold fzS;rw [h1,h2]
theorem zgu {fz:List Nat} {H:Nat->zaa} {id:Nat} {b:zcq} (h:fzH fz H id=.live b):∃ c,H id=.live c:=by
 unfold fzH at h;split at h<;>first | (rename_i h1;exact ⟨_,h1⟩) | cases h
theorem zeg.fz {m:zbj} {s:HS} {a:Act} {w:World} (fz:List Nat) (hc:zeg Γ P m s a w):zeg Γ P m (fzS fz s) a w:=by
 have hok:=hc.heap;have hown:∀ b,zes m (fzH fz s.heap) b->zes m s.heap b:=by
  rintro b ⟨id,l,blk,h1,h2,h3,h4⟩;obtain ⟨c,hcc⟩:=zgu h1;exact ⟨id,l,c,hcc,h2,h3,h4⟩
 have hR:∀ b,RR Γ m s.heap w b->RR Γ m (fzH fz s.heap) w b:=fun b hb=>⟨hb.1,hb.2.1,fun ho=>hb.2.2 (hown b ho)⟩
 have hfz:∀ id t n rows l,id∈fz->s.heap id=.live (.row t n rows)->m id=some l->l.nil=false->RR Γ m (fzH fz s.heap) w l.blk:=by
  intro id t n rows l hi hb hm hl;obtain ⟨l',h1,h2,h3⟩:=hok.live id _ hb;rw [hm] at h1;cases h1;obtain ⟨h4,h5⟩:=h3 hl;refine ⟨?_,h5,?_⟩
  . rcases h4 with h4 | h4
    . exact .inl (hok.dom _ h4)
    . exact .inr h4
  . rintro ⟨id',l',blk,h6,h7,h8,h9⟩
    obtain ⟨c,hcc⟩:=zgu h6;have:=hok.inj id id' _ _ l l' hb hcc hm h7 hl h8 h9.symm;subst this;unfold fzH at h6;rw [hb] at h6;have hin:fz.any (Nat.beq id)=true:=zy48.2 ⟨id,hi,Nat.beq_refl id⟩;simp only [hin,cond_true] at h6;cases h6
 have hf:∀ id t n rows,id∈fz->(s.heap id=.live (.row t n rows)\/s.heap id=.ro (.row t n rows))->∃ l,m id=some l/\zeh m w (RR Γ m s.heap w) l (.row t n rows)/\(l.nil=false->RR Γ m (fzH fz s.heap) w l.blk):=by
  intro id t n rows hi hb;rcases hb with hb | hb
  . obtain ⟨l,h1,h2,h3⟩:=hok.live id _ hb
    exact ⟨l,h1,h2,fun hl=>hfz id t n rows l hi hb h1 hl⟩
  . obtain ⟨l,h1,h2,h3⟩:=hok.ro id _ hb
    exact ⟨l,h1,h2,fun hl=>hR _ (h3 hl)⟩
 have hB:∀ l b,zeh m w (RR Γ m s.heap w) l b->zeh m w (RR Γ m (fzH fz s.heap) w) l b:=fun l b h=>h.mono (fun _ _ h=>h) (fun b hb=>⟨rfl,hR b hb⟩) fun _=>rfl
 refine ⟨⟨hok.size,hok.os,hok.tape,hok.output,hok.frame,?_,?_,?_,?_,hok.dom⟩,fun t=>ztm hR hf _ _ (hc.slots t),hc.size,hc.defers,hc.pin⟩
 . intro id h
   refine hok.free id ?_;have h:fzH fz s.heap id=.free:=h;unfold fzH at h;split at h<;>first | assumption | cases h | skip
   rename_i t n rows hb;cases hx:fz.any (Nat.beq id)<;>simp only [hx,cond_true,cond_false] at h<;>cases h
 . intro id b h
   have h:fzH fz s.heap id=.live b:=h;unfold fzH at h;split at h
   . cases h
   . cases h
   . cases h
   . rename_i t n rows hb
     cases hx:fz.any (Nat.beq id)<;>simp only [hx,cond_true,cond_false] at h<;>cases h
     obtain ⟨l,h1,h2,h3⟩:=hok.live id _ hb;exact ⟨l,h1,hB _ _ h2,h3⟩
   . rename_i t cs hb
     cases h;obtain ⟨l,h1,h2,h3⟩:=hok.live id _ hb;obtain ⟨h4,arr,h5,h6⟩:=h2;exact ⟨l,h1,⟨by rw [zis];exact h4,arr,h5,zjr hR hf _ _ h6⟩,h3⟩
   . rename_i hb
     exact yy17
   . rename_i hb
     exact yy17
   . rename_i hb
     exact yy17
 . intro id b h
   have h:fzH fz s.heap id=.ro b:=h;unfold fzH at h;split at h
   . cases h
   . cases h
   . rename_i hb
     cases h;obtain ⟨l,h1,h2,h3⟩:=hok.ro id _ hb;exact ⟨l,h1,hB _ _ h2,fun hl=>hR _ (h3 hl)⟩
   . rename_i t n rows hb
     cases hx:fz.any (Nat.beq id)<;>simp only [hx,cond_true,cond_false] at h<;>cases h
     have hin:id∈fz:=by
      obtain ⟨y,hy,he⟩:=zy48.1 hx;rw [zy0 he];exact hy
     obtain ⟨l,h1,h2,h3⟩:=hok.live id _ hb;exact ⟨l,h1,hB _ _ h2,fun hl=>hfz id t n rows l hin hb h1 hl⟩
   . cases h
   . cases h
   . cases h
   . cases h
 . intro id id' b b' l l' h1 h2
   obtain ⟨c,hc1⟩:=zgu h1;obtain ⟨c',hc2⟩:=zgu h2;exact hok.inj id id' c c' l l' hc1 hc2
theorem HLe.conc {m:zbj} {s t:HS} {a:Act} {w:World} (hc:zeg Γ P m s a w) (h:HLe s t):∃ m',zeg Γ P m' t a w:=by
 obtain ⟨fz,h⟩:=h;exact h.conc (hc.fz fz)
theorem zeg.drew {m:zbj} {s:HS} {a:Act} {w:World} (hc:zeg Γ P m s a w):zeg Γ P m s a {w with drawn:=w.drawn+1} :=
 ⟨hc.heap.drew,fun t=>(WS.drew hc.heap).rep (hc.slots t),hc.size,hc.defers,hc.pin⟩
theorem least {p:Nat->Prop} (h:∃ n,p n):∃ n,p n/\∀ k,p k->n<=k:=by
 obtain ⟨n,hn⟩:=h
 induction n using Nat.strongRecOn with
 | ind n ih =>
  by_cases hk:∃ k,k<n/\p k
  . obtain ⟨k,h1,h2⟩:=hk;exact ih k h1 h2
  . exact ⟨n,hn,fun k hp=>Nat.le_of_not_lt fun hlt=>hk ⟨k,hlt,hp⟩⟩
theorem zpp {c:Code} {Q:Exit->Act->World->Prop} {a:Act} {w:World} {β:Type} (J:β->Act->World->Prop) (μ:β->Nat) (x₀:β) (h₀:J x₀ a w)
 (round:∀ x a w,J x a w->c.wp P (Exit.then (fun a' w'=>∃ x',J x' a' w'/\μ x'<μ x) Q) a w):(Code.loop c).wp P Q a w:=by
 have hex:∀ a w,(∃ x,J x a w)->∃ n,(∃ x,J x a w/\μ x=n)/\∀ k,(∃ x,J x a w/\μ x=k)->n<=k:=fun a w ⟨x,hx⟩=>least ⟨μ x,x,hx,rfl⟩
 let ν:Act->World->Nat:=fun a w=>open Classical in if h:∃ x,J x a w then Classical.choose (hex a w h) else 0
 refine wp_loop (fun a w=>∃ x,J x a w) ν ⟨x₀,h₀⟩ fun a w hI=>?_
 have hν:∀ a w (h:∃ x,J x a w),(∃ x,J x a w/\μ x=ν a w)/\∀ k,(∃ x,J x a w/\μ x=k)->ν a w<=k:=by
  intro a w h;have:=Classical.choose_spec (hex a w h);simp only [ν,dif_pos h];exact this
 obtain ⟨⟨x,hx,hxe⟩,-⟩:=hν a w hI;refine wp_mono (round x a w hx) fun e a' w' he=>?_
 cases e<;>simp only [Exit.then] at he ⊢<;>try exact he
 obtain ⟨x',hx',hlt⟩:=he;refine ⟨⟨x',hx'⟩,?_⟩;have:=(hν a' w' ⟨x',hx'⟩).2 _ ⟨x',hx',rfl⟩;omega
def zts:HX->Exit
 | .normal=>.normal
 | .exit i=>.exit i
 | .ret=>.ret
theorem zqk (hm:P.follows .mixedOrders=true) (hC:zcx P C) (hL:zbz C):∀ (c:Code) (s:HS) (Q:HX->HS->Prop) (Q':Exit->Act->World->Prop) (m:zbj) (a:Act) (w:World),
 hwp P C c s Q->zeg Γ P m s a w->(∀ e s' m' a' w',Q e s'->zeg Γ P m' s' a' w'->Q' (zts e) a' w')->c.wp P Q' a w:=by
 intro c
 induction c with
 | skip=>intro s Q Q' m a w h hc hQ;exact wp_skip (hQ .normal s m a w h hc)
 | exit id=>intro s Q Q' m a w h hc hQ;exact wp_exit (hQ (.exit id) s m a w h hc)
 | ret=>intro s Q Q' m a w h hc hQ;exact wp_ret (hQ .ret s m a w h hc)
 | region id ops draw =>
  intro s Q Q' m a w h hc hQ;cases draw with
  | false =>
   replace h:zki P C ops.toList ops.toList s [] (fun _ s=>Q .normal s):=h;exact wp_region_list (zhn hC ops.toList s [] _ m a w h hc fun labs s' m' a' w' hq hc'=>hQ .normal s' m' a' w' hq hc')
  | true =>
   replace h:(bif ops.toList.all fun o=>zik o.op then zki P C ops.toList ops.toList s [] fun labs s'=>zuc P s ops labs.reverse (Q .normal s') else False):=h;have hdet:(ops.toList.all fun o=>zik o.op)=true:=by
    cases hb:(ops.toList.all fun o=>zik o.op) with
    | true=>rfl
    | false=>rw [hb] at h;exact h.elim
   rw [hdet] at h;simp only [cond_true] at h;obtain ⟨labs,sEnd,hl,hev,hall,hq⟩:=zfo ops.toList s [] _ (fun o ho=>zy19.1 hdet o ho) h;simp only [List.append_nil,List.reverse_reverse] at hall;obtain ⟨z,hup,hmay,hz⟩:∃ z:ztk P C ops (Mem ops labs),zdg 0 ops.toList=true/\zwc z/\z.Z s:=by
    rcases hall with hall | ⟨ex,hall,hst⟩
    . exact ⟨zlr P C ops _,zta hall,zra hall,trivial⟩
    . exact ⟨znp P C s ops labs,ztx hall,zrv hall hst,zld s ops labs⟩
   refine wp_region_any hm (zve hC hL hup z hmay (fun m' a' w' hc'=>hQ .normal sEnd m' a' w' hq hc') ops.size _ (zlq 0 ops.toList labs) s m a _ ?_ ?_ (by rw [zkd];exact hev) hz hc.drew)
   . refine ⟨fun i o l hi=>?_,fun j=>?_,zia _ _ _,fun k o ho hk=>?_,by simp⟩
     . obtain ⟨-,h1,h2⟩:=zgz hi
       exact ⟨by simpa using h1,by simpa using h2⟩
     . constructor
       . intro hj
         have hlt:j<ops.size:=by
          rcases zy39 j ops.size with h' | h'
          . exact h'
          . simp [h'] at hj
         have:=zoh (k:=0) (os:=ops.toList) (ls:=labs) (i:=j) hl (by simpa using hlt)
         simpa using this
       . intro hj
         obtain ⟨⟨i,o,l⟩,hi,rfl⟩:=zy4.1 hj;obtain ⟨-,h1,-⟩:=zgz hi;have:i<ops.size:=by
          have:=(zy8.1 h1).1
          simpa using this
         simp [this]
     . exfalso
       have:k<ops.size:=(zy21.1 ho).1;simp [this] at hk
   . have:((zlq 0 ops.toList labs).map (·.2)).length=ops.size:=by rw [zkd];simp [hl]
     simp only [zy37] at this;omega
 | seq x y ihx ihy =>
  intro s Q Q' m a w h hc hQ;replace h:(bif zql x then zto (hwp P C x) (hwp P C y) else zvo (hwp P C x) (hwp P C y)) s Q:=h;have hseq:(hwp P C x) s (fun e s'=>match e with
   | .normal=>hwp P C y s' Q
   | .exit id=>Q (.exit id) s'
   | .ret=>Q .ret s')->(Code.seq x y).wp P Q' a w:=by
   intro h;refine wp_seq (ihx s _ _ m a w h hc fun e s' m' a' w' he hc'=>?_);cases e with
   | normal=>exact ihy s' Q Q' m' a' w' he hc' hQ
   | exit i=>exact hQ (.exit i) s' m' a' w' he hc'
   | ret=>exact hQ .ret s' m' a' w' he hc'
  cases hb:zql x with
  | false =>
   rw [hb] at h;exact hseq h
  | true =>
   rw [hb] at h;cases h with
   | go h=>exact hseq h
   | meet α I h k =>
    refine wp_seq (ihx s _ _ m a w h hc fun e s' m' a' w' he hc'=>?_);cases e with
    | normal =>
     obtain ⟨x',hle⟩:=he;obtain ⟨m2,hc2⟩:=hle.conc hc';exact ihy (I x') Q Q' m2 a' w' (k x') hc2 hQ
    | exit i=>exact hQ (.exit i) s' m' a' w' he hc'
    | ret=>exact hQ .ret s' m' a' w' he hc'
 | cond x t e iht ihe =>
  intro s Q Q' m a w h hc hQ;replace h:zqj x (hwp P C t) (hwp P C e) s Q:=h;simp only [zqj] at h;split at h
  . rename_i b hb
    have hv:=hc.eval x;rw [hb] at hv;have hbv:=zcg hv;rcases zcs h with ⟨rfl,h2⟩ | ⟨rfl,h2⟩
    . exact wp_cond_true hbv (iht s Q Q' m a w h2 hc hQ)
    . exact wp_cond_false hbv (ihe s Q Q' m a w h2 hc hQ)
  . exact h.elim
 | block id c ih =>
  intro s Q Q' m a w h hc hQ;replace h:zmv id (hwp P C c) s Q:=h;simp only [zmv] at h;refine wp_block (ih s _ _ m a w h hc fun e s' m' a' w' he hc'=>?_);cases e with
  | normal=>exact hQ .normal s' m' a' w' he hc'
  | exit i =>
   simp only [zts,Exit.inBlock];simp only at he;cases hb:Nat.beq i id with
   | true =>
    rw [hb] at he;rw [zy11 (zy0 hb)];exact hQ .normal s' m' a' w' he hc'
   | false =>
    rw [hb] at he;rw [zy7 (fun e=>by subst e;simp at hb)];exact hQ (.exit i) s' m' a' w' he hc'
  | ret=>exact hQ .ret s' m' a' w' he hc'
 | loop c ih =>
  intro s Q Q' m a w h hc hQ;replace h:zvl (hwp P C c) s Q:=h;obtain ⟨α,I,μ,x₀,h0,hr⟩:=h;obtain ⟨m0,hc0⟩:=h0.conc hc;refine zpp (fun x a w=>∃ m,zeg Γ P m (I x) a w) μ x₀ ⟨m0,hc0⟩ fun x a w ⟨m,hc⟩=>?_
  refine ih (I x) _ _ m a w (hr x) hc fun e s' m' a' w' he hc'=>?_
  cases e with
  | normal =>
   obtain ⟨x',hle,hlt⟩:=he;obtain ⟨m2,hc2⟩:=hle.conc hc';exact ⟨x',⟨m2,hc2⟩,hlt⟩
  | exit i=>exact hQ (.exit i) s' m' a' w' he hc'
  | ret=>exact hQ .ret s' m' a' w' he hc'
 | _=>intro s Q Q' m a w h;exact h.elim
end
end Go.HL
namespace Go.HL
mutual
def zbu (H:Nat->zaa):HV->(HV->List (Nat×zaa)->Prop)->Prop
 | .p x,K=>K (.p x) []
 | .rp c,K=>K (.rp c) []
 | .und,K=>K .und []
 | .any,K=>K .any []
 | .own id,K=>hpv H (.own id) fun v us=>K (.p v) us
 | .osl id n off len,K=>zaq (H id) fun b=>match b with
  | .row t n' rows=>bif Nat.beq n n' then zkj rows off len fun rs=>K (.p (.sl n rs)) [(id,.ro (.row t n' rows))] else False
  | _=>False
 | .ptr id off,K=>zaq (H id) fun b=>match b with
  | .cells t cs=>zmq H cs fun ps us=>K (.rp (ps.drop off)) ((id,.ro (.cells t cs))::us)
  | _=>False
 | .eptr id n i off,K=>zaq (H id) fun b=>match b with
  | .row t n' rows=>bif Nat.beq n n' then zms rows i fun r=>K (.rp (r.drop off)) [(id,.ro (.row t n' rows))] else False
  | _=>False
 | .mp _,_=>False
 | .agg l,K=>zdm H l fun l us=>K (.agg l) us
 | .tup l,K=>zdm H l fun l us=>K (.tup l) us
 | .clo f l,K=>zdm H l fun l us=>K (.clo f l) us
def zdm (H:Nat->zaa):List HV->(List HV->List (Nat×zaa)->Prop)->Prop
 | [],K=>K [] []
 | x::xs,K=>zbu H x fun y u=>zdm H xs fun ys us=>K (y::ys) (u++us)
end
def zqr (o:Option Nat):HV->HV
 | .p x=>.p (zlj o x)
 | x=>x
def zhw:List (Option Nat)->List HV->List HV
 | _,[]=>[]
 | [],xs=>xs
 | o::os,x::xs=>zqr o x::zhw os xs
def zli (P:Program) (t:TypeId) (x:HV):HV:=match x with
 | .p x=>match lay P t with
  | o::_=>.p (zlj o x)
  | []=>.p x
 | .agg l=>.agg (zhw (lay P t) l)
 | x=>x
def normArgs (P:Program):List TypeId->List HV->List HV
 | _,[]=>[]
 | [],xs=>xs
 | t::ts,x::xs=>zli P t x::normArgs P ts xs
def zhx (P:Program) (ts:List TypeId) (x:HV):HV:=match ts with
 | [t]=>zli P t x
 | ts=>match x with
  | .tup l=>.tup (normArgs P ts l)
  | x=>x
def zsz (P:Program) (f:FuncId):List TypeId:=match P.funcs[f]? with
 | some fn=>fn.params.toList
 | none=>[]
mutual
def zir:HV->(HV->Prop)->Prop
 | .p x,K=>match x with
  | .v a=>K (.p (.v a))
  | .sl n r=>K (.p (.sl n r))
 | .ptr i o,K=>K (.ptr i o)
 | .eptr i n j o,K=>K (.eptr i n j o)
 | .rp c,K=>K (.rp c)
 | .own i,K=>K (.own i)
 | .osl i n o l,K=>K (.osl i n o l)
 | .mp i,K=>K (.mp i)
 | .agg l,K=>zem l fun l=>K (.agg l)
 | .tup l,K=>zem l fun l=>K (.tup l)
 | .clo f l,K=>zem l fun l=>K (.clo f l)
 | .und,K=>K .und
 | .any,K=>K .any
def zem:List HV->(List HV->Prop)->Prop
 | [],K=>K []
 | x::xs,K=>zir x fun y=>zem xs fun ys=>K (y::ys)
end
mutual
theorem zkr:(x:HV)->(K:HV->Prop)->zir x K=K x
 | .p x,K=>by cases x<;>rfl
 | .ptr i o,K=>rfl
 | .eptr i n j o,K=>rfl
 | .rp c,K=>rfl
 | .own i,K=>rfl
 | .osl i n o l,K=>rfl
 | .mp i,K=>rfl
 | .agg l,K=>by simp only [zir,zda l]
 | .tup l,K=>by simp only [zir,zda l]
 | .clo f l,K=>by simp only [zir,zda l]
 | .und,K=>rfl
 | .any,K=>rfl
theorem zda:(l:List HV)->(K:List HV->Prop)->zem l K=K l
 | [],K=>rfl
 | x::xs,K=>by simp only [zem,zkr x,zda xs]
end
section
variable {P:Program} {m:zbj} {w:World} {R:Nat->Prop}
theorem zad.zqr (o:Option Nat) {x:HV} {v:Value} (h:zad m w R x v):zad m w R (zqr o x) v:=by
 cases x<;>try exact h
 simp only [zad,Go.HL.zqr] at h ⊢;exact h.norm o
theorem zae.zhw:∀ (os:List (Option Nat)) {xs:List HV} {vs:List Value},zae m w R xs vs->zae m w R (zhw os xs) vs
 | os,[],vs,h=>by cases os<;>exact h
 | [],x::xs,vs,h=>h
 | o::os,x::xs,vs,h=>by
  simp only [zae,Go.HL.zhw] at h ⊢;obtain ⟨v,r,h1,h2,h3⟩:=h;exact ⟨v,r,h1,h2.zqr o,zae.zhw os h3⟩
theorem zad.zli (t:TypeId) {x:HV} {v:Value} (h:zad m w R x v):zad m w R (zli P t x) v:=by
 cases x<;>try exact h
 . simp only [Go.HL.zli]
   split
   . simp only [zad] at h ⊢
     exact h.norm _
   . exact h
 . simp only [Go.HL.zli,zad] at h ⊢
   obtain ⟨arr,h1,h2⟩:=h;exact ⟨arr,h1,h2.zhw _⟩
theorem zae.normArgs:∀ (ts:List TypeId) {xs:List HV} {vs:List Value},zae m w R xs vs->zae m w R (normArgs P ts xs) vs
 | ts,[],vs,h=>by cases ts<;>exact h
 | [],x::xs,vs,h=>h
 | t::ts,x::xs,vs,h=>by
  simp only [zae,Go.HL.normArgs] at h ⊢;obtain ⟨v,r,h1,h2,h3⟩:=h;exact ⟨v,r,h1,h2.zli t,zae.normArgs ts h3⟩
theorem zad.zhx (ts:List TypeId) {x:HV} {v:Value} (h:zad m w R x v):zad m w R (zhx P ts x) v:=by
 unfold Go.HL.zhx;split
 . exact h.zli _
 . split
   . simp only [zad] at h ⊢
     obtain ⟨arr,h1,h2⟩:=h;exact ⟨arr,h1,h2.normArgs _⟩
   . exact h
end
section
variable {Γ:Ctx} {P:Program} {C:zai} {m:zbj} {H:Nat->zaa} {w:World} {R:Nat->Prop}
theorem zsx {l:Loc} {t:TypeId} {n off len c:Nat} {a:Option Addr} {rows:List (List PV)} (hb:zeh m w R l (.row t n rows)) (hR:l.nil=false->R l.blk) (hle:off+len<=rows.length) (hc:len<=c) (hm:c<=maxLen)
 (ha:len≠0->l.nil=false/\a=some ⟨l.blk,off*n,none⟩):zcj w R (.sl n ((rows.drop off).take len)) (.slice a len c):=by
 have hlen:((rows.drop off).take len).length=len:=by simp;omega
 by_cases h0:len=0
 . subst h0;simp only [List.take_zero];exact .sl0 _ _ _ hm
 . obtain ⟨hn,rfl⟩:=ha h0
   have hlens:=hb.2.1;have zkj:∀ r∈(rows.drop off).take len,r.length=n:=fun r hr=>hlens r (zy46 (zy27 hr))
   have hcell:∀ k x,((rows.drop off).take len).flatten[k]?=some x->∃ cv,w.cell? ⟨l.blk,off*n+k,none⟩=some cv/\zcj w R x cv:=by
    intro k x hk;obtain ⟨i,j,r,e,hj,hr,hx⟩:=zbm zkj hk;have hr':rows[off+i]?=some r:=by
     rw [zy14] at hr;split at hr
     . rw [zy17] at hr;exact hr
     . cases hr
    obtain ⟨cv,h1,h2⟩:=zdd hb hn _ x (zaw hlens hr' hx);refine ⟨cv,?_,h2⟩;rw [<- h1];congr 2;subst e;rw [zy12];omega
   have h2:=zcj.sl (w:=w) (R:=R) n ((rows.drop off).take len) l.blk (off*n) c (fun k=>(w.cell? ⟨l.blk,off*n+k,none⟩).getD undef) zz0 hm zkj (hR hn)
    (fun k x hk=>by obtain ⟨cv,h1,_⟩:=hcell k x hk;simp only [h1];rfl) (fun k x hk=>by obtain ⟨cv,h1,h2⟩:=hcell k x hk;simp only [h1];exact h2)
   rw [hlen] at h2;exact h2
def Kept (m:zbj) (w:World) (R:Nat->Prop) (us:List (Nat×zaa)):Prop:=∀ e∈us,∃ b l,e.2=.ro b/\m e.1=some l/\zeh m w R l b/\(l.nil=false->R l.blk)
theorem Kept.left {us vs:List (Nat×zaa)} (h:Kept m w R (us++vs)):Kept m w R us:=fun e he=>h e zz22
theorem Kept.right {us vs:List (Nat×zaa)} (h:Kept m w R (us++vs)):Kept m w R vs:=fun e he=>h e zz22
theorem zdq:Frz H []:=by intro e he;cases he
theorem zjp {id:Nat} {b:zcq} (hb:H id=.live b\/H id=.ro b):Frz H [(id,.ro b)]:=by
 intro e he;simp at he;subst he;exact ⟨b,hb,rfl⟩
theorem zeo {id:Nat} {b:zcq} (hb:H id=.live b\/H id=.ro b) {H':Nat->zaa} (he:H' id=H id) {K:zcq->Prop} (hk:K b):zaq (H' id) K:=by
 unfold zaq;rw [he];rcases hb with hb | hb<;>rw [hb]<;>exact hk
theorem zny {x:HV} {K:PV->List (Nat×zaa)->Prop} (h:hpv H x K):∃ y us,K y us/\Frz H us/\(∀ m w R v,Kept m w R us->zad m w R x v->zcj w R y v) /\
 ∀ H',(∀ id∈us.map (·.1),H' id=H id)->∀ K':PV->List (Nat×zaa)->Prop,K' y us->hpv H' x K':=by
 unfold hpv at h;split at h
 . exact ⟨_,_,h,zdq,fun m w R v _ hx=>by simp only [zad] at hx;exact hx,fun H' _ K' hk=>hk⟩
 . rename_i id
   have key:∀ t n rows,(H id=.live (.row t n rows)\/H id=.ro (.row t n rows))->K (.sl n rows) [(id,.ro (.row t n rows))] ->
    ∃ y us,K y us/\Frz H us/\(∀ m w R v,Kept m w R us->zad m w R (.own id) v->zcj w R y v) /\
   ∀ H',(∀ id∈us.map (·.1),H' id=H id)->∀ K':PV->List (Nat×zaa)->Prop,K' y us->hpv H' (.own id) K':=by
    intro t n rows hb hK;refine ⟨_,_,hK,zjp hb,fun m w R v hk hx=>?_,fun H' he K' hk=>?_⟩
    . obtain ⟨b,l,h1,h2,h3,h4⟩:=hk _ (zy41.2 rfl)
      cases h1;simp only [zad] at hx;obtain ⟨l',h5,rfl⟩:=hx;simp only at h2;rw [h2] at h5;cases h5;exact zog h3 h4
    . simp only [hpv]
      rw [he id (by simp)];rcases hb with hb | hb<;>rw [hb]<;>exact hk
   exact yy22
 . exact h.elim
theorem zkz:∀ {xs:List HV} {K:List PV->List (Nat×zaa)->Prop},zmq H xs K->∃ ys us,K ys us/\Frz H us/\(∀ m w R vs,Kept m w R us->zae m w R xs vs->zbg w R ys vs) /\
 ∀ H',(∀ id∈us.map (·.1),H' id=H id)->∀ K':List PV->List (Nat×zaa)->Prop,K' ys us->zmq H' xs K'
 | [],K,h=>⟨[],[],h,zdq,fun m w R vs _ hx=>by simp only [zae] at hx;subst hx;exact .nil,fun H' _ K' hk=>hk⟩
 | x::xs,K,h=>by
  simp only [zmq] at h;obtain ⟨y,u,h1,h2,h3,h3'⟩:=zny h;obtain ⟨ys,us,h4,h5,h6,h6'⟩:=zkz h1;refine ⟨_,_,h4,h2.append h5,fun m w R vs hk hx=>?_,fun H' he K' hk=>?_⟩
  . simp only [zae] at hx
    obtain ⟨v,r,rfl,h7,h8⟩:=hx;exact .cons (h3 m w R v hk.left h7) (h6 m w R r hk.right h8)
  . simp only [zmq]
    exact h3' H' (fun id hi=>he id zz12) _ (h6' H' (fun id hi=>he id zz7) _ hk)
abbrev zlh:Ren:=fun _=>none
structure View (H:Nat->zaa) (x y:HV) (us:List (Nat×zaa)):Prop where
 frz:Frz H us
 rep:∀ m w R v,Kept m w R us->zad m w R x v->zad m w R y v
 noid:zeb zlh y=true
 loc:∀ H',(∀ id∈us.map (·.1),H' id=H id)->∀ K':HV->List (Nat×zaa)->Prop,K' y us->zbu H' x K'
structure zwg (H:Nat->zaa) (x y:List HV) (us:List (Nat×zaa)):Prop where
 frz:Frz H us
 rep:∀ m w R v,Kept m w R us->zae m w R x v->zae m w R y v
 noid:zfd zlh y=true
 loc:∀ H',(∀ id∈us.map (·.1),H' id=H id)->∀ K':List HV->List (Nat×zaa)->Prop,K' y us->zdm H' x K'
mutual
theorem zga:(x:HV)->{K:HV->List (Nat×zaa)->Prop}->zbu H x K->∃ y us,K y us/\View H x y us
 | .p x,K,h=>by simp only [zbu] at h;exact ⟨_,_,h,zdq,fun _ _ _ _ _ h=>h,rfl,fun H' _ K' hk=>by simp only [zbu];exact hk⟩
 | .rp x,K,h=>by simp only [zbu] at h;exact ⟨_,_,h,zdq,fun _ _ _ _ _ h=>h,rfl,fun H' _ K' hk=>by simp only [zbu];exact hk⟩
 | .und,K,h=>by simp only [zbu] at h;exact ⟨_,_,h,zdq,fun _ _ _ _ _ h=>h,rfl,fun H' _ K' hk=>by simp only [zbu];exact hk⟩
 | .any,K,h=>by simp only [zbu] at h;exact ⟨_,_,h,zdq,fun _ _ _ _ _ h=>h,rfl,fun H' _ K' hk=>by simp only [zbu];exact hk⟩
 | .own id,K,h=>by
  simp only [zbu] at h;obtain ⟨y,us,h1,h2,h3,h4⟩:=zny h;exact ⟨_,_,h1,h2,fun m w R v hk hx=>by simp only [zad];exact h3 m w R v hk hx,rfl,fun H' he K' hk=>by simp only [zbu];exact h4 H' he _ hk⟩
 | .osl id n off len,K,h=>by
  simp only [zbu] at h;obtain ⟨b,hb,h⟩:=zan h;split at h
  . rename_i t n' rows
    have h2:=zab h;clear h;obtain ⟨hnb,rs,hrs,hle,hk⟩:=h2;have hnn:=zy0 hnb;subst hnn;subst hrs;refine ⟨_,_,hk,zjp hb,fun m w R v hkp hx=>?_,rfl,fun H' he K' hk=>?_⟩
    . obtain ⟨b',l,h1,h2,h3,h4⟩:=hkp _ (zy41.2 rfl)
      cases h1;obtain ⟨l',a,c,h5,h6,h7,h8,rfl,h9⟩:=zfx hx;simp only [zad];simp only at h2;rw [h2] at h5;cases h5;exact zsx h3 h4 hle h7 h8 h9
    . simp only [zbu]
      refine zeo hb (he id zz1) ?_;simp only [hnb,cond_true];exact ⟨_,rfl,hle,hk⟩
  . exact h.elim
 | .ptr id off,K,h=>by
  simp only [zbu] at h;obtain ⟨b,hb,h⟩:=zan h;split at h
  . rename_i t cs
    obtain ⟨ys,us,h1,h2,h3,h3'⟩:=zkz h;refine ⟨_,_,h1,(zjp hb).append h2,fun m w R v hkp hx=>?_,rfl,fun H' he K' hk=>?_⟩
    . obtain ⟨b',l,h4,h5,h6,h7⟩:=hkp (id,.ro (.cells t cs)) zz1
      cases h4;simp only [zad] at hx ⊢;obtain ⟨l',h8,h9,rfl⟩:=hx;simp only at h5;rw [h5] at h8;cases h8;obtain ⟨-,arr,h10,h11⟩:=h6;have hpl:=h3 m w R _ (fun e he=>hkp e zz22) h11;refine ⟨l.blk,off,rfl,fun _=>h7 h9,fun k x hk=>?_⟩;rw [zy17] at hk;obtain ⟨v,hv,hp⟩:=hpl.get _ _ hk;exact ⟨v,by rw [cell_of_row w l.blk _ arr t (0,0) h10];simpa using hv,hp⟩
    . simp only [zbu]
      exact zeo hb (he id zz1) (h3' H' (fun i hi=>he i zz7) _ hk)
  . exact h.elim
 | .eptr id n i off,K,h=>by
  simp only [zbu] at h;obtain ⟨b,hb,h⟩:=zan h;split at h
  . rename_i t n' rows
    have h2:=zab h;clear h;obtain ⟨hnb,r,h0,hr,hk⟩:=h2;have hnn:=zy0 hnb;subst hnn;refine ⟨_,_,hk,zjp hb,fun m w R v hkp hx=>?_,rfl,fun H' he K' hk=>?_⟩
    . obtain ⟨b',l,h1,h2,h3,h4⟩:=hkp _ (zy41.2 rfl)
      cases h1;simp only [zad] at hx ⊢;obtain ⟨l',h5,h6,rfl⟩:=hx;simp only at h2;rw [h2] at h5;cases h5;refine ⟨l.blk,i*n+off,rfl,fun _=>h4 h6,fun k x hk=>?_⟩;rw [zy17] at hk;obtain ⟨cv,h7,h8⟩:=zdd h3 h6 _ x (zaw h3.2.1 zz19 hk);exact ⟨cv,by rw [<- h7];congr 2;omega,h8⟩
    . simp only [zbu]
      refine zeo hb (he id zz1) ?_;simp only [hnb,cond_true];exact ⟨r,h0,hr,hk⟩
  . exact h.elim
 | .mp id,K,h=>by simp only [zbu] at h
 | .agg l,K,h=>by
  exact yy0
 | .tup l,K,h=>by
  exact yy0
 | .clo f l,K,h=>by
  exact yy0
theorem zbt:(xs:List HV)->{K:List HV->List (Nat×zaa)->Prop}->zdm H xs K->∃ ys us,K ys us/\zwg H xs ys us
 | [],K,h=>by simp only [zdm] at h;exact ⟨_,_,h,zdq,fun _ _ _ _ _ h=>h,rfl,fun H' _ K' hk=>by simp only [zdm];exact hk⟩
 | x::xs,K,h=>by
  simp only [zdm] at h;obtain ⟨y,u,h1,h2,h3,h3',h3''⟩:=zga x h;obtain ⟨ys,us,h4,h5,h6,h6',h6''⟩:=zbt xs h1;refine ⟨_,_,h4,h2.append h5,fun m w R vs hk hx=>?_,by simp only [zfd,h3',h6',Bool.and_self],fun H' he K' hk=>?_⟩
  . simp only [zae] at hx ⊢
    obtain ⟨v,r,rfl,h7,h8⟩:=hx;exact ⟨v,r,rfl,h3 m w R v hk.left h7,h6 m w R r hk.right h8⟩
  . simp only [zdm]
    exact h3'' H' (fun i hi=>he i zz12) _ (h6'' H' (fun i hi=>he i zz7) _ hk)
end
theorem zvh {us:List (Nat×zaa)} (hf:Frz H us) {e:Nat×zaa} (he:e∈us):zbb H us e.1=e.2:=by
 induction us generalizing H with
 | nil=>cases he
 | cons q a ih =>
  obtain ⟨j,z⟩:=q;have hfu:=Frz.upd (e:=(j,z)) hf;by_cases hm:e∈a
  . exact ih hfu hm
  . rcases zy9.1 he with rfl | he
    . by_cases hj:∃ q∈a,q.1=j
      . obtain ⟨q,hq,hqj⟩:=hj
        obtain ⟨b,hb,hb2⟩:=hfu q hq;simp only at hb;rw [hqj,zaf] at hb;obtain ⟨c,_,hc⟩:=hf (j,z) zz1;simp only at hc;subst hc;have hbc:c=b:=by rcases hb with hb | hb<;>cases hb;rfl
        subst hbc;have gen:∀ {us:List (Nat×zaa)} {H:Nat->zaa},Frz H us->H j=.ro c->zbb H us j=.ro c:=by
         intro us
         induction us with
         | nil=>intro H _ h;exact h
         | cons p us ih2 =>
          intro H hf h;obtain ⟨k,y⟩:=p;refine ih2 (H:=upd H k y) (Frz.upd (e:=(k,y)) hf) ?_;by_cases hk:j=k
          . subst hk
            obtain ⟨d,hd,hd2⟩:=hf (j,y) zz1;simp only at hd hd2;rw [h] at hd;rcases hd with hd | hd<;>cases hd
            rw [zaf];exact hd2
          . rw [zah _ _ hk];exact h
        exact gen (us:=a) (H:=upd H j (.ro c)) hfu (zaf _ _ _)
      . exact (zgf (H:=upd H j z) (us:=a) fun q hq h=>hj ⟨q,hq,h⟩).trans (zaf _ _ _)
    . exact absurd he hm
theorem WS.kept {us:List (Nat×zaa)} (hf:Frz H us) (hok:zag Γ m (zbb H us) w):Kept m w (RR Γ m (zbb H us) w) us:=by
 intro e he;obtain ⟨b,_,hb⟩:=hf e he;obtain ⟨l,h1,h2,h3⟩:=hok.ro e.1 b (by rw [zvh hf he,hb]);exact ⟨b,l,hb,h1,h2,h3⟩
def zjd (tmps:Array Value):ResultVar->Sem Value
 | .tmp t=>pure (tmps.getD t undef)
 | .cell a t=>do loadVar t (<- asAddr (tmps.getD a undef))
theorem znz {s:HS} {a:Act} (hc:zeg Γ P m s a w) {r:ResultVar} {K:HV->Prop} (h:zqg P s r K):∃ x v,K x/\zad m w (RR Γ m s.heap w) x v/\(zjd a.tmps r).run P w=.ok v w:=by
 cases r with
 | tmp t =>
  simp only [zqg,force_eq] at h;exact ⟨_,_,h,hc.slots t,by simp [zjd]⟩
 | cell x t =>
  simp only [zqg] at h;obtain ⟨td,u,i,z,ht,h⟩:=zbf h;split at h
  . rename_i id off hx
    have hrep:=hc.slots x;rw [hx] at hrep;simp only [zad] at hrep;obtain ⟨l,hl,hn,hv⟩:=hrep;obtain ⟨b,hb,h⟩:=zan h;obtain ⟨l',hl',hbr⟩:=hc.heap.blk hb;rw [hl] at hl';cases hl';split at h
    . rename_i t' cs
      obtain ⟨_,arr,harr,hrl⟩:=hbr;obtain ⟨y,us,hk,hus,huc,hrep⟩:=zfb hrl h;refine ⟨_,_,hk,hrep,?_⟩;have:=run_read (P:=P) ht (b:=l.blk) (o:=off) (cs:=us) (w:=w) (fun k v hkv=>by rw [cell_of_row w l.blk _ arr t' (0,0) harr];simpa using huc k v hkv) hus;simp only [Instr.loadAt,Instr.sureAddr] at this;simp only [zjd,hv,asAddr];exact this
    . exact h.elim
  . exact h.elim
theorem zoa {s:HS} {a:Act} (hc:zeg Γ P m s a w):∀ {rs:List ResultVar} {K:List HV->Prop},zsf P s rs K->∃ xs vs,K xs/\zae m w (RR Γ m s.heap w) xs vs/\xs.length=rs.length/\(rs.mapM (zjd a.tmps)).run P w=.ok vs w
 | [],K,h=>⟨[],[],h,by simp only [zae],rfl,by simp [Sem.run]⟩
 | r::rs,K,h=>by
  simp only [zsf] at h;obtain ⟨x,v,h1,h2,h3⟩:=znz hc h;obtain ⟨xs,vs,h4,h5,h6,h7⟩:=zoa hc h1;refine ⟨_,v::vs,h4,by simp only [zae];exact ⟨v,vs,rfl,h2,h5⟩,by simp [h6],?_⟩;simp only [List.mapM_cons,Sem.run_bind,h3,Result.andThen_ok,h7,Sem.run_pure]
theorem zug {s:HS} {a:Act} (hc:zeg Γ P m s a w) {fn:Func} {K:HV->Prop} (h:zwd P s fn.results.toList K):∃ x v,K x/\zad m w (RR Γ m s.heap w) x v/\(results fn a.tmps).run P w=.ok v w:=by
 have hre:results fn a.tmps=(do
  let vs <- fn.results.mapM (zjd a.tmps)
  pure (if h:vs.size=1 then vs[0] else .tuple vs)):=by
  unfold results;congr 1
 have zbh:∀ {vs:List Value},(fn.results.toList.mapM (zjd a.tmps)).run P w=.ok vs w->(results fn a.tmps).run P w=.ok (if h:vs.toArray.size=1 then vs.toArray[0] else .tuple vs.toArray) w:=by
  intro vs hv;rw [hre,Array.mapM_eq_mapM_toList];simp only [Sem.run_bind,Sem.run_map,hv,Result.andThen_ok,Sem.run_pure]
 unfold zwd at h;split at h
 . rename_i r hr
   obtain ⟨x,v,h1,h2,h3⟩:=znz hc h;refine ⟨x,v,h1,h2,?_⟩;have:=zbh (vs:=[v]) (by rw [hr];simp only [List.mapM_cons,List.mapM_nil,Sem.run_bind,h3,Result.andThen_ok,Sem.run_pure])
   simpa using this
 . rename_i rs hn
   obtain ⟨xs,vs,h1,h2,h3,h4⟩:=zoa hc h;refine ⟨_,.tuple vs.toArray,h1,by simp only [zad];exact ⟨_,rfl,by simpa using h2⟩,?_⟩;rw [zbh h4,dif_neg];have hl:=h2.length;intro h5;have h6:fn.results.toList.length=1:=by rw [<- h3,<- hl];simpa using h5
   match hr:fn.results.toList,h6 with
   | [r],_=>exact hn r hr
end
end Go.HL
namespace Go.HL
def zdo (P:Program) (f:FuncId) (args:List HV) (H:Nat->zaa) (r:HV) (H':Nat->zaa):Prop :=
 ∀ (Γ:Ctx) m w vals,zag Γ m H w->zae m w (RR Γ m H w) args vals->Γ.m0=m ->
  (callFunc f vals.toArray).run P w=.ok (.enter f vals.toArray) w /\
  Calls P f vals.toArray w fun e w'=>∃ v m',e=.returned v/\zag Γ m' H' w'/\zad m' w' (RR Γ m' H' w') r v/\∀ id l,pin<=id->m id=some l->m' id=some l
theorem zdo.args {P:Program} {f:FuncId} {args args':List HV} {H:Nat->zaa} {r:HV} {H':Nat->zaa} (hw:∀ (m:zbj) w R vals,zae m w R args vals->zae m w R args' vals) (h:zdo P f args' H r H'):zdo P f args H r H' :=
 fun Γ m w vals hok hx h0=>h Γ m w vals hok (hw _ _ _ _ hx) h0
abbrev zay:Nat->zaa:=fun _=>.free
mutual
def zmf:HV->Bool
 | .p (.v _)=>true
 | .agg l=>zri l
 | .tup l=>zri l
 | .und=>true
 | _=>false
def zri:List HV->Bool
 | []=>true
 | x::r=>zmf x&&zri r
end
def zfa (H:Nat->zaa):List Bool->List HV->(List HV->List (Nat×zaa)->Prop)->Prop
 | _,[],K=>K [] []
 | [],x::xs,K=>zfa H [] xs fun ys us=>K (x::ys) us
 | true::ms,x::xs,K=>zbu H x fun y u=>zfa H ms xs fun ys us=>K (y::ys) (u++us)
 | false::ms,x::xs,K=>zfa H ms xs fun ys us=>K (x::ys) us
def ren (L:List (Nat×Nat)):Ren:=lkN (L.map fun p=>(p.1,some p.2))
def rnS (σ:Ren):zaa->zaa
 | .live b=>.live (rnB σ b)
 | .ro b=>.ro (rnB σ b)
 | x=>x
def zwm (σ:Ren):zaa->Bool
 | .live b=>zgd σ b
 | .ro b=>zgd σ b
 | .dead=>true
 | .free=>false
structure zwq (P:Program) (f:FuncId) (args:List HV) (H:Nat->zaa) (r:Res) (args':List HV) (us:List (Nat×zaa)):Prop where
 view:zdm H args fun a u=>a=args'/\u=us
 spec:zdo P f args' zay r.val zay
 zmf:zmf r.val=true
 ups:r.ups=[]
 tch:r.tch=us.map (·.1)
structure zwp (P:Program) (f:FuncId) (args:List HV) (H:Nat->zaa) (r:Res) (us:List (Nat×zaa)) (ms:List Bool) (args1:List HV) (B F:List (Nat×Nat)) (args':List HV) (H':Nat->zaa) (r':HV) (H'':Nat->zaa):Prop where
 mix:zfa H ms args fun a u=>a=args1/\u=us
 spec:zdo P f args' H' r' H''
 argsOk:zfd (ren B) args'=true
 args:rnL (ren B) args'=args1
 dom:∀ i,H' i=.free\/∃ p∈B,p.1=i
 has:∀ p∈B,pin<=p.1/\∃ b,zgd (ren B) b=true/\((H' p.1=.live b/\zbb H us p.2=.live (rnB (ren B) b))\/(H' p.1=.ro b/\zbb H us p.2=.ro (rnB (ren B) b)))
 ndB:(B.map (·.1)).Nodup
 ndB2:(B.map (·.2)).Nodup
 new:∀ p∈F,p.1<pin/\H p.2=.free
 ndF:(F.map (·.1)).Nodup
 ndF2:(F.map (·.2)).Nodup
 after:∀ p∈B++F,zwm (ren (B++F)) (H'' p.1)=true
 valOk:zeb (ren (B++F)) r'=true
 val:r.val=rn (ren (B++F)) r'
 ups:r.ups=us++(B++F).map fun p=>(p.2,rnS (ren (B++F)) (H'' p.1))
structure Ov (P:Program) (f:FuncId) (args:List HV) (H:Nat->zaa) (r:Res):Prop where
 out : ∃ fn e i x y i1 i2 b1 b2, P.funcs[f]? = some fn /\ fn.body = none /\ fn.name ≠ "runtime.NumGoroutine" /\ Extern.findNext fn = none /\
  Extern.find fn=some (Extern.SlicesOverlaps.overlaps fn.params fn.resultTypes)/\(∃ t,fn.params[0]?=some t/\P.underlying t=some (.slice e))/\P.info? e=some i/\0<i.size /\
  args=[x,y]/\(x=.own i1\/∃ n o l,x=.osl i1 n o l)/\(y=.own i2\/∃ n o l,y=.osl i2 n o l)/\i1≠i2/\H i1=.live b1/\H i2=.live b2/\((∀ t cs,b1≠.cells t cs)/\(∀ k a es,b1≠.map k a es)/\∀ k a es x,b1≠.iter k a es x)/\((∀ t cs,b2≠.cells t cs)/\(∀ k a es,b2≠.map k a es)/\∀ k a es x,b2≠.iter k a es x)/\r=⟨zbp false,[],[i1,i2]⟩
inductive CR (P:Program):zai
 | lend {f:FuncId} {args:List HV} {H:Nat->zaa} {d:Nat} {r:Res} {args':List HV} {us:List (Nat×zaa)} (h:zwq P f args H r args' us):CR P f args H d r
 | give {f:FuncId} {args:List HV} {H:Nat->zaa} {d:Nat} {r:Res} {us:List (Nat×zaa)} {ms:List Bool} {args1:List HV} {B F:List (Nat×Nat)} {args':List HV} {H':Nat->zaa} {r':HV} {H'':Nat->zaa}
  (h:zwp P f args H r us ms args1 B F args' H' r' H''):CR P f args H d r
 | ov {f:FuncId} {args:List HV} {H:Nat->zaa} {d:Nat} {r:Res} (h:Ov P f args H r):CR P f args H d r
structure zwh (H:Nat->zaa) (ms:List Bool) (x y:List HV) (us:List (Nat×zaa)):Prop where
 frz:Frz H us
 rep:∀ m w R v,Kept m w R us->zae m w R x v->zae m w R y v
 loc:∀ H',(∀ id∈us.map (·.1),H' id=H id)->∀ K':List HV->List (Nat×zaa)->Prop,K' y us->zfa H' ms x K'
section
variable {Γ:Ctx} {P:Program} {m:zbj} {H:Nat->zaa} {w:World} {R:Nat->Prop}
theorem zdc:∀ (ms:List Bool) (xs:List HV) {K:List HV->List (Nat×zaa)->Prop},zfa H ms xs K->∃ ys us,K ys us/\zwh H ms xs ys us
 | ms,[],K,h=>⟨[],[],by cases ms<;>simpa only [zfa] using h,zdq,fun _ _ _ _ _ h=>h,fun H' _ K' hk=>by cases ms<;>simpa only [zfa] using hk⟩
 | [],x::xs,K,h=>by
  simp only [zfa] at h;obtain ⟨ys,us,h4,h5,h6,h7⟩:=zdc [] xs h;exact yy12
 | false::ms,x::xs,K,h=>by
  simp only [zfa] at h;obtain ⟨ys,us,h4,h5,h6,h7⟩:=zdc ms xs h;exact yy12
 | true::ms,x::xs,K,h=>by
  simp only [zfa] at h;obtain ⟨y,u,h1,hv⟩:=zga x h;obtain ⟨ys,us,h4,h5,h6,h7⟩:=zdc ms xs h1;refine ⟨_,_,h4,hv.frz.append h5,fun m w R vs hk hx=>?_,fun H' he K' hk=>?_⟩
  . simp only [zae] at hx ⊢
    obtain ⟨v,r,rfl,h7,h8⟩:=hx;exact ⟨v,r,rfl,hv.rep m w R v hk.left h7,h6 m w R r hk.right h8⟩
  . simp only [zfa]
    exact hv.loc H' (fun i hi=>he i zz12) _ (h7 H' (fun i hi=>he i zz7) _ hk)
theorem zpn {H':Nat->zaa}:∀ {us:List (Nat×zaa)} {H:Nat->zaa} {i:Nat},(H' i=H i\/i∈us.map (·.1))->zbb H' us i=zbb H us i
 | [],H,i,h=>(h.resolve_right zz1:H' i=H i)
 | (j,b)::us,H,i,h=>by
  simp only [zbb];have gen:∀ {us:List (Nat×zaa)} {A B:Nat->zaa} {i:Nat},(A i=B i\/i∈us.map (·.1))->zbb A us i=zbb B us i:=by
   intro us
   induction us with
   | nil=>intro A B i h;exact (h.resolve_right zz1:A i=B i)
   | cons p us ih =>
    intro A B i h;obtain ⟨k,c⟩:=p;refine ih (A:=upd A k c) (B:=upd B k c) ?_;by_cases hk:i=k
    . subst hk;left;rw [zaf,zaf]
    . rcases h with h | h
      . left;rw [zah _ _ hk,zah _ _ hk];exact h
      . simp only [zy13,zy9] at h
        rcases h with h | h
        . exact absurd h hk
        . exact .inr h
  refine gen ?_;by_cases hk:i=j
  . subst hk;left;rw [zaf,zaf]
  . rcases h with h | h
    . left;rw [zah _ _ hk,zah _ _ hk];exact h
    . simp only [zy13,zy9] at h
      rcases h with h | h
      . exact absurd h hk
      . exact .inr h
theorem zrp:zbz (CR P):=by
 intro f args H H' d r h _ hd hu;cases h with
 | lend h =>
  rename_i args' us;obtain ⟨h1,h2,h3,h4,h5⟩:=h;obtain ⟨a,u,⟨rfl,rfl⟩,hv⟩:=zbt _ h1;exact .lend ⟨hv.loc H' (fun i hi=>hu i (by rw [h5];simp only [zy6];exact .inl hi)) _ ⟨rfl,rfl⟩,h2,h3,h4,h5⟩
 | give h =>
  rename_i us ms args1 B F args' H1 r' H2;obtain ⟨a,u,⟨rfl,rfl⟩,hv⟩:=zdc _ _ h.mix;have hups:∀ i,i∈u.map (·.1)\/i∈(B++F).map (·.2)->H' i=H i:=by
   intro i hi;refine hu i ?_;rw [h.ups];simp only [zy53,zy6,List.map_map] at hi ⊢;rcases hi with hi | hi
   . exact .inr (.inl hi)
   . refine .inr (.inr ?_)
     rcases hi with hi | hi
     . exact .inl hi
     . exact .inr hi
  refine .give ⟨hv.loc H' (fun i hi=>hups i (.inl hi)) _ ⟨rfl,rfl⟩,h.spec,h.argsOk,h.args,h.dom,fun p hp=>?_,h.ndB,h.ndB2,fun p hp=>⟨(h.new p hp).1,?_⟩,h.ndF,h.ndF2,h.after,h.valOk,h.val,h.ups⟩
  . rw [zpn (H:=H) (.inl (hups p.2 (.inr (by simp;exact .inl ⟨_,hp⟩))))]
    exact h.has p hp
  . rw [hups p.2 (.inr (by simp;exact .inr ⟨_,hp⟩))]
    exact (h.new p hp).2
 | ov h =>
  obtain ⟨fn,e,i,x,y,i1,i2,b1,b2,h1,h2,h3,h4,h5,h6,h7,h8,h9,h10,h11,h12,h13,h14,h15,h16,rfl⟩:=h.out;exact .ov ⟨fn,e,i,x,y,i1,i2,b1,b2,h1,h2,h3,h4,h5,h6,h7,h8,h9,h10,h11,h12,(hu i1 zz1).trans h13,(hu i2 zz1).trans h14,h15,h16,rfl⟩
theorem zrc {L:List (Nat×Nat)} {i:Nat} {o:Option Nat} (h:ren L i=some o):∃ j,o=some j/\(i,j)∈L:=by
 unfold ren at h
 induction L with
 | nil=>cases h
 | cons p L ih =>
  obtain ⟨a,b⟩:=p;simp only [zy13,lkN] at h;cases hb:Nat.beq i a with
  | true =>
   rw [hb] at h;cases h;have:=zy0 hb;subst this;exact ⟨b,rfl,by simp⟩
  | false =>
   rw [hb] at h;obtain ⟨j,h1,h2⟩:=ih h;exact ⟨j,h1,by simp [h2]⟩
theorem zut {L:List (Nat×Nat)} {i j:Nat} (hn:(L.map (·.1)).Nodup) (h:(i,j)∈L):ren L i=some (some j):=by
 unfold ren
 induction L with
 | nil=>cases h
 | cons p L ih =>
  obtain ⟨a,b⟩:=p;simp only [zy13,zy62] at hn;simp only [zy13,lkN];rcases zy9.1 h with h | h
  . cases h
    simp
  . have:i≠a:=fun e=>hn.1 (zy4.2 ⟨(i,j),h,e⟩)
    have hb:Nat.beq i a=false:=by
     cases hb:Nat.beq i a with
     | false=>rfl
     | true=>exact absurd (zy0 hb) this
    rw [hb];exact ih hn.2 h
mutual
theorem ztr {m':zbj} {σ:Ren} {R':Nat->Prop} (hm:∀ i o,σ i=some o->∃ j,o=some j/\m' j=m i) (hR:∀ b,R b->R' b):(x:HV)->(v:Value)->zeb σ x=true->zad m w R x v->zad m' w R' (rn σ x) v
 | .p x,v,_,h=>by simp only [rn,zad] at h ⊢;exact h.sub hR
 | .ptr i o,v,ho,h=>by
  exact yy1
 | .eptr i n k o,v,ho,h=>by
  exact yy1
 | .rp c,v,_,h=>by
  exact yy16
 | .own i,v,ho,h=>by
  simp only [zeb] at ho;split at ho
  . rename_i o hj
    obtain ⟨j',rfl,hmj⟩:=hm i _ hj;simp only [rn,hj,zad] at h ⊢;obtain ⟨l,h1,h2⟩:=h;exact ⟨l,by rw [hmj];exact h1,h2⟩
  . cases ho
 | .osl i n o len,v,ho,h=>by
  simp only [zeb] at ho;split at ho
  . rename_i j hj
    obtain ⟨j',hj',hmj⟩:=hm i _ hj;cases hj';simp only [rn,hj,zad] at h ⊢;obtain ⟨l,a,h1,h2⟩:=h;exact ⟨l,a,by rw [hmj];exact h1,h2⟩
  . cases ho
 | .mp i,v,ho,h=>by
  exact yy1
 | .agg l,v,ho,h=>by
  exact yy5
 | .tup l,v,ho,h=>by
  exact yy5
 | .clo f l,v,ho,h=>by
  exact yy5
 | .und,v,_,h=>by simp only [rn,zad] at h ⊢;exact h
 | .any,v,_,h=>by simp only [rn,zad]
theorem zic {m':zbj} {σ:Ren} {R':Nat->Prop} (hm:∀ i o,σ i=some o->∃ j,o=some j/\m' j=m i) (hR:∀ b,R b->R' b):(x:List HV)->(v:List Value)->zfd σ x=true->zae m w R x v->zae m' w R' (rnL σ x) v
 | [],v,_,h=>by simp only [rnL,zae] at h ⊢;exact h
 | x::xs,v,ho,h=>by
  simp only [zfd,zy1] at ho;simp only [rnL,zae] at h ⊢;obtain ⟨a,r,h1,h2,h3⟩:=h;exact ⟨a,r,h1,ztr hm hR x a ho.1 h2,zic hm hR xs r ho.2 h3⟩
end
theorem zrd {m':zbj} {σ:Ren} {R':Nat->Prop} (hm:∀ i o,σ i=some o->∃ j,o=some j/\m' j=m i) (hR:∀ b,R b->R' b) {l:Loc} {b:zcq} (ho:zgd σ b=true) (h:zeh m w R l b):zeh m' w R' l (rnB σ b):=by
 cases b with
 | cells t cs =>
  obtain ⟨h1,arr,h2,h3⟩:=h;rw [<- zgc (σ:=σ) cs] at h1;exact ⟨h1,arr,h2,zic hm hR _ _ ho h3⟩
 | map kc agg es =>
  obtain ⟨h1,arr,c,h2,h3,h4⟩:=h;exact ⟨h1,arr,c,h2,h3.mono fun b hb=>⟨rfl,hR b hb⟩,h4⟩
 | iter kc agg left cur =>
  obtain ⟨h1,bm,arr,c,seen,h2,h3⟩:=h;exact ⟨h1,bm,arr,c,seen,h2,h3.mono fun b hb=>⟨rfl,hR b hb⟩⟩
 | row t n rows =>
  exact yy10
 | buf t n rows c =>
  exact yy19
mutual
theorem zre:(x:HV)->zeb zlh x=true->rn zlh x=x
 | .p _,_=>rfl
 | .rp _,_=>rfl
 | .und,_=>rfl
 | .any,_=>rfl
 | .ptr _ _,h=>by simp [zeb] at h
 | .eptr _ _ _ _,h=>by simp [zeb] at h
 | .own _,h=>by simp [zeb] at h
 | .osl _ _ _ _,h=>by simp [zeb] at h
 | .mp _,h=>by simp [zeb] at h
 | .agg l,h=>by simp only [zeb] at h;simp only [rn,zfc l h]
 | .tup l,h=>by simp only [zeb] at h;simp only [rn,zfc l h]
 | .clo f l,h=>by simp only [zeb] at h;simp only [rn,zfc l h]
theorem zfc:(x:List HV)->zfd zlh x=true->rnL zlh x=x
 | [],_=>rfl
 | x::xs,h=>by
  simp only [zfd,zy1] at h;simp only [rnL,zre x h.1,zfc xs h.2]
end
mutual
theorem zoj {m':zbj} {w':World} {R':Nat->Prop}:(x:HV)->(v:Value)->zmf x=true->zad m w R x v->zad m' w' R' x v
 | .p (.v x),v,_,h=>by simp only [zad] at h ⊢;cases h with | v _ h=>exact .v _ h
 | .p (.sl _ _),v,hs,h=>by simp [zmf] at hs
 | .rp _,v,hs,h=>by simp [zmf] at hs
 | .und,v,hs,h=>by simp only [zad] at h ⊢;exact h
 | .any,v,hs,h=>by simp [zmf] at hs
 | .ptr _ _,v,hs,h=>by simp [zmf] at hs
 | .eptr _ _ _ _,v,hs,h=>by simp [zmf] at hs
 | .own _,v,hs,h=>by simp [zmf] at hs
 | .osl _ _ _ _,v,hs,h=>by simp [zmf] at hs
 | .mp _,v,hs,h=>by simp [zmf] at hs
 | .agg l,v,hs,h=>by
  exact yy29
 | .tup l,v,hs,h=>by
  exact yy29
 | .clo _ _,v,hs,h=>by simp [zmf] at hs
theorem zie {m':zbj} {w':World} {R':Nat->Prop}:(x:List HV)->(v:List Value)->zri x=true->zae m w R x v->zae m' w' R' x v
 | [],v,_,h=>by simp only [zae] at h ⊢;exact h
 | x::xs,v,hs,h=>by
  simp only [zri,zy1] at hs;simp only [zae] at h ⊢;obtain ⟨a,r,h1,h2,h3⟩:=h;exact ⟨a,r,h1,zoj x a hs.1 h2,zie xs r hs.2 h3⟩
end
theorem zag.grow (hok:zag Γ m H w) {w':World} (hs:w.heap.size<=w'.heap.size) (hh:∀ b,b<w.heap.size->w'.heap[b]?=w.heap[b]?) (ho:w'.os=w.os) (ht:w'.tape=w.tape) (hp:w'.output=w.output) :
 WS Γ H m w H m w':=by
 have hR:∀ b,RR Γ m H w b->w'.heap[b]?=w.heap[b]?/\RR Γ m H w' b:=fun b hb=>⟨hh b hb.2.1,hb.1,zy32 hb.2.1 hs,hb.2.2⟩
 refine ⟨.refl m,⟨zy63 hok.size hs,ho.trans hok.os,ht.trans hok.tape,hp.trans hok.output,fun b hb hn=>(hh b (zy32 hb hok.size)).trans (hok.frame b hb hn),hok.free,fun id b hb=>?_,fun id b hb=>?_,hok.inj,hok.dom⟩,hR⟩
 . obtain ⟨l,h1,h2,h3⟩:=hok.live id b hb
   exact ⟨l,h1,h2.mono (.refl m) hR fun hn=>hh _ (h3 hn).2,fun hn=>⟨(h3 hn).1,zy32 (h3 hn).2 hs⟩⟩
 . obtain ⟨l,h1,h2,h3⟩:=hok.ro id b hb
   exact ⟨l,h1,h2.mono (.refl m) hR fun hn=>(hR _ (h3 hn)).1,fun hn=>(hR _ (h3 hn)).2⟩
theorem znc {m:zbj} {b:Nat}:¬ zes m zay b:=by rintro ⟨id,l,blk,h,_⟩;cases h
theorem zpf {f:FuncId} {args:List HV} {r:Res} {args':List HV} {us:List (Nat×zaa)} (h:zwq P f args H r args' us) {vals:List Value} (hok:zag Γ m H w) (hargs:zae m w (RR Γ m H w) args vals) :
 (callFunc f vals.toArray).run P w=.ok (.enter f vals.toArray) w /\
 Calls P f vals.toArray w fun e w'=>∃ v m',e=.returned v/\WS Γ H m w (zbb H r.ups) m' w'/\zad m' w' (RR Γ m' (zbb H r.ups) w') r.val v:=by
 obtain ⟨h1,h2,h3,h4,h5⟩:=h;obtain ⟨a,u,⟨rfl,rfl⟩,hv⟩:=zbt _ h1;have hRs:∀ b,RR Γ m H w b->w.heap[b]?=w.heap[b]?/\b<w.heap.size:=fun b hb=>⟨rfl,hb.2.1⟩
 have hkept:Kept m w (fun b=>b<w.heap.size) u:=by
  intro e he;obtain ⟨b,hb,hb2⟩:=hv.frz e he;rcases hb with hb | hb
  . obtain ⟨l,h1,h2,h3⟩:=hok.live _ _ hb
    exact ⟨b,l,hb2,h1,h2.mono (.refl m) hRs fun _=>rfl,fun hn=>(h3 hn).2⟩
  . obtain ⟨l,h1,h2,h3⟩:=hok.ro _ _ hb
    exact ⟨b,l,hb2,h1,h2.mono (.refl m) hRs fun _=>rfl,fun hn=>(h3 hn).2.1⟩
 have hargs':=hv.rep m w _ vals hkept (zae.mono (.refl m) hRs _ _ hargs)
 let Γc:Ctx:=⟨fun _=>True,w,fun _=>False,fun _=>none⟩
 have hokc:zag Γc (fun _=>none) zay w:=⟨zy47 _,rfl,rfl,rfl,fun _ _ _=>rfl,fun _ _=>rfl,(fun id b hb=>by cases hb),(fun id b hb=>by cases hb),(fun id id' b b' l l' hb=>by cases hb),fun b hb=>hb.elim⟩
 have hrep:zae (fun _=>none) w (RR Γc (fun _=>none) zay w) a vals:=by
  refine zep (σ:=zlh) (m:=m) (R:=fun b=>b<w.heap.size) (fun i j hj=>by cases hj) (fun i hj=>by cases hj) (fun b hb=>⟨.inl trivial,hb,znc⟩) a vals hv.noid ?_;rw [zfc a hv.noid];exact hargs'
 obtain ⟨hcf,hcalls⟩:=h2 Γc _ w vals hokc hrep rfl;refine ⟨hcf,hcalls.mono fun e w' he=>?_⟩;obtain ⟨v,m',rfl,hok',hv',_⟩:=he;have hws:=hok.grow (w':=w') hok'.size (fun b hb=>hok'.frame b hb (fun h=>h)) hok'.os hok'.tape hok'.output;refine ⟨v,m,rfl,by rw [h4];exact hws,by rw [h4];exact zoj _ _ h3 hv'⟩
end
end Go.HL
namespace Go.HL
section
variable {Γ:Ctx} {P:Program} {m:zbj} {H:Nat->zaa} {w:World} {R:Nat->Prop}
theorem zhv {α β:Type} {f:α->β}:∀ {L:List α},(L.map f).Nodup->∀ {p q:α},p∈L->q∈L->f p=f q->p=q
 | [],_,_,_,hp,_,_=>by cases hp
 | z::L,hn,p,q,hp,hq,he=>by
  simp only [zy13,zy62] at hn;cases hp with
  | head=>cases hq with
   | head=>rfl
   | tail _ hq=>exact (hn.1 (zy4.2 ⟨q,hq,he.symm⟩)).elim
  | tail _ hp=>cases hq with
   | head=>exact (hn.1 (zy4.2 ⟨p,hp,he⟩)).elim
   | tail _ hq=>exact zhv hn.2 hp hq he
theorem zux {L:List (Nat×Nat)} {g:Nat->zaa} {H:Nat->zaa} (hn:(L.map (·.2)).Nodup) {p:Nat×Nat} (hp:p∈L):zbb H (L.map fun p=>(p.2,g p.1)) p.2=g p.1:=by
 induction L generalizing H with
 | nil=>cases hp
 | cons q L ih =>
  simp only [zy13,zy62] at hn;simp only [zy13,zbb];rcases zy9.1 hp with rfl | hp
  . rw [zfh,zaf]
    intro h;simp only [List.map_map,zy4,Function.comp] at h;obtain ⟨q,hq,he⟩:=h;exact hn.1 (zy4.2 ⟨q,hq,he⟩)
  . exact ih hn.2 hp
theorem zuy {L:List (Nat×Nat)} {g:Nat->zaa} {H:Nat->zaa} {i:Nat} (hi:i∉L.map (·.2)):zbb H (L.map fun p=>(p.2,g p.1)) i=H i:=by
 refine zfh fun h=>hi ?_
 simp only [List.map_map,zy4,Function.comp] at h ⊢;exact h
theorem zot {f:FuncId} {args:List HV} {r:Res} {us:List (Nat×zaa)} {ms:List Bool} {args1:List HV} {B F:List (Nat×Nat)} {args':List HV} {H':Nat->zaa} {r':HV} {H'':Nat->zaa}
 (h:zwp P f args H r us ms args1 B F args' H' r' H'') {vals:List Value} (hok0:zag Γ m H w) (hargs0:zae m w (RR Γ m H w) args vals) :
 (callFunc f vals.toArray).run P w=.ok (.enter f vals.toArray) w /\
 Calls P f vals.toArray w fun e w'=>∃ v m',e=.returned v/\WS Γ H m w (zbb H r.ups) m' w'/\zad m' w' (RR Γ m' (zbb H r.ups) w') r.val v:=by
 obtain ⟨a,u,⟨rfl,rfl⟩,hv⟩:=zdc _ _ h.mix;have hws0:=WS.frz hok0 hv.frz;have hok:=hws0.ok;have hargs1:zae m w (RR Γ m (zbb H u) w) a vals:=hv.rep m w _ vals (WS.kept hv.frz hok) (hws0.repL hargs0);have hhas:=h.has;have hnewH:∀ p∈F,zbb H u p.2=.free:=by
  intro p hp;rw [zfh]
  . exact (h.new p hp).2
  . intro hm
    obtain ⟨e,he,hee⟩:=zy4.1 hm;obtain ⟨b,hb,-⟩:=hv.frz e he;rw [hee,(h.new p hp).2] at hb;rcases hb with hb | hb<;>cases hb
 have hups:zbb H r.ups=zbb (zbb H u) ((B++F).map fun p=>(p.2,rnS (ren (B++F)) (H'' p.1))):=by rw [h.ups,zeq]
 generalize hH1:zbb H u=H1 at hok hargs1 hws0 hhas hnewH hups
 let σ:=ren B
 let σ2:=ren (B++F)
 have hBF1:((B++F).map (·.1)).Nodup:=by
  rw [zy53];refine List.nodup_append.2 ⟨h.ndB,h.ndF,fun x hx y hy=>?_⟩;obtain ⟨p,hp,rfl⟩:=zy4.1 hx;obtain ⟨q,hq,rfl⟩:=zy4.1 hy;have:=(hhas p hp).1;have:=(h.new q hq).1;omega
 have hBne:∀ p∈B,H1 p.2≠.free/\H' p.1≠.free:=by
  intro p hp;obtain ⟨-,b,-,⟨h1,h2⟩ | ⟨h1,h2⟩⟩:=hhas p hp
  . rw [h1,h2];exact ⟨zaa.noConfusion,zaa.noConfusion⟩
  . rw [h1,h2];exact ⟨zaa.noConfusion,zaa.noConfusion⟩
 have hBF2:((B++F).map (·.2)).Nodup:=by
  rw [zy53];refine List.nodup_append.2 ⟨h.ndB2,h.ndF2,fun x hx y hy=>?_⟩;obtain ⟨p,hp,rfl⟩:=zy4.1 hx;obtain ⟨q,hq,rfl⟩:=zy4.1 hy;intro he;exact (hBne p hp).1 (by rw [he];exact hnewH q hq)
 have hσ:∀ i o,σ i=some o->∃ j,o=some j/\(i,j)∈B:=fun i o ho=>zrc ho
 have hσget:∀ p∈B,σ p.1=some (some p.2):=fun p hp=>zut h.ndB hp
 have hσ2:∀ i o,σ2 i=some o->∃ j,o=some j/\(i,j)∈B++F:=fun i o ho=>zrc ho
 -- the callee's own names
 let mc:zbj:=zcc σ m
 have hmc:∀ p∈B,mc p.1=m p.2:=fun p hp=>by simp only [mc,zcc,hσget p hp]
 let own:Nat->Prop:=fun b=>zes mc H' b
 let Γc:Ctx:=⟨fun b=>RR Γ m H1 w b\/own b,w,own,mc⟩
 have hownB:∀ b,own b->∃ p∈B,∃ blk l,H1 p.2=.live blk/\m p.2=some l/\l.nil=false/\l.blk=b:=by
  rintro b ⟨id,l,blk,h1,h2,h3,h4⟩;rcases h.dom id with hf | ⟨p,hp,rfl⟩
  . rw [hf] at h1;cases h1
  . obtain ⟨-,b',-,⟨h5,h6⟩ | ⟨h5,h6⟩⟩:=hhas p hp
    . exact ⟨p,hp,_,l,h6,by rw [<- hmc p hp];exact h2,h3,h4⟩
    . rw [h5] at h1;cases h1
 have hown1:∀ b,own b->zes m H1 b:=fun b hb=>let ⟨p,_,blk,l,h1,h2,h3,h4⟩:=hownB b hb;⟨p.2,l,blk,h1,h2,h3,h4⟩
 have hownd:∀ b,own b->(Γ.own0 b\/Γ.w0.heap.size<=b)/\b<w.heap.size:=by
  intro b hb;obtain ⟨p,_,blk,l,h1,h2,h3,h4⟩:=hownB b hb;obtain ⟨l',h5,_,h6⟩:=hok.live _ _ h1;rw [h2] at h5;cases h5;rw [<- h4];exact h6 h3
 have hRc:∀ b,RR Γ m H1 w b->RR Γc mc H' w b:=fun b hb=>⟨.inl (.inl hb),hb.2.1,fun ho=>hb.2.2 (hown1 b ho)⟩
 have hmσ:∀ i j,σ i=some (some j)->mc i=m j:=fun i j hj=>by simp only [mc,zcc,hj]
 have hnσ:∀ i,σ i=some none->mc i=some ⟨0,0,0,true⟩:=fun i hj=>by simp only [mc,zcc,hj]
 have hokc:zag Γc mc H' w:=by
  refine ⟨zy47 _,rfl,rfl,rfl,fun _ _ _=>rfl,?_,?_,?_,?_,fun b hb=>.inr hb⟩
  . intro id hf
    cases hs:σ id with
    | none=>simp only [mc,zcc,hs]
    | some o =>
     obtain ⟨j,rfl,hj⟩:=hσ id o hs;exact absurd hf (hBne _ hj).2
  . intro id b hb
    rcases h.dom id with hf | ⟨p,hp,rfl⟩
    . rw [hf] at hb;cases hb
    . obtain ⟨-,b',hbo,⟨h5,h6⟩ | ⟨h5,h6⟩⟩:=hhas p hp
      . rw [hb] at h5;cases h5
        obtain ⟨l,h7,h8,h9⟩:=hok.live _ _ h6;have hl:mc p.1=some l:=by rw [hmc p hp];exact h7
        exact ⟨l,hl,zib hmσ hnσ hRc hbo h8,fun hn=>⟨.inl ⟨p.1,l,b,hb,hl,hn,rfl⟩,(h9 hn).2⟩⟩
      . rw [hb] at h5;cases h5
  . intro id b hb
    rcases h.dom id with hf | ⟨p,hp,rfl⟩
    . rw [hf] at hb;cases hb
    . obtain ⟨-,b',hbo,⟨h5,h6⟩ | ⟨h5,h6⟩⟩:=hhas p hp
      . rw [hb] at h5;cases h5
      . rw [hb] at h5;cases h5
        obtain ⟨l,h7,h8,h9⟩:=hok.ro _ _ h6;have hl:mc p.1=some l:=by rw [hmc p hp];exact h7
        exact ⟨l,hl,zib hmσ hnσ hRc hbo h8,fun hn=>hRc _ (h9 hn)⟩
  . intro id id' b b' l l' h1 h2 h3 h4 h5 h6 h7
    rcases h.dom id with hf | ⟨p,hp,rfl⟩
    . rw [hf] at h1;cases h1
    rcases h.dom id' with hf | ⟨q,hq,rfl⟩
    . rw [hf] at h2;cases h2
    rw [hmc p hp] at h3;rw [hmc q hq] at h4;have hp1:∃ blk,H1 p.2=.live blk:=by
     obtain ⟨-,b',-,⟨h8,h9⟩ | ⟨h8,h9⟩⟩:=hhas p hp
     . exact ⟨_,h9⟩
     . rw [h1] at h8;cases h8
    have hq1:∃ blk,H1 q.2=.live blk:=by
     obtain ⟨-,b',-,⟨h8,h9⟩ | ⟨h8,h9⟩⟩:=hhas q hq
     . exact ⟨_,h9⟩
     . rw [h2] at h8;cases h8
    obtain ⟨bp,hp1⟩:=hp1;obtain ⟨bq,hq1⟩:=hq1;have heq:=hok.inj _ _ _ _ _ _ hp1 hq1 h3 h4 h5 h6 h7
    -- names are other ones as the caller's are
    exact congrArg Prod.fst (zhv h.ndB2 hp hq heq)
 have hrepc:zae mc w (RR Γc mc H' w) args' vals:=by
  refine zep hmσ hnσ hRc args' vals h.argsOk ?_;rw [h.args];exact hargs1
 obtain ⟨hcf,hcalls⟩:=h.spec Γc mc w vals hokc hrepc rfl;refine ⟨hcf,hcalls.mono fun e w' he=>?_⟩;obtain ⟨v,m2,rfl,hok2,hv2,hpin⟩:=he
 -- the caller's names behind the call
 let L:=B++F
 let m3:zbj:=fun i=>match L.find? fun p=>Nat.beq p.2 i with
  | some p=>m2 p.1
  | none=>m i
 have zfn:∀ p∈L,m3 p.2=m2 p.1:=by
  intro p hp;have:L.find? (fun q=>Nat.beq q.2 p.2)=some p:=by
   have gen:∀ {L:List (Nat×Nat)},(L.map (·.2)).Nodup->p∈L->L.find? (fun q=>Nat.beq q.2 p.2)=some p:=by
    intro L
    induction L with
    | nil=>intro _ hp;cases hp
    | cons z L ih =>
     intro hn hp;simp only [zy13,zy62] at hn;rcases zy9.1 hp with rfl | hp
     . simp
     . have hz:Nat.beq z.2 p.2=false:=by
        cases hb:Nat.beq z.2 p.2 with
        | false=>rfl
        | true=>exact absurd (zy4.2 ⟨p,hp,(zy0 hb).symm⟩) hn.1
       rw [List.find?_cons,hz];exact ih hn.2 hp
   exact gen hBF2 hp
  simp only [m3,this]
 have hoff:∀ i,i∉L.map (·.2)->m3 i=m i:=by
  intro i hi;have:L.find? (fun q=>Nat.beq q.2 i)=none:=by
   rw [List.find?_eq_none];intro q hq hb;exact hi (zy4.2 ⟨q,hq,zy0 hb⟩)
  simp only [m3,this]
 have hBm:∀ p∈B,∃ l,m p.2=some l:=by
  intro p hp;obtain ⟨-,b',-,⟨h8,h9⟩ | ⟨h8,h9⟩⟩:=hhas p hp
  . obtain ⟨l,h1,_⟩:=hok.live _ _ h9;exact ⟨l,h1⟩
  . obtain ⟨l,h1,_⟩:=hok.ro _ _ h9;exact ⟨l,h1⟩
 have hB2:∀ p∈B,m2 p.1=m p.2:=by
  intro p hp;obtain ⟨l,hl⟩:=hBm p hp;rw [hl];exact hpin p.1 l (hhas p hp).1 (by rw [hmc p hp];exact hl)
 have hext:zkl m m3:=by
  intro i l hl;by_cases hi:i∈L.map (·.2)
  . obtain ⟨p,hp,rfl⟩:=zy4.1 hi
    rw [zfn p hp];rcases zy6.1 hp with hp | hp
    . rw [hB2 p hp];exact hl
    . rw [hok.free _ (hnewH p hp)] at hl;cases hl
  . rw [hoff i hi];exact hl
 rw [hups]
 let H3:=zbb H1 ((B++F).map fun p=>(p.2,rnS (ren (B++F)) (H'' p.1)))
 show ∃ v0 m',Ending.returned v=Ending.returned v0/\WS Γ H m w H3 m' w'/\zad m' w' (RR Γ m' H3 w') r.val v0;have hH3in:∀ p∈L,H3 p.2=rnS σ2 (H'' p.1):=fun p hp=>zux (g:=fun c=>rnS (ren (B++F)) (H'' c)) hBF2 hp
 have hH3off:∀ i,i∉L.map (·.2)->H3 i=H1 i:=fun i hi=>zuy (g:=fun c=>rnS (ren (B++F)) (H'' c)) hi
 have hframe:∀ b,b<w.heap.size->¬ own b->w'.heap[b]?=w.heap[b]?:=fun b hb hn=>hok2.frame b hb hn
 -- who owns what behind it
 have hliveL:∀ p∈L,∀ b3,H3 p.2=.live b3->∃ b2,H'' p.1=.live b2/\b3=rnB σ2 b2:=by
  intro p hp b3 hb;rw [hH3in p hp] at hb;cases hh:H'' p.1<;>rw [hh] at hb<;>simp only [rnS] at hb<;>cases hb
  exact ⟨_,rfl,rfl⟩
 have hlocL:∀ p∈L,∀ b2 l,H'' p.1=.live b2->m2 p.1=some l->l.nil=false->(own l.blk\/w.heap.size<=l.blk)/\l.blk<w'.heap.size:=by
  intro p hp b2 l h1 h2 h3;obtain ⟨l',h4,_,h5⟩:=hok2.live _ _ h1;rw [h2] at h4;cases h4;exact h5 h3
 have hOw3:∀ b,zes m3 H3 b->(∃ i l blk,i∉L.map (·.2)/\H1 i=.live blk/\m i=some l/\l.nil=false/\l.blk=b)\/(zes m2 H'' b/\(own b\/w.heap.size<=b)):=by
  rintro b ⟨i,l,blk,h1,h2,h3,h4⟩;by_cases hi:i∈L.map (·.2)
  . obtain ⟨p,hp,rfl⟩:=zy4.1 hi
    obtain ⟨b2,h5,_⟩:=hliveL p hp _ h1;rw [zfn p hp] at h2
    right
    exact ⟨⟨p.1,l,b2,h5,h2,h3,h4⟩,h4 ▸ (hlocL p hp b2 l h5 h2 h3).1⟩
  . rw [hH3off i hi] at h1
    rw [hoff i hi] at h2;exact .inl ⟨i,l,blk,hi,h1,h2,h3,h4⟩
 have hunt:∀ b i l blk,i∉L.map (·.2)->H1 i=.live blk->m i=some l->l.nil=false->l.blk=b->¬ own b:=by
  intro b i l blk hi h1 h2 h3 h4 ho;obtain ⟨p,hp,bp,lp,h5,h6,h7,h8⟩:=hownB b ho;have:=hok.inj _ _ _ _ _ _ h1 h5 h2 h6 h3 h7 (h4.trans h8.symm);exact hi (this ▸ zy4.2 ⟨p,by simp [L,hp],rfl⟩)
 have hR3:∀ b,RR Γ m H1 w b->w'.heap[b]?=w.heap[b]?/\RR Γ m3 H3 w' b:=by
  intro b hb;have hno:¬ own b:=fun ho=>hb.2.2 (hown1 b ho)
  refine ⟨hframe b hb.2.1 hno,hb.1,zy32 hb.2.1 hok2.size,fun ho=>?_⟩;rcases hOw3 b ho with ⟨i,l,blk,_,h1,h2,h3,h4⟩ | ⟨_,h1 | h1⟩
  . exact hb.2.2 ⟨i,l,blk,h1,h2,h3,h4⟩
  . exact hno h1
  . have:=hb.2.1;omega
 have hR2:∀ b,RR Γc m2 H'' w' b->RR Γ m3 H3 w' b:=by
  intro b ⟨h1,h2,h3⟩;have h1':RR Γ m H1 w b\/own b\/w.heap.size<=b:=by
   rcases h1 with (h1 | h1) | h1
   . exact .inl h1
   . exact .inr (.inl h1)
   . exact .inr (.inr h1)
  rcases h1' with h1 | h1
  . exact (hR3 b h1).2
  . refine ⟨?_,h2,fun ho=>?_⟩
    . rcases h1 with h1 | h1
      . rcases (hownd b h1).1 with h4 | h4
        . exact .inl (hok.dom b h4)
        . exact .inr h4
      . exact .inr (zy63 hok.size h1)
    . rcases hOw3 b ho with ⟨i,l,blk,hi,h4,h5,h6,h7⟩ | ⟨h4,_⟩
      . rcases h1 with h1 | h1
        . exact hunt b i l blk hi h4 h5 h6 h7 h1
        . obtain ⟨l',h8,_,h9⟩:=hok.live _ _ h4
          rw [h5] at h8;cases h8;have:=(h9 h6).2;omega
      . exact h3 h4
 have hm32:∀ i o,σ2 i=some o->∃ j,o=some j/\m3 j=m2 i:=by
  intro i o ho;obtain ⟨j,rfl,hj⟩:=hσ2 i o ho;exact ⟨j,rfl,zfn _ hj⟩
 have hafter:=h.after;have hok3:zag Γ m3 H3 w':=by
  refine ⟨zy63 hok.size hok2.size,hok2.os.trans hok.os,hok2.tape.trans hok.tape,hok2.output.trans hok.output,?_,?_,?_,?_,?_,hok.dom⟩
  . intro b hb hn
    have hlt:b<w.heap.size:=zy32 hb hok.size;refine (hframe b hlt fun ho=>?_).trans (hok.frame b hb hn);rcases (hownd b ho).1 with h1 | h1
    . exact hn h1
    . omega
  . intro i hf
    by_cases hi:i∈L.map (·.2)
    . obtain ⟨p,hp,rfl⟩:=zy4.1 hi
      rw [hH3in p hp] at hf;have:=hafter p hp;cases hh:H'' p.1<;>rw [hh] at hf this
      . cases this
      all_goals cases hf
    . rw [hH3off i hi] at hf
      rw [hoff i hi];exact hok.free i hf
  . intro i b hb
    by_cases hi:i∈L.map (·.2)
    . obtain ⟨p,hp,rfl⟩:=zy4.1 hi
      obtain ⟨b2,h5,rfl⟩:=hliveL p hp _ hb;obtain ⟨l,h6,h7,h8⟩:=hok2.live _ _ h5;have hb2:zgd σ2 b2=true:=by have:=hafter p hp;rw [h5] at this;exact this
      refine ⟨l,by rw [zfn p hp];exact h6,zrd hm32 hR2 hb2 h7,fun hn=>⟨?_,(h8 hn).2⟩⟩;rcases (hlocL p hp b2 l h5 h6 hn).1 with h9 | h9
      . exact (hownd _ h9).1
      . exact .inr (zy63 hok.size h9)
    . rw [hH3off i hi] at hb
      obtain ⟨l,h6,h7,h8⟩:=hok.live _ _ hb;refine ⟨l,by rw [hoff i hi];exact h6,h7.mono hext hR3 fun hn=>hframe _ (h8 hn).2 (hunt _ i l b hi hb h6 hn rfl),fun hn=>⟨(h8 hn).1,zy32 (h8 hn).2 hok2.size⟩⟩
  . intro i b hb
    by_cases hi:i∈L.map (·.2)
    . obtain ⟨p,hp,rfl⟩:=zy4.1 hi
      rw [hH3in p hp] at hb;have hok':=hafter p hp;cases hh:H'' p.1<;>rw [hh] at hb hok'<;>simp only [rnS] at hb<;>cases hb
      obtain ⟨l,h6,h7,h8⟩:=hok2.ro _ _ hh;exact ⟨l,by rw [zfn p hp];exact h6,zrd hm32 hR2 hok' h7,fun hn=>hR2 _ (h8 hn)⟩
    . rw [hH3off i hi] at hb
      obtain ⟨l,h6,h7,h8⟩:=hok.ro _ _ hb;exact ⟨l,by rw [hoff i hi];exact h6,h7.mono hext hR3 fun hn=>(hR3 _ (h8 hn)).1,fun hn=>(hR3 _ (h8 hn)).2⟩
  . intro i i' b b' l l' h1 h2 h3 h4 h5 h6 h7
    by_cases hi:i∈L.map (·.2)<;>by_cases hi':i'∈L.map (·.2)
    . obtain ⟨p,hp,rfl⟩:=zy4.1 hi
      obtain ⟨q,hq,rfl⟩:=zy4.1 hi';obtain ⟨b2,h8,-⟩:=hliveL p hp _ h1;obtain ⟨b2',h9,-⟩:=hliveL q hq _ h2;rw [zfn p hp] at h3;rw [zfn q hq] at h4;have heq:=hok2.inj _ _ _ _ _ _ h8 h9 h3 h4 h5 h6 h7;exact congrArg Prod.snd (zhv hBF1 hp hq heq)
    . obtain ⟨p,hp,rfl⟩:=zy4.1 hi
      obtain ⟨b2,h8,-⟩:=hliveL p hp _ h1;rw [zfn p hp] at h3;rw [hH3off i' hi'] at h2;rw [hoff i' hi'] at h4;exfalso;rcases (hlocL p hp b2 l h8 h3 h5).1 with h9 | h9
      . exact hunt _ i' l' b' hi' h2 h4 h6 h7.symm h9
      . obtain ⟨lx,h10,_,h11⟩:=hok.live _ _ h2
        rw [h4] at h10;cases h10;have:=(h11 h6).2;omega
    . obtain ⟨p,hp,rfl⟩:=zy4.1 hi'
      obtain ⟨b2,h8,-⟩:=hliveL p hp _ h2;rw [zfn p hp] at h4;rw [hH3off i hi] at h1;rw [hoff i hi] at h3;exfalso;rcases (hlocL p hp b2 l' h8 h4 h6).1 with h9 | h9
      . exact hunt _ i l b hi h1 h3 h5 h7 h9
      . obtain ⟨lx,h10,_,h11⟩:=hok.live _ _ h1
        rw [h3] at h10;cases h10;have:=(h11 h5).2;omega
    . rw [hH3off i hi] at h1
      rw [hoff i hi] at h3;rw [hH3off i' hi'] at h2;rw [hoff i' hi'] at h4;exact hok.inj _ _ _ _ _ _ h1 h2 h3 h4 h5 h6 h7
 have hws2:WS Γ H1 m w H3 m3 w':=⟨hext,hok3,hR3⟩
 refine ⟨v,m3,rfl,hws0.trans hws2,?_⟩;rw [h.val];exact ztr hm32 hR2 _ _ h.valOk hv2
theorem zlv {ps rs:Array TypeId} {t e:TypeId} {i:TypeInfo} (h0:ps[0]?=some t) (hu:P.underlying t=some (.slice e)) (hi:P.info? e=some i) (hs:0<i.size) {a b:Option Addr} {la ca lb cb:Nat}
 (h:la≠0->lb≠0->∃ x y p q arr arr' t1 t2,a=some ⟨x,p,none⟩/\b=some ⟨y,q,none⟩/\x≠y/\w.heap[x]?=some (.cells arr t1 (0,0))/\w.heap[y]?=some (.cells arr' t2 (0,0))) :
 (Extern.SlicesOverlaps.overlaps ps rs #[.slice a la ca,.slice b lb cb]).run P w=.ok (.bool false) w:=by
 have hsz:¬ i.size=0:=by omega
 conv=>lhs;arg 2;whnf
 rw [h0];by_cases h1:la=0
 . cases a<;>cases b<;>simp [run_underlying hu,sizeOf,typeInfo,hi,h1]
 by_cases h2:lb=0
 . cases a<;>cases b<;>simp [run_underlying hu,sizeOf,typeInfo,hi,h2]
 obtain ⟨x,y,p,q,arr,arr',t1,t2,rfl,rfl,hxy,hx,hy⟩:=h h1 h2;have hb:(x==y)=false:=by simpa using hxy
 have f1:∀ o,w.frozen? ⟨x,o,none⟩=false:=fun o=>by simp [World.frozen?,hx]
 have f2:∀ o,w.frozen? ⟨y,o,none⟩=false:=fun o=>by simp [World.frozen?,hy]
 have s1:w.shape? x=some (t1,arr.size):=by simp [World.shape?,hx]
 have s2:w.shape? y=some (t2,arr'.size):=by simp [World.shape?,hy]
 simp [run_underlying hu,sizeOf,typeInfo,hi,h1,h2,hsz,hxy,hb,f1,f2,s1,s2,noView,viewAt,mayBeOne,stringish]
theorem ztq {x:HV} {id:Nat} {v:Value} {blk:zcq} (hok:zag Γ m H w) (hx:x=.own id\/∃ n o l,x=.osl id n o l) (h:zad m w (RR Γ m H w) x v) (hb:H id=.live blk) (hc:(∀ t cs,blk≠.cells t cs)/\(∀ k a es,blk≠.map k a es)/\∀ k a es x,blk≠.iter k a es x) :
 ∃ a len c l,v=.slice a len c/\m id=some l/\(len≠0->l.nil=false/\(∃ o,a=some ⟨l.blk,o,none⟩)/\∃ arr t,w.heap[l.blk]?=some (.cells arr t (0,0))):=by
 obtain ⟨l,hl,hbr,_⟩:=hok.live id _ hb;have hheap:l.nil=false->∃ arr t,w.heap[l.blk]?=some (.cells arr t (0,0)):=by
  intro hn;cases blk with
  | cells t cs=>exact absurd rfl (hc.1 t cs)
  | map k a es=>exact absurd rfl (hc.2.1 k a es)
  | iter k a es x=>exact absurd rfl (hc.2.2 k a es x)
  | row t n rows =>
   obtain ⟨_,_,⟨h1,_⟩ | ⟨_,_,_,arr,h2,_⟩⟩:=hbr
   . rw [hn] at h1;cases h1
   . exact ⟨arr,t,h2⟩
  | buf t n rows c =>
   obtain ⟨_,_,_,_,_,arr,h2,_⟩:=hbr;exact ⟨arr,t,h2⟩
 rcases hx with rfl | ⟨n,o,len,rfl⟩
 . simp only [zad] at h
   obtain ⟨l',hl',rfl⟩:=h;rw [hl] at hl';cases hl';cases hn:l.nil with
   | true=>exact ⟨none,0,0,l,by simp [hdr,hn],hl,fun h=>absurd rfl h⟩
   | false=>exact ⟨_,_,_,l,by simp only [hdr,hn];rfl,hl,fun _=>⟨hn,⟨_,rfl⟩,hheap hn⟩⟩
 . obtain ⟨l',a,c,hl',h1,h2,h3,rfl,h5⟩:=zfx h
   rw [hl] at hl';cases hl';exact ⟨a,len,c,l,rfl,hl,fun h=>⟨(h5 h).1,⟨_,(h5 h).2⟩,hheap (h5 h).1⟩⟩
theorem zsy {f:FuncId} {args:List HV} {r:Res} (h:Ov P f args H r) {vals:List Value} (hok:zag Γ m H w) (hargs:zae m w (RR Γ m H w) args vals) :
 ∃ v w' m',(callFunc f vals.toArray).run P w=.ok (.value v) w'/\WS Γ H m w (zbb H r.ups) m' w'/\zad m' w' (RR Γ m' (zbb H r.ups) w') r.val v:=by
 obtain ⟨fn,e,i,x,y,i1,i2,b1,b2,h1,h2,h3,h4,h5,⟨t,h6,h6'⟩,h7,h8,rfl,h10,h11,h12,h13,h14,h15,h16,rfl⟩:=h.out;simp only [zae] at hargs;obtain ⟨vx,_,rfl,hx,vy,_,rfl,hy,rfl⟩:=hargs;obtain ⟨a,la,ca,l1,rfl,g1,g2⟩:=ztq hok h10 hx h13 h15;obtain ⟨b,lb,cb,l2,rfl,g3,g4⟩:=ztq hok h11 hy h14 h16;have zbh:=zlv (P:=P) (w:=w) (ps:=fn.params) (rs:=fn.resultTypes) h6 h6' h7 h8 (a:=a) (b:=b) (la:=la) (ca:=ca) (lb:=lb) (cb:=cb) (fun k1 k2=>by
  obtain ⟨n1,⟨o1,rfl⟩,arr1,t1,q1⟩:=g2 k1;obtain ⟨n2,⟨o2,rfl⟩,arr2,t2,q2⟩:=g4 k2;exact ⟨l1.blk,l2.blk,o1,o2,arr1,arr2,t1,t2,rfl,rfl,fun he=>h12 (hok.inj _ _ _ _ _ _ h13 h14 g1 g3 n1 n2 he),q1,q2⟩)
 refine ⟨.bool false,w,m,?_,.refl hok,zbd _ rfl⟩;simp [callFunc,h1,h2,h3,h4,h5,zbh]
theorem zrq:zcx P (CR P):=by
 intro f args H d r h Γ m w vals hok hargs;cases h with
 | lend h=>exact .inl (zpf h hok hargs)
 | give h=>exact .inl (zot h hok hargs)
 | ov h=>exact .inr (zsy h hok hargs)
theorem zlu {f : FuncId} {fn : Func} {c : Code} (hf : P.funcs[f]? = some fn) (hb : fn.body = some c) (hn : fn.name ≠ "runtime.NumGoroutine") (vals : Array Value) :
 (callFunc f vals).run P w=.ok (.enter f vals) w:=by
 simp [callFunc,hf,hb,hn]
theorem zox (hm : P.follows .mixedOrders = true) {f : FuncId} {fn : Func} (hf : P.funcs[f]? = some fn) (hn : fn.name ≠ "runtime.NumGoroutine") {args : List HV} {pins : List Nat} (hpins : ∀ id, pin <= id -> H id = .free \/ id ∈ pins) {K : HV -> (Nat -> zaa) -> Prop}
 (h:zwi P (CR P) fn args H pins K) {vals:List Value} (hok:zag Γ m H w) (hargs:zae m w (RR Γ m H w) args vals) (h0:Γ.m0=m) :
 (callFunc f vals.toArray).run P w=.ok (.enter f vals.toArray) w /\
 Calls P f vals.toArray w fun e w'=>∃ x H' v m',e=.returned v/\K x H'/\zag Γ m' H' w'/\zad m' w' (RR Γ m' H' w') x v/\∀ id l,pin<=id->m id=some l->m' id=some l:=by
 unfold zwi at h;split at h
 . rename_i c hb
   refine ⟨zlu hf hb hn _,?_⟩;obtain ⟨hle,h⟩:=zab h;have hle:=zy2 hle;have hlen:=hargs.length;refine calls_of_wp hf hb ?_;have hc:zeg Γ P m (zry args fn.ntmps H pins) {tmps:=vals.toArray++Array.replicate (fn.ntmps-vals.toArray.size) undef,defers:=[]} w:=by
    refine ⟨hok,fun t=>?_,by simp [zry];omega,rfl,fun id l hp hl=>⟨?_,by rw [<- h0];exact hl⟩⟩
    rotate_left
    . rcases hpins id hp with hf | hf
      . rw [h0,hok.free id hf] at hl;cases hl
      . exact hf
    simp only [zry,zce];rw [zy20,Array.getElem?_append];by_cases ht:t<args.length
    . obtain ⟨v,hv,hrep⟩:=hargs.get t args[t] (zy15 ht)
      rw [zy11 (by simpa [hlen] using ht),zy15 ht];simp only [Option.getD_some,List.getElem?_toArray,hv];exact hrep
    . rw [zy7 (by simpa [hlen] using ht),zy24 (by omega)]
      simp only [Option.getD_none,zad];rw [Array.getElem?_replicate];split<;>rfl
   refine zqk hm zrq zrp c _ _ _ m _ w h hc fun e s' m' a' w' he hc'=>?_
   have fin:zwd P s' fn.results.toList (fun v=>K v s'.heap)->∃ v,(results fn a'.tmps).run P w'=.ok v w'/\∃ x H' v0 m',Ending.returned v=.returned v0/\K x H'/\zag Γ m' H' w'/\zad m' w' (RR Γ m' H' w') x v0/\∀ id l,pin<=id->m id=some l->m' id=some l:=by
    intro hr;obtain ⟨x,v,h1,h2,h3⟩:=zug hc' hr;exact ⟨v,h3,x,s'.heap,v,m',rfl,h1,hc'.heap,h2,fun id l hp hl=>(hc'.pin id l hp (by rw [h0];exact hl)).2⟩
   cases e with
   | exit i=>exact he.elim
   | normal=>exact ⟨hc'.defers,fin he⟩
   | ret=>exact ⟨hc'.defers,fin he⟩
 . exact h.elim
theorem zbn (hm : P.follows .mixedOrders = true) {f : FuncId} {fn : Func} (hf : P.funcs[f]? = some fn) (hn : fn.name ≠ "runtime.NumGoroutine") {args : List HV} {r : HV}
 (h:zwi P (CR P) fn args zay [] fun x H2=>zbu H2 x fun y _=>zir (zhx P fn.resultTypes.toList y) fun y=>y=r):zdo P f args zay r zay:=by
 intro Γ m w vals hok hargs h0;obtain ⟨h1,h2⟩:=zox hm hf hn (fun _ _=>.inl rfl) h hok hargs h0;refine ⟨h1,h2.mono fun e w' he=>?_⟩;obtain ⟨x,H2,v,m',rfl,hk,hok',hv,hp⟩:=he;obtain ⟨y,us,hy,hview⟩:=zga _ hk;rw [zkr] at hy;subst hy;have hws:=WS.frz hok' hview.frz;have hy:=hview.rep m' w' _ v (WS.kept hview.frz hws.ok) (hws.rep hv);have hRn:∀ b,RR Γ m' (zbb H2 us) w' b->RR Γ (fun _=>none) zay w' b:=fun b hb=>⟨hb.1,hb.2.1,znc⟩
 refine ⟨v,fun _=>none,rfl,⟨hok'.size,hok'.os,hok'.tape,hok'.output,hok'.frame,fun _ _=>rfl,(fun id b hb=>by cases hb),(fun id b hb=>by cases hb),(fun id id' b b' l l' hb=>by cases hb),hok'.dom⟩,?_,fun id l _ hl=>?_⟩
 . refine zad.zhx _ ?_
   refine zrf (σ:=zlh) (m:=m') (R:=RR Γ m' (zbb H2 us) w') (fun i j hj=>by cases hj) (fun i hj=>by cases hj) hRn _ v hview.noid ?_;rw [zre _ hview.noid];exact hy
 . rw [hok.free id rfl] at hl;cases hl
end
end Go.HL
namespace Go.HL
abbrev i64 (n:Int):HV:=.p (.v (.int .i64 n))
abbrev W (z:Int):Int:=IntKind.i64.wrap z
theorem zas {b:Bool} {A B:Prop} (h1:b=true->A) (h2:b=false->B):hif b A B:=by cases b<;>simp_all [hif]
theorem znu {b:Bool} {A B:Prop} (h:b=true) (ha:A):hif b A B:=by subst h;exact ha
theorem zbk {b:Bool} {A B:Prop} (h:b=false) (hb:B):hif b A B:=by subst h;exact hb
theorem zdu {k:IntKind} {z:Int} {K:Int->Prop} (h:K (k.wrap z)):zgq k z K:=⟨_,rfl,h⟩
theorem zhp {k:IntKind} {z:Int} {K:Int->Prop} (hz:k.wrap z=z) (h:K z):zgq k z K:=⟨z,hz.symm,h⟩
theorem zdy {c k:Prop} (h:c) (hk:k):zer c k:=⟨h,hk⟩
theorem zdi {P:Program} {s0:HS} {all:Array Oper} {labs:List Lab} {k:Prop} (h:zdz all labs=true) (hk:k):zuc P s0 all labs k:=⟨.inl h,hk⟩
theorem zfq {rows:List (List PV)} {i:Int} {K:List PV->Prop} {r:List PV} (h0:0<=i) (h:rows[i.toNat]?=some r) (hk:K r):zms rows i K:=⟨r,h0,h,hk⟩
theorem zet {z:Int} (h1:-9223372036854775808<=z) (h2:z<=9223372036854775807):W z=z:=by
 unfold W IntKind.wrap;simp [IntKind.bits,IntKind.signed];omega
section
variable {P:Program}
theorem zao {f:FuncId} {args:List HV} {d:Nat} {H:Nat->zaa} {K:Res->Prop} (h:zdm H args fun a us=>zem (normArgs P (zsz P f) a) fun a=>∃ r,zdo P f a zay r zay/\zmf r=true/\K ⟨r,[],us.map (·.1)⟩) :
 zvi (CR P) f args d H K:=by
 obtain ⟨a,us,h,hv⟩:=zbt _ h;rw [zda] at h;obtain ⟨r,h1,h2,h3⟩:=h;replace h1:=h1.args fun _ _ _ _ hx=>hx.normArgs _
 exact ⟨_,.lend ⟨hv.loc H (fun _ _=>rfl) _ ⟨rfl,rfl⟩,h1,h2,rfl,rfl⟩,h3⟩
end
def zvc (σ:Ren) (s:HS):List (Nat×HV)->Prop
 | []=>True
 | (i,x)::r=>(zeb σ x=true/\rn σ x=s.slot i)/\zvc σ s r
def zsd (σ:Ren) (s:HS):List (Nat×zaa)->Prop
 | []=>True
 | (id,b)::r=>(match b with
  | .free=>False
  | .dead=>(σ id).isSome=true
  | .live b=>zgd σ b=true/\((∃ j,σ id=some (some j)/\s.heap j=.live (rnB σ b))\/(σ id=some none/\zvr b))
  | .ro b=>zgd σ b=true/\∃ j,σ id=some (some j)/\(s.heap j=.live (rnB σ b)\/s.heap j=.ro (rnB σ b)))/\zsd σ s r
def zng (σ:Ren):List Nat->Prop
 | []=>True
 | i::r=>σ i=some (some i)/\zng σ r
def ztg:List (Nat×Option Nat)->List Nat
 | []=>[]
 | (_,some j)::r=>j::ztg r
 | (_,none)::r=>ztg r
def zhu:List Nat->Bool
 | []=>true
 | x::r=>!(r.any (Nat.beq x))&&zhu r
def zhr (L:List (Nat×zaa)):List (Nat×Option Nat)->Bool
 | []=>true
 | (i,_)::r=>L.any (fun p=>Nat.beq i p.1)&&zhr L r
theorem zjz {α:Type} {d:α}:∀ {l:List (Nat×α)} {i:Nat},lk d l i=d\/∃ x,(i,x)∈l/\lk d l i=x
 | [],i=>.inl rfl
 | (j,x)::r,i=>by
  simp only [lk];cases hb:Nat.beq i j with
  | true=>have:=zy0 hb;subst this;exact .inr ⟨x,by simp,rfl⟩
  | false =>
   rcases zjz (d:=d) (l:=r) (i:=i) with h | ⟨y,h1,h2⟩
   . exact .inl h
   . exact .inr ⟨y,by simp [h1],h2⟩
theorem zok {σ:Ren} {s:HS}:∀ {l:List (Nat×HV)} {i:Nat} {x:HV},zvc σ s l->(i,x)∈l->zeb σ x=true/\rn σ x=s.slot i
 | (j,y)::r,i,x,h,hm=>by
  simp only [zvc] at h;cases hm with
  | head=>exact h.1
  | tail _ hm=>exact zok h.2 hm
theorem zmz {l:List (Nat×Option Nat)} {i:Nat} {o:Option Nat} (h:lkN l i=some o):(i,o)∈l:=by
 induction l with
 | nil=>cases h
 | cons p l ih =>
  obtain ⟨a,b⟩:=p;simp only [lkN] at h;cases hb:Nat.beq i a with
  | true=>rw [hb] at h;cases h;have:=zy0 hb;subst this;simp
  | false=>rw [hb] at h;simp [ih h]
theorem ziy {L:List (Nat×zaa)}:∀ {l:List (Nat×Option Nat)} {i:Nat} {o:Option Nat},zhr L l=true->(i,o)∈l->∃ b,(i,b)∈L
 | (j,y)::r,i,o,h,hm=>by
  simp only [zhr,zy1] at h;cases hm with
  | head =>
   obtain ⟨p,hp,hb⟩:=zy48.1 h.1;have:=zy0 hb;subst this;exact ⟨p.2,hp⟩
  | tail _ hm=>exact ziy h.2 hm
theorem zqo {α:Type} {d:α}:∀ {l:List (Nat×α)} {i:Nat},(∀ x,(i,x)∉l)->lk d l i=d
 | [],i,_=>rfl
 | (j,x)::r,i,h=>by
  simp only [lk];cases hb:Nat.beq i j with
  | true=>have:=zy0 hb;subst this;exact absurd zz1 (h x)
  | false=>exact zqo fun y hy=>h y zz16
theorem znw {σ:Ren} {s:HS}:∀ {l:List (Nat×zaa)} {i:Nat} {x:zaa},zsd σ s l->(i,x)∈l->zsd σ s [(i,x)]
 | (j,y)::r,i,x,h,hm=>by
  simp only [zsd] at h;cases hm with
  | head=>exact ⟨h.1,trivial⟩
  | tail _ hm=>exact znw h.2 hm
theorem zkg:∀ {l:List (Nat×Option Nat)},zhu (ztg l)=true->∀ {i i' j:Nat},(i,some j)∈l->(i',some j)∈l->i=i'
 | [],_,i,i',j,h,_=>by cases h
 | (a,none)::r,hn,i,i',j,h,h'=>by
  cases h with
  | tail _ h=>cases h' with
   | tail _ h'=>exact zkg (l:=r) hn h h'
 | (a,some b)::r,hn,i,i',j,h,h'=>by
  simp only [ztg,zhu,zy1,zy44] at hn;have hin:∀ {r:List (Nat×Option Nat)} {i j:Nat},(i,some j)∈r->j∈ztg r:=by
   intro r
   induction r with
   | nil=>intro i j h;cases h
   | cons p r ih =>
    intro i j h;obtain ⟨a,o⟩:=p;cases h with
    | head=>simp [ztg]
    | tail _ h=>cases o<;>simp [ztg,ih h]
  have hno:∀ {i:Nat},(i,some b)∉r:=by
   intro i hi;have:=List.any_eq_false.1 hn.1 b (hin hi);simp at this
  cases h with
  | head=>cases h' with
   | head=>rfl
   | tail _ h'=>exact absurd h' hno
  | tail _ h=>cases h' with
   | head=>exact absurd h hno
   | tail _ h'=>exact zkg hn.2 h h'
theorem zrz {s:HS} {heap:List (Nat×zaa)} {pins:List Nat} (l:List (Nat×Option Nat)) (h1:zhr heap l=true) (_:zng (lkN l) pins) (h5:zsd (lkN l) s heap):∀ id,match lk zaa.free heap id with
 | .free=>lkN l id=none
 | .dead=>True
 | .live b=>zgd (lkN l) b=true/\((∃ j,lkN l id=some (some j)/\s.heap j=.live (rnB (lkN l) b))\/(lkN l id=some none/\zvr b))
 | .ro b=>zgd (lkN l) b=true/\∃ j,lkN l id=some (some j)/\(s.heap j=.live (rnB (lkN l) b)\/s.heap j=.ro (rnB (lkN l) b)):=by
 intro id;by_cases hm:∃ x,(id,x)∈heap
 . rcases zjz (d:=zaa.free) (l:=heap) (i:=id) with h | ⟨x,hx,h⟩
   . exfalso
     obtain ⟨x,hx⟩:=hm;have gen:∀ {l:List (Nat×zaa)} {σ:Ren},zsd σ s l->(∃ x,(id,x)∈l)->lk .free l id≠.free:=by
      intro l
      induction l with
      | nil=>intro σ _ ⟨x,hx⟩;cases hx
      | cons p l ih =>
       obtain ⟨a,y⟩:=p;intro σ h ⟨x,hx⟩;simp only [lk];cases hb:Nat.beq id a with
       | true =>
        show y≠.free;intro hy;subst hy;exact h.1
       | false =>
        refine ih h.2 ?_;cases hx with
        | head=>simp at hb
        | tail _ hx=>exact ⟨x,hx⟩
     exact gen h5 ⟨x,hx⟩ h
   . rw [h]
     have:=(znw h5 hx).1;cases x<;>simp only at this ⊢
     . exact this
     . exact this
 . rw [zqo fun x hx=>hm ⟨x,hx⟩]
   show lkN l id=none;cases ho:lkN l id with
   | none=>rfl
   | some o=>exact absurd (ziy h1 (zmz ho)) hm
theorem zsa {pins:List Nat} (l:List (Nat×Option Nat)) (h3:zng (lkN l) pins):∀ id∈pins,lkN l id=some (some id):=by
 intro id hid;have gen:∀ {r:List Nat},zng (lkN l) r->id∈r->lkN l id=some (some id):=by
  intro r
  induction r with
  | nil=>intro _ h;cases h
  | cons a r ih =>
   intro h hm;simp only [zng] at h;cases hm with
   | head=>exact h.1
   | tail _ hm=>exact ih h.2 hm
 exact gen h3 hid
def zko (heap:List (Nat×zaa)) (i:Nat):Bool:=match lk .free heap i with
 | .dead=>true
 | _=>false
def zkf (heap:List (Nat×zaa)):List (Nat×Option Nat)->List Nat
 | []=>[]
 | (i,some j)::r=>bif zko heap i then zkf heap r else j::zkf heap r
 | (_,none)::r=>zkf heap r
theorem zon {heap:List (Nat×zaa)}:∀ (l:List (Nat×Option Nat)),zkf heap l=ztg (l.filter fun p=>!zko heap p.1)
 | []=>rfl
 | (i,o)::r=>by
  cases hd:zko heap i<;>cases o<;>simp [zkf,ztg,List.filter_cons,hd,zon r]
theorem zrm {heap:List (Nat×zaa)} {l:List (Nat×Option Nat)} (h:zhu (zkf heap l)=true) {i i' j:Nat} (h1:(i,some j)∈l) (h2:(i',some j)∈l) (d1:lk .free heap i≠.dead) (d2:lk .free heap i'≠.dead):i=i':=by
 rw [zon] at h;have hd:∀ k,lk .free heap k≠.dead->zko heap k=false:=by
  intro k hk;unfold zko;split
  . rename_i he;exact absurd he hk
  . rfl
 exact zkg h (List.mem_filter.2 ⟨h1,by simp [hd i d1]⟩) (List.mem_filter.2 ⟨h2,by simp [hd i' d2]⟩)
theorem zud {s:HS} {pins:List Nat} {n:Nat} {slots:List (Nat×HV)} {heap:List (Nat×zaa)} (l:List (Nat×Option Nat)) (hn:n=s.n) (hp:pins=s.pins) (h1:zhr heap l=true) (h2:zhu (zkf heap l)=true)
 (h3:zng (lkN l) pins) (h4:zvc (lkN l) s slots) (h5:zsd (lkN l) s heap):zvz s (hsP pins n slots heap):=by
 refine ⟨hn,hp,lkN l,fun i=>?_,zrz l h1 h3 h5,fun id id' b j hb hd hj hj'=>zrm h2 (zmz hj) (zmz hj') (by intro he;have hb:lk zaa.free heap id=_:=hb;rw [he] at hb;cases hb) hd,fun id hid=>zsa l h3 id (hp ▸ hid)⟩;rcases zjz (d:=HV.any) (l:=slots) (i:=i) with h | ⟨x,hx,h⟩
 . exact .inl h
 . right
   show zeb (lkN l) (lk .any slots i)=true/\rn (lkN l) (lk .any slots i)=s.slot i;rw [h];exact zok h4 hx
theorem zvk {s:HS} {pins:List Nat} {n:Nat} {slots:List (Nat×HV)} {heap:List (Nat×zaa)} (l:List (Nat×Option Nat)) (hn:n=s.n) (hp:pins=s.pins) (h1:zhr heap l=true) (h2:zhu (zkf heap l)=true)
 (h3:zng (lkN l) pins) (h4:zvc (lkN l) s slots) (h5:zsd (lkN l) s heap):HLe s (hsP pins n slots heap):=⟨[],by rw [ztz];exact zud l hn hp h1 h2 h3 h4 h5⟩
theorem zhl {s:HS} {n:Nat} {slots:List (Nat×HV)} {heap:List (Nat×zaa)} (l:List (Nat×Option Nat)) (hn:n=s.n) (hp:[]=s.pins) (h1:zhr heap l=true) (h2:zhu (zkf heap l)=true)
 (h4:zvc (lkN l) s slots) (h5:zsd (lkN l) s heap):HLe s (hs n slots heap):=zvk l hn hp h1 h2 trivial h4 h5
end Go.HL
namespace Go.HL
section
variable {P:Program}
end
end Go.HL
namespace Go.HL
section
variable {P:Program}
end
end Go.HL
namespace Go.HL
section
variable {P:Program}
end
end Go.HL
namespace Go.HL
end Go.HL
namespace Go.HL
open Go.RowKit
mutual
def PV.bulk:PV->Nat
 | .v (.string s)=>s.size+1
 | .v _=>1
 | .sl _ rows=>zfk rows+1
def zcv:List PV->Nat
 | []=>0
 | x::r=>x.bulk+zcv r
def zfk:List (List PV)->Nat
 | []=>0
 | r::rs=>zcv r+zfk rs
end
mutual
def dwb {H:Type}:DataW H->Nat
 | .lit (.string bytes)=>bytes.length+1
 | .lit _=>1
 | .nil=>1
 | .ptr d=>dwb d+1
 | .slice elems spare=>zgl elems+zgl spare+1
 | .agg parts=>zgl parts+1
 | .iface _ d=>dwb d+1
 | .map entries=>zvf entries+1
 | .held _=>1
def zgl {H:Type}:List (DataW H)->Nat
 | []=>0
 | d::r=>dwb d+zgl r
def zvf {H:Type}:List (Lit×DataW H)->Nat
 | []=>0
 | x::r=>zty x+zvf r
def zty {H:Type}:Lit×DataW H->Nat
 | (.string bytes,d)=>bytes.length+dwb d+1
 | (_,d)=>dwb d+1
end
def zma (P:Program) (S:TypeId->Bool):Nat->Nat->List Field->Bool
 | off,tot,[]=>Nat.beq off tot
 | off,tot,f::fs=>Nat.beq f.offset off&&S f.type&&zma P S (off+P.cellsOf f.type) tot fs
def ztf (P:Program):Nat->TypeId->Bool
 | 0,_=>false
 | n+1,t=>match P.underlying t with
  | some .bool=>true
  | some (.int _)=>true
  | some .string=>true
  | some (.slice e)=>ztf P n e&&Nat.blt 0 (P.cellsOf e)
  | some (.struct fs)=>zma P (ztf P n) 0 (P.cellsOf t) fs.toList
  | _=>false
def zwn (P:Program) (S:TypeId->List PV->Prop):List Field->List PV->Prop
 | [],pvs=>pvs=[]
 | f::fs,pvs=>∃ a b,pvs=a++b/\a.length=P.cellsOf f.type/\S f.type a/\zwn P S fs b
def shp (P:Program):Nat->TypeId->List PV->Prop
 | 0,_,_=>False
 | n+1,t,pvs=>match P.underlying t with
  | some .bool=>∃ b,pvs=[.v (.bool b)]
  | some (.int k)=>∃ z,pvs=[.v (.int k z)]/\(Lit.int k z).wf=true
  | some .string=>∃ s,pvs=[.v (.string s)]/\s.size<=maxLen
  | some (.slice e)=>∃ rows,pvs=[.sl (P.cellsOf e) rows]/\∀ r∈rows,shp P n e r
  | some (.struct fs)=>zwn P (shp P n) fs.toList pvs
  | _=>False
section
variable {H:Type} {enc:TypeId×Value->H} {P:Program} {W:World} {base:Nat} {sp:Nat->Bool} {held:Bool}
abbrev RW (W:World):Nat->Prop:=fun b=>b<W.heap.size
theorem ziq {a:Addr} {n:Nat} {cs:List Value} (h:W.cells? base a n=some cs):cs.length=n/\(∀ k v,cs[k]?=some v->W.cell? (a.add k)=some v):=by
 unfold World.cells? at h;split at h
 . have hl:=mapM_some_length h
   refine ⟨by simpa using hl,fun k v hv=>?_⟩;have hk:k<n:=by
    have:=(zy8.1 hv).1
    simpa [hl] using this
   have:=mapM_some_get h k k (by rw [zy50 hk]);rw [this];exact hv
 . cases h
theorem ztw {b o:Nat} {v:Value} (h:W.cell? ⟨b,o,none⟩=some v):b<W.heap.size:=by
 unfold World.cell? at h;cases hb:W.heap[b]? with
 | none=>simp only [hb] at h;cases h
 | some x=>exact (zy21.1 hb).1
theorem zgj:∀ (a b:List PV),zcv (a++b)=zcv a+zcv b
 | [],b=>by simp [zcv]
 | x::a,b=>by simp [zcv,zgj a b];omega
theorem zmb {fuel:Nat} {S:TypeId->Bool} {Sh:TypeId->List PV->Prop} {cs:List Value}
 (ih:∀ t cs d ps,S t=true->DataW.trod enc P W base sp held fuel t cs=some (d,ps)->∃ pvs,zbg W (RW W) pvs cs/\Sh t pvs/\zcv pvs<=dwb d) :
 ∀ (fs:List Field) (off:Nat) (xs:List (DataW H×List MemPlace)),zma P S off cs.length fs=true->off<=cs.length ->
  (∀ f∈fs,f.offset+P.cellsOf f.type<=cs.length) ->
  fs.mapM (fun f=>DataW.trod enc P W base sp held fuel f.type ((cs.drop f.offset).take (P.cellsOf f.type)))=some xs ->
  ∃ pvs,zbg W (RW W) pvs (cs.drop off)/\zwn P Sh fs pvs/\zcv pvs<=zgl (xs.map (·.1))
 | [],off,xs,hs,hle,_,h=>by
  simp only [zma] at hs;have:=zy0 hs;subst this;simp only [List.mapM_nil,Option.pure_def,Option.some.injEq] at h;subst h;exact ⟨[],by rw [zy66 (zy47 _)];exact .nil,rfl,by simp [zcv,zgl]⟩
 | f::fs,off,xs,hs,hle,hb,h=>by
  simp only [zma,zy1] at hs;obtain ⟨⟨h1,h2⟩,h3⟩:=hs;have h1:=zy0 h1;subst h1;simp only [List.mapM_cons,Option.bind_eq_bind,Option.pure_def] at h;cases hx:DataW.trod enc P W base sp held fuel f.type ((cs.drop f.offset).take (P.cellsOf f.type)) with
  | none=>rw [hx] at h;simp at h
  | some x =>
   obtain ⟨d,ps⟩:=x;rw [hx] at h;simp only [zy67] at h;cases hr:fs.mapM (fun f=>DataW.trod enc P W base sp held fuel f.type ((cs.drop f.offset).take (P.cellsOf f.type))) with
   | none=>rw [hr] at h;simp at h
   | some r =>
    rw [hr] at h;simp only [zy67,Option.some.injEq] at h;subst h;obtain ⟨pa,ha1,ha2,ha3⟩:=ih _ _ _ _ h2 hx;have hbf:=hb f zz1;obtain ⟨pb,hb1,hb2,hb3⟩:=zmb ih fs (f.offset+P.cellsOf f.type) r h3 hbf (fun g hg=>hb g (by simp [hg])) hr;have hl:=ha1.length;have htl:((cs.drop f.offset).take (P.cellsOf f.type)).length=P.cellsOf f.type:=by simp;omega
    refine ⟨pa++pb,?_,⟨pa,pb,rfl,by omega,ha2,hb2⟩,by rw [zgj];simp only [zy13,zgl];omega⟩;have:=ha1.append hb1;rw [<- List.drop_drop,zy57] at this;exact this
theorem zom {S:TypeId->Bool} {tot:Nat}:∀ {fs:List Field} {off:Nat},zma P S off tot fs=true->off<=tot/\∀ f∈fs,f.offset+P.cellsOf f.type<=tot
 | [],off,h=>by simp only [zma] at h;have:=zy0 h;exact ⟨by omega,by simp⟩
 | f::fs,off,h=>by
  simp only [zma,zy1] at h;obtain ⟨⟨h1,h2⟩,h3⟩:=h;have h1:=zy0 h1;obtain ⟨h4,h5⟩:=zom h3;refine ⟨by omega,fun g hg=>?_⟩;rcases zy9.1 hg with rfl | hg
  . omega
  . exact h5 g hg
theorem zkh:∀ (n fuel:Nat) (t:TypeId) (cs:List Value) (d:DataW H) (ps:List MemPlace),ztf P n t=true->DataW.trod enc P W base sp held fuel t cs=some (d,ps) ->
 ∃ pvs,zbg W (RW W) pvs cs/\shp P n t pvs/\zcv pvs<=dwb d
 | 0,fuel,t,cs,d,ps,hs,h=>by cases hs
 | n+1,0,t,cs,d,ps,hs,h=>by simp [DataW.trod] at h
 | n+1,fuel+1,t,cs,d,ps,hs,h=>by
  simp only [ztf] at hs;simp only [shp];unfold DataW.trod at h;cases hu:P.underlying t with
  | none=>rw [hu] at hs;cases hs
  | some u =>
   rw [hu] at hs h;cases u with
   | bool =>
    rcases cs with _ | ⟨c,_ | ⟨c2,cs⟩⟩
    . cases h
    . cases c<;>try cases h
      rename_i b;exact ⟨[.v (.bool b)],.cons (.v _ rfl) .nil,⟨b,rfl⟩,by simp [zcv,PV.bulk,dwb]⟩
    . cases c<;>first | cases h | simp at h
   | int k =>
    rcases cs with _ | ⟨c,_ | ⟨c2,cs⟩⟩
    . cases h
    . cases c<;>try cases h
      rename_i k' z;simp only at h;split at h
      . rename_i hw
        obtain ⟨rfl,hw⟩:=hw;cases h;exact ⟨[.v (.int k' z)],.cons (.v _ rfl) .nil,⟨z,rfl,hw⟩,by simp [zcv,PV.bulk,dwb]⟩
      . cases h
    . cases c<;>first | cases h | simp at h
   | string =>
    rcases cs with _ | ⟨c,_ | ⟨c2,cs⟩⟩
    . cases h
    . cases c<;>try cases h
      rename_i s;simp only at h;split at h
      . rename_i hw
        cases h;exact ⟨[.v (.string s)],.cons (.v _ rfl) .nil,⟨s,rfl,hw⟩,by simp only [zcv,PV.bulk,dwb,Array.length_toList,zy38];exact zy47 _⟩
      . cases h
    . cases c<;>first | cases h | simp at h
   | slice e =>
    simp only [zy1] at hs;obtain ⟨hs,hpos⟩:=hs;have hpos:0<P.cellsOf e:=zy2 hpos;rcases cs with _ | ⟨c,_ | ⟨c2,cs⟩⟩
    . cases h
    . cases c<;>try cases h
      rename_i a len cap;cases a with
      | none =>
       cases len with
       | zero=>cases cap with
        | zero =>
         cases h;exact ⟨[.sl (P.cellsOf e) []],.cons (.sl0 _ _ _ (Nat.zero_le _)) .nil,⟨[],rfl,by simp⟩,by simp [zcv,PV.bulk,zfk,dwb]⟩
        | succ cap=>cases h
       | succ len=>cases h
      | some a =>
       simp only at h;split at h
       . rename_i hb
         obtain ⟨hb,hlc,hcm⟩:=hb;cases he:(List.range len).mapM (fun i=>(W.cells? base (a.add (i*P.cellsOf e)) (P.cellsOf e)).bind (DataW.trod enc P W base sp held fuel e)) with
         | none=>rw [he] at h;simp at h
         | some elems =>
          rw [he] at h;simp only [zy67] at h;have hle:=mapM_some_length he;simp only [List.length_range] at hle;have hd:zgl (elems.map (·.1))+1<=dwb d:=by
           obtain ⟨rest,hr,hx⟩:=zy3.1 h;cases hx;simp only [dwb];omega
          -- each element
          have hat:∀ i,i<len->∃ cs x,W.cells? base (a.add (i*P.cellsOf e)) (P.cellsOf e)=some cs/\elems[i]?=some x/\DataW.trod enc P W base sp held fuel e cs=some x:=by
           intro i hi;have hg:=mapM_some_get he i i (by rw [zy50 hi]);obtain ⟨x,hx⟩:∃ x,elems[i]?=some x:=⟨_,zy15 zz0⟩
           rw [hx] at hg;cases hc:W.cells? base (a.add (i*P.cellsOf e)) (P.cellsOf e) with
           | none=>rw [hc] at hg;simp at hg
           | some cs=>rw [hc] at hg;exact ⟨cs,x,rfl,hx,by simpa using hg⟩
          cases len with
          | zero =>
           have:elems=[]:=zy5 hle;subst this;refine ⟨[.sl (P.cellsOf e) []],.cons (.sl0 _ _ _ hcm) .nil,⟨[],rfl,by simp⟩,?_⟩;simp [zcv,PV.bulk,zfk] at hd ⊢;omega
          | succ len =>
           have hspot:a=⟨a.block,a.off,none⟩:=by
            obtain ⟨cs0,x0,h1,_,_⟩:=hat 0 zz0;obtain ⟨hl0,hc0⟩:=ziq h1;have h2:=hc0 0 (cs0[0]'zz0) (zy15 zz0);simp only [Nat.zero_mul,Addr.add,if_true] at h2;obtain ⟨blk,off,spot⟩:=a;unfold World.cell? at h2;split at h2
            . split at h2
              . cases h2
              . rename_i hsn
                cases spot with
                | none=>rfl
                | some x=>simp at hsn
            . cases h2
           obtain ⟨blk,off,spot⟩:=a;simp only [Addr.mk.injEq,true_and] at hspot;subst hspot;have hadd:∀ off j,(⟨blk,off,none⟩:Addr).add j=⟨blk,off+j,none⟩:=by
            intro off j;unfold Addr.add;split
            . rename_i h0;subst h0;rfl
            . rfl
           have zms:∀ i,i<len+1->∃ r:List PV,r.length=P.cellsOf e/\shp P n e r/\(∃ x,elems[i]?=some x/\zcv r<=dwb x.1)/\∀ (k:Nat) y,r[k]?=some y->∃ cv,W.cell? ⟨blk,off+(i*P.cellsOf e+k),none⟩=some cv/\zcj W (RW W) y cv:=by
            intro i hi;obtain ⟨cs,x,h1,h2,h3⟩:=hat i hi;obtain ⟨r,h4,h5,h6⟩:=zkh n fuel e cs x.1 x.2 hs h3;obtain ⟨h7,h8⟩:=ziq h1;refine ⟨r,by rw [<- h7];exact h4.length.symm,h5,⟨x,h2,h6⟩,fun k y hk=>?_⟩;obtain ⟨v,hv,hp⟩:=h4.get k y hk;have h9:=h8 k v hv;rw [hadd,hadd] at h9;exact ⟨v,by rw [<- h9,zy60],hp⟩
           let row:Nat->List PV:=fun i=>if hi:i<len+1 then Classical.choose (zms i hi) else []
           have hrowi:∀ i (hi:i<len+1),(row i).length=P.cellsOf e/\shp P n e (row i)/\(∃ x,elems[i]?=some x/\zcv (row i)<=dwb x.1)/\∀ (k:Nat) y,(row i)[k]?=some y->∃ cv,W.cell? ⟨blk,off+(i*P.cellsOf e+k),none⟩=some cv/\zcj W (RW W) y cv:=by
            intro i hi;have:=Classical.choose_spec (zms i hi);simp only [row,dif_pos hi];exact this
           let rows:=(List.range (len+1)).map row
           have hrl:rows.length=len+1:=by simp [rows]
           have hmem:∀ r∈rows,∃ i,i<len+1/\r=row i:=by
            intro r hr;obtain ⟨i,hi,rfl⟩:=zy4.1 hr;exact ⟨i,List.mem_range.1 hi,rfl⟩
           have hlens:∀ r∈rows,r.length=P.cellsOf e:=by
            intro r hr;obtain ⟨i,hi,rfl⟩:=hmem r hr;exact (hrowi i hi).1
           have hcell:∀ k y,rows.flatten[k]?=some y->∃ cv,W.cell? ⟨blk,off+k,none⟩=some cv/\zcj W (RW W) y cv:=by
            intro k y hk;obtain ⟨i,j,r,e1,hj,hr,hy⟩:=zbm hlens hk;have hi:i<len+1:=by
             have:=(zy8.1 hr).1;rw [hrl] at this;exact this
            have hre:r=row i:=by
             simp only [rows,zy10,zy50 hi,zy18,Option.some.injEq] at hr;exact hr.symm
            subst hre;obtain ⟨cv,h1,h2⟩:=(hrowi i hi).2.2.2 j y hy;exact ⟨cv,by rw [e1];exact h1,h2⟩
           have hblk:blk<W.heap.size:=by
            obtain ⟨hl0,_,_,hc0⟩:=hrowi 0 zz0;obtain ⟨cv,h1,_⟩:=hc0 0 ((row 0)[0]'zz0) (zy15 zz0);exact ztw h1
           have hprep:zcj W (RW W) (.sl (P.cellsOf e) rows) (.slice (some ⟨blk,off,none⟩) (len+1) cap):=by
            have:=zcj.sl (w:=W) (R:=RW W) (P.cellsOf e) rows blk off cap (fun k=>(W.cell? ⟨blk,off+k,none⟩).getD undef) zz0 hcm hlens hblk
             (fun k y hk=>by obtain ⟨cv,h1,_⟩:=hcell k y hk;simp only [h1];rfl) (fun k y hk=>by obtain ⟨cv,h1,h2⟩:=hcell k y hk;simp only [h1];exact h2)
            rw [hrl] at this;exact this
           refine ⟨[.sl (P.cellsOf e) rows],.cons hprep .nil,⟨rows,rfl,fun r hr=>?_⟩,?_⟩
           . obtain ⟨i,hi,rfl⟩:=hmem r hr
             exact (hrowi i hi).2.1
           . have hbr:∀ (es:List (DataW H×List MemPlace)) (g:Nat->List PV) (m:Nat),es.length=m->(∀ i,i<m->∃ x,es[i]?=some x/\zcv (g i)<=dwb x.1)->zfk ((List.range m).map g)<=zgl (es.map (·.1)):=by
              intro es
              induction es with
              | nil=>intro g m hm _;simp at hm;subst hm;simp [zfk,zgl]
              | cons x es ih =>
               intro g m hm hg;simp at hm;subst hm;rw [List.range_succ_eq_map];simp only [zy13,List.map_map,zfk,zgl];obtain ⟨x0,h1,h2⟩:=hg 0 zz0;simp at h1;subst h1;have:=ih (g∘Nat.succ) es.length rfl fun i hi=>by
                obtain ⟨y,h3,h4⟩:=hg (i+1) zz0;exact ⟨y,by simpa using h3,h4⟩
               omega
             have:zfk rows<=zgl (elems.map (·.1)):=hbr elems row (len+1) hle fun i hi=>(hrowi i hi).2.2.1
             simp only [zcv,PV.bulk];show zfk rows+1+0<=dwb d;omega
       . cases h
    . cases c<;>first | cases h | simp at h
   | struct fs =>
    simp only at h;split at h
    . rename_i hl
      obtain ⟨xs,hx,hx2⟩:=zy3.1 h;cases hx2;rw [<- hl] at hs;obtain ⟨h1,h2⟩:=zom hs;obtain ⟨pvs,h3,h4,h5⟩:=zmb (S:=ztf P n) (Sh:=shp P n) (fun t cs d ps=>zkh n fuel t cs d ps) fs.toList 0 xs hs h1 h2 hx;exact ⟨pvs,by simpa using h3,h4,by simp only [dwb];omega⟩
    . cases h
   | _=>cases hs
def zmh (P:Program) (t:TypeId) (pvs:List PV):HV:=match P.underlying t with
 | some (.struct _)=>.agg (pvs.map .p)
 | _=>match pvs with | [x]=>.p x | _=>.any
theorem zrb {m:zbj} {R:Nat->Prop} {pvs:List PV} {vs:List Value} (h:zbg W R pvs vs):zae m W R (pvs.map .p) vs:=by
 induction h with
 | nil=>simp only [List.map_nil,zae]
 | cons h _ ih=>simp only [zy13,zae];exact ⟨_,_,rfl,by simp only [zad];exact h,ih⟩
theorem ztu {n:Nat} {t:TypeId} {v:Value} {d:DataW H} {ps:List MemPlace} {r:Reach} {b0:Nat} {m:zbj} (hs:ztf P n t=true) (hok:Value.okWide P W r b0 t v) (h:DataW.Trod enc P W base sp held t v d ps) :
 ∃ pvs,shp P n t pvs/\zcv pvs<=dwb d/\zad m W (RW W) (zmh P t pvs) v:=by
 obtain ⟨fuel,h⟩:=h;obtain ⟨pvs,h1,h2,h3⟩:=zkh n fuel t _ d ps hs h;refine ⟨pvs,h2,h3,?_⟩;cases n with
 | zero=>cases hs
 | succ n =>
  have one:∀ {x:PV},pvs=[x]->v.cells=#[v]->zad m W (RW W) (.p x) v:=by
   intro x hx hv;subst hx;rw [hv] at h1;cases h1 with
   | cons h _=>simp only [zad];exact h
  simp only [ztf] at hs;simp only [shp] at h2;simp only [Value.okWide] at hok;unfold zmh;cases hu:P.underlying t with
  | none=>rw [hu] at hs;cases hs
  | some u =>
   rw [hu] at hs h2 hok;cases u with
   | bool =>
    simp only [Cell.okWide,Cell.ok,hu] at hok;obtain ⟨b,rfl⟩:=h2;cases v<;>try exact hok.elim
    exact one rfl rfl
   | int k =>
    exact yy7
   | string =>
    exact yy7
   | slice e =>
    exact yy7
   | struct fs =>
    obtain ⟨cs,rfl,_,_⟩:=hok;simp only [zad];exact ⟨cs,rfl,zrb h1⟩
   | _=>cases hs
def zvb (P:Program) (n:Nat):List TypeId->List (List PV)->Prop
 | [],[]=>True
 | t::ts,x::xs=>shp P n t x/\zvb P n ts xs
 | _,_=>False
def zhh (P:Program):List TypeId->List (List PV)->List HV
 | t::ts,x::xs=>zmh P t x::zhh P ts xs
 | _,_=>[]
theorem znk {n:Nat} {r:Reach} {b0:Nat} {m:zbj}:∀ {ts:List TypeId} {vs:List Value} {ds:List (DataW H)} {ps:List MemPlace},(∀ t∈ts,ztf P n t=true)->(∀ (j:Nat) t v,ts[j]?=some t->vs[j]?=some v->Value.okWide P W r b0 t v) ->
 DataW.TrodAll enc P W base sp held ts vs ds ps->∃ L,zvb P n ts L/\zfk L<=zgl ds/\zae m W (RW W) (zhh P ts L) vs/\ds.length=ts.length
 | [],[],[],ps,_,_,_=>⟨[],trivial,by simp [zfk,zgl],by simp only [zhh,zae],rfl⟩
 | t::ts,v::vs,d::ds,ps,hs,hok,h=>by
  obtain ⟨p,q,h1,h2,rfl⟩:=h;obtain ⟨x,h3,h4,h5⟩:=ztu (m:=m) (hs t zz1) (hok 0 t v rfl rfl) h1;obtain ⟨L,h6,h7,h8,h9⟩:=znk (fun t ht=>hs t (by simp [ht])) (fun j t v hj hv=>hok (j+1) t v (by simpa using hj) zz6) h2;exact ⟨x::L,⟨h3,h6⟩,by simp only [zfk,zgl];omega,by simp only [zhh,zae];exact ⟨v,vs,rfl,h5,h8⟩,by simp [h9]⟩
 | [],[],_::_,_,_,_,h=>h.elim
 | [],_::_,_,_,_,_,h=>h.elim
 | _::_,[],_,_,_,_,h=>h.elim
 | _::_,_::_,[],_,_,_,h=>h.elim
theorem zfg (hl:laidOutB P=true) {W':World} (hb:Below W.heap.size W W'):∀ {ts:List TypeId} {vs:List Value} {ds:List (DataW H)} {ps:List MemPlace},(∀ t∈ts,P.readableRec t=true/\t<P.types.size) ->
 DataW.TrodAll enc P W 0 (fun _=>true) true ts vs ds ps->(∀ x∈ps,x.block<W.heap.size)->DataW.TrodAll enc P W' 0 (fun b=>decide (b<W.heap.size)) true ts vs ds ps
 | [],[],[],ps,_,h,_=>h
 | t::ts,v::vs,d::ds,ps,hr,h,hlt=>by
  obtain ⟨p,q,h1,h2,rfl⟩:=h;exact ⟨p,q,Below.trod hl (hr t zz1).1 (hr t zz1).2 h1 hb fun x hx=>hlt x (by simp [hx]),zfg hl hb (fun t ht=>hr t (by simp [ht])) h2 fun x hx=>hlt x (by simp [hx]),rfl⟩
 | [],[],_::_,_,_,h,_=>h.elim
 | [],_::_,_,_,_,h,_=>h.elim
 | _::_,[],_,_,_,h,_=>h.elim
 | _::_,_::_,[],_,_,h,_=>h.elim
theorem zle {f:FuncId} {fn:Func} {s:ChangeSpec} {args:Array Value} {ds gs:List (DataW H)} {before:List MemPlace} {b0:Nat} {tb:TypeId} (n:Nat) (hl:laidOutB P=true)
 (hsupp:fn.params.toList.all (ztf P n)=true) (hread:fn.params.toList.all (fun t=>P.readableRec t&&decide (t<P.types.size))=true)
 (hrt:fn.resultTypes=#[tb]) (htb:P.underlying tb=some .bool) (hvars:s.vars=[]) (hfn:∀ ds:List (DataW H),ds.length=fn.params.toList.length->(s.fn H ds).results=[.lit (.bool true)]/\(s.fn H ds).args=ds/\(s.fn H ds).vars=[])
 (hval:∀ (j:Nat) t v,fn.params[j]?=some t->args[j]?=some v->Value.okWide P W .any b0 t v)
 (hW:DataW.Whole enc P fn.params.toList s.vars false W args.toList ds gs before)
 (hspec:∀ L,zvb P n fn.params.toList L->zfk L<=zgl ds->zdo P f (zhh P fn.params.toList L) zay (zbp true) zay) :
 Calls P f args W fun e W'=>∃ v,e=.returned v/\s.post enc P fn false true false false W args v W':=by
 have hW':=hW;obtain ⟨p,q,hA,hV,rfl,hfz,hnd⟩:=hW;have hVe:gs=[]/\q=[]:=by
  rw [hvars] at hV;cases gs with
  | nil=>exact ⟨rfl,hV⟩
  | cons=>exact hV.elim
 obtain ⟨rfl,rfl⟩:=hVe;obtain ⟨L,h1,h2,h3,h4⟩:=znk (m:=fun _=>none) (n:=n) (fun t ht=>zy19.1 hsupp t ht) (fun j t v hj hv=>hval j t v (by simpa using hj) zz6) hA
 let Γ:Ctx:=⟨fun _=>True,W,fun _=>False,fun _=>none⟩
 have hok:zag Γ (fun _=>none) zay W:=⟨zy47 _,rfl,rfl,rfl,fun _ _ _=>rfl,fun _ _=>rfl,(fun id b hb=>by cases hb),(fun id b hb=>by cases hb),(fun id id' b b' l l' hb=>by cases hb),fun b hb=>hb.elim⟩
 have hrep:zae (fun _=>none) W (RR Γ (fun _=>none) zay W) (zhh P fn.params.toList L) args.toList:=zae.mono (.refl _) (fun b hb=>⟨rfl,.inl trivial,hb,znc⟩) _ _ h3;obtain ⟨-,hcalls⟩:=hspec L h1 h2 Γ _ W args.toList hok hrep rfl;have hat:args.toList.toArray=args:=by simp
 rw [hat] at hcalls;refine hcalls.mono fun e W1 he=>?_
 obtain ⟨v,m',rfl,hok',hv,_⟩:=he;have hvb:=zcg hv;subst hvb;have hb:Below W.heap.size W W1:=⟨hok'.os,hok'.tape,hok'.output,hok'.size,fun k hk=>hok'.frame k hk fun h=>h⟩
 obtain ⟨hf1,hf2,hf3⟩:=hfn (ds++[]) (by simp [h4]);refine ⟨_,rfl,ds,[],p++[],[],p,[],hW',?_,?_,?_,hb.frame _,fun h=>by cases h⟩
 . rw [hf1,hrt]
   have:(Value.bool true).resultList (#[tb]:Array TypeId).size=[.bool true]:=by simp [Value.resultList]
   rw [this];exact ⟨[],[],⟨1,by simp [DataW.trod,htb,Value.cells]⟩,rfl,rfl⟩
 . rw [hf2]
   have hlt:∀ x∈p,x.block<W.heap.size:=fun x hx=>by simpa using hW'.lt x zz5
   have:=zfg hl hb (fun t ht=>by
    have:=zy19.1 hread t ht;simp only [zy1,zy45] at this;exact this) hA hlt
   simpa using this
 . rw [hvars,hf3]
   rfl
end
end Go.HL
namespace Go.HL
section
variable {P:Program} {n:Nat} {t e:TypeId} {pvs:List PV}
theorem zrj {k:IntKind} (hu:P.underlying t=some (.int k)) (h:shp P n t pvs):∃ z,pvs=[.v (.int k z)]/\(Lit.int k z).wf=true:=by
 cases n with
 | zero=>exact h.elim
 | succ n=>simpa only [shp,hu] using h
theorem zrk (hu:P.underlying t=some (.slice e)) (h:shp P n t pvs):∃ rows,pvs=[.sl (P.cellsOf e) rows]/\∀ r∈rows,shp P (n-1) e r:=by
 cases n with
 | zero=>exact h.elim
 | succ n=>simpa only [shp,hu,Nat.add_sub_cancel] using h
theorem zrg {β:Type} {row:β->List PV} {Q:β->Prop}:∀ {rows:List (List PV)},(∀ r∈rows,∃ x,r=row x/\Q x)->∃ xs:List β,rows=xs.map row/\∀ x∈xs,Q x
 | [],_=>⟨[],rfl,by simp⟩
 | r::rows,h=>by
  obtain ⟨x,rfl,hx⟩:=h r zz1;obtain ⟨xs,rfl,hxs⟩:=zrg (rows:=rows) fun r hr=>h r (by simp [hr])
  exact ⟨x::xs,rfl,by intro y hy;rcases zy9.1 hy with rfl | hy;exact hx;exact hxs y hy⟩
theorem wf_i64 {z:Int} (h:(Lit.int .i64 z).wf=true):-9223372036854775808<=z/\z<=9223372036854775807:=by
 simpa [Lit.wf,IntKind.min,IntKind.max,IntKind.signed,IntKind.bits] using h
theorem zlx {ts:List TypeId} {L:List (List PV)} (h:zvb P n (t::ts) L):∃ x xs,L=x::xs/\shp P n t x/\zvb P n ts xs:=by
 cases L with
 | nil=>exact h.elim
 | cons x xs=>exact ⟨x,xs,rfl,h.1,h.2⟩
theorem ztc {L:List (List PV)} (h:zvb P n [] L):L=[]:=by
 cases L with
 | nil=>rfl
 | cons x xs=>exact h.elim
end
end Go.HL
namespace Go.HL
abbrev pi (n:Int):PV:=.v (.int .i64 n)
abbrev pb (b:Bool):PV:=.v (.bool b)
abbrev ints (l:List Int):HV:=.p (.sl 1 (l.map fun n=>[pi n]))
def inI (z:Int):Prop:=-9223372036854775808<=z/\z<=9223372036854775807
section
variable {P:Program} {n c:Nat} {t e:TypeId} {pvs:List PV}
theorem ztp {z:Int} (h:(Lit.int .i64 z).wf=true):inI z:=wf_i64 h
theorem zte {α:Type} {row:α->List PV} {Q:α->Prop} (hu:P.underlying t=some (.slice e)) (hc:P.cellsOf e=c) (he:∀ r,shp P (n-1) e r->∃ x,r=row x/\Q x) (h:shp P n t pvs) :
 ∃ l:List α,pvs=[.sl c (l.map row)]/\∀ y∈l,Q y:=by
 obtain ⟨rows,h1,h2⟩:=zrk hu h;obtain ⟨l,h3,h4⟩:=zrg (row:=row) (Q:=Q) fun r hr=>he r (h2 r hr)
 exact ⟨l,by rw [h1,h3,hc],h4⟩
theorem ztd (hu:P.underlying t=some (.slice e)) (hi:P.underlying e=some (.int .i64)) (hc:P.cellsOf e=1) (h:shp P n t pvs):∃ l:List Int,pvs=[.sl 1 (l.map fun n=>[pi n])]/\∀ y∈l,inI y :=
 zte hu hc (fun _ hr=>let ⟨z,h1,h2⟩:=zrj hi hr;⟨z,h1,ztp h2⟩) h
theorem ztt {z:Int} (hu:P.underlying t=some (.int .i64)):zmh P t [.v (.int .i64 z)]=i64 z:=by unfold zmh;rw [hu]
theorem zps {rows:List (List PV)} {k:Nat} (hu:P.underlying t=some (.slice e)):zmh P t [.sl k rows]=.p (.sl k rows):=by unfold zmh;rw [hu]
end
end Go.HL
namespace Go.HL
end Go.HL
namespace Go.HL
end Go.HL
namespace Go.HL
end Go.HL
namespace Go.HL
section
variable {P:Program}
end
end Go.HL
namespace Go.HL
end Go.HL
namespace Go.HL
theorem om {P:Prop} (h:P:=by first | omega | (simp only [zy37,zy36,zy49,List.length_drop,zy35,List.length_nil]<;>omega) | (simp<;>omega)):P:=h
theorem sFm {z:Int} {K:Int->Prop} {Q:Prop} (q:Q) (h1:-9223372036854775808<=z:=by exact om) (h2:z<=9223372036854775807:=by exact om) (e:Q->K z:=by (intro h;(conv=>whnf);exact h)):zgq .i64 z K:=zhp (zet h1 h2) (e q)
theorem sG {X:(HX->HS->Prop)->Prop} {Y:HWP} {K:HX->HS->Prop} {Q:Prop} (q:Q) (e:Q->X fun e s'=>match e with | .normal=>Y s' K | .exit id=>K (.exit id) s' | .ret=>K .ret s':=by (intro h;(conv=>whnf);exact h)):zub X Y K:=.go (e q)
theorem z2 {P:Prop} (h:P:=by first | (simp;done) | (simp;rfl)):P:=h
theorem z1 {P Q:Prop} (q:Q) (e:Q->P:=by first | exact fun h=>.inl ⟨_,rfl,h⟩ | exact fun h=>⟨_,rfl,h⟩ | exact fun h=>.inr ⟨rfl,h⟩):P:=e q
end Go.HL
namespace Go.HL
end Go.HL
namespace Go.Proofs.Ytkadjamdjfefeaa
open Go.HL Go.ChangeShapes Go.WideShapes Go.ChangeAt Go.RowKit
theorem own:ownKnob Try.prog.godebug=none:=by kernel_rfl
mutual
theorem zjn {H:Type}:(d:DataW H)->Rows.uptoBulk d=dwb d
 | .lit l=>by cases l<;>simp only [Rows.uptoBulk,dwb]
 | .nil=>by simp only [Rows.uptoBulk,dwb]
 | .ptr d=>by simp only [Rows.uptoBulk,dwb,zjn d]
 | .slice a b=>by simp only [Rows.uptoBulk,dwb,zcy a,zcy b]
 | .agg p=>by simp only [Rows.uptoBulk,dwb,zcy p]
 | .iface _ d=>by simp only [Rows.uptoBulk,dwb,zjn d]
 | .map e=>by simp only [Rows.uptoBulk,dwb,zno e]
 | .held _=>by simp only [Rows.uptoBulk,dwb]
theorem zcy {H:Type}:(l:List (DataW H))->Rows.uptoBulkAll l=zgl l
 | []=>by simp only [Rows.uptoBulkAll,zgl]
 | d::r=>by simp only [Rows.uptoBulkAll,zgl,zjn d,zcy r]
theorem zno {H:Type}:(l:List (Lit×DataW H))->Rows.uptoBulkEntries l=zvf l
 | []=>by simp only [Rows.uptoBulkEntries,zvf]
 | d::r=>by simp only [Rows.uptoBulkEntries,zvf,zpt d,zno r]
theorem zpt {H:Type}:(x:Lit×DataW H)->Rows.uptoBulkEntry x=zty x
 | (l,d)=>by cases l<;>simp only [Rows.uptoBulkEntry,zty,zjn d]
end
theorem zmk {H:Type} (l r:List (DataW H)):zgl (l++r)=zgl l+zgl r:=by
 induction l with
 | nil=>simp [zgl]
 | cons x l ih=>simp only [List.cons_append,zgl,ih];omega
theorem zvg {H:Type} {ds gs:List (DataW H)} (hk:Rows.uptoSmall H (ds++gs)=true):zgl ds<=1048576:=by
 have h:=of_decide_eq_true hk;rw [zcy,zmk] at h;omega
theorem zvd {a b:Bool} (ha:a=true) (hb:b=true):(a&&b)=true:=by rw [ha,hb];rfl
end Go.Proofs.Ytkadjamdjfefeaa
namespace Go.HL
theorem mixed:Try.prog.follows .mixedOrders=true:=by kernel_rfl
structure Path where
 window:Int
 slow:Int
 gathered:Int
 flight:Int
 errors:Int
 alarm:Int
 wait:Int
def Path.row (x:Path):List PV:=[pi x.window,pi x.slow,pi x.gathered,pi x.flight,pi x.errors,pi x.alarm,pi x.wait]
def Path.cells (x:Path):List HV:=[.p (pi x.window),.p (pi x.slow),.p (pi x.gathered),.p (pi x.flight),.p (pi x.errors),.p (pi x.alarm),.p (pi x.wait)]
def Path.hv (x:Path):HV:=.agg [.p (pi x.window),.p (pi x.slow),.p (pi x.gathered),.p (pi x.flight),.p (pi x.errors),.p (pi x.alarm),.p (pi x.wait)]
namespace Paths
def new (part:Int):Path:=⟨W (2*part),W (32*part),0,0,0,0,3⟩
def zek (p:Path) (bytes part:Int) (moved:Bool):Path :=
 match moved with
 | false=>p
 | true =>
  if bytes=0 then {p with errors:=0,wait:=3,alarm:=0} else
  if p.window<=p.slow then {p with errors:=0,wait:=3,alarm:=0,window:=W (p.window+min bytes part)} else
  if W (p.gathered+bytes)>=p.window then {p with errors:=0,wait:=3,alarm:=0,gathered:=W (W (p.gathered+bytes)-p.window),window:=W (p.window+part)} else
  {p with errors:=0,wait:=3,alarm:=0,gathered:=W (p.gathered+bytes)}
def zhk (p:Path) (part:Int):Path :=
 {p with slow:=max (W (p.window.tdiv 2)) (W (4*part)),window:=min p.window (max (W (p.window.tdiv 2)) (W (4*part))),gathered:=0}
def late (p:Path) (part:Int):Path :=
 {p with slow:=max (W (p.window.tdiv 2)) (W (4*part)),window:=part,gathered:=0,flight:=0,errors:=W (p.errors+1),wait:=min (W (2*p.wait)) 24,alarm:=0}
def zcz (k:Nat):List Path->Int
 | []=>0
 | p::r=>if p.errors<=3 then k else zcz (k+1) r
theorem zqq (a b:Int):(if b<a then b else a)=min a b:=by omega
theorem zqp (a b:Int):(if b>a then b else a)=max a b:=by omega
theorem zke (part:Int):zdo Try.prog 9 [i64 part] zay (new part).hv zay:=by
 refine zbn mixed Try.func9 zz10 ?_;(conv=>whnf)
 repeat' (first | (refine zas (fun h=>?_) (fun h=>?_)<;>conv=>whnf) | (refine zdu ?_;conv=>whnf))
 rfl
theorem zge (p:Path) (bytes part:Int) (moved:Bool):zdo Try.prog 10 [p.hv,i64 bytes,i64 part,zbp moved] zay (zek p bytes part moved).hv zay:=by
 cases moved
 all_goals refine zbn mixed Try.func10 zz10 ?_
 all_goals conv=>whnf
 all_goals (repeat' (first | (refine zdu ?_;conv=>whnf) | (refine zdy ?_ ?_;(first | kernel_rfl | decide);conv=>whnf) | (refine zdi ?_ ?_;kernel_rfl;conv=>whnf) | (refine zub.go ?_;conv=>whnf) | (refine zao ?_;(conv=>whnf);refine ⟨_,zcp ⟨_,_,_,_,_,_,_⟩ _,rfl,?_⟩;conv=>whnf) | (refine zas (fun h=>?_) (fun h=>?_)<;>conv=>whnf)))
 all_goals try simp only [zy37,zy44,Bool.not_eq_false',zy58,beq_eq_false_iff_ne,zy45,zy33] at *
 all_goals simp only [zek,W]
 all_goals (repeat' split)
 all_goals first | rfl | omega | (simp only [Path.hv,zqq,zqp,HV.agg.injEq,List.cons.injEq,HV.p.injEq,PV.v.injEq,Value.int.injEq,true_and,and_true]<;>first | omega | (congr 1;omega))
theorem zcp (p:Path) (part:Int):zdo Try.prog 12 [p.hv,i64 part] zay (zhk p part).hv zay:=by
 refine zbn mixed Try.func12 zz10 ?_;(conv=>whnf)
 (repeat' (first | (refine zdu ?_;conv=>whnf) | (refine zdy ?_ ?_;(first | kernel_rfl | decide);conv=>whnf) | (refine zdi ?_ ?_;kernel_rfl;conv=>whnf) | (refine zub.go ?_;conv=>whnf) | (refine zao ?_;(conv=>whnf);refine ⟨_,zcp ⟨_,_,_,_,_,_,_⟩ _,rfl,?_⟩;conv=>whnf) | (refine zas (fun h=>?_) (fun h=>?_)<;>conv=>whnf)))
 all_goals try simp only [zy37,zy44,Bool.not_eq_false',zy58,beq_eq_false_iff_ne,zy45,zy33] at *
 all_goals simp only [zhk,W]
 all_goals (repeat' split)
 all_goals first | rfl | omega | (simp only [Path.hv,zqq,zqp,HV.agg.injEq,List.cons.injEq,HV.p.injEq,PV.v.injEq,Value.int.injEq,true_and,and_true]<;>first | omega | (congr 1;omega))
theorem zif (p:Path) (part:Int):zdo Try.prog 14 [p.hv,i64 part] zay (late p part).hv zay:=by
 refine zbn mixed Try.func14 zz10 ?_;(conv=>whnf)
 (repeat' (first | (refine zdu ?_;conv=>whnf) | (refine zdy ?_ ?_;(first | kernel_rfl | decide);conv=>whnf) | (refine zdi ?_ ?_;kernel_rfl;conv=>whnf) | (refine zub.go ?_;conv=>whnf) | (refine zao ?_;(conv=>whnf);refine ⟨_,zcp ⟨_,_,_,_,_,_,_⟩ _,rfl,?_⟩;conv=>whnf) | (refine zas (fun h=>?_) (fun h=>?_)<;>conv=>whnf)))
 all_goals try simp only [zy37,zy44,Bool.not_eq_false',zy58,beq_eq_false_iff_ne,zy45,zy33] at *
 all_goals simp only [late,W]
 all_goals (repeat' split)
 all_goals first | rfl | omega | (simp only [Path.hv,zqq,zqp,HV.agg.injEq,List.cons.injEq,HV.p.injEq,PV.v.injEq,Value.int.injEq,true_and,and_true]<;>first | omega | (congr 1;omega))
theorem zrl (p:Path):zdo Try.prog 16 [p.hv] zay (zbp (decide (p.flight<p.window))) zay:=by
 refine zbn mixed Try.func16 zz10 ?_;(conv=>whnf)
theorem znh (ps:List Path) (hb:ps.length<2 ^ 63):zdo Try.prog 17 [.p (.sl 7 (ps.map Path.row))] zay (i64 (zcz 0 ps)) zay:=by
 refine zbn mixed Try.func17 zz10 ?_;(conv=>whnf);refine ⟨{k:Nat // k<=ps.length/\zcz k (ps.drop k)=zcz 0 ps},fun k=>hs 17 [(5,.p (.sl 7 (ps.map Path.row))),(6,i64 (ps.map Path.row).length),(7,i64 k.1)] [],fun k=>ps.length-k.1,⟨0,by simp⟩,?_,?_⟩
 . exact zhl [] rfl rfl rfl rfl ⟨⟨rfl,rfl⟩,⟨rfl,rfl⟩,⟨rfl,rfl⟩,trivial⟩ trivial
 . rintro ⟨k,hk,hi⟩
   (conv=>whnf);refine zas (fun h=>?_) (fun h=>?_)
   . have hlt:k<ps.length:=by simpa using h
     (conv=>whnf);refine zfq (r:=(ps[k]).row) zz1 (by simp [hlt]) ?_;(conv=>whnf);rw [List.drop_eq_getElem_cons hlt] at hi;simp only [zcz] at hi;refine zas (fun h=>?_) (fun h=>?_)
     . conv=>whnf
       rw [zy11 (by simp only [zy45] at h;omega)] at hi;rw [hi]
     . conv=>whnf
       refine zhp (zet zz11 zz11) ?_;(conv=>whnf);rw [zy7 (by simp only [zy33] at h;omega)] at hi;exact ⟨⟨k+1,hlt,hi⟩,zhl [] rfl rfl rfl rfl ⟨⟨rfl,rfl⟩,⟨rfl,rfl⟩,⟨rfl,by simp;rfl⟩,trivial⟩ trivial,by simp;omega⟩
   . conv=>whnf
     have hge:ps.length<=k:=by simpa using h
     rw [zy66 hge] at hi;rw [<- hi];rfl
end Paths
namespace Paths
end Paths
namespace Paths
theorem zjg:zdo Try.prog 19 [] zay (zbp true) zay:=by
 refine zbn mixed Try.func19 zz10 ?_;(conv=>whnf)
 (repeat' (first | (refine zdu ?_;conv=>whnf) | (refine zdy ?_ ?_;(first | kernel_rfl | decide);conv=>whnf) | (refine zdi ?_ ?_;kernel_rfl;conv=>whnf) | (refine zub.go ?_;conv=>whnf) | (refine zao ?_;(conv=>whnf);refine ⟨_,zke _,rfl,?_⟩;conv=>whnf) | (refine zao ?_;(conv=>whnf);refine ⟨_,zge ⟨_,_,_,_,_,_,_⟩ _ _ _,rfl,?_⟩;conv=>whnf) | (refine zao ?_;(conv=>whnf);refine ⟨_,zcp ⟨_,_,_,_,_,_,_⟩ _,rfl,?_⟩;conv=>whnf) | (refine zao ?_;(conv=>whnf);refine ⟨_,zif ⟨_,_,_,_,_,_,_⟩ _,rfl,?_⟩;conv=>whnf) | (refine zao ?_;(conv=>whnf);refine ⟨_,zrl ⟨_,_,_,_,_,_,_⟩,rfl,?_⟩;conv=>whnf) | (refine zao ?_;(conv=>whnf);refine ⟨_,znh [⟨0,0,0,0,9,0,0⟩,⟨0,0,0,0,0,0,0⟩] zz10,rfl,?_⟩;conv=>whnf) | (refine zfq ?_ rfl ?_;(first | decide | kernel_rfl | omega);conv=>whnf) | (refine znu ?_ ?_;· kernel_rfl;conv=>whnf) | (refine zbk ?_ ?_;· kernel_rfl;conv=>whnf)))
 all_goals rfl
structure GI (part:Int) (k:Nat) (p:Path):Prop where
 lo:part<=p.window
 hi:p.window<=part*(k+2)
 slow:4*part<=p.slow
 g0:0<=p.gathered
 g1:p.gathered<=1000*k
set_option linter.unusedSectionVars false
section
variable {part:Int} {k:Nat} {p:Path} (h1:1<=part) (h2:part<=16) (hk:k<=1000)
include h1 h2 hk
theorem GI.top (h:GI part k p):p.window<=16032:=by
 have h3:=h.hi;have h4:part*((k:Int)+2)<=16*((k:Int)+2):=Int.mul_le_mul_of_nonneg_right h2 zz0;omega
theorem GI.next (h:GI part k p):p.window<=part*((k:Int)+1+2)-part:=by
 have h3:=h.hi;have h4:part*((k:Int)+1+2)=part*((k:Int)+2)+part:=by rw [show (k:Int)+1+2=((k:Int)+2)+1 by omega,Int.mul_add,Int.mul_one]
 omega
theorem zkt (h:GI part k p):GI part (k+1) (zhk p part)/\(zhk p part).window<=p.window/\min p.window (4*part)<=(zhk p part).window/\W (4*part)=4*part:=by
 have h3:=h.next h1 h2 hk;have h4:=h.top h1 h2 hk;obtain ⟨a1,a2,a3,a4,a5⟩:=h;have e1:W (p.window.tdiv 2)=p.window / 2:=by rw [Int.tdiv_eq_ediv_of_nonneg (by omega)];exact zet zz0 zz0
 have e2:W (4*part)=4*part:=zet zz0 zz0;refine ⟨⟨?_,?_,?_,?_,?_⟩,?_,?_,e2⟩<;>simp only [zhk,e1,e2]<;>push_cast<;>omega
theorem zpe (h:GI part k p):GI part (k+1) (late p part)/\(late p part).window=part:=by
 have h3:=h.next h1 h2 hk;have h4:=h.top h1 h2 hk;obtain ⟨a1,a2,a3,a4,a5⟩:=h;have e1:W (p.window.tdiv 2)=p.window / 2:=by rw [Int.tdiv_eq_ediv_of_nonneg (by omega)];exact zet zz0 zz0
 have e2:W (4*part)=4*part:=zet zz0 zz0;refine ⟨⟨?_,?_,?_,?_,?_⟩,?_⟩<;>simp only [late,e1,e2]<;>push_cast<;>omega
theorem zmg {n:Int} (hn:0<=n) (hn':n<=1000) (h:GI part k p):GI part (k+1) (zek p n part true)/\p.window<=(zek p n part true).window/\(zek p n part true).window<=p.window+part:=by
 have h3:=h.next h1 h2 hk;have h4:=h.top h1 h2 hk;obtain ⟨a1,a2,a3,a4,a5⟩:=h;have e1:W (p.window+min n part)=p.window+min n part:=zet zz0 zz0;have e2:W (p.gathered+n)=p.gathered+n:=zet zz0 zz0;have e4:W (p.window+part)=p.window+part:=zet zz0 zz0;by_cases c1:n=0
 . refine ⟨⟨?_,?_,?_,?_,?_⟩,?_,?_⟩<;>simp only [zek,c1,if_true]<;>push_cast<;>omega
 . by_cases c2:p.window<=p.slow
   . refine ⟨⟨?_,?_,?_,?_,?_⟩,?_,?_⟩<;>simp only [zek,zy7 c1,zy11 c2,e1]<;>push_cast<;>omega
   . by_cases c3:p.gathered+n>=p.window
     . have e3:W (p.gathered+n-p.window)=p.gathered+n-p.window:=zet zz0 zz0
       refine ⟨⟨?_,?_,?_,?_,?_⟩,?_,?_⟩<;>simp only [zek,zy7 c1,zy7 c2,e2,zy11 c3,e3,e4]<;>push_cast<;>omega
     . refine ⟨⟨?_,?_,?_,?_,?_⟩,?_,?_⟩<;>simp only [zek,zy7 c1,zy7 c2,e2,zy7 c3]<;>push_cast<;>omega
theorem zjf (h:GI part k p):GI part (k+1) p:=by
 have h3:=h.next h1 h2 hk;obtain ⟨a1,a2,a3,a4,a5⟩:=h;refine ⟨?_,?_,?_,?_,?_⟩<;>push_cast<;>omega
end
set_option linter.unusedSectionVars false
theorem grow (part:Int) (what:List Int):zdo Try.prog 4 [i64 part,ints what] zay (zbp true) zay:=by
 refine zbn mixed Try.func4 zz10 ?_;(conv=>whnf);refine zao (zw ?_);refine ⟨_,zjg,rfl,zw ?_⟩;refine zas (fun h=>?_) (fun h1=>?_)
 . conv=>whnf
 (conv=>whnf);refine zas (fun h=>?_) (fun h2=>?_)
 . conv=>whnf
 (conv=>whnf);refine zas (fun h=>?_) (fun h3=>?_)
 . conv=>whnf
 (conv=>whnf);simp only [zy33,zy37] at h1 h2 h3;refine zao (zw ?_);refine ⟨_,zke part,rfl,?_⟩;have e0:W (2*part)=2*part:=zet zz0 zz0;have e1:W (32*part)=32*part:=zet zz0 zz0;have hg0:GI part 0 (new part):=⟨by simp only [new,e0];omega,by simp only [new,e0];omega,by simp only [new,e1];omega,by simp [new],by simp [new]⟩
 generalize new part=p0 at hg0 ⊢;(conv=>whnf);refine ⟨{x:Nat×Path // x.1<=what.length/\GI part x.1 x.2},fun | ⟨(k,p),_⟩=>hs 105 [(0,i64 part),(5,.ptr 5 0),(24,ints what),(25,i64 (what.map fun n=>[pi n]).length),(26,i64 k)] [(5,.live (.cells 23 p.cells))],fun x=>what.length-x.1.1,⟨(0,p0),by simp,hg0⟩,?_,?_⟩
 . exact zhl [(5,some 5)] rfl rfl rfl rfl ⟨⟨rfl,rfl⟩,⟨rfl,rfl⟩,⟨rfl,rfl⟩,⟨rfl,rfl⟩,⟨rfl,rfl⟩,trivial⟩ ⟨⟨rfl,.inl ⟨5,rfl,rfl⟩⟩,trivial⟩
 . rintro ⟨⟨k,p⟩,hk,hg⟩
   dsimp only at hk hg;(conv=>whnf);refine zas (fun h=>?_) (fun h=>?_)
   . have hlt:k<what.length:=by simpa using h
     (conv=>whnf);refine zfq (r:=[pi what[k]]) zz1 (by simp [hlt]) ?_;generalize what[k]=n;(conv=>whnf);refine zub.meet {q:Path // GI part (k+1) q} (fun q=>hs 105 [(0,i64 part),(5,.ptr 5 0),(8,.ptr 8 0),(24,ints what),(25,i64 (what.map fun n=>[pi n]).length),(26,i64 k)] [(5,.live (.cells 23 p.cells)),(8,.live (.cells 23 q.1.cells))]) ?_ ?_
     . have fin:∀ {q:Path} {s:HS},GI part (k+1) q->s.n=105->s.pins=[]->s.slot 0=i64 part->s.slot 5=.ptr 5 0->s.slot 8=.ptr 8 0->s.slot 24=ints what->s.slot 25=i64 (what.map fun n=>[pi n]).length->s.slot 26=i64 k ->
        s.heap 5=.live (.cells 23 p.cells)->s.heap 8=.live (.cells 23 q.cells) ->
        ∃ q:{q:Path // GI part (k+1) q},HLe s (hs 105 [(0,i64 part),(5,.ptr 5 0),(8,.ptr 8 0),(24,ints what),(25,i64 (what.map fun n=>[pi n]).length),(26,i64 k)] [(5,.live (.cells 23 p.cells)),(8,.live (.cells 23 q.1.cells))]):=by
        intro q s h0 h1 h2 h3 h4 h5 h6 h7 h8 h9 h10;exact ⟨⟨q,h0⟩,zhl [(5,some 5),(8,some 8)] h1.symm h2.symm rfl rfl ⟨⟨rfl,h3.symm⟩,⟨rfl,h4.symm⟩,⟨rfl,h5.symm⟩,⟨rfl,h6.symm⟩,⟨rfl,h7.symm⟩,⟨rfl,h8.symm⟩,trivial⟩ ⟨⟨rfl,.inl ⟨5,rfl,h9⟩⟩,⟨rfl,.inl ⟨8,rfl,h10⟩⟩,trivial⟩⟩
       (conv=>whnf);refine zas (fun c1=>?_) (fun c1=>?_)
       . conv=>whnf
         refine zao (zw ?_);refine ⟨_,zcp p part,rfl,?_⟩;obtain ⟨f1,f2,f3,f4⟩:=zkt zz0 zz0 zz0 hg;generalize zhk p part=q at f1 f2 f3 ⊢;(conv=>whnf);refine zbk (zy43 zz0) (zw ?_);refine zhp f4 (zw ?_);refine zbk (zy43 zz0) (zw ?_);exact fin f1 rfl rfl rfl rfl rfl rfl rfl rfl rfl rfl
       . conv=>whnf
         refine zas (fun c2=>?_) (fun c2=>?_)
         . conv=>whnf
           refine zao (zw ?_);refine ⟨_,zif p part,rfl,?_⟩;obtain ⟨f1,f2⟩:=zpe zz0 zz0 zz0 hg;generalize late p part=q at f1 f2 ⊢;(conv=>whnf);refine zbk ?_ ?_
           . simpa using f2
           (conv=>whnf);exact fin f1 rfl rfl rfl rfl rfl rfl rfl rfl rfl rfl
         . conv=>whnf
           refine zas (fun c3=>?_) (fun c3=>?_)
           . conv=>whnf
             refine zas (fun c4=>?_) (fun c4=>?_)
             . simp only [zy45] at c3 c4
               (conv=>whnf);refine zao (zw ?_);refine ⟨_,zge p n part true,rfl,?_⟩;obtain ⟨f1,f2,f3⟩:=zmg zz0 zz0 zz0 c3 c4 hg;have f4:=f1.top zz0 zz0 zz0;have f5:=f1.lo;have f6:=hg.lo;generalize zek p n part true=q at f1 f2 f3 f4 f5 ⊢;(conv=>whnf);refine zbk (zy43 zz0) (zw ?_);refine zbk (zy43 zz0) (zw ?_);refine sFm ?_;refine zbk (zy43 zz0) (zw ?_);exact fin f1 rfl rfl rfl rfl rfl rfl rfl rfl rfl rfl
             . conv=>whnf
               exact fin (zjf zz0 zz0 zz0 hg) rfl rfl rfl rfl rfl rfl rfl rfl rfl rfl
           . conv=>whnf
             exact fin (zjf zz0 zz0 zz0 hg) rfl rfl rfl rfl rfl rfl rfl rfl rfl rfl
     . rintro ⟨q,hq⟩
       have f1:=hq.lo;have f2:=hq.slow;dsimp only;(conv=>whnf);refine zbk (zy43 zz0) (zw ?_);refine sFm ?_;refine zbk (zy43 zz0) (zw ?_);refine sFm ?_;exact ⟨⟨(k+1,q),hlt,hq⟩,zhl [(5,some 5)] rfl rfl rfl rfl ⟨⟨rfl,rfl⟩,⟨rfl,rfl⟩,⟨rfl,rfl⟩,⟨rfl,rfl⟩,⟨rfl,by simp;rfl⟩,trivial⟩ ⟨⟨rfl,.inl ⟨5,rfl,rfl⟩⟩,trivial⟩,by dsimp only;omega⟩
   . conv=>whnf
def waits:Nat->Int
 | 0=>3
 | k+1=>min (2*waits k) 24
theorem zth (k:Nat):3<=waits k/\waits k<=24:=by
 induction k with
 | zero=>simp [waits]
 | succ k ih=>simp only [waits];omega
structure WI (k:Nat) (p:Path):Prop where
 wait:p.wait=waits k
 errors:p.errors=k
theorem wait (part times:Int):zdo Try.prog 5 [i64 part,i64 times] zay (zbp true) zay:=by
 refine zbn mixed Try.func5 zz10 ?_;(conv=>whnf);refine zao (zw ?_);refine ⟨_,zjg,rfl,zw ?_⟩;refine zas (fun h=>?_) (fun h1=>?_)
 . conv=>whnf
 (conv=>whnf);refine zas (fun h=>?_) (fun h2=>?_)
 . conv=>whnf
 (conv=>whnf);refine zas (fun h=>?_) (fun h3=>?_)
 . conv=>whnf
 (conv=>whnf);refine zas (fun h=>?_) (fun h4=>?_)
 . conv=>whnf
 (conv=>whnf);simp only [zy33] at h1 h2 h3 h4;refine zao (zw ?_);refine ⟨_,zke part,rfl,?_⟩;have hg0:WI 0 (new part):=⟨rfl,rfl⟩
 generalize new part=p0 at hg0 ⊢;(conv=>whnf);refine ⟨{x:Nat×Path // (x.1:Int)<=times/\WI x.1 x.2},fun | ⟨(k,p),_⟩=>hs 59 [(0,i64 part),(5,.ptr 5 0),(6,i64 (waits k)),(26,i64 times),(27,i64 k)] [(5,.live (.cells 23 p.cells))],fun x=>times.toNat-x.1.1,⟨(0,p0),by omega,hg0⟩,?_,?_⟩
 . exact zhl [(5,some 5)] rfl rfl rfl rfl ⟨⟨rfl,rfl⟩,⟨rfl,rfl⟩,⟨rfl,rfl⟩,⟨rfl,rfl⟩,⟨rfl,rfl⟩,trivial⟩ ⟨⟨rfl,.inl ⟨5,rfl,rfl⟩⟩,trivial⟩
 . rintro ⟨⟨k,p⟩,hk,hg⟩
   dsimp only at hk hg;obtain ⟨hw,he⟩:=hg;have hb:=zth k;(conv=>whnf);refine zas (fun h=>?_) (fun h=>?_)
   . have hlt:(k:Int)<times:=by simpa using h
     (conv=>whnf);refine zao (zw ?_);refine ⟨_,zif p part,rfl,?_⟩;rw [<- hw] at hb;have e1:W (2*p.wait)=2*p.wait:=zet zz0 zz0;have e2:W (p.errors+1)=p.errors+1:=zet zz0 zz0;rw [hw] at hb;have f1:(late p part).wait=min (2*waits k) 24:=by simp only [late,e1];rw [hw]
     have f2:(late p part).errors=k+1:=by simp only [late,e2];rw [he]
     generalize late p part=q at f1 f2 ⊢;(conv=>whnf);refine sFm ?_;refine zbk ?_ ?_
     . simp only [bne_eq_false_iff_eq];omega
     (conv=>whnf);refine sFm ?_;refine zbk ?_ ?_
     . simp only [bne_eq_false_iff_eq];omega
     (conv=>whnf);refine sFm ?_;exact ⟨⟨(k+1,q),by dsimp only;omega,⟨f1,by rw [f2];push_cast;rfl⟩⟩,zhl [(5,some 5)] rfl rfl rfl rfl ⟨⟨rfl,rfl⟩,⟨rfl,rfl⟩,⟨rfl,by
      show i64 (waits (k+1))=i64 (if 24<2*waits k then 24 else 2*waits k);congr 3;simp only [waits];omega⟩,⟨rfl,rfl⟩,⟨rfl,by simp;rfl⟩,trivial⟩ ⟨⟨rfl,.inl ⟨5,rfl,rfl⟩⟩,trivial⟩,by dsimp only;omega⟩
   . conv=>whnf
     refine zao (zw ?_);refine ⟨_,zge p 1 part true,rfl,?_⟩;have f1:(zek p 1 part true).wait=3:=by simp only [zek];(repeat' split)<;>rfl
     have f2:(zek p 1 part true).errors=0:=by simp only [zek];(repeat' split)<;>rfl
     generalize zek p 1 part true=q at f1 f2 ⊢;(conv=>whnf);refine znu ?_ ?_
     . simp only [zy58];exact f1
     (conv=>whnf);show zbp (q.errors==0)=zbp true;rw [f2];rfl
end Paths
end Go.HL
