/- Walks, contracts and laws of the law's functions: part 2. No condition. -/
import Derived.Test.YtodkmlfmaenlpaaQBa
import Derived.Test.YtodkmlfmaenlpaaRows
import Derived.Test.YtodkmlfmaenlpaaProg
set_option maxHeartbeats 32000000
set_option maxRecDepth 100000
set_option linter.unusedSimpArgs false
theorem yy1 {P:Prop} (h:P:=by
 simp only [zcf] at h;obtain ⟨y,us,h1,h2,h3,h4,h5⟩:=zbi l h;refine ⟨_,_,h1,h2,fun m w R v hk hx=>?_,h4,fun H' he K' hk=>by simp only [zcf];exact h5 H' he _ hk⟩;simp only [zad] at hx ⊢;obtain ⟨arr,h4,h5⟩:=hx;exact ⟨arr,h4,h3 m w R _ hk h5⟩):P:=h
theorem yy2 {P:Prop} (h:P:=by
 simp only [zdr] at ho;split at ho
 . rename_i j hj
   obtain ⟨j',hj',hmj⟩:=hm i _ hj;cases hj';simp only [rn,hj,zad] at h ⊢;obtain ⟨l,h1,h2⟩:=h;exact ⟨l,by rw [hmj];exact h1,h2⟩
 . cases ho):P:=h
theorem yy4 {P:Prop} (h:P:=by
 simp only [zdr] at ho;split at ho
 . rename_i j hj
   simp only [rn,hj,zad] at h ⊢;obtain ⟨l,h1,h2⟩:=h;exact ⟨l,by rw [hm i j hj];exact h1,h2⟩
 . cases ho):P:=h
theorem yy6 {P:Prop} (h:P:=by
 simp only [zdr] at ho;simp only [rn,zad] at h ⊢;obtain ⟨arr,h1,h2⟩:=h;exact ⟨arr,h1,zfu hm hn hR l _ ho h2⟩):P:=h
theorem yy7 {P:Prop} (h:P:=by
 simp only [zdr] at ho;simp only [rn,zad] at h ⊢;obtain ⟨arr,h1,h2⟩:=h;exact ⟨arr,h1,zju hm hR l _ ho h2⟩):P:=h
theorem yy12 {P:Prop} (h:P:=by
 obtain ⟨h1,h2,h3⟩:=h;refine ⟨h1,h2,?_⟩;rcases h3 with h3 | ⟨h3,h4,h5,arr,h6,h7,h8⟩
 . exact .inl h3
 . exact .inr ⟨h3,h4,h5,arr,h6,h7,fun k x hk=>let ⟨cv,h9,h10⟩:=h8 k x hk;⟨cv,h9,h10.sub hR⟩⟩):P:=h
theorem yy14 {P:Prop} (h:P:=by
 refine ⟨_,_,h4,h5,fun m w R vs hk hx=>?_,fun H' he K' hk=>by simp only [zeq];exact h7 H' he _ hk⟩;simp only [zae] at hx ⊢;obtain ⟨v,r,rfl,h7,h8⟩:=hx;exact ⟨v,r,rfl,h7,h6 m w R r hk h8⟩):P:=h
theorem yy19 {P:Prop} (h:P:=by
 simp only [rn,zad] at h ⊢;obtain ⟨b,o,h1,h2,h3⟩:=h;exact ⟨b,o,h1,fun hc=>hR b (h2 hc),fun k x hk=>let ⟨cv,h4,h5⟩:=h3 k x hk;⟨cv,h4,h5.sub hR⟩⟩):P:=h
theorem yy20 {P:Prop} (h:P:=by
 cases h;obtain ⟨l,h1,h2,h3⟩:=hok.live id _ hb;exact ⟨l,h1,hB _ _ h2,h3⟩):P:=h
theorem yy22 {P:Prop} (h:P:=by
 obtain ⟨h1,h2,h3,h4,h5,arr,h6,h7,h8⟩:=h;exact ⟨h1,h2,h3,h4,h5,arr,h6,h7,fun k x hk=>let ⟨cv,h9,h10⟩:=h8 k x hk;⟨cv,h9,h10.sub hR⟩⟩):P:=h
theorem yy30 {P:Prop} (h:P:=by
 simp only [execOp,resolve,hfv,Deferred.ofValue,Sem.run_bind,Sem.run_pure,Result.andThen_ok,invoke]
 simpa using hcf):P:=h
theorem yy32 {P:Prop} (h:P:=by
 split<;>first | rfl | skip
 . rename_i id;rw [h id (by simp [zax])]
 . rename_i id _ _ _;rw [h id (by simp [zax])]):P:=h
theorem yy35 {P:Prop} (h:P:=by
 split
 . split
   . split
     . exact zar zac
     . exact False.elim
   . exact False.elim
 . exact False.elim):P:=h
theorem yy36 {P:Prop} (h:P:=by
 simp only [zoo] at hs;simp only [zad] at h ⊢;obtain ⟨arr,h1,h2⟩:=h;exact ⟨arr,h1,zjw l _ hs h2⟩):P:=h
theorem yy9 {P:Prop} (h:P:=by
 simp only [Cell.okWide,Cell.ok,hu] at hok;obtain ⟨b,rfl,_⟩:=h2;cases v<;>try exact hok.elim
 exact one rfl rfl):P:=h
namespace Go.HL
open Go.RowKit (Below)
section
variable {Γ:Ctx} {P:Program} {m:zbt} {H:Nat->zaa} {w:World} {ρ:Operand->Value} {ev:Operand->HV} {dst:Option Tmp} {ty:TypeId} {pos:String} {after:Array Edge} {guard:Option (Nat×Bool)}
theorem zoy.vals {R:Nat->Prop} {n:Nat} {rows:List (List PV)} {v:Value} (h:zoy w R n rows v) :
 ∃ a c vs,v=.slice a rows.length c/\rows.length<=c/\c<=maxLen/\zbo w R rows.flatten vs/\(rows=[]\/∃ b o,a=some ⟨b,o,none⟩/\∀ (j:Nat) u,vs[j]?=some u->w.cell? ⟨b,o+j,none⟩=some u):=by
 obtain ⟨a,c,hv,hle,hm,hcell⟩:=h.out;by_cases hne:rows=[]
 . subst hne;exact ⟨a,c,[],hv,hle,hm,.nil,.inl rfl⟩
 . obtain ⟨b,o,ha,hpc⟩:=hcell hne
   have:∀ (l:List PV) (k:Nat),(∀ (j:Nat) x,l[j]?=some x->∃ cv,w.cell? ⟨b,o+(k+j),none⟩=some cv/\zcs w R x cv)->∃ vs,zbo w R l vs/\∀ (j:Nat) u,vs[j]?=some u->w.cell? ⟨b,o+(k+j),none⟩=some u:=by
    intro l
    induction l with
    | nil=>intro k _;exact ⟨[],.nil,fun j u hu=>by simp at hu⟩
    | cons x l ih =>
     intro k hk;obtain ⟨cv,h1,h2⟩:=hk 0 x zz1;obtain ⟨vs,h3,h4⟩:=ih (k+1) (fun j y hy=>by
      have:=hk (j+1) y (by simpa using hy)
      rwa [show k+(j+1)=k+1+j by omega] at this)
     refine ⟨cv::vs,.cons h2 h3,fun j u hu=>?_⟩;cases j with
     | zero=>simp at hu;subst hu;exact h1
     | succ j=>have:=h4 j u (by simpa using hu);rwa [show k+1+j=k+(j+1) by omega] at this
   obtain ⟨vs,h1,h2⟩:=this rows.flatten 0 (fun j x hx=>by simpa using hpc j x hx);exact ⟨a,c,vs,hv,hle,hm,h1,.inr ⟨b,o,ha,fun j u hu=>by simpa using h2 j u hu⟩⟩
theorem zoy.src {R:Nat->Prop} {n:Nat} {rows:List (List PV)} {v:Value} (h:zoy w R n rows v) {t e:TypeId} (hu:P.underlying t=some (.slice e)) :
 ∃ vs,zbo w R rows.flatten vs/\Src P n t v rows.length vs w:=by
 obtain ⟨a,c,vs,rfl,hle,hm,hp,hc⟩:=h.vals;have hl:vs.length=rows.length*n:=by rw [hp.length,zao h.lens]
 refine ⟨vs,hp,?_⟩;rcases hc with rfl | ⟨b,o,rfl,hc⟩
 . have hv:vs=[]:=zy2 zz14
   subst hv;cases a with
   | none=>exact Src.ofNil w hu c
   | some ad=>exact Src.ofSlice w hu ad 0 c [] zz1 (fun j u hj=>by simp at hj) zz1
 . exact Src.ofSlice w hu _ _ c vs hl (fun j u hj=>by rw [Addr.add_mid];exact hc j u hj) hp.one
theorem OS.newRow' {w1:World} {H':Nat->zaa} (hws:WS Γ H m w1 H' m w) {id:Nat} (hf:H' id=.free) {arr:Array Value} {t:TypeId} {n cap:Nat} {rows:List (List PV)} (hlens:∀ r∈rows,r.length=n)
 (hle:rows.length<=cap) (hm:cap<=maxLen) (hsz:arr.size=cap*n) (hr:∀ (k:Nat) x,rows.flatten[k]?=some x->∃ cv,arr[k]?=some cv/\zcs w (RR Γ m H' w) x cv) {x:Sem Next}
 {ups:List (Nat×zaa)} (hups:zbe H ups=upd H' id (.live (.row t n rows)))
 (tch:List Nat) (hx:x.run P w1=.ok (.value (.slice (some ⟨w.heap.size,0,none⟩) rows.length cap)) (w.alloc (.cells arr t))):OS Γ P m H w1 x ⟨.own id,ups,tch⟩:=by
 obtain ⟨m',hws2,hm'⟩:=WS.new hws.ok hf (arr:=arr) (t:=t) (b:=.row t n rows) (cap:=cap) (len:=rows.length) (fun m' R' hext hk =>
  ⟨rfl,hlens,.inr ⟨rfl,hle,hm,arr,heap_alloc_new w _,hsz,fun k y hy=>by
   obtain ⟨cv,h1,h2⟩:=hr k y hy;exact ⟨cv,h1,h2.mono hk⟩⟩⟩)
 refine ⟨_,_,m',.inl hx,?_,?_⟩
 . simp only [hups];exact hws.trans hws2
 . simp only [zad]
   exact ⟨_,hm',by simp [hdr]⟩
theorem zcl (z:Array Value) (n:Nat):(Builtin.zeroCells z n).size=n*z.size:=by simp [Builtin.zeroCells]
theorem zer {H':Nat->zaa} (hws:WS Γ H m w H' m w) {d:Nat} (hf:H' d=.free) {t e:TypeId} {de:TyD} {u:TypeDesc} {i:TypeInfo} {z:Value} (hu:P.underlying t=some (.slice e)) (ht:zho P e de u i z) (hzs:de.zero.length=de.size)
 (hb:0<de.bytes) {rows ys:List (List PV)} {base:Option Addr} {cap:Nat} {vy:Value} (hx:zoy w (RR Γ m H w) de.size rows (.slice base rows.length cap)) (hy:zoy w (RR Γ m H w) de.size ys vy)
 (hg:cap<rows.length+ys.length) (h47:(rows.length+ys.length)*de.bytes<=140737488355328) {ups:List (Nat×zaa)} (hups:zbe H ups=upd H' d (.live (.row e de.size (rows++ys)))) (tch:List Nat) {x:Sem Next}
 (zbq:∀ {v:Value} {w':World},(Builtin.append_ #[t,t] ty #[.slice base rows.length cap,vy]).run P w=.ok v w'->x.run P w=.ok (.value v) w'):OS Γ P m H w x ⟨.own d,ups,tch⟩:=by
 obtain ⟨olds,ho,hso⟩:=hx.src hu;obtain ⟨news,hn,hsn⟩:=hy.src hu;have hN:rows.length+ys.length<=140737488355328:=by
  have:(rows.length+ys.length)*1<=(rows.length+ys.length)*de.bytes:=Nat.mul_le_mul_left _ hb;omega
 rw [ht.size] at hso hsn;have hr:=run_append_grow_src (P:=P) w t t ty e i z hu ht.info ht.zero base rows.length cap olds hso.cellsD vy ys.length news hsn hg zz0 (growslice_fits hg (by rw [<- ht.bytes];exact h47));have hcap:=grownCap_ge w (rows.length+ys.length) cap e;have hcm:=grownCap_le_maxLen w (rows.length+ys.length) cap e zz31;have hlr:(rows++ys).length=rows.length+ys.length:=by simp
 rw [<- hlr] at hr;have hws':WS Γ H m w H' m w.drew:=hws.trans (WS.drew hws.ok);have hzz:z.cells.size=de.size:=by rw [<- hzs,ht.zeros];simp
 have holds:olds.length=rows.length*de.size:=by rw [ho.length,zao hx.lens]
 have hnews:news.length=ys.length*de.size:=by rw [hn.length,zao hy.lens]
 have hall:=ho.append hn;refine OS.newRow' (w:=w.drew) hws' hf (arr:=(olds++news).toArray++Builtin.zeroCells z.cells (grownCap w (rows++ys).length cap e-(rows++ys).length)) (t:=e) (n:=de.size) (cap:=grownCap w (rows++ys).length cap e) (rows:=rows++ys) ?_ (by rw [hlr];exact hcap) (by rw [hlr];exact hcm) ?_ ?_ hups tch (zbq hr)
 . intro r hr
   rcases zy13.1 hr with hr | hr
   . exact hx.lens r hr
   . exact hy.lens r hr
 . rw [hlr]
   simp only [Array.size_append,zcl,hzz,zy56,zy7,holds,hnews];rw [<- zy17,<- zy17];congr 1;omega
 . intro k y hy
   rw [zy39] at hy;obtain ⟨cv,hcv,hp⟩:=hall.get k y hy;refine ⟨cv,?_,hp.mono hws'.keep⟩;have hlt:k<(olds++news).length:=(zy16.1 hcv).1;rw [zy78 (by simpa using hlt)]
   simpa using hcv
theorem zcr (b:Builtin) (args:Array Operand) (ats:Array TypeId) (f:Sem Value) (hb:∀ consts,builtin b ats ty consts (args.map ρ)=(do pure (Next.value (<- f)):Sem Next)) {v:Value} {w':World} (h:f.run P w=.ok v w') :
 (execOp ρ ⟨dst,.call ⟨.builtin b,args,ats⟩,ty,pos,after,guard⟩).run P w=.ok (.value v) w':=by
 simp only [execOp,resolve,Sem.run_bind,Sem.run_pure,Result.andThen_ok,invoke,hb,h]
theorem zqk {n o:Nat} {rows ys:List (List PV)} (h1:∀ r∈rows,r.length=n) (h2:∀ r∈ys,r.length=n):∀ r∈zeb rows o ys,r.length=n:=by
 intro r hr;simp only [zeb,zy13] at hr;rcases hr with (hr | hr) | hr
 . exact h1 r (zy42 hr)
 . exact h2 r hr
 . exact h1 r (zy67 hr)
theorem ztk {o:Nat} {rows ys:List (List PV)} (h:o<=rows.length):(zeb rows o ys).length=max rows.length (o+ys.length):=by
 simp [zeb];omega
theorem ztj {o n:Nat} {rows ys:List (List PV)} (h1:∀ r∈rows,r.length=n) (h2:∀ r∈ys,r.length=n) (ho:o<=rows.length) {k:Nat} {x:PV} (h:(zeb rows o ys).flatten[k]?=some x) :
 (o*n<=k/\k<o*n+ys.flatten.length/\ys.flatten[k-o*n]?=some x)\/(¬ (o*n<=k/\k<o*n+ys.flatten.length)/\rows.flatten[k]?=some x):=by
 have hl1:(rows.take o).flatten.length=o*n:=by
  rw [zao (n:=n) fun r hr=>h1 r (zy42 hr),zy32];congr 1;omega
 have hl2:ys.flatten.length=ys.length*n:=zao h2;simp only [zeb,zy39] at h;rcases zy52 k (o*n) with hk | hk
 . right
   refine ⟨by omega,?_⟩;rw [zy37,zy26 (by omega)] at h;have:rows.flatten=(rows.take o).flatten++(rows.drop o).flatten:=by rw [<- zy39,zy25]
   rw [this,zy26 (by omega)];exact h
 . rcases zy52 k (o*n+ys.flatten.length) with hk2 | hk2
   . left
     rw [zy37,zy28 (by omega),zy26 (by omega),hl1] at h;exact ⟨hk,hk2,h⟩
   . right
     refine ⟨by omega,?_⟩;rw [zy28 (by rw [zy7];omega)] at h;simp only [zy7,hl1] at h;by_cases hle:o+ys.length<=rows.length
     . have:rows.flatten=(rows.take (o+ys.length)).flatten++(rows.drop (o+ys.length)).flatten:=by rw [<- zy39,zy25]
       have hl3:(rows.take (o+ys.length)).flatten.length=o*n+ys.flatten.length:=by
        rw [zao (n:=n) fun r hr=>h1 r (zy42 hr),zy32,hl2,<- zy17];congr 1;omega
       rw [this,zy28 (by omega),hl3];exact h
     . rw [zy89 (by omega)] at h
       simp at h
theorem zfa (hok:zag Γ m H w) {id:Nat} {b:zdf} {l:Loc} (hH:H id=.live b) (hl:m id=some l) {t1:TypeId} {n:Nat} {rows:List (List PV)} {mk:List (List PV)->zdf} {lim:Nat} (hw:Win m w (RR Γ m H w) l b t1 n rows mk lim)
 (hlim:lim=rows.length\/∃ c,b=.buf t1 n rows c/\lim=c/\l.cap=c) {ys:List (List PV)} {vs:List Value} (hys:∀ r∈ys,r.length=n) (hp:zbo w (RR Γ m H w) ys.flatten vs) {o:Nat} (h1:o<=rows.length) (h2:o+ys.length<=lim) (hne:ys≠[]) :
 l.nil=false/\(∀ j,j<vs.length->(w.cell? ⟨l.blk,o*n+j,none⟩).isSome=true)/\(∀ j,j<vs.length->w.frozen? ⟨l.blk,o*n+j,none⟩=false) /\
  WS Γ H m w (upd H id (.live (mk (zeb rows o ys)))) m (w.setCells l.blk (o*n) vs):=by
 have hpos:0<ys.length:=Nat.pos_of_ne_zero fun h=>hne (zy2 h)
 have hroom:=hw.room;have hn:l.nil=false:=by
  cases h:l.nil with
  | false=>rfl
  | true=>simp [Loc.room,h] at hroom;omega
 have hvl:vs.length=ys.length*n:=by rw [hp.length,zao hys]
 obtain ⟨arr,harr,hsz,hcell,hset⟩:=hw.arr hn;have hcap:lim<=l.cap:=by simpa [Loc.room,hn] using hroom
 have hfit:o*n+vs.length<=arr.size:=by
  rw [hvl,hsz,<- zy17];exact zy33 _ zz0
 refine ⟨hn,fun j hj=>?_,fun j hj=>by simp [World.frozen?,harr],?_⟩
 . rw [cell_of_row w l.blk _ arr _ (0,0) harr,zy44 (by omega)];rfl
 . refine WS.set hok hH hl hn (zan _ _ _ _).1 (zan _ _ _ _).2.1 (zan _ _ _ _).2.2.1 (zan _ _ _ _).2.2.2 (fun k hk=>zcb _ _ _ _ _ hk) fun R' hk=>?_
   refine hset _ R' (putAt arr (o*n) vs) _ (zca _ _ _ _ _ harr hfit) (zck _ _ _) (zqk hw.lens hys) ?_ fun k x hx=>?_
   . rw [ztk h1]
     rcases hlim with rfl | ⟨c,hb,rfl,hc⟩
     . left;omega
     . right;exact ⟨hc.symm,by have:=hw.le;omega,lim,hb⟩
   . rw [zbz]
     rcases ztj hw.lens hys h1 hx with ⟨g1,g2,g3⟩ | ⟨g1,g3⟩
     . obtain ⟨cv,h4,h5⟩:=hp.get _ _ g3
       have hlt:=(zy16.1 h4).1;rw [zy12 (by omega)];exact ⟨cv,h4,h5.mono hk⟩
     . rw [zy14 (by rw [hp.length];omega)]
       obtain ⟨cv,h4,h5⟩:=hcell k x g3;exact ⟨cv,h4,h5.mono hk⟩
theorem zff {rows:List (List PV)} {o:Nat}:zeb rows o []=rows:=by simp [zeb]
theorem zlm (hok:zag Γ m H w) {id:Nat} {b:zdf} {l:Loc} (hH:H id=.live b) (hl:m id=some l) {e:TypeId} {de:TyD} {rows:List (List PV)} {mk:List (List PV)->zdf} {lim:Nat} (hw:Win m w (RR Γ m H w) l b e de.size rows mk lim)
 (hlim:lim=rows.length\/∃ c,b=.buf e de.size rows c/\lim=c/\l.cap=c) {off len:Nat} {vx vy:Value} (hx:zad m w (RR Γ m H w) (.osl id de.size off len) vx) {t:TypeId} {u:TypeDesc} {i:TypeInfo} {z:Value} (hu:P.underlying t=some (.slice e)) (ht:zho P e de u i z)
 {ys:List (List PV)} (hs:zoy w (RR Γ m H w) de.size ys vy) (h1:off+len<=rows.length) (h2:off+len+ys.length<=lim) {x:Sem Next}
 (zbq:∀ {v:Value} {w':World},(Builtin.append_ #[t,t] ty #[vx,vy]).run P w=.ok v w'->x.run P w=.ok (.value v) w') (tch:List Nat) :
 OS Γ P m H w x ⟨.osl id de.size off (len+ys.length),[(id,.live (mk (zeb rows (off+len) ys)))],tch⟩:=by
 have hx':=hx;simp only [zad] at hx;obtain ⟨l',a,hl',g1,g2,rfl,g5⟩:=hx;rw [hl] at hl';cases hl';have hroom:=hw.room;obtain ⟨news,hnw,hsn⟩:=hs.src hu;rw [ht.size] at hsn;by_cases hys:ys=[]
 . subst hys
   have hnn:news=[]:=zy2 zz35;subst hnn;have hr:=run_append_nothing (P:=P) w t t ty e i hu ht.info a len (l.room-off) zz0 vy hsn;refine ⟨_,_,m,.inl (zbq hr),?_,?_⟩
   . simp only [zbe,zff,hw.set,<- hH,zfg];exact .refl hok
   . simp only [zbe,zff,hw.set,<- hH,zfg];simpa using hx'
 . obtain ⟨hn,hc,hf,hws⟩:=zfa hok hH hl hw hlim hs.lens hnw h1 h2 hys
   have hpos:0<ys.length:=Nat.pos_of_ne_zero fun h=>hys (zy2 h)
   have ha:a=some ⟨l.blk,off*de.size,none⟩:=(g5 (.inl zz0)).trans zz33;subst ha;have hr:=run_append_room_src (P:=P) w t t ty _ i hu ht.info l.blk (off*de.size) len (l.room-off) vy ys.length news hsn zz0
    (fun j hj=>by rw [<- ht.size,<- zy17];exact hc j hj) (fun j hj=>by rw [<- ht.size,<- zy17];exact hf j hj)
   rw [<- ht.size,<- zy17] at hr;refine ⟨_,_,m,.inl (zbq hr),hws,?_⟩;simp only [zad];exact ⟨l,_,hl,by omega,g2,rfl,fun _=>by simp [Loc.at,hn]⟩
theorem zox (z:List Value):∀ k:Nat,(List.replicate k (z.map PV.v)).flatten=((List.replicate k z).flatten).map PV.v
 | 0=>rfl
 | k+1=>by rw [zy69,zy69,zy55,zy55,zy46,zox z k]
theorem zfl (z:Array Value) (k:Nat):(Builtin.zeroCells z k).toList=(List.replicate k z.toList).flatten:=by
 apply zy54;intro j;have hl:((List.replicate k z.toList).flatten).length=k*z.size:=by
  rw [zao (n:=z.size) fun r hr=>by rw [zy48 hr];simp,zy74]
 rcases zy52 j (k*z.size) with h | h
 . have hzs:0<z.size:=by
    rcases zy83 z.size with h0 | h0
    . rw [h0] at h;simp at h
    . exact h0
   have e1:(Builtin.zeroCells z k).toList[j]?=some (z[j % z.size]!):=by
    rw [zy62,zy44 (by rw [zcl];exact h)];simp [Builtin.zeroCells]
   have hlt:=Nat.mod_lt j hzs;have hd:j / z.size<k:=Nat.div_lt_of_lt_mul (by rw [Nat.mul_comm];exact h);have e2:=zaz (rows:=List.replicate k z.toList) (n:=z.size) (i:=j / z.size) (j:=j % z.size) (r:=z.toList) (x:=z[j % z.size]) (fun r hr=>by rw [zy48 hr];simp)
    (by rw [zy85,zy12 hd]) (by simp [hlt])
   rw [show j / z.size*z.size+j % z.size=j by rw [Nat.mul_comm];exact Nat.div_add_mod j z.size] at e2;rw [e1,e2,getElem!_pos z _ hlt]
 . rw [zy36 (by rw [Array.length_toList,zcl];exact h),zy36 (by rw [hl];exact h)]
theorem zka {R:Nat->Prop}:∀ {l:List Value},(∀ v∈l,v.oneCell'=true)->zbo w R (l.map PV.v) l
 | [],_=>.nil
 | v::r,h=>.cons (.v v (h v zz1)) (zka fun x hx=>h x (by simp [hx]))
theorem zli {R:Nat->Prop} {z:List Value} (h:z.all (·.oneCell')=true) (k:Nat):zbo w R (List.replicate k (z.map PV.v)).flatten (List.replicate k z).flatten:=by
 rw [zox];refine zka fun v hv=>?_
 obtain ⟨l,hl,hv⟩:=List.mem_flatten.1 hv;rw [zy48 hl] at hv;exact zy31.1 h v hv
theorem zib (t tx ty e:TypeId) (i:TypeInfo) (z:Value) (hu:P.underlying t=some (.slice e)) (hx:P.underlying tx=some (.int .i64)) (hi:P.info? e=some i) (hz:i.zero=some z) (base:Option Addr) (sLen sCap:Nat) (olds:List Value)
 (hold:(Builtin.firstCells i.size sLen (.slice base sLen sCap)).run P w.drew=.ok olds.toArray w.drew) (n:Int) (h0:0<=n) (h9:n<=9223372036854775807) (hs:0<i.size) (hb:n*i.bytes<=281474976710656)
 (hg:sCap<sLen+n.toNat) (h63:((sLen+n.toNat:Nat):Int)<=9223372036854775807) (hfit:Builtin.nextslicecap (sLen+n.toNat) sCap*i.bytes<=281474976710656) (hpos:0<n) :
 (Builtin.append_ #[t,tx] ty #[.slice base sLen sCap,.int .i64 n]).run P w =
  .ok (.slice (some ⟨w.heap.size,0,none⟩) (sLen+n.toNat) (grownCap w (sLen+n.toNat) sCap e))
   (w.drew.alloc (.cells ((olds++(Builtin.zeroCells z.cells n.toNat).toList).toArray++Builtin.zeroCells z.cells (grownCap w (sLen+n.toNat) sCap e-(sLen+n.toNat))) e)):=by
 have hn:¬ (sLen+n.toNat<=sCap):=by omega
 have h63':¬ (9223372036854775807<((sLen:Int)+(n.toNat:Int))):=by omega
 have h48':¬ (281474976710656<Builtin.nextslicecap (sLen+n.toNat) sCap*i.bytes):=by omega
 have hw:IntKind.i64.wrap n=n:=by
  unfold IntKind.wrap;simp [IntKind.bits,IntKind.signed];omega
 have hneg:¬ n<0:=by omega
 have hbig:¬ (281474976710656<n*(i.bytes:Int)):=by omega
 have hnz:¬ (n.toNat*i.size=0):=by
  have:0<n.toNat*i.size:=Nat.mul_pos zz0 hs;omega
 have hnz2:¬ (n<=0\/i.size=0):=by omega
 have h63'':¬ (9223372036854775807<((sLen:Int)+max n 0)):=by omega
 simp [Builtin.append_,run_underlying hu,run_underlying hx,sizeOf,typeInfo,zeroValue,hi,hz,hn,h63',h48',Question.forced,hold,newRow,grownCap,asInt,asIntOf,hw,hneg,hbig,hnz,hnz2,h63''];congr 2;apply Array.ext';simp [zy37]
theorem zta {K:Res->Prop} {d:Nat} {x y:Operand} {t t':TypeId} (hok:zag Γ m H w) (hx:zad m w (RR Γ m H w) (ev x) (ρ x)) (hy:zad m w (RR Γ m H w) (ev y) (ρ y))
 (h:tyK P t' fun td=>match td.k with | .int .i64=>(match ev y with | .p (.v (.int .i64 z))=>zcw P t (ev x) z d H K | _=>False) | _=>False) :
 ∃ r,K r/\OS Γ P m H w (execOp ρ ⟨dst,.call ⟨.builtin .append,#[x,y],#[t,t']⟩,ty,pos,after,guard⟩) r:=by
 obtain ⟨td,u',i',z',ht',h⟩:=zbn h;split at h
 case h_2=>exact h.elim
 rename_i hk;split at h
 case h_2=>exact h.elim
 rename_i n hyy;rw [hyy] at hy;have hyv:=zba hy;unfold zcw at h;have hq:=zbm h;clear h;obtain ⟨e,de,u,i,z,hu,ht,h⟩:=hq;have hx2:=zab h;clear h;obtain ⟨hc,h⟩:=hx2;simp only [zy1] at hc;obtain ⟨⟨⟨hpos,hby⟩,hzs⟩,hone⟩:=hc;have hpos:0<de.size:=zy9 hpos;have hby:0<de.bytes:=zy9 hby;have hzs:=zy0 hzs;have hrunx:∀ {v:Value} {w':World},(Builtin.append_ #[t,t'] ty #[ρ x,ρ y]).run P w=.ok v w'->(execOp ρ ⟨dst,.call ⟨.builtin .append,#[x,y],#[t,t']⟩,ty,pos,after,guard⟩).run P w=.ok (.value v) w' :=
  fun hr=>zde .append #[x,y] #[t,t'] (fun _ _=>rfl) zz37
 split at h
 case h_2=>exact h.elim
 rename_i id n1 off len hxx;rw [hxx] at hx;have hq:=zaq h;clear h;obtain ⟨b,hb,h⟩:=hq;obtain ⟨l,hl,hbr⟩:=hok.blk hb;split at h
 case h_2=>exact h.elim
 rename_i t1 n2 rows cap;have hx2:=zab h;clear h;obtain ⟨hee,⟨g0,g9,g1,g2,g3⟩,h⟩:=hx2;simp only [zy1] at hee;have he2:=zy0 hee.1;have he3:=zy0 hee.2;subst he2 he3;split at h
 case h_2=>exact h.elim
 rename_i hfree;refine ⟨_,h,?_⟩;have hbr':=hbr;obtain ⟨b1,b2,b3,b4,b5,_⟩:=hbr';have hsx:=zin hl hx hbr.2.2.1 (fun _=>zix hbr) g2;simp only [zad] at hx;obtain ⟨l',a,hl',k1,k2,hxv,k5⟩:=hx;rw [hl] at hl';cases hl';have hroom:l.room=cap:=by simp [Loc.room,b1,b2]
 rw [hxv] at hsx hrunx;obtain ⟨olds,ho,hso⟩:=hsx.src hu;have hwl:((rows.drop off).take len).length=len:=by rw [zy32,zy34];omega
 rw [hwl] at hso;rw [ht.size] at hso;rw [hyv] at hrunx;have hcast:(((len+n.toNat)*de.bytes:Nat):Int)=(len+n)*de.bytes:=by rw [Int.natCast_mul,zy93,Int.toNat_of_nonneg g0]
 have h47:(len+n.toNat)*de.bytes<=140737488355328:=by
  have h1:(((len+n.toNat)*de.bytes:Nat):Int)<=((140737488355328:Nat):Int):=by rw [hcast];exact g3
  exact Int.ofNat_le.1 h1
 have hN:len+n.toNat<=140737488355328:=by
  have:(len+n.toNat)*1<=(len+n.toNat)*de.bytes:=Nat.mul_le_mul_left _ hby;omega
 have hnb:n*(i.bytes:Int)<=281474976710656:=by
  rw [<- ht.bytes];have h1:n*(de.bytes:Int)<=(len+n)*de.bytes:=Int.mul_le_mul_of_nonneg_right zz0 zz0;omega
 have hr:=zib (P:=P) (w:=w) t t' ty e i z hu (ht'.int hk) ht.info ht.zero a len (l.room-off) olds hso.cellsD n g0 g9 (by rw [<- ht.size];exact hpos) hnb zz0 zz0 (growslice_fits zz0 (by rw [<- ht.bytes];exact h47)) zz0;have hcap:=grownCap_ge w (len+n.toNat) (l.room-off) e;have hcm:=grownCap_le_maxLen w (len+n.toNat) (l.room-off) e zz31;have hzz:z.cells.size=de.size:=by rw [<- hzs,ht.zeros];simp
 have hzl:(Builtin.zeroCells z.cells n.toNat).toList=(List.replicate n.toNat de.zero).flatten:=by rw [zfl,ht.zeros]
 have hlr:((rows.drop off).take len++List.replicate n.toNat (de.zero.map PV.v)).length=len+n.toNat:=by rw [zy7,hwl,zy74]
 rw [<- hlr] at hr;have hws':WS Γ H m w H m w.drew:=WS.drew hok;have holds:olds.length=len*de.size:=by rw [ho.length,zao hsx.lens,hwl]
 have hall:=ho.append (zli (w:=w) (R:=RR Γ m H w) hone n.toNat);rw [hzl] at hr;refine OS.newRow' (w:=w.drew) hws' hfree (arr:=(olds++(List.replicate n.toNat de.zero).flatten).toArray++Builtin.zeroCells z.cells (grownCap w ((rows.drop off).take len++List.replicate n.toNat (de.zero.map PV.v)).length (l.room-off) e-((rows.drop off).take len++List.replicate n.toNat (de.zero.map PV.v)).length)) (t:=e) (n:=de.size)
  (cap:=grownCap w ((rows.drop off).take len++List.replicate n.toNat (de.zero.map PV.v)).length (l.room-off) e) (rows:=(rows.drop off).take len++List.replicate n.toNat (de.zero.map PV.v)) ?_ (by rw [hlr];exact hcap) (by rw [hlr];exact hcm) ?_ ?_ rfl _ (hrunx hr)
 . intro r hr
   rcases zy13.1 hr with hr | hr
   . exact hsx.lens r hr
   . rw [zy48 hr,zy6,hzs]
 . have hfl:((List.replicate n.toNat de.zero).flatten).length=n.toNat*de.size:=by
    rw [zao (n:=de.size) fun r hr=>by rw [zy48 hr];exact hzs,zy74]
   rw [hlr];simp only [Array.size_append,zcl,hzz,zy56,zy7,holds,hfl];rw [<- zy17,<- zy17];congr 1;omega
 . intro k y hy
   rw [zy39] at hy;obtain ⟨cv,hcv,hp⟩:=hall.get k y hy;refine ⟨cv,?_,hp.mono hws'.keep⟩;have hlt:k<(olds++(List.replicate n.toNat de.zero).flatten).length:=(zy16.1 hcv).1;rw [zy78 (by simpa using hlt)]
   simpa using hcv
theorem zzt (hok:zag Γ m H w) {n0 most:Nat} {y:HV} {v:Value} {K:Nat->List (List PV)->List Nat->Prop} (hy:zad m w (RR Γ m H w) y v) (h:ztp H n0 y most K) :
 ∃ n ys ids a len c,K n ys ids/\v=.slice a len c/\ys.length=Nat.min len most/\ys.length<=c/\zoy w (RR Γ m H w) n ys (.slice a ys.length c):=by
 unfold ztp at h;split at h
 . rename_i id n1 off len
   have hq:=zaq h;clear h;obtain ⟨b,hb,h⟩:=hq;obtain ⟨l,hl,hbr⟩:=hok.blk hb;have hq:=zlh hbr h;clear h;obtain ⟨t1,n2,rows,mk,lim,h,hw,_⟩:=hq;have hq:=zab h;clear h;obtain ⟨hnn,rs,rfl,hle,h⟩:=hq;have hnn:=zy0 hnn;subst hnn;have hmin:Nat.min len most<=len:=Nat.min_le_left _ _;have hlen:((rows.drop off).take (Nat.min len most)).length=Nat.min len most:=by rw [zy32,zy34];omega
   have hy':=hy;simp only [zad] at hy;obtain ⟨l',a,hl',k1,k2,rfl,k5⟩:=hy;rw [hl] at hl';cases hl';have hy2:zad m w (RR Γ m H w) (.osl id n1 off (Nat.min len most)) (.slice a (Nat.min len most) (l.room-off)):=by
    simp only [zad];exact ⟨l,a,hl,by omega,k2,rfl,k5⟩
   have hs:=zin hl hy2 hw.lens hw.cells hle;exact ⟨_,_,_,a,len,_,h,rfl,hlen,by omega,by rw [hlen];exact hs⟩
 . have hq:=zgd hok hy h;clear h;obtain ⟨n,rows,ids,h,hs⟩:=hq
   obtain ⟨a,c,hv,hle,hm,hcell⟩:=hs.out;have hlen:(rows.take most).length=Nat.min rows.length most:=by rw [zy32];exact Nat.min_comm _ _
   refine ⟨n,rows.take most,ids,a,rows.length,c,h,hv,hlen,by simp;omega,⟨a,c,rfl,by simp;omega,hm,fun hne=>?_⟩,fun r hr=>hs.lens r (zy42 hr)⟩;obtain ⟨b,o,ha,hpc⟩:=hcell (by rintro rfl;simp at hne);refine ⟨b,o,ha,fun k x hk=>hpc k x ?_⟩;have:rows.flatten=(rows.take most).flatten++(rows.drop most).flatten:=by rw [<- zy39,zy25]
   rw [this,zy26 ((zy16.1 hk).1)];exact hk
theorem yab {K:Res->Prop} {C:zaj} {d:Nat} {args:Array Operand} {ats:Array TypeId} (hok:zag Γ m H w) (hxs:∀ x∈args.toList,zad m w (RR Γ m H w) (ev x) (ρ x)) (h:zaw P C (.call ⟨.builtin .copy,args,ats⟩) d ev H K) :
 ∃ r,K r/\OS Γ P m H w (execOp ρ ⟨dst,.call ⟨.builtin .copy,args,ats⟩,ty,pos,after,guard⟩) r:=by
 simp only [zaw] at h;split at h
 case h_2=>exact h.elim
 rename_i x y hargs;have hargs':args=#[x,y]:=by rw [<- zy24 (xs:=args),hargs]
 subst hargs';split at h
 case h_2=>exact h.elim
 rename_i t t' hats;have hats':ats=#[t,t']:=by rw [<- zy24 (xs:=ats),hats]
 subst hats';have hx:=hxs x zz1;have hy:=hxs y zz1;unfold znj at h;have hq:=zbm h;clear h;obtain ⟨e,de,u,i,z,hu,ht,h⟩:=hq;split at h
 case h_2=>exact h.elim
 rename_i id n1 off len hxx;rw [hxx] at hx;split at h
 case h_2=>exact h.elim
 rename_i b hH;obtain ⟨l,hl,hbr,_⟩:=hok.live id _ hH;have hq:=zlh hbr h;clear h;obtain ⟨t1,n2,rows,mk,lim,h,hw,hlim⟩:=hq;have hq:=zzt hok hy h;clear h;obtain ⟨n,ys,ids,a,ylen,c,h,hyv,hyl,hyc,hs⟩:=hq;have hx2:=zab h;clear h;obtain ⟨hee,⟨g1,g2⟩,h⟩:=hx2;simp only [zy1] at hee;have he1:=zy0 hee.1.1;have he2:=zy0 hee.1.2;have he3:=zy0 hee.2;subst he1 he2 he3;have hx':=hx;simp only [zad] at hx;obtain ⟨l',ad,hl',k1,k2,hxv,k5⟩:=hx;rw [hl] at hl';cases hl';have hroom:=hw.room;obtain ⟨vs,hp,ztp⟩:=hs.src hu;rw [ht.size] at ztp;have hcl:(Builtin.firstCells i.size ys.length (ρ y)).run P w=.ok vs.toArray w:=by
  have:=ztp.cells;rw [hyv];cases a<;>exact this
 refine ⟨_,h,?_⟩;have hlen:(Builtin.lenOf (ρ y)).run P w=.ok ylen w:=by rw [hyv];rfl
 by_cases hys:ys=[]
 . subst hys
   have hvs:vs=[]:=zy2 (by simpa using hp.length);subst hvs;have zbq:(Builtin.copy_ #[t,t'] ty #[ρ x,ρ y]).run P w=.ok (goInt 0) w:=by
    rw [hxv];simp only [zy22] at hyl hcl;cases ad<;>simp [Builtin.copy_,run_underlying hu,hlen,sizeOf,typeInfo,ht.info,<- hyl,hcl,storeCells]
   refine ⟨_,_,m,.inl (zcr .copy #[x,y] #[t,t'] _ (fun _=>rfl) zz36),?_,?_⟩
   . simp only [zbe,zff,hw.set,<- hH,zfg];exact .refl hok
   . exact zbj _ rfl
 . obtain ⟨hn,hc,hf,hws⟩:=zfa hok hH hl hw hlim hs.lens hp g1 g2 hys
   have hpos:0<ys.length:=Nat.pos_of_ne_zero fun h=>hys (zy2 h)
   have ha:ad=some ⟨l.blk,off*de.size,none⟩:=(k5 (.inl zz0)).trans zz33;subst ha;have hst:=run_storeCells_cells (P:=P) l.blk (off*de.size) vs 0 w (by simpa using hc) (by simpa using hf) hp.one;simp only [zy51] at hst;have zbq:(Builtin.copy_ #[t,t'] ty #[ρ x,ρ y]).run P w=.ok (goInt ys.length) (w.setCells l.blk (off*de.size) vs):=by
    rw [hxv];simp [Builtin.copy_,run_underlying hu,hlen,sizeOf,typeInfo,ht.info,<- hyl,hcl,hst]
   refine ⟨_,_,m,.inl (zcr .copy #[x,y] #[t,t'] _ (fun _=>rfl) zz36),hws,?_⟩;exact zbj _ rfl
theorem zxs {K:Res->Prop} {C:zaj} {d:Nat} {args:Array Operand} {ats:Array TypeId} (hok:zag Γ m H w) (hxs:∀ x∈args.toList,zad m w (RR Γ m H w) (ev x) (ρ x)) (h:zaw P C (.call ⟨.builtin .clear,args,ats⟩) d ev H K) :
 ∃ r,K r/\OS Γ P m H w (execOp ρ ⟨dst,.call ⟨.builtin .clear,args,ats⟩,ty,pos,after,guard⟩) r:=by
 simp only [zaw] at h;split at h
 case h_2=>exact h.elim
 rename_i x hargs;have hargs':args=#[x]:=by rw [<- zy24 (xs:=args),hargs]
 subst hargs';split at h
 case h_2=>exact h.elim
 rename_i t hats;have hats':ats=#[t]:=by rw [<- zy24 (xs:=ats),hats]
 subst hats';have hx:=hxs x zz1;unfold zhv at h;have hq:=zbm h;clear h;obtain ⟨e,de,u,i,z,hu,ht,h⟩:=hq;have hx2:=zab h;clear h;obtain ⟨hc,h⟩:=hx2;simp only [zy1] at hc;obtain ⟨hzs,hone⟩:=hc;have hzs:=zy0 hzs;split at h
 case h_2=>exact h.elim
 rename_i id n1 off len hxx;rw [hxx] at hx;split at h
 case h_2=>exact h.elim
 rename_i b hH;obtain ⟨l,hl,hbr,_⟩:=hok.live id _ hH;have hq:=zlh hbr h;clear h;obtain ⟨t1,n2,rows,mk,lim,h,hw,hlim⟩:=hq;have hx2:=zab h;clear h;obtain ⟨hee,⟨g1,g2⟩,h⟩:=hx2;simp only [zy1] at hee;have he1:=zy0 hee.1;have he2:=zy0 hee.2;subst he1 he2;simp only [zad] at hx;obtain ⟨l',ad,hl',k1,k2,hxv,k5⟩:=hx;rw [hl] at hl';cases hl';have hroom:=hw.room;refine ⟨_,h,?_⟩;by_cases hl0:len=0
 . subst hl0
   have zbq:(Builtin.clear_ #[t] ty #[ρ x]).run P w=.ok (.tuple #[]) w:=by
    rw [hxv];cases ad<;>simp [Builtin.clear_,run_underlying hu]
   refine ⟨_,_,m,.inl (zcr .clear #[x] #[t] _ (fun _=>rfl) zz36),?_,?_⟩
   . simp only [zbe,List.replicate_zero,zff,hw.set,<- hH,zfg];exact .refl hok
   . simp only [zad,zae];exact ⟨#[],rfl,rfl⟩
 . have hp:=zli (w:=w) (R:=RR Γ m H w) hone len
   obtain ⟨hn,hc,hf,hws⟩:=zfa hok hH hl hw hlim (ys:=List.replicate len (de.zero.map PV.v)) (fun r hr=>by rw [zy48 hr,zy6,hzs]) hp g1 (by rw [zy74];exact g2) (fun h=>hl0 (by simpa using congrArg List.length h));have ha:ad=some ⟨l.blk,off*de.size,none⟩:=(k5 (.inl zz0)).trans zz33;subst ha;have hst:=run_storeCells_cells (P:=P) l.blk (off*de.size) _ 0 w (by simpa using hc) (by simpa using hf) hp.one;simp only [zy51] at hst;have hzl:(Builtin.zeroCells z.cells len).toList=(List.replicate len de.zero).flatten:=by rw [zfl,ht.zeros]
   have zbq:(Builtin.clear_ #[t] ty #[ρ x]).run P w=.ok (.tuple #[]) (w.setCells l.blk (off*de.size) (List.replicate len de.zero).flatten):=by
    rw [hxv];obtain ⟨k,rfl⟩:∃ k,len=k+1:=⟨len-1,by omega⟩
    simp [Builtin.clear_,run_underlying hu,zeroValue,typeInfo,ht.info,ht.zero,hzl,hst]
   refine ⟨_,_,m,.inl (zcr .clear #[x] #[t] _ (fun _=>rfl) zz36),hws,?_⟩;simp only [zad,zae];exact ⟨#[],rfl,rfl⟩
theorem ybp {K:Res->Prop} {C:zaj} {d:Nat} {args:Array Operand} {ats:Array TypeId} (hok:zag Γ m H w) (hxs:∀ x∈args.toList,zad m w (RR Γ m H w) (ev x) (ρ x)) (h:zaw P C (.call ⟨.builtin .cap,args,ats⟩) d ev H K) :
 ∃ r,K r/\OS Γ P m H w (execOp ρ ⟨dst,.call ⟨.builtin .cap,args,ats⟩,ty,pos,after,guard⟩) r:=by
 simp only [zaw] at h;split at h
 case h_2=>exact h.elim
 rename_i x hargs;have hargs':args=#[x]:=by rw [<- zy24 (xs:=args),hargs]
 subst hargs';split at h
 case h_2=>exact h.elim
 rename_i t hats;have hats':ats=#[t]:=by rw [<- zy24 (xs:=ats),hats]
 subst hats';have hx:=hxs x zz1;have hq:=zbm h;clear h;obtain ⟨e,de,u,i,z,hu,ht,h⟩:=hq;have he:P.elem t=e:=by simp [Program.elem,hu]
 have hu':P.underlying t=some (.slice (P.elem t)):=by rw [he];exact hu
 split at h
 case h_2=>exact h.elim
 rename_i id n1 off len hxx;rw [hxx] at hx;have hq:=zaq h;clear h;obtain ⟨b,hb,h⟩:=hq;obtain ⟨l,hl,hbr⟩:=hok.blk hb;split at h
 case h_2=>exact h.elim
 rename_i t1 n2 rows cap;obtain ⟨g,h⟩:=h;obtain ⟨b1,b2,_⟩:=hbr;simp only [zad] at hx;obtain ⟨l',ad,hl',k1,k2,hxv,k5⟩:=hx;rw [hl] at hl';cases hl';have hroom:l.room=cap:=by simp [Loc.room,b1,b2]
 have zbq:(Builtin.cap_ #[t] ty #[ρ x]).run P w=.ok (goInt ((cap-off:Nat))) w:=by rw [hxv,hroom];exact run_cap_slice w t ty ad len _ hu'
 exact ⟨_,h,.ret hok (zcr .cap #[x] #[t] _ (fun _=>rfl) (by simpa [goInt] using zbq)) (zbj _ rfl) _⟩
theorem zvg {K:Res->Prop} {C:zaj} {d:Nat} {args:Array Operand} {ats:Array TypeId} (hok:zag Γ m H w) (hxs:∀ x∈args.toList,zad m w (RR Γ m H w) (ev x) (ρ x)) (h:zaw P C (.call ⟨.builtin .append,args,ats⟩) d ev H K) :
 ∃ r,K r/\OS Γ P m H w (execOp ρ ⟨dst,.call ⟨.builtin .append,args,ats⟩,ty,pos,after,guard⟩) r:=by
 simp only [zaw] at h;split at h
 . rename_i x y hargs
   have hargs':args=#[x,y]:=by rw [<- zy24 (xs:=args),hargs]
   subst hargs';split at h
   . rename_i t t' hats
     have hats':ats=#[t,t']:=by rw [<- zy24 (xs:=ats),hats]
     subst hats';have hx:=hxs x zz1;have hy:=hxs y zz1;split at h
     case h_2=>exact zta hok hx hy h
     rename_i htt;have htt:=zy0 htt;subst htt;unfold zeu at h;obtain ⟨e,de,u,i,z,hu,ht,h⟩:=zbm h;obtain ⟨n,ys,ids,hK,hs⟩:=zgd hok hy h;clear h;have hx2:=zab hK;clear hK;obtain ⟨hc,hK⟩:=hx2;simp only [zy1] at hc;obtain ⟨⟨⟨hn,hpos⟩,hby⟩,hzs⟩:=hc;have hn:=zy0 hn;subst hn;have hpos:0<de.size:=zy9 hpos;have hby:0<de.bytes:=zy9 hby;have hzs:=zy0 hzs;have hrunx:∀ {v:Value} {w':World},(Builtin.append_ #[t,t] ty #[ρ x,ρ y]).run P w=.ok v w'->(execOp ρ ⟨dst,.call ⟨.builtin .append,#[x,y],#[t,t]⟩,ty,pos,after,guard⟩).run P w=.ok (.value v) w' :=
      fun hr=>zde .append #[x,y] #[t,t] (fun _ _=>rfl) zz37
     split at hK
     . rename_i hxx
       rw [hxx] at hx;have hxv:=zhc hx;rw [hxv] at hrunx;split at hK
       . rename_i hfree
         obtain ⟨h47,hK⟩:=hK;refine ⟨_,hK,?_⟩;have zwl:zoy w (RR Γ m H w) de.size [] (.slice none 0 0):=⟨⟨none,0,rfl,by simp,by simp [maxLen],fun h=>absurd rfl h⟩,by simp⟩
         by_cases hys:ys=[]
         . subst hys
           obtain ⟨news,hnw,hsn⟩:=hs.src hu;have hnn:news=[]:=zy2 zz35;subst hnn;rw [ht.size] at hsn;have hr:=run_append_nothing (P:=P) w t t ty e i hu ht.info none 0 0 (zy19 _) (ρ y) hsn;obtain ⟨m',hws,hm'⟩:=WS.newNil hok hfree e de.size;refine ⟨_,_,m',.inl (hrunx hr),hws,?_⟩;simp only [zad];exact ⟨_,hm',rfl⟩
         . exact zer (.refl hok) hfree hu ht hzs hby zwl hs zz16 (by simpa using h47) rfl _ hrunx
       . exact hK.elim
     . rename_i id hxx
       rw [hxx] at hx;simp only [zad] at hx;obtain ⟨l,hl,hxv⟩:=hx;split at hK
       . rename_i e' n' rows hH
         have hx2:=zab hK;clear hK;obtain ⟨hee,hK⟩:=hx2;simp only [zy1] at hee;obtain ⟨he1,he2⟩:=hee;have he1:=zy0 he1;have he2:=zy0 he2;subst he1 he2;split at hK
         . rename_i hfree
           obtain ⟨h47,hK⟩:=hK;refine ⟨_,hK,?_⟩;obtain ⟨l',hl',hbr,_⟩:=hok.live id _ hH;rw [hl] at hl';cases hl';have hsx:=zii hbr;have hdrop:=WS.drop hok hH;have hdid:d≠id:=by rintro rfl;rw [hH] at hfree;cases hfree
           have hfree':upd H id .dead d=.free:=(zai _ _ hdid).trans hfree;rw [hxv] at hrunx;have hbr':=hbr;obtain ⟨hlen,hlens,hb3⟩:=hbr;rcases hb3 with ⟨zwl,hr0⟩ | ⟨hnn,hc1,hc2,arr,harr,hsz,hcell⟩
           . subst hr0
             have hhd:hdr l=.slice none 0 0:=by simp [hdr,zwl]
             rw [hhd] at hrunx hsx;by_cases hys:ys=[]
             . subst hys
               obtain ⟨news,hnw,hsn⟩:=hs.src hu;have hnn:news=[]:=zy2 zz35;subst hnn;rw [ht.size] at hsn;have hr:=run_append_nothing (P:=P) w t t ty _ i hu ht.info none 0 0 (zy19 _) (ρ y) hsn;obtain ⟨m',hws,hm'⟩:=WS.newNil hdrop.ok hfree' e' de.size;refine ⟨_,_,m',.inl (hrunx hr),hdrop.trans hws,?_⟩;simp only [zad];exact ⟨_,hm',rfl⟩
             . exact zer hdrop hfree' hu ht hzs hby hsx hs zz16 (by simpa using h47) rfl _ hrunx
           . have hhd:hdr l=.slice (some ⟨l.blk,0,none⟩) rows.length l.cap:=by simp [hdr,hnn,hlen]
             rw [hhd] at hrunx hsx;by_cases hroom:rows.length+ys.length<=l.cap
             . obtain ⟨news,hnw,hsn⟩:=hs.src hu
               have hnl:news.length=ys.length*de.size:=by rw [hnw.length,zao hs.lens]
               have hfit:rows.length*de.size+news.length<=arr.size:=by
                rw [hnl,hsz,<- zy17];exact zy33 _ hroom
               rw [ht.size] at hsn;have hr:=run_append_room_src (P:=P) w t t ty _ i hu ht.info l.blk 0 rows.length l.cap (ρ y) ys.length news hsn hroom
                (fun j hj=>by rw [cell_of_row w l.blk _ arr _ (0,0) harr,zy44 (by rw [<- ht.size];omega)];rfl) (fun j hj=>by simp [World.frozen?,harr])
               rw [<- ht.size,zy40] at hr;obtain ⟨m',hws,hm'⟩:=WS.rename hok hH hl hnn hfree (b':=.row e' de.size (rows++ys)) (rows++ys).length (w':=w.setCells l.blk (rows.length*de.size) news)
                (zan _ _ _ _).1 (zan _ _ _ _).2.1 (zan _ _ _ _).2.2.1 (zan _ _ _ _).2.2.2 (fun k hk=>zcb _ _ _ _ _ hk) (fun m' R' hext hk=>by
                 refine ⟨rfl,fun r hr=>?_,.inr ⟨rfl,by simpa using hroom,hc2,putAt arr (rows.length*de.size) news,zca _ _ _ _ _ harr hfit,by rw [zck,hsz],fun k y hy=>?_⟩⟩
                 . rcases zy13.1 hr with hr | hr
                   . exact hlens r hr
                   . exact hs.lens r hr
                 . rw [zy39] at hy
                   have hfl:=zao hlens;rw [zbz];rcases zy52 k rows.flatten.length with hlt | hge
                   . rw [zy26 hlt] at hy
                     rw [zy14 (by omega)];obtain ⟨cv,h1,h2⟩:=hcell k y hy;exact ⟨cv,h1,h2.mono hk⟩
                   . rw [zy28 hge] at hy
                     obtain ⟨cv,h1,h2⟩:=hnw.get _ _ hy;have hklt:=(zy16.1 h1).1;refine ⟨cv,?_,h2.mono hk⟩;rw [zy12 (by omega),<- hfl];exact h1)
               refine ⟨_,_,m',.inl (hrunx hr),hws,?_⟩;simp only [zad];exact ⟨_,hm',by simp [hdr]⟩
             . exact zer hdrop hfree' hu ht hzs hby hsx hs zz0 h47 rfl _ hrunx
         . exact hK.elim
       . exact hK.elim
     . rename_i id n1 off len hxx
       rw [hxx] at hx;split at hK
       . rename_i b hH
         obtain ⟨l,hl,hbr,_⟩:=hok.live id _ hH;have hq:=zlh hbr hK;clear hK;obtain ⟨t1,n2,rows,mk,lim,hK,hw,hlim⟩:=hq;have hx2:=zab hK;clear hK;obtain ⟨hee,hg,hK⟩:=hx2;simp only [zy1] at hee;obtain ⟨⟨he1,he2⟩,he3⟩:=hee;have he1:=zy0 he1;have he2:=zy0 he2;have he3:=zy0 he3;subst he1 he2 he3;obtain ⟨hg1,hg2⟩:=hg;refine ⟨_,hK,?_⟩;exact zlm hok hH hl hw hlim hx hu ht hs hg1 hg2 hrunx _
       . exact hK.elim
     . exact hK.elim
   . exact h.elim
 . exact h.elim
theorem zxj {u:TypeDesc} {v:Value} (h:zpx (zgg (zdd u)) v=true):zpw (zgg (zdd u))=u:=by
 cases u<;>simp only [zdd] at h ⊢<;>try rfl
 all_goals first | (rename_i k;cases k<;>rfl) | (exfalso;cases v<;>simp [zgg,zpx] at h;rename_i k n;cases k<;>simp [zgg] at h)
theorem ybk {n:Nat} {v:Value} (h:zpx n v=true):MapKept.IsKey (zpw n) v:=by
 cases v<;>simp only [zpx] at h<;>try cases h
 all_goals (have h:=zy0 h;subst h)
 . trivial
 . rename_i k z;cases k<;>rfl
 . trivial
theorem zux {d:TypeDesc} {a b:Value} (ha:MapKept.IsKey d a) (hb:MapKept.IsKey d b):zsy a b=true↔a=b:=by
 cases d<;>cases a<;>cases b<;>simp_all [MapKept.IsKey,zsy,MapKept.bytes_beq]
theorem zcz.snoc {R:Nat->Prop} {agg:Bool} {xs:List (Value×List PV)} {es:List MapEntry} (h:zcz w R agg xs es) {x:Value×List PV} {e:MapEntry} (hx:zwj w R agg x e):zcz w R agg (xs++[x]) (es++[e]):=by
 induction h with
 | nil=>exact .cons hx .nil
 | cons h1 _ ih=>exact .cons h1 ih
theorem zpg {R:Nat->Prop} {agg:Bool} {d:TypeDesc} {k:Value} (hk:MapKept.IsKey d k):∀ {xs:List (Value×List PV)} {es:List MapEntry},zcz w R agg xs es->∀ (i:Nat),(∀ x∈es,MapKept.IsKey d x.key) ->
 (Instr.findNow d k es i=some none/\zpf xs k=none/\(∀ x∈es,x.key≠k)/\∀ v,yai xs k v=xs++[(k,v)]) \/
 ∃ j e cs,Instr.findNow d k es i=some (some (i+j,e.val))/\es[j]?=some e/\e.key=k/\zpf xs k=some cs/\zwj w R agg (k,cs) e /\
  ∀ v e',zwj w R agg (k,v) e'->zcz w R agg (yai xs k v) (es.set j e')
 | _,_,.nil,_,_=>.inl ⟨rfl,rfl,by simp,fun _=>rfl⟩
 | (k',cs)::xs,e::es,.cons hx hr,i,h=>by
  obtain ⟨r,hr1,hiff⟩:=MapKept.sameNow_of_keys hk (h e (.head _));have hke:e.key=k':=hx.1;have hq:zsy k k'=r:=by
   have h1:=zux hk (h e (.head _));rw [hke] at h1 hiff;cases r with
   | true=>exact h1.2 (hiff.1 rfl)
   | false=>cases hc:zsy k k' with
    | false=>rfl
    | true=>have:=hiff.2 (h1.1 hc);cases this
  cases r with
  | true =>
   have hkk:=hiff.1 rfl;refine .inr ⟨0,e,cs,by simp [Instr.findNow,hr1],rfl,hkk.symm,by simp [zpf,hq],by rw [hkk,hke];exact hx,fun v e' he'=>?_⟩;simp only [yai,hq,if_true,List.set_cons_zero];exact .cons he' hr
  | false =>
   have hne:e.key≠k:=fun q=>by have:=hiff.2 q.symm;cases this
   rcases zpg hk hr (i+1) (fun x hx=>h x (.tail _ hx)) with ⟨h1,h2,h3,h4⟩ | ⟨j,e',cs',h1,h2,h3,h4,h5,h6⟩
   . refine .inl ⟨by simp [Instr.findNow,hr1,h1],by simp [zpf,hq,h2],fun x hx=>?_,fun v=>by simp [yai,hq,h4]⟩
     cases hx with
     | head=>exact hne
     | tail _ hx=>exact h3 x hx
   . refine .inr ⟨j+1,e',cs',by simp [Instr.findNow,hr1,h1];omega,by simpa using h2,h3,by simp [zpf,hq,h4],h5,fun v e'' he=>?_⟩
     simp only [yai,hq,List.set_cons_succ];exact .cons hx (h6 v e'' he)
theorem znu {k:TypeId} {dk:TyD} {uk:TypeDesc} {ik:TypeInfo} {zk:Value} (ht:zho P k dk uk ik zk) {v:Value} (h:zpx (zgg dk.k) v=true):zpw (zgg dk.k)=uk/\MapKept.IsKey uk v:=by
 have hd:dk.k=zdd uk:=ht.kind;rw [hd] at h ⊢;have:=zxj h;exact ⟨this,this ▸ ybk h⟩
theorem zte {K:Res->Prop} {C:zaj} {d:Nat} {t:TypeId} {r:Option Operand} (hok:zag Γ m H w) (h:zaw P C (.makeMap t r) d ev H K) :
 ∃ r',K r'/\OS Γ P m H w (execOp ρ ⟨dst,.makeMap t r,ty,pos,after,guard⟩) r':=by
 simp only [zaw] at h;cases r with
 | some _=>exact h.elim
 | none =>
  obtain ⟨k,e,dk,uk,ik,zk,de,u,i,z,hu,htk,ht,h⟩:=zih h;split at h
  . rename_i hfree
    obtain ⟨m',hws,hm'⟩:=WS.newObj hok hfree (o:=.map #[] 0) (b:=.map (zgg dk.k) (zbd de.k) []) (cap:=0) (len:=0)
     (fun m' R' hext hk=>⟨rfl,#[],0,(MapKept.heap_alloc w _).1,.nil,MapKept.stamped_empty 0,by simp⟩)
    refine ⟨_,h,.map (some w.heap.size),_,m',.inl ?_,hws,?_⟩
    . simp only [execOp]
      exact zal _ (by rfl)
    . simp only [zad]
      exact ⟨_,hm',rfl,rfl⟩
  . exact h.elim
theorem zcz.split {w:World} {R:Nat->Prop} {agg:Bool}:∀ {A':List MapEntry} {e:MapEntry} {B':List MapEntry} {xs:List (Value×List PV)},zcz w R agg xs (A'++e::B') ->
 ∃ A x B,xs=A++x::B/\zcz w R agg A A'/\zwj w R agg x e/\zcz w R agg B B'
 | [],e,B',xs,h=>by cases h with | cons h1 h2=>exact ⟨[],_,_,rfl,.nil,h1,h2⟩
 | a::A',e,B',xs,h=>by
  cases h with
  | cons h1 h2 =>
   obtain ⟨A,x,B,rfl,k1,k2,k3⟩:=zcz.split h2;exact ⟨_::A,x,B,rfl,.cons h1 k1,k2,k3⟩
theorem zcz.join {w:World} {R:Nat->Prop} {agg:Bool}:∀ {A':List MapEntry} {B':List MapEntry} {A B:List (Value×List PV)},zcz w R agg A A'->zcz w R agg B B'->zcz w R agg (A++B) (A'++B')
 | [],B',A,B,h,k=>by cases h;exact k
 | a::A',B',A,B,h,k=>by cases h with | cons h1 h2=>exact .cons h1 (h2.join k)
theorem zuy {arr:Array MapEntry} {seen:Array Nat} {e:MapEntry} {A B:List MapEntry} (hn:(arr.toList.map (·.born)).Nodup) (h:(leftOf arr seen).toList=A++e::B):(leftOf arr (seen.push e.born)).toList=A++B:=by
 have h1:(leftOf arr (seen.push e.born)).toList=(leftOf arr seen).toList.filter fun x=>!(x.born==e.born):=by
  unfold leftOf;rw [Array.toList_filter,Array.toList_filter,List.filter_filter];refine List.filter_congr fun x _=>?_
  rw [contains_push];cases seen.contains x.born<;>cases x.born==e.born<;>rfl
 have hs:(leftOf arr seen).toList.Sublist arr.toList:=by unfold leftOf;rw [Array.toList_filter];exact List.filter_sublist
 have h2:((A++e::B).map (·.born)).Nodup:=by rw [<- h];exact (hs.map _).nodup hn
 rw [zy46,zy18,List.nodup_append] at h2;obtain ⟨_,h3,h4⟩:=h2;have h5:=(zy63.1 h3).1;rw [h1,h,List.filter_append,List.filter_cons_of_neg (by simp),List.filter_eq_self.2 fun x hx=>?_,List.filter_eq_self.2 fun x hx=>?_]
 . have:x.born≠e.born:=fun q=>h5 (q ▸ List.mem_map_of_mem hx)
   simpa using this
 . have:x.born≠e.born:=h4 x.born (List.mem_map_of_mem hx) e.born zz1
   simpa using this
theorem zzu {kc:Nat} {v:Value} (h:MapKept.IsKey (zpw kc) v):v.oneCell'=true:=by
 generalize zpw kc=d at h;cases d<;>cases v<;>first | rfl | exact h.elim
theorem zxw {K:Res->Prop} {C:zaj} {d:Nat} {t:TypeId} {x:Operand} (hok:zag Γ m H w) (hx:zad m w (RR Γ m H w) (ev x) (ρ x)) (h:zaw P C (.range t x) d ev H K) :
 ∃ r',K r'/\OS Γ P m H w (execOp ρ ⟨dst,.range t x,ty,pos,after,guard⟩) r':=by
 simp only [zaw] at h;obtain ⟨k,e,dk,uk,ik,zk,de,u,i,z,hu,htk,ht,h⟩:=zih h;split at h
 . rename_i id hxx
   rw [hxx] at hx;simp only [zad] at hx;obtain ⟨l,hl,hn,hv⟩:=hx;split at h
   . rename_i kc agg es hb
     split at h
     . rename_i hfree
       obtain ⟨l',hl',hbr,hlo⟩:=hok.live id _ hb;rw [hl] at hl';cases hl';obtain ⟨_,arr,clock,harr,her,hst,hks⟩:=hbr;obtain ⟨hws1,hrr⟩:=WS.kill hok hb hl hn (w':=w) rfl rfl rfl rfl (fun _ _=>rfl);have hne:d≠id:=by rintro rfl;rw [hb] at hfree;cases hfree
       obtain ⟨m',hws2,hm'⟩:=WS.newObj hws1.ok (id:=d) (by rw [zai _ _ hne];exact hfree) (o:=.mapIter (some l.blk) clock #[] clock) (b:=.iter kc agg es none) (cap:=0) (len:=0)
        (fun m' R' hext hk=>⟨rfl,l.blk,arr,clock,#[],heap_alloc_new _ _,⟨(hk _ hrr).1.trans harr,(hk _ hrr).2,hst,hks,by
         have:(leftOf arr #[]).toList=arr.toList:=by unfold leftOf;simp
         rw [this];exact (her.mono hws1.keep).mono hk,by simp⟩⟩)
       refine ⟨_,h,.pointer (some ⟨w.heap.size,0,none⟩),_,m',.inl ?_,hws1.trans hws2,?_⟩
       . simp only [execOp]
         rw [hv];exact zal _ (run_range_map w t k e l.blk arr clock hu harr)
       . simp only [zad]
         exact ⟨_,hm',rfl,rfl⟩
     . exact h.elim
   . exact h.elim
 . exact h.elim
theorem yae {K:Res->Prop} {C:zaj} {d:Nat} {x:Operand} {str:Bool} (hok:zag Γ m H w) (hx:zad m w (RR Γ m H w) (ev x) (ρ x)) (h:zaw P C (.next x str) d ev H K) :
 ∃ r',K r'/\OS Γ P m H w (execOp ρ ⟨dst,.next x str,ty,pos,after,guard⟩) r':=by
 simp only [zaw] at h;split at h
 . exact h.elim
 split at h
 . rename_i id hxx
   rw [hxx] at hx;simp only [zad] at hx;obtain ⟨l,hl,hn,hv⟩:=hx;split at h
   . rename_i kc agg left cur hb
     obtain ⟨l',hl',hbr,hlo⟩:=hok.live id _ hb;rw [hl] at hl';cases hl';obtain ⟨_,bm,arr,clock,seen,hit,hI⟩:=hbr;have hst:=hI.stamped;rcases run_next_at (P:=P) w ty l.blk bm clock clock seen arr clock hit hI.map hst.1 (zy19 _) with ⟨h0,zbq⟩ | ⟨e,he,w1,hw1,zbq⟩
     . have hl0:left=[]:=by
        have:=hI.left;rw [Array.eq_empty_of_size_eq_zero h0] at this;cases this;rfl
       refine ⟨_,h.1 hl0,.ret hok (v:=.tuple #[.bool false]) ?_ ?_ _⟩
       . simp only [execOp]
         rw [hv];exact zal _ zbq
       . simp only [zad,zae]
         exact ⟨_,rfl,.bool false,[],rfl,.v _ rfl,rfl⟩
     . obtain ⟨A',B',hAB⟩:=List.append_of_mem he
       have hleft:=hI.left;rw [hAB] at hleft;obtain ⟨A,y,B,rfl,hA,hy,hB⟩:=zcz.split hleft;have hw0:WS Γ H m w H m w1:=by
        rcases hw1 with rfl | rfl
        . exact .refl hok
        . exact .drew hok
       have hheap:w1.heap=w.heap:=by rcases hw1 with rfl | rfl<;>rfl
       have hother:∀ k,k≠l.blk->(ChangeMaps.setBlock w1 l.blk (.mapIter (some bm) clock (seen.push e.born) clock)).heap[k]?=w1.heap[k]?:=fun k hk=>by
        show (w1.heap.setIfInBounds _ _)[k]?=_;rw [Array.getElem?_setIfInBounds_ne (fun q=>hk q.symm)]
       have hself:(ChangeMaps.setBlock w1 l.blk (.mapIter (some bm) clock (seen.push e.born) clock)).heap[l.blk]?=some (.mapIter (some bm) clock (seen.push e.born) clock):=by
        show (w1.heap.setIfInBounds _ _)[l.blk]?=_;rw [Array.getElem?_setIfInBounds_self_of_lt];rw [hheap];exact (zy20.1 hit).1
       have hws:WS Γ H m w1 (upd H id (.live (.iter kc agg (A++B) (some y)))) m (ChangeMaps.setBlock w1 l.blk (.mapIter (some bm) clock (seen.push e.born) clock)):=by
        refine WS.set hw0.ok hb hl hn (by show (w1.heap.setIfInBounds _ _).size=_;simp) rfl rfl rfl hother fun R' hR=>?_
        have hk:∀ b,RR Γ m H w b->(ChangeMaps.setBlock w1 l.blk (.mapIter (some bm) clock (seen.push e.born) clock)).heap[b]?=w.heap[b]?/\R' b:=fun b hb=>by
         have h1:=hw0.keep b hb;have h2:=hR b h1.2;exact ⟨h2.1.trans h1.1,h2.2⟩
        refine ⟨hn,bm,arr,clock,seen.push e.born,hself,⟨(hk _ hI.ok).1.trans hI.map,(hk _ hI.ok).2,hst,hI.keys,?_,fun z hz=>?_⟩⟩
        . rw [zuy hst.2.1 hAB]
          exact (hA.join hB).mono hk
        . cases hz
          exact ⟨e,(mem_left he).1,⟨seen,rfl⟩,hy.mono hk⟩
       refine ⟨_,h.2 A y B rfl,.tuple #[.bool true,e.key,e.val],_,m,.inl ?_,hw0.trans hws,?_⟩
       . simp only [execOp]
         rw [hv];exact zal _ zbq
       . simp only [zad,zae]
         exact ⟨_,rfl,.bool true,[e.key,e.val],rfl,.v _ rfl,e.key,[e.val],rfl,trivial,e.val,[],rfl,trivial,rfl⟩
   . exact h.elim
 . exact h.elim
theorem zxt {K:Res->Prop} {C:zaj} {d:Nat} {x:Operand} (hok:zag Γ m H w) (hx:zad m w (RR Γ m H w) (ev x) (ρ x)) (h:zaw P C (.entry x) d ev H K) :
 ∃ r',K r'/\OS Γ P m H w (execOp ρ ⟨dst,.entry x,ty,pos,after,guard⟩) r':=by
 simp only [zaw] at h;split at h
 . rename_i id hxx
   rw [hxx] at hx;simp only [zad] at hx;obtain ⟨l,hl,hn,hv⟩:=hx;obtain ⟨b,hb,h⟩:=zaq h;obtain ⟨l',hl',hbr⟩:=hok.blk hb;rw [hl] at hl';cases hl';split at h
   . rename_i kc agg left cur
     obtain ⟨k,v,rfl,hc,h⟩:=h;obtain ⟨_,bm,arr,clock,seen,hit,hI⟩:=hbr;obtain ⟨e,he,⟨s0,rfl⟩,hk,hone,hp⟩:=hI.cur _ hc;have hst:=hI.stamped;refine ⟨_,h,.ret hok (v:=.tuple #[e.key,e.val]) ?_ ?_ _⟩
     . simp only [execOp]
       rw [hv];exact zal _ (run_entry_at (P:=P) w l.blk bm clock s0 arr clock e hit hI.map he hst.2.1)
     . have hk:e.key=k:=hk
       have h1:=zzu (hI.keys e he);rw [hk] at h1;cases hp with
       | cons h2 h3 =>
        simp only [zad,zae];exact ⟨_,rfl,e.key,[e.val],rfl,by rw [hk];exact .v k h1,e.val,[],rfl,h2,rfl⟩
   . exact h.elim
 . exact h.elim
theorem zyc {e:TypeId} {de:TyD} {u:TypeDesc} {i:TypeInfo} {z:Value} (ht:zho P e de u i z) {arr:Array Value} {off:Nat} {us:List Value}
 (hus:(zbd de.k=true/\us.length=de.size)\/(zbd de.k=false/\us.length=1)) (huc:∀ (k:Nat) v,us[k]?=some v->arr.toList[off+k]?=some v) :
 (part e arr off).run P w=.ok (if zbd de.k then .agg us.toArray else us.headD undef) w:=by
 unfold part;rw [Sem.run_bind,ht.isAgg w,Result.andThen_ok];rcases hus with ⟨ha,hl⟩ | ⟨ha,hl⟩
 . rw [ha]
   simp only [if_true];have hsz:(sizeOf e).run P w=.ok de.size w:=by simp [sizeOf,typeInfo,ht.info,ht.size]
   simp only [Sem.run_bind,hsz,Result.andThen_ok,Sem.run_pure];congr 2;apply Array.ext';apply zy54;intro k;simp only [Array.toList_extract,List.extract_eq_take_drop,Nat.add_sub_cancel_left];rw [zy23];by_cases hk:k<de.size
   . rw [zy12 hk,zy29]
     have h1:=huc k (us[k]'zz0) (zy15 zz0);rw [h1,zy15 (by omega)]
   . rw [zy14 hk,zy36 (by omega)]
 . rw [ha]
   simp only [zy41,if_false]
   match us,hl with
   | [c],_ =>
    have h1:=huc 0 c rfl;simp only [zy51,zy62] at h1;simp [h1]
theorem zkz {R:Nat->Prop} {td:TyD} {cs:List PV} {K:HV->Prop} {vs:List Value} (hr:zbo w R cs vs) (h:zdl td cs 0 K) :
 ∃ x,K x/\(zbd td.k=true->td.size<=vs.length)/\(∀ v,(if zbd td.k then (∃ us,v=.agg (us:List Value).toArray/\us=vs.take td.size) else vs[0]?=some v)->zad m w R x v):=by
 unfold zdl at h;split at h
 . rename_i ha
   obtain ⟨hle,h⟩:=zab h;rw [zci,zgn] at h;have hle:=zy9 hle;refine ⟨_,h,fun _=>by rw [hr.length];omega,fun v hv=>?_⟩;rw [ha] at hv;simp only [if_true] at hv;obtain ⟨us,rfl,rfl⟩:=hv;simp only [zad];refine ⟨_,rfl,zae.of_get (by simp [hr.length]) fun k x v hx hv=>?_⟩;rw [zy5,List.drop_zero] at hx;obtain ⟨x',hx',rfl⟩:=zy4.1 hx;have hv:(vs.take td.size)[k]?=some v:=by simpa using hv
   rw [zy23] at hx' hv;by_cases hk:k<td.size
   . rw [zy12 hk] at hx' hv
     obtain ⟨v',hv',hp⟩:=hr.get _ _ hx';rw [hv'] at hv;cases hv;simp only [zad];exact hp
   . rw [zy14 hk] at hx';cases hx'
 . rename_i ha
   have hfin:∀ y,nth cs 0=some y->∀ v,vs[0]?=some v->zcs w R y v:=by
    intro y hy v hv;rw [zcp] at hy;obtain ⟨v',hv',hp⟩:=hr.get _ _ hy;rw [hv'] at hv;cases hv;exact hp
   split at h
   . rename_i x hx
     exact ⟨_,h,by simp [ha],fun v hv=>by rw [ha] at hv;simp only [zad];exact hfin _ hx v zz21⟩
   . rename_i n r hx
     exact ⟨_,h,by simp [ha],fun v hv=>by rw [ha] at hv;simp only [zad];exact hfin _ hx v zz21⟩
   . exact h.elim
theorem zwz {e:TypeId} {de:TyD} {ok agg:Bool} {o:Option (List PV)} {K:Res->Prop} {id:Nat} (h:zst P e de ok agg o K id) :
 agg=zbd de.k/\match o with
  | some cs=>cs.length=de.size/\zdl de cs 0 fun v=>okK ok v true id K
  | none=>de.zero.length=de.size/\(de.zero.all (·.oneCell'))=true/\de.zagg=zbd de.k/\zdl de (zkw (lay P e) (de.zero.map .v)) 0 fun v=>okK ok v false id K:=by
 unfold zst at h;obtain ⟨h1,h⟩:=zab h;refine ⟨eq_of_beq h1,?_⟩;cases o with
 | some cs =>
  obtain ⟨h2,h⟩:=zab h;exact ⟨zy0 h2,h⟩
 | none =>
  obtain ⟨h2,h⟩:=zab h;simp only [zy1] at h2;exact ⟨zy0 h2.1.1,h2.1.2,eq_of_beq h2.2,h⟩
theorem zvi {K:Res->Prop} {C:zaj} {d:Nat} {t:TypeId} {x i:Operand} {ok:Bool} (hok:zag Γ m H w) (hx:zad m w (RR Γ m H w) (ev x) (ρ x)) (hi:zad m w (RR Γ m H w) (ev i) (ρ i)) (h:zaw P C (.lookup t x i ok) d ev H K) :
 ∃ r,K r/\OS Γ P m H w (execOp ρ ⟨dst,.lookup t x i ok,ty,pos,after,guard⟩) r:=by
 simp only [zaw] at h;obtain ⟨k,e,dk,uk,ik,zk,de,u,inf,z,hu,htk,ht,h⟩:=zih h;split at h
 . rename_i kv hii
   rw [hii] at hi;have hiv:ρ i=kv:=by simp only [zad] at hi;cases hi;rfl
   obtain ⟨hki,h⟩:=zab h;obtain ⟨hkd,hkey⟩:=znu htk hki;split at h
   . rename_i id hxx
     rw [hxx] at hx;simp only [zad] at hx;obtain ⟨l,hl,hn,hv⟩:=hx;obtain ⟨b,hb,h⟩:=zaq h;obtain ⟨l',hl',hbr⟩:=hok.blk hb;rw [hl] at hl';cases hl';split at h
     . rename_i kc agg es
       have hx2:=zab h;clear h;obtain ⟨hkc,o,ho,h⟩:=hx2;have hkc:=zy0 hkc;subst hkc;obtain ⟨_,arr,clock,harr,her,hst,hks⟩:=hbr;rw [hkd] at hks;obtain ⟨hag,h⟩:=zwz h;have hget:=MapKept.run_getObj_map (P:=P) harr;have hck:=fun em=>MapKept.run_checkKey (P:=P) (w:=w) htk.und hkey em 9999
       have fin:∀ (v:Value) (bb:Bool) (y:HV),(Instr.lookup t (ρ x) (ρ i) ok).run P w=.ok (if ok then .tuple #[v,.bool bb] else v) w->zad m w (RR Γ m H w) y v ->
        okK ok y bb id K->∃ r,K r/\OS Γ P m H w (execOp ρ ⟨dst,.lookup t x i ok,ty,pos,after,guard⟩) r:=by
        intro v bb y zbq hy hk;cases ok with
        | true =>
         refine ⟨_,hk,.ret hok (v:=.tuple #[v,.bool bb]) ?_ ?_ _⟩
         . simp only [execOp];exact zal _ zbq
         . simp only [zad]
           refine ⟨_,rfl,?_⟩;simp only [zae];exact ⟨v,[.bool bb],rfl,hy,.bool bb,[],rfl,zbj _ rfl,rfl⟩
        | false =>
         refine ⟨_,hk,.ret hok (v:=v) ?_ hy _⟩;simp only [execOp];exact zal _ zbq
       rcases zpg hkey her 0 (fun x hx=>hks x hx) with ⟨h1,h2,_,_⟩ | ⟨j,en,cs,h1,h2,h3,h4,h5,_⟩
       . rw [h2] at ho
         subst ho;obtain ⟨hz1,hz2,hz3,h⟩:=h;rw [ht.zagg] at hz3;have hzp:zbo w (RR Γ m H w) (zkw (lay P e) (de.zero.map .v)) z.cells.toList:=by
          refine zbo.norm _ ?_;rw [<- ht.zeros];exact zka fun v hv=>zy31.1 hz2 v hv
         obtain ⟨y,hk,hlen,hrep⟩:=zkz (m:=m) hzp h;refine fin z false y ?_ (hrep z ?_) hk
         . rw [hv,hiv]
           simp [Instr.lookup,run_underlying hu,hget,hck,MapKept.run_findKey htk.und h1,zeroValue,typeInfo,ht.info,ht.zero,Result.andThen]
         . rw [ht.zeros] at hz1
           cases hza:zbd de.k with
           | true =>
            rw [hza] at hz3;simp only [if_true];cases z with
            | agg arr =>
             refine ⟨arr.toList,by simp,?_⟩;rw [zy27 (by simp [Value.cells] at hz1 ⊢;omega)]
             rfl
            | _=>simp [zrr] at hz3
           | false =>
            rw [hza] at hz3;simp only [zy41,if_false];cases z<;>first | rfl | simp [zrr] at hz3
       . rw [h4] at ho
         subst ho;obtain ⟨hcl,h⟩:=h;have hvs:∃ vs,zbo w (RR Γ m H w) cs vs/\(if zbd de.k then (∃ us,en.val=.agg (us:List Value).toArray/\us=vs.take de.size) else vs[0]?=some en.val):=by
          obtain ⟨_,h5⟩:=h5;rw [<- hag];cases agg with
          | true =>
           obtain ⟨arr',h6,h7⟩:=h5;refine ⟨arr'.toList,h7,?_⟩;simp only [if_true];exact ⟨arr'.toList,by simp [h6],by rw [zy27 (by have:=h7.length;dsimp only at this;omega)]⟩
          | false=>exact ⟨[en.val],h5.2,by simp⟩
         obtain ⟨vs,hp,hval⟩:=hvs;obtain ⟨y,hk,hlen,hrep⟩:=zkz (m:=m) hp h;refine fin en.val true y ?_ (hrep _ hval) hk;rw [hv,hiv];simp [Instr.lookup,run_underlying hu,hget,hck,MapKept.run_findKey htk.und h1,Result.andThen]
     . exact h.elim
   . exact h.elim
 . exact h.elim
theorem zxv {K:Res->Prop} {C:zaj} {d:Nat} {t:TypeId} {x i:Operand} (hok:zag Γ m H w) (hx:zad m w (RR Γ m H w) (ev x) (ρ x)) (hi:zad m w (RR Γ m H w) (ev i) (ρ i)) (h:zaw P C (.index t x i) d ev H K) :
 ∃ r,K r/\OS Γ P m H w (execOp ρ ⟨dst,.index t x i,ty,pos,after,guard⟩) r:=by
 simp only [zaw] at h;obtain ⟨n,e,de,u,inf,z,hu,ht,h⟩:=zqo h;split at h
 . rename_i l hxx
   rw [hxx] at hx;split at h
   . rename_i k i' hii
     rw [hii] at hi;have hiv:=zba hi;obtain ⟨j,rfl,hj,h⟩:=h;simp only [zad] at hx;obtain ⟨arr,hv,hrl⟩:=hx;obtain ⟨y,us,hk,hus,huc,hrep⟩:=zgi hrl h;have hsz:∀ W:World,(sizeOf e).run P W=.ok de.size W:=fun W=>by simp [sizeOf,typeInfo,ht.info,ht.size]
     have hpart:=zyc (w:=w) ht (arr:=arr) hus huc;refine ⟨_,hk,.ret hok ?_ hrep _⟩;simp only [execOp,hv,hiv];refine zal _ ?_;simp only [Instr.index,asIntOf,Sem.run_bind,Sem.run_pure,Result.andThen_ok,run_underlying hu];rw [zy12 ⟨by omega,by omega⟩];simp only [Sem.run_bind,hsz,Result.andThen_ok,zy64];exact hpart
   . exact h.elim
 . exact h.elim
theorem zof {K:Res->Prop} {t:TypeId} {x i y:Operand} (hok:zag Γ m H w) (hx:zad m w (RR Γ m H w) (ev x) (ρ x)) (hi:zad m w (RR Γ m H w) (ev i) (ρ i)) (hy:zad m w (RR Γ m H w) (ev y) (ρ y))
 (h:zdp P t (ev x) (ev i) (ev y) H K):∃ r,K r/\∀ {xo:Sem Next},(xo=(do Instr.mapUpdate t (ρ x) (ρ i) (ρ y);pure Next.skip:Sem Next))->OS Γ P m H w xo r:=by
 unfold zdp at h;obtain ⟨k,e,dk,uk,ik,zk,de,u,inf,z,hu,htk,ht,h⟩:=zih h;split at h
 . rename_i kv hii
   rw [hii] at hi;have hiv:ρ i=kv:=by simp only [zad] at hi;cases hi;rfl
   obtain ⟨hki,h⟩:=zab h;obtain ⟨hkd,hkey⟩:=znu htk hki;split at h
   . rename_i id hxx
     rw [hxx] at hx;simp only [zad] at hx;obtain ⟨l,hl,hn,hv⟩:=hx;split at h
     . rename_i kc agg es hH
       obtain ⟨hb,h⟩:=zab h;simp only [zy1] at hb;obtain ⟨⟨h1,hag⟩,hkc⟩:=hb;have hag:agg=zrq (ev y):=eq_of_beq hag;have hkc:=zy0 hkc;subst hkc;obtain ⟨l',hl',hbr,_⟩:=hok.live id _ hH;rw [hl] at hl';cases hl';obtain ⟨_,arr,clock,harr,her,hst,hks⟩:=hbr;have hks':=hks;rw [hkd] at hks';obtain ⟨vs,us,h,hfz,hprep⟩:=zpp hok (hy.cells h1) h;have hx2:=zab h;clear h;obtain ⟨hb,es',hes,h⟩:=hx2;simp only [zy1] at hb;have hlen:=zy0 hb.1;have hus:us=[]:=by simpa using hb.2
       subst hus;have hcl:(ρ y).cells.size=de.size:=by have:=hprep.length;simp at this;omega
       have her':∀ born,zwj w (RR Γ m H w) agg (kv,vs) ⟨kv,ρ y,born⟩:=by
        intro born;refine ⟨rfl,?_⟩;simp only [zbe] at hprep;rw [hag];cases hyy:ev y<;>rw [hyy] at hy h1
        case agg l2 =>
         simp only [zad] at hy;obtain ⟨arr2,hv2,_⟩:=hy;simp only [zrq];exact ⟨arr2,hv2,by rw [hv2] at hprep;exact hprep⟩
        all_goals (
         simp only [zrq];have hone:=hy.one h1;rw [zhr hone] at hprep;exact ⟨hone,hprep⟩)
       have hrunG:∀ (j:Option (Nat×Value)),(Instr.findKey k kv arr.toList).run P w=.ok j w->(∀ i v,j=some (i,v)->∃ e,arr[i]?=some e/\e.key=kv) ->
        (Instr.mapUpdate t (.map (some l.blk)) kv (ρ y)).run P w=(setObj l.blk (match j with
         | some (i,_)=>.map (arr.modify i fun e=>{e with key:=kv,val:=ρ y}) clock
         | none=>.map (arr.push {key:=kv,val:=ρ y,born:=clock}) (clock+1))).run P w:=by
        intro j hj hjk;simp only [Instr.mapUpdate,Sem.run_bind,run_underlying hu,Result.andThen_ok,MapKept.run_getObj_map harr,MapKept.run_checkKey htk.und hkey,hj];cases j with
        | none=>rfl
        | some q =>
         obtain ⟨i,v⟩:=q;obtain ⟨e1,he1,he2⟩:=hjk i v rfl;simp [he1,he2,MapKept.run_keyThatStays hkey,Result.andThen]
       have fin:∀ (o':Obj),(Instr.mapUpdate t (.map (some l.blk)) kv (ρ y)).run P w=(setObj l.blk o').run P w ->
        (∀ (w':World) (R':Nat->Prop),w'.heap[l.blk]?=some o'->(∀ b,RR Γ m H w b->w'.heap[b]?=w.heap[b]?/\R' b)->zfj m w' R' l (.map (zgg dk.k) agg es')) ->
        ∃ r,K r/\∀ {xo:Sem Next},(xo=(do Instr.mapUpdate t (ρ x) (ρ i) (ρ y);pure Next.skip:Sem Next))->OS Γ P m H w xo r:=by
        intro o' zbq hbr';refine ⟨_,h,fun {xo} hxo=>⟨undef,{w with heap:=w.heap.setIfInBounds l.blk o'},m,.inr ⟨?_,rfl⟩,WS.set hok hH hl hn ?_ rfl rfl rfl ?_ ?_,by simp only [zad]⟩⟩
        . rw [hxo,hv,hiv,Sem.run_bind,zbq,MapKept.run_setObj_map _ harr];rfl
        . simp
        . exact fun k hk=>(MapKept.heap_set harr).2 k hk
        . exact fun R' hk=>hbr' _ R' (MapKept.heap_set harr).1 hk
       rcases zpg hkey her 0 (fun x hx=>hks' x hx) with ⟨a1,a2,a3,a4⟩ | ⟨j,en,cs,a1,a2,a3,a4,a5,a6⟩
       . refine fin _ (hrunG none (MapKept.run_findKey htk.und a1) zz1) fun w' R' hw' hk=>?_
         rw [hes,a4];refine ⟨hn,_,_,hw',?_,MapKept.stamped_push hst a3,?_⟩
         . rw [Array.toList_push]
           exact ((her.mono hk).snoc ((her' clock).mono hk))
         . intro x hx
           simp only [Array.toList_push,zy13,zy49] at hx;rcases hx with hx | rfl
           . exact hks x hx
           . rw [hkd];exact hkey
       . have hj:arr[j]?=some en:=by simpa using a2
         rw [zy40] at a1;refine fin _ (hrunG (some (j,en.val)) (MapKept.run_findKey htk.und a1) (by intro i v hiv;cases hiv;exact ⟨en,hj,a3⟩)) fun w' R' hw' hk=>?_
         have hkey':∀ e',arr[j]?=some e'->({e' with key:=kv,val:=ρ y}:MapEntry).key=e'.key:=fun e' he'=>by rw [hj] at he';cases he';exact a3.symm
         refine ⟨hn,_,_,hw',?_,MapKept.stamped_modify hst _ _ (fun _ _=>rfl) (fun e' _ he'=>hkey' e' he'),MapKept.isKey_modify hks _ _ hkey'⟩;have:=(a6 vs {en with key:=kv,val:=ρ y} (her' en.born)).mono hk;rw [hes];have hl2:(arr.modify j fun e=>{e with key:=kv,val:=ρ y}).toList=arr.toList.set j {en with key:=kv,val:=ρ y}:=by
          apply zy54;intro q;simp only [zy62,zy73,zy88];by_cases hq:j=q
          . subst hq
            have:j<arr.size:=(zy20.1 hj).1;rw [zy12 rfl,zy12 rfl,zy12 (by simpa using this),hj];rfl
          . rw [zy14 hq,zy14 hq]
         rw [hl2];exact this
     . exact h.elim
   . exact h.elim
 . exact h.elim
end
end Go.HL
namespace Go.HL
section
variable {α:Type} {K:Res->Prop} {P:Program} {H:Nat->zaa}
theorem zac {r0:Res}:K r0->∃ r,K r/\r0=r:=fun h=>⟨r0,h,rfl⟩
theorem zar {c:Prop} {A:Prop} {B:Res->Prop} (h:A->∃ r,K r/\B r):zfq c A->∃ r,K r/\zfq c (B r):=fun ⟨hc,ha⟩=>let ⟨r,h1,h2⟩:=h ha;⟨r,h1,hc,h2⟩
theorem zew {k:IntKind} {z:Int} {A:Int->Prop} {B:Int->Res->Prop} (h:∀ y,A y->∃ r,K r/\B y r):zgf k z A->∃ r,K r/\zgf k z (fun y=>B y r) :=
 fun ⟨y,hy,ha⟩=>let ⟨r,h1,h2⟩:=h y ha;⟨r,h1,y,hy,h2⟩
theorem zma {rows:List (List PV)} {i:Int} {A:List PV->Prop} {B:List PV->Res->Prop} (h:∀ y,A y->∃ r,K r/\B y r):zdq rows i A->∃ r,K r/\zdq rows i (fun y=>B y r) :=
 fun ⟨y,h0,hy,ha⟩=>let ⟨r,h1,h2⟩:=h y ha;⟨r,h1,y,h0,hy,h2⟩
theorem zsp {rows:List (List PV)} {A:List UInt8->Prop} {B:List UInt8->Res->Prop} (h:∀ y,A y->∃ r,K r/\B y r):zrd rows A->∃ r,K r/\zrd rows (fun y=>B y r) :=
 fun ⟨y,hy,ha⟩=>let ⟨r,h1,h2⟩:=h y ha;⟨r,h1,y,hy,h2⟩
theorem zig {rows:List (List PV)} {o n:Nat} {A:List (List PV)->Prop} {B:List (List PV)->Res->Prop} (h:∀ y,A y->∃ r,K r/\B y r):zkb rows o n A->∃ r,K r/\zkb rows o n (fun y=>B y r) :=
 fun ⟨y,h0,hy,ha⟩=>let ⟨r,h1,h2⟩:=h y ha;⟨r,h1,y,h0,hy,h2⟩
theorem zak {b:Bool} {A:Prop} {B:Res->Prop} (h:A->∃ r,K r/\B r):(bif b then A else False)->∃ r,K r/\(bif b then B r else False):=by
 cases b
 . exact fun h=>h.elim
 . exact h
theorem zbc {t:TypeId} {A:TyD->Prop} {B:TyD->Res->Prop} (h:∀ y,A y->∃ r,K r/\B y r):tyK P t A->∃ r,K r/\tyK P t (fun y=>B y r):=by
 unfold tyK;cases ybu P t
 . exact False.elim
 . exact h _
theorem zbf {t:TypeId} {A:TypeId->TyD->Prop} {B:TypeId->TyD->Res->Prop} (h:∀ e y,A e y->∃ r,K r/\B e y r):zcg P t A->∃ r,K r/\zcg P t (fun e y=>B e y r):=by
 unfold zcg;refine zbc fun d=>?_
 cases d.k<;>first | exact False.elim | exact zbc (h _)
theorem zun {t:TypeId} {A:Prop} {B:Res->Prop} (h:A->∃ r,K r/\B r):zum P t A->∃ r,K r/\zum P t (B r):=by
 unfold zum;cases (P.info? t).map (·.size) with
 | none=>exact False.elim
 | some n=>cases n with
  | zero=>exact False.elim
  | succ n=>exact h
theorem zco {x:HV} {A:HV->Prop} {B:HV->Res->Prop} (h:∀ y,A y->∃ r,K r/\B y r):force x A->∃ r,K r/\force x (fun y=>B y r):=by
 rw [force_eq];intro ha;obtain ⟨r,h1,h2⟩:=h x ha;exact ⟨r,h1,by rw [force_eq];exact h2⟩
theorem zfd {x:List HV} {A:List HV->Prop} {B:List HV->Res->Prop} (h:∀ y,A y->∃ r,K r/\B y r):zbw x A->∃ r,K r/\zbw x (fun y=>B y r):=by
 rw [zcn];intro ha;obtain ⟨r,h1,h2⟩:=h x ha;exact ⟨r,h1,by rw [zcn];exact h2⟩
theorem zfo {x:List PV} {A:List PV->Prop} {B:List PV->Res->Prop} (h:∀ y,A y->∃ r,K r/\B y r):zeh x A->∃ r,K r/\zeh x (fun y=>B y r):=by
 rw [zci];intro ha;obtain ⟨r,h1,h2⟩:=h x ha;exact ⟨r,h1,by rw [zci];exact h2⟩
theorem zty {ev:Operand->HV} {x:List Operand} {A:List HV->Prop} {B:List HV->Res->Prop} (h:∀ y,A y->∃ r,K r/\B y r):evL ev x A->∃ r,K r/\evL ev x (fun y=>B y r):=by
 rw [zhu];intro ha;obtain ⟨r,h1,h2⟩:=h _ ha;exact ⟨r,h1,by rw [zhu];exact h2⟩
theorem zav {s:zaa} {A:zdf->Prop} {B:zdf->Res->Prop} (h:∀ y,A y->∃ r,K r/\B y r):zau s A->∃ r,K r/\zau s (fun y=>B y r):=by
 unfold zau;cases s<;>first | exact False.elim | exact h _
theorem zrh {s:zaa} {id:Nat} {b:zdf} {x:HV}:zzq s id b x K->∃ r,K r/\zzq s id b x (·=r):=by
 unfold zzq;cases s<;>first | exact False.elim | exact zac
theorem zhj {d:TyD} {cs:List HV} {o:Nat} {A:HV->Prop} {B:HV->Res->Prop} (h:∀ y,A y->∃ r,K r/\B y r):zfk d cs o A->∃ r,K r/\zfk d cs o (fun y=>B y r):=by
 unfold zfk;cases zbd d.k
 . simp only
   cases nth cs o
   . exact False.elim
   . exact zco h
 . exact zak (zfd fun y=>h _)
theorem zfe {d:TyD} {cs:List PV} {o:Nat} {A:HV->Prop} {B:HV->Res->Prop} (h:∀ y,A y->∃ r,K r/\B y r):zdl d cs o A->∃ r,K r/\zdl d cs o (fun y=>B y r):=by
 unfold zdl;cases zbd d.k
 . simp only
   cases nth cs o with
   | none=>exact False.elim
   | some x=>cases x<;>exact h _
 . exact zak (zfo fun y=>h _)
theorem zzr {x:HV} {A:PV->List (Nat×zaa)->Prop} {B:PV->List (Nat×zaa)->Res->Prop} (h:∀ y u,A y u->∃ r,K r/\B y u r):hpv H x A->∃ r,K r/\hpv H x (fun y u=>B y u r):=by
 unfold hpv;cases x<;>simp only<;>first | exact False.elim | exact h _ _ | skip
 rename_i id;cases H id with
 | live b=>cases b<;>first | exact False.elim | exact h _ _
 | ro b=>cases b<;>first | exact False.elim | exact h _ _
 | _=>exact False.elim
theorem zrj:∀ {xs:List HV} {A:List PV->List (Nat×zaa)->Prop} {B:List PV->List (Nat×zaa)->Res->Prop},(∀ y u,A y u->∃ r,K r/\B y u r)->zpo H xs A->∃ r,K r/\zpo H xs (fun y u=>B y u r)
 | [],A,B,h=>h _ _
 | x::xs,A,B,h=>by simp only [zpo];exact zzr fun y u=>zrj fun ys us=>h _ _
theorem zev {n:Nat} {x:HV} {A:Nat->List (List PV)->List Nat->Prop} {B:Nat->List (List PV)->List Nat->Res->Prop} (h:∀ n y u,A n y u->∃ r,K r/\B n y u r):zdw H n x A->∃ r,K r/\zdw H n x (fun n y u=>B n y u r):=by
 unfold zdw;split
 . exact h _ _ _
 . exact h _ _ _
 . refine zav fun b=>?_
   cases b<;>first | exact False.elim | exact h _ _ _
 . refine zav fun b=>?_
   cases b<;>first | exact False.elim | exact zak (zig fun y=>h _ _ _)
 . exact False.elim
theorem zfi {b:zdf} {A:TypeId->Nat->List (List PV)->(List (List PV)->zdf)->Nat->Prop} {B:TypeId->Nat->List (List PV)->(List (List PV)->zdf)->Nat->Res->Prop} (h:∀ t n r k l,A t n r k l->∃ r',K r'/\B t n r k l r'):zyl b A->∃ r,K r/\zyl b (fun t n r' k l=>B t n r' k l r):=by
 cases b<;>first | exact False.elim | exact h _ _ _ _ _
theorem zxd {id n off len sz:Nat} {lo hi:Option HV}:zxc H id n off len sz lo hi K->∃ r,K r/\zxc H id n off len sz lo hi (·=r):=by
 unfold zxc;refine zav fun b=>zfi fun t n r k l=>zak ?_
 split
 . split<;>first | exact zar zac | exact False.elim
 . split<;>first | exact zar zac | exact False.elim
 . exact False.elim
theorem zps {x:HV} {sz:Nat} {l hh mx:Int}:zei x H sz l hh mx K->∃ r,K r/\zei x H sz l hh mx (·=r):=by
 unfold zei;split
 . exact zar (zak (zig fun y=>zac))
 . refine zav fun b=>?_
   cases b<;>first | exact False.elim | exact zar zac
 . exact zav fun b=>zfi fun t n r k l=>zar zac
 . exact False.elim
theorem zng {t:TypeId} {x:HV} {z:Int} {d:Nat}:zcw P t x z d H K->∃ r,K r/\zcw P t x z d H (·=r):=by
 unfold zcw;refine zbf fun e de=>zak ?_
 split
 . refine zav fun b=>?_
   cases b<;>try exact False.elim
   refine zak (zar ?_);cases H d<;>first | exact False.elim | exact zac
 . exact False.elim
theorem zxe {n most:Nat} {x:HV} {A:Nat->List (List PV)->List Nat->Prop} {B:Nat->List (List PV)->List Nat->Res->Prop} (h:∀ n y u,A n y u->∃ r,K r/\B n y u r):ztp H n x most A->∃ r,K r/\ztp H n x most (fun n y u=>B n y u r):=by
 unfold ztp;split
 . exact zav fun b=>zfi fun t n r k l=>zak (zig fun y=>h _ _ _)
 . exact zev fun n y u=>h _ _ _
theorem zuc {t:TypeId} {x y:HV}:znj P t x y H K->∃ r,K r/\znj P t x y H (·=r):=by
 unfold znj;refine zbf fun e de=>?_
 split
 . rename_i id n off len
   cases H id<;>first | exact False.elim | exact zfi fun t n r k l=>zxe fun n y u=>zak (zar zac)
 . exact False.elim
theorem zsr {t:TypeId} {x:HV}:zhv P t x H K->∃ r,K r/\zhv P t x H (·=r):=by
 unfold zhv;refine zbf fun e de=>zak ?_
 split
 . rename_i id n off len
   cases H id<;>first | exact False.elim | exact zfi fun t n r k l=>zak (zar zac)
 . exact False.elim
theorem zif {n:Nat} {i:Int} {A:Nat->Prop} {B:Nat->Res->Prop} (h:∀ j,A j->∃ r,K r/\B j r):yas n i A->∃ r,K r/\yas n i (fun j=>B j r) :=
 fun ⟨j,h1,h2,h3⟩=>let ⟨r,h4,h5⟩:=h j h3;⟨r,h4,j,h1,h2,h5⟩
theorem zue {es:List (Value×List PV)} {k:Value} {A:Option (List PV)->Prop} {B:Option (List PV)->Res->Prop} (h:∀ j,A j->∃ r,K r/\B j r):zgv es k A->∃ r,K r/\zgv es k (fun j=>B j r) :=
 fun ⟨j,h1,h3⟩=>let ⟨r,h4,h5⟩:=h j h3;⟨r,h4,j,h1,h5⟩
theorem zxa {es:List (Value×List PV)} {k:Value} {v:List PV} {A:List (Value×List PV)->Prop} {B:List (Value×List PV)->Res->Prop} (h:∀ j,A j->∃ r,K r/\B j r):ycj es k v A->∃ r,K r/\ycj es k v (fun j=>B j r) :=
 fun ⟨j,h1,h3⟩=>let ⟨r,h4,h5⟩:=h j h3;⟨r,h4,j,h1,h5⟩
theorem zgh {t:TypeId} {A:TyD->TypeId->TyD->Prop} {B:TyD->TypeId->TyD->Res->Prop} (h:∀ a b c,A a b c->∃ r,K r/\B a b c r):zmf P t A->∃ r,K r/\zmf P t (fun a b c=>B a b c r):=by
 unfold zmf;refine zbc fun d=>?_
 split
 . exact zbc fun dk=>zbc fun de=>h _ _ _
 . exact False.elim
theorem zmx {t:TypeId} {A:Nat->TyD->Prop} {B:Nat->TyD->Res->Prop} (h:∀ a b,A a b->∃ r,K r/\B a b r):zpb P t A->∃ r,K r/\zpb P t (fun a b=>B a b r):=by
 unfold zpb;refine zbc fun d=>?_
 split
 . exact zbc fun de=>h _ _
 . exact False.elim
theorem zvf {ok b:Bool} {v:HV} {id:Nat}:okK ok v b id K->∃ r,K r/\okK ok v b id (·=r):=by
 cases ok<;>exact zac
theorem zuh {e:TypeId} {de:TyD} {ok agg:Bool} {o:Option (List PV)} {id:Nat}:zst P e de ok agg o K id->∃ r,K r/\zst P e de ok agg o (·=r) id:=by
 unfold zst;refine zak ?_;cases o with
 | some cs=>exact zak (zfe fun v=>zvf)
 | none=>exact zak (zfe fun v=>zvf)
theorem zit:∀ {xs ys:List HV} {A:Bool->Prop} {B:Bool->Res->Prop},(∀ y,A y->∃ r,K r/\B y r)->zis xs ys A->∃ r,K r/\zis xs ys (fun y=>B y r)
 | [],[],A,B,h=>h _
 | [],y::ys,A,B,h=>False.elim
 | x::xs,[],A,B,h=>False.elim
 | x::xs,y::ys,A,B,h=>by
  simp only [zis];split
  . split
    . exact zak (zit fun z=>h _)
    . exact False.elim
  . split
    . exact zit fun z=>h _
    . exact False.elim
  . exact False.elim
theorem zhh {fs:List (Nat×Nat)}:∀ {ps:List (Nat×HV)} {cs:List HV} {A:List HV->Prop} {B:List HV->Res->Prop},(∀ y,A y->∃ r,K r/\B y r)->zhy P fs ps cs A->∃ r,K r/\zhy P fs ps cs (fun y=>B y r)
 | [],cs,A,B,h=>h _
 | (i,x)::ps,cs,A,B,h=>by
  simp only [zhy];cases nth fs i with
  | none=>exact False.elim
  | some q=>exact zak (zhh h)
theorem zlz {os:List (Option Nat)} {xs:List HV} {A:List PV->List (Nat×zaa)->Prop} {B:List PV->List (Nat×zaa)->Res->Prop} (h:∀ y u,A y u->∃ r,K r/\B y u r):zyt H os xs A->∃ r,K r/\zyt H os xs (fun y u=>B y u r) :=
 zrj fun _ u=>zfo fun z=>h z u
theorem zok {os:List (Option Nat)} {n:Nat}:∀ {xs:List HV} {A:List (List PV)->List (Nat×zaa)->Prop} {B:List (List PV)->List (Nat×zaa)->Res->Prop},(∀ y u,A y u->∃ r,K r/\B y u r)->zkg H os n xs A->∃ r,K r/\zkg H os n xs (fun y u=>B y u r)
 | [],A,B,h=>h _ _
 | x::xs,A,B,h=>by
  simp only [zkg];exact zak (zlz fun y u=>zak (zok fun ys us=>h _ _))
theorem zno {x:HV} {sz n:Nat} {l h:Int}:zjf x H sz K n l h->∃ r,K r/\zjf x H sz (·=r) n l h:=by
 unfold zjf;refine zar ?_;split
 . exact zak (zig fun y=>zac)
 . rename_i id
   cases H id with
   | live b=>cases b<;>first | exact False.elim | exact zak zac
   | ro b=>cases b<;>first | exact False.elim | exact zak zac
   | _=>exact False.elim
 . exact False.elim
theorem zsu {t:TypeId} {s:ByteArray} {lo hi:Option HV}:zkn P t s lo hi K->∃ r,K r/\zkn P t s lo hi (·=r):=by
 unfold zkn;refine zbc fun td=>?_
 exact yy35
theorem zsw {x:HV} {sz:Nat} {lo hi:Option HV}:zge x H sz lo hi K->∃ r,K r/\zge x H sz lo hi (·=r):=by
 unfold zge;refine zev fun n rows u=>?_
 split
 . split<;>first | exact zno | exact False.elim
 . split<;>first | exact zno | exact False.elim
 . exact False.elim
theorem zpj {t:TypeId} {x y:HV} {d:Nat}:zeu P t x y d H K->∃ r,K r/\zeu P t x y d H (·=r):=by
 unfold zeu;refine zbf fun e de=>zev fun n ys u=>zak ?_
 split
 . cases H d<;>first | exact False.elim | exact zar zac
 . rename_i id
   cases H id with
   | live b=>cases b with
    | cells=>exact False.elim
    | map=>exact False.elim
    | iter=>exact False.elim
    | row=>refine zak ?_;cases H d<;>first | exact False.elim | exact zar zac
    | buf=>exact False.elim
   | _=>exact False.elim
 . rename_i id n off len
   cases H id<;>first | exact False.elim | exact zfi fun t n r k l=>zak (zar zac)
 . exact False.elim
theorem zww {t:TypeId} {op:BinOp} {x y:HV}:yar P false t op x y K->∃ r,K r/\yar P false t op x y (·=r):=by
 unfold yar;split
 . split
   . split<;>first | exact False.elim | exact zar zac | exact zar (zew fun y=>zac) | exact zak (zew fun y=>zac) | exact zak (zar (zew fun y=>zac)) | exact zak (zar zac) | exact zak zac
   . exact False.elim
 . split
   . refine zbc fun td=>?_
     split
     . split<;>first | exact False.elim | exact zac
     . exact False.elim
   . exact False.elim
 . split
   . split<;>first | exact False.elim | exact zac | exact zar zac
   . exact False.elim
 . split
   . refine zar ?_
     split<;>first | exact False.elim | exact zit fun y=>zac
   . exact False.elim
 . split
   . refine zbf fun e de=>?_
     split<;>exact False.elim
   . exact False.elim
 . split
   . refine zbf fun e de=>?_
     split<;>first | exact False.elim | exact zac
   . exact False.elim
 . exact False.elim
theorem znk {t:TypeId} {x i:HV}:zcx P t x i H K->∃ r,K r/\zcx P t x i H (·=r):=by
 unfold zcx;refine zbf fun e de=>?_
 split
 . split
   . exact zak (zma fun r=>zac)
   . refine zav fun b=>?_
     cases b<;>first | exact False.elim | exact zak (zar zac) | exact zak (zif fun j=>zac)
   . exact zak (zar zac)
   . exact False.elim
 . exact False.elim
theorem zjd {t:TypeId} {x i y:HV}:zdp P t x i y H K->∃ r,K r/\zdp P t x i y H (·=r):=by
 unfold zdp;refine zgh fun a b c=>?_
 split
 . refine zak ?_
   split
   . rename_i id
     cases H id with
     | live b=>cases b with
      | map=>exact zak (zlz fun vs us=>zak (zxa fun es=>zac))
      | _=>exact False.elim
     | _=>exact False.elim
   . exact False.elim
 . exact False.elim
theorem zrc {C:zaj} {op:Op} {d:Nat} {ev:Operand->HV} (hd:zkc op=true) :
 zaw P C op d ev H K->∃ r,K r/\zaw P C op d ev H (·=r):=by
 cases op<;>simp only [zaw]<;>try exact False.elim
 case move x=>exact zco fun v=>zac
 case assign x=>exact zco fun v=>zac
 case pick c a b =>
  split
  . rename_i b _
    cases b<;>simp only [hif]
    . exact zco fun v=>zac
    . exact zco fun v=>zac
  . exact False.elim
 case alloc t=>exact zbc fun td=>zak zrh
 case box t x=>exact zco fun v=>zak zrh
 case build t ps =>
  refine zbc fun td=>?_
  split
  . exact zak (zhh fun l=>zfd fun l=>zak zac)
  . exact zbc fun de=>zak (zhh fun l=>zfd fun l=>zak zac)
  . exact False.elim
 case buildSlice t n ps =>
  refine zbf fun e de=>zak (zok fun rows us=>?_)
  cases H d<;>first | exact False.elim | exact zac
 case load t a =>
  refine zbc fun td=>?_
  split
  . refine zav fun b=>?_
    cases b<;>first | exact False.elim | exact zhj fun v=>zac
  . exact zfe fun v=>zac
  . refine zav fun b=>?_
    cases b<;>first | exact False.elim | exact zak (zma fun r=>zfe fun v=>zac)
  . exact False.elim
 case store t a x =>
  refine zbc fun td=>?_
  split
  . rename_i id off _
    cases H id with
    | live b=>cases b with
     | cells=>exact zco fun v=>zak (zfd fun cs=>zac)
     | row=>exact False.elim
     | map=>exact False.elim
     | iter=>exact False.elim
     | buf=>exact False.elim
    | _=>exact False.elim
  . rename_i id n i off _
    cases H id with
    | live b=>cases b with
     | cells=>exact False.elim
     | map=>exact False.elim
     | iter=>exact False.elim
     | buf=>exact False.elim
     | row=>exact zak (zlz fun vs us=>zma fun r=>zak (zfo fun r'=>zac))
    | _=>exact False.elim
  . exact False.elim
 case nilCheck x =>
  split<;>first | exact False.elim | exact zac
 case binOp b t x y yt =>
  have hcs:zlr y=false:=by simpa [zkc] using hd
  rw [hcs];cases zpv (ev x) with
  | some id=>exact False.elim
  | none=>exact zww
 case unOp o t x =>
  split
  . split<;>first | exact False.elim | exact zac
  . split
    . exact zew fun y=>zac
    . exact False.elim
  . exact False.elim
 case convert src dt x =>
  refine zbc fun ts=>zbc fun td=>?_
  split
  . split
    . exact zew fun y=>zac
    . exact False.elim
  . split
    . refine zbc fun de=>?_
      split
      . split
        . exact zar zac
        . exact False.elim
      . exact False.elim
    . exact False.elim
  . split
    . split
      . refine zbc fun de=>?_
        split
        . exact zev fun n rows u=>zak (zsp fun bs=>zac)
        . exact False.elim
      . exact False.elim
    . refine zak (zbc fun de=>?_)
      exact yy35
    . exact False.elim
 case makeFunc fn first caps =>
  split
  . exact zak (zty fun l=>zac)
  . exact False.elim
 case makeSlice t l c =>
  refine zbf fun e de=>zak ?_
  split
  . split
    . refine zar ?_
      cases H d<;>try exact False.elim
      dsimp only;split
      . split
        . exact zif fun j=>zac
        . exact False.elim
      . exact zac
    . exact False.elim
  . exact False.elim
 case slice t x lo hi mx =>
  cases mx
  . cases isStr (ev x) with
    | some s=>exact zsu
    | none =>
     refine zbf fun e de=>?_
     split
     . exact zxd
     . exact zsw
  . refine zbf fun e de=>?_
    split
    . split
      . split
        . exact zps
        . exact False.elim
      . exact False.elim
    . exact False.elim
 case fieldAddr t x f =>
  refine zbc fun td=>?_
  split
  . split
    . refine zun ?_
      split<;>first | exact False.elim | exact zac
    . exact False.elim
  . exact False.elim
 case field t x f =>
  refine zbc fun td=>?_
  split
  . split
    . split
      . exact zbc fun tdf=>zhj fun y=>zac
      . exact False.elim
    . exact False.elim
  . exact False.elim
 case indexAddr t x i =>
  split
  . refine zmx fun n de=>?_
    split
    . exact zif fun j=>zac
    . exact False.elim
  . exact znk
 case index t x i =>
  refine zmx fun n de=>?_
  split
  . split
    . exact zif fun j=>zhj fun v=>zac
    . exact False.elim
  . exact False.elim
 case makeMap t r =>
  cases r
  . refine zgh fun a b c=>?_
    cases H d<;>first | exact False.elim | exact zac
  . exact False.elim
 case lookup t x i ok =>
  refine zgh fun a b c=>?_
  split
  . refine zak ?_
    split
    . refine zav fun b=>?_
      cases b<;>first | exact False.elim | exact zak (zue fun o=>zuh)
    . exact False.elim
  . exact False.elim
 case range t x =>
  refine zgh fun a b c=>?_
  split
  . rename_i id _
    cases H id with
    | live b=>cases b with
     | map=>cases H d<;>first | exact False.elim | exact zac
     | _=>exact False.elim
    | _=>exact False.elim
  . exact False.elim
 case next x s=>cases hd
 case entry x =>
  split
  . refine zav fun b=>?_
    cases b with
    | iter=>exact fun ⟨k,v,h1,h2,h3⟩=>⟨_,h3,k,v,h1,h2,rfl⟩
    | _=>exact False.elim
  . exact False.elim
 case mapUpdate t x i y=>exact zjd
 case insert t x i y=>exact zjd
 case extract t i =>
  split
  . split
    . exact zco fun v=>zac
    . exact False.elim
  . exact False.elim
 case call c =>
  split
  . split
    . split
      . refine zbc fun td=>?_
        split
        . split<;>first | exact False.elim | exact zac
        . split
          . exact zac
          . refine zav fun b=>?_
            cases b<;>first | exact False.elim | exact zac
          . exact zev fun n rows u=>zac
        . exact False.elim
      . exact False.elim
    . exact False.elim
  . split
    . split
      . split<;>first | exact False.elim | exact zac
      . exact False.elim
    . exact False.elim
  . split
    . split
      . split<;>first | exact False.elim | exact zac
      . exact False.elim
    . exact False.elim
  . split
    . split
      . split
        . exact zpj
        . refine zbc fun td=>?_
          split
          . split
            . exact zng
            . exact False.elim
          . exact False.elim
      . exact False.elim
    . exact False.elim
  . split
    . split
      . exact zuc
      . exact False.elim
    . exact False.elim
  . split
    . split
      . exact zsr
      . exact False.elim
    . exact False.elim
  . split
    . split
      . refine zbf fun e de=>?_
        split
        . refine zav fun b=>?_
          cases b<;>first | exact False.elim | exact zar zac
        . exact False.elim
      . exact False.elim
    . exact False.elim
  . split
    . exact zty fun l=>fun ⟨r,h1,h2⟩=>⟨r,h2,r,h1,rfl⟩
    . exact False.elim
  . exact False.elim
end
end Go.HL
namespace Go.HL
section
variable {P:Program} {H H':Nat->zaa}
theorem zko:∀ {l:List HV} {x:HV} {id:Nat},x∈l->id∈zax x->id∈zdb l
 | y::l,x,id,hx,hi=>by
  simp only [zdb,zy13];rcases zy3.1 hx with rfl | hx
  . exact .inl hi
  . exact .inr (zko hx hi)
theorem zmd (a b:List HV):zdb (a++b)=zdb a++zdb b:=by
 induction a with
 | nil=>simp [zdb]
 | cons x a ih=>simp [zdb,ih]
theorem zhi {x y:HV} (h:y∈zbs x) {id:Nat} (hi:id∈zax y):id∈zax x:=by
 cases x<;>simp only [zbs,zy49] at h<;>first | (subst h;exact hi) | (simp only [zax];exact zko h hi)
theorem zky {ev:Operand->HV}:∀ {l:List Operand} {x:Operand} {id:Nat},x∈l->id∈zax (ev x)->id∈zob ev l
 | y::l,x,id,hx,hi=>by
  simp only [zob,zy13];rcases zy3.1 hx with rfl | hx
  . exact .inl hi
  . exact .inr (zky hx hi)
theorem zuk {x:HV} (h:∀ id∈zax x,H' id=H id) (K:PV->List (Nat×zaa)->Prop):hpv H' x K=hpv H x K:=by
 unfold hpv;cases x<;>try rfl
 rename_i id;simp only [h id zz23]
theorem zkm:∀ {xs:List HV} (_:∀ x∈xs,∀ id∈zax x,H' id=H id) (K:List PV->List (Nat×zaa)->Prop),zpo H' xs K=zpo H xs K
 | [],_,K=>rfl
 | x::xs,h,K=>by
  simp only [zpo];rw [zuk (h x (by simp))];congr 1;funext v u;rw [zkm fun y hy=>h y (by simp [hy])]
theorem zda {n:Nat} {x:HV} (h:∀ id∈zax x,H' id=H id) (K:Nat->List (List PV)->List Nat->Prop):zdw H' n x K=zdw H n x K:=by
 unfold zdw;exact yy32
theorem zsv {id:Nat} (h:H' id=H id) (n off len sz:Nat) (lo hi:Option HV) (K:Res->Prop):zxc H' id n off len sz lo hi K=zxc H id n off len sz lo hi K:=by
 unfold zxc;rw [h]
theorem zmc {x:HV} (h:∀ id∈zax x,H' id=H id) (sz:Nat) (l hh mx:Int) (K:Res->Prop):zei x H' sz l hh mx K=zei x H sz l hh mx K:=by
 unfold zei;exact yy32
theorem zsx {n most:Nat} {x:HV} (h:∀ id∈zax x,H' id=H id) (K:Nat->List (List PV)->List Nat->Prop):ztp H' n x most K=ztp H n x most K:=by
 unfold ztp;split
 . rename_i id _ _ _;rw [h id (by simp [zax])]
 . exact zda h _
theorem zpl {t:TypeId} {x y:HV} (hx:∀ id∈zax x,H' id=H id) (hy:∀ id∈zax y,H' id=H id) (K:Res->Prop):znj P t x y H' K=znj P t x y H K:=by
 unfold znj;congr 1;funext e de;split
 . rename_i id _ _ _
   simp only [hx id zz23,zsx hy]
 . rfl
theorem zni {t:TypeId} {x:HV} (hx:∀ id∈zax x,H' id=H id) (K:Res->Prop):zhv P t x H' K=zhv P t x H K:=by
 unfold zhv;congr 1;funext e de;congr 1;split
 . rename_i id _ _ _
   simp only [hx id zz23]
 . rfl
theorem zkd {t:TypeId} {x:HV} {z:Int} {d:Nat} (hx:∀ id∈zax x,H' id=H id) (hd:H' d=H d) (K:Res->Prop):zcw P t x z d H' K=zcw P t x z d H K:=by
 unfold zcw;congr 1;funext e de;congr 1;split
 . rename_i id _ _ _
   simp only [hx id zz23,hd]
 . rfl
theorem zgx {os:List (Option Nat)} {xs:List HV} (h:∀ x∈xs,∀ id∈zax x,H' id=H id) (K:List PV->List (Nat×zaa)->Prop):zyt H' os xs K=zyt H os xs K:=zkm h _
theorem zjv {os:List (Option Nat)} {n:Nat}:∀ {xs:List HV} (_:∀ x∈xs,∀ id∈zax x,H' id=H id) (K:List (List PV)->List (Nat×zaa)->Prop),zkg H' os n xs K=zkg H os n xs K
 | [],_,K=>rfl
 | x::xs,h,K=>by
  simp only [zkg];rw [zgx fun y hy id hi=>h x (by simp) id (zhi hy hi)];congr 2;funext r u;rw [zjv fun y hy=>h y (by simp [hy])]
theorem zpr {x:HV} (h:∀ id∈zax x,H' id=H id) (sz:Nat) (K:Res->Prop) (n:Nat) (l hh:Int):zjf x H' sz K n l hh=zjf x H sz K n l hh:=by
 unfold zjf;congr 1;split
 . rfl
 . rename_i id;simp only [h id zz23]
 . rfl
theorem znp {x:HV} (h:∀ id∈zax x,H' id=H id) (sz:Nat) (lo hi:Option HV) (K:Res->Prop):zge x H' sz lo hi K=zge x H sz lo hi K:=by
 unfold zge;rw [zda h];simp only [zpr h]
theorem zlw {t:TypeId} {x y:HV} {d:Nat} (hx:∀ id∈zax x,H' id=H id) (hy:∀ id∈zax y,H' id=H id) (hd:H' d=H d) (K:Res->Prop):zeu P t x y d H' K=zeu P t x y d H K:=by
 unfold zeu;congr 1;funext e de;rw [zda hy];congr 1;funext n ys u;congr 1;split
 . simp only [hd]
 . rename_i id
   simp only [hx id zz23,hd]
 . rename_i id _ _ _
   simp only [hx id zz23]
 . rfl
theorem zke {t:TypeId} {x i:HV} (hx:∀ id∈zax x,H' id=H id) (K:Res->Prop):zcx P t x i H' K=zcx P t x i H K:=by
 unfold zcx;congr 1;funext e de;split
 . split
   . rfl
   . rename_i id
     rw [hx id (by simp [zax])]
   . rfl
   . rfl
 . rfl
theorem zgc {t:TypeId} {x i y:HV} (hx:∀ id∈zax x,H' id=H id) (hy:∀ id∈zax y,H' id=H id) (K:Res->Prop):zdp P t x i y H' K=zdp P t x i y H K:=by
 unfold zdp;congr 1;funext a b c;split
 . congr 1
   split
   . rename_i id
     rw [hx id (by simp [zax])];simp only [zgx fun z hz id hi=>hy id (zhi hz hi)]
   . rfl
 . rfl
def zcm (C:zaj):Prop:=∀ f args H H' d r,C f args H d r->(∀ id∈zdb args,H' id=H id)->H' d=H d->(∀ id∈r.tch++r.ups.map (·.1),H' id=H id)->C f args H' d r
theorem zso {C:zaj} (hC:zcm C) {op:Op} {d:Nat} {ev ev':Operand->HV} {r:Res} (h:zaw P C op d ev H (·=r)) (hev:∀ x∈op.operands.toList,ev' x=ev x)
 (hH:∀ id∈zhf op ev d++(r.tch++r.ups.map (·.1)),H' id=H id):zaw P C op d ev' H' (·=r):=by
 have hd:looks op=true->H' d=H d:=fun hlk=>hH d (by simp [zhf,hlk])
 have hids:looks op=true->∀ x∈op.operands.toList,∀ id∈zax (ev x),H' id=H id:=fun hlk x hx id hi=>hH id (by simp only [zhf,hlk,zy21,zy3,zy13];exact .inr (.inl (zky hx hi)))
 have key:∀ {A B:Prop},A->B=A->B:=fun a e=>e ▸ a
 cases op<;>simp only [Op.operands,Array.toList_empty] at hev hids<;>try exact False.elim h
 all_goals try (replace hd:=hd rfl;replace hids:=hids rfl)
 case move x=>refine key h ?_;simp only [zaw];rw [hev x (by simp)]
 case assign x=>refine key h ?_;simp only [zaw];rw [hev x (by simp)]
 case pick c a b=>refine key h ?_;simp only [zaw];rw [hev c (by simp),hev a (by simp),hev b (by simp)]
 case alloc t=>refine key h ?_;simp only [zaw,hd]
 case box t x=>refine key h ?_;simp only [zaw,hd];rw [hev x (by simp)]
 case build t ps =>
  refine key h ?_;simp only [zaw];have:(ps.toList.map fun x=>(x.1,ev' x.2))=(ps.toList.map fun x=>(x.1,ev x.2)):=zy80 fun x hx=>by rw [hev x.2 (by simpa using ⟨x.1,by simpa using hx⟩)]
  rw [this]
 case buildSlice t n ps =>
  refine key h ?_;simp only [zaw,hd];have:(ps.toList.map fun x=>ev' x.2)=(ps.toList.map fun x=>ev x.2):=zy80 fun x hx=>by rw [hev x.2 (by simpa using ⟨x.1,by simpa using hx⟩)]
  rw [this];congr 1;funext e de;rw [zjv fun y hy id hi=>?_];obtain ⟨x,hx,rfl⟩:=zy8.1 hy;exact hids x.2 (by simpa using ⟨x.1,by simpa using hx⟩) id hi
 case load t a =>
  refine key h ?_;simp only [zaw];rw [hev a (by simp)];congr 1;funext td;have hi:=hids a zz1;cases hx:ev a<;>rw [hx] at hi<;>simp only
  . rename_i id off;rw [hi id (by simp [zax])]
  . rename_i id n i off;rw [hi id (by simp [zax])]
 case store t a x =>
  refine key h ?_;simp only [zaw];rw [hev a (by simp),hev x (by simp)];congr 1;funext td;have hi:=hids a zz1;have hi2:=hids x zz1;cases hx:ev a<;>rw [hx] at hi<;>simp only
  . rename_i id off;rw [hi id (by simp [zax])]
  . rename_i id n i off
    rw [hi id (by simp [zax])];simp only [zgx fun y hy id hi'=>hi2 id (zhi hy hi')]
 case nilCheck x=>refine key h ?_;simp only [zaw];rw [hev x (by simp)]
 case binOp b t x y yt =>
  refine key h ?_;simp only [zaw];rw [hev x (by simp),hev y (by simp)];have hi:=hids x zz1;cases hq:zpv (ev x) with
  | none=>rfl
  | some id =>
   have he:ev x=.own id:=by
    unfold zpv at hq;split at hq
    . rename_i i hx;cases hq;exact hx
    . cases hq
   simp only [zly,hi id (by rw [he];simp [zax])]
 case unOp o t x=>refine key h ?_;simp only [zaw];rw [hev x (by simp)]
 case convert src dt x =>
  refine key h ?_;simp only [zaw];rw [hev x (by simp)];have hi:=hids x zz1;congr 1;funext ts;congr 1;funext td;split
  . rfl
  . rfl
  . simp only [zda hi]
    cases hxx:ev x with
    | own id =>
     have e:=hi id (by rw [hxx];simp [zax]);simp only [e]
    | _=>rfl
 case makeFunc fn first caps =>
  refine key h ?_;simp only [zaw];congr 1;funext f;rw [zhu,zhu];have:caps.toList.map ev'=caps.toList.map ev:=zy80 fun x hx=>hev x (by simp;exact .inr (by simpa using hx))
  rw [this]
 case makeSlice t l c=>refine key h ?_;simp only [zaw,hd];rw [hev l (by simp),hev c (by simp)]
 case slice t x lo hi mx =>
  refine key h ?_;simp only [zaw];rw [hev x (by simp)];have hlo:lo.map ev'=lo.map ev:=by cases lo<;>simp only [Option.map_none,zy30,Option.some.injEq];exact hev _ zz1
  have hhi:hi.map ev'=hi.map ev:=by cases hi<;>simp only [Option.map_none,zy30,Option.some.injEq];exact hev _ zz1
  rw [hlo,hhi];have hi':=hids x zz1;cases mx with
  | none =>
   simp only;cases isStr (ev x) with
   | some s=>rfl
   | none =>
   simp only;congr 1;funext e de;cases hxx:ev x<;>rw [hxx] at hi'<;>simp only [znp hi']
   rename_i id n off len;exact zsv (hi' id zz23) _ _ _ _ _ _ _
  | some m =>
   simp only;rw [hev m (by simp)];simp only [zmc hi']
 case fieldAddr t x f=>refine key h ?_;simp only [zaw];rw [hev x (by simp)]
 case field t x f=>refine key h ?_;simp only [zaw];rw [hev x (by simp)]
 case indexAddr t x i =>
  refine key h ?_;simp only [zaw];rw [hev x (by simp),hev i (by simp)];have hi:=hids x zz1;split
  . rfl
  . exact zke hi _
 case index t x i=>refine key h ?_;simp only [zaw];rw [hev x (by simp),hev i (by simp)]
 case makeMap t r=>refine key h ?_;simp only [zaw,hd]
 case lookup t x i ok =>
  refine key h ?_;simp only [zaw];rw [hev x (by simp),hev i (by simp)];have hi:=hids x zz1;congr 1;funext a b c;split
  . congr 1
    split
    . rename_i id hx
      rw [hi id (by rw [hx];simp [zax])]
    . rfl
  . rfl
 case range t x =>
  refine key h ?_;simp only [zaw];rw [hev x (by simp)];have hi:=hids x zz1;congr 1;funext a b c;split
  . rename_i id hx
    rw [hi id (by rw [hx];simp [zax]),hd]
  . rfl
 case next x str =>
  refine key h ?_;simp only [zaw];rw [hev x (by simp)];have hi:=hids x zz1;cases str with
  | true=>rfl
  | false =>
   simp only;split
   . rename_i id hx
     rw [hi id (by rw [hx];simp [zax])]
   . rfl
 case entry x =>
  refine key h ?_;simp only [zaw];rw [hev x (by simp)];have hi:=hids x zz1;split
  . rename_i id hx
    rw [hi id (by rw [hx];simp [zax])]
  . rfl
 case mapUpdate t x i y=>refine key h ?_;simp only [zaw];rw [hev x (by simp),hev i (by simp),hev y (by simp)];exact zgc (hids x zz1) (hids y zz1) _
 case insert t x i y=>refine key h ?_;simp only [zaw];rw [hev x (by simp),hev i (by simp),hev y (by simp)];exact zgc (hids x zz1) (hids y zz1) _
 case extract t i=>refine key h ?_;simp only [zaw];rw [hev t (by simp)]
 case call c =>
  obtain ⟨callee,args,ats⟩:=c;simp only [Call.operands] at hev hids;cases callee with
  | builtin b =>
   have hev2:∀ x∈args.toList,ev' x=ev x:=fun x hx=>hev x zz18
   have hids2:∀ x∈args.toList,∀ id∈zax (ev x),H' id=H id:=fun x hx=>hids x zz18
   refine key h ?_;cases b<;>simp only [zaw]
   . -- append
     cases hl:args.toList with
     | nil=>rfl
     | cons x l=>cases l with
      | nil=>rfl
      | cons y l=>cases l with
       | cons=>rfl
       | nil =>
        rw [hl] at hev2 hids2;simp only;rw [hev2 x (by simp),hev2 y (by simp)];cases ats.toList with
        | nil=>rfl
        | cons t l=>cases l with
         | nil=>rfl
         | cons t' l=>cases l with
          | cons=>rfl
          | nil=>simp only [zlw (P:=P) (hids2 x zz1) (hids2 y zz1) hd,zkd (P:=P) (hids2 x zz1) hd]
   . -- cap
     cases hl:args.toList with
     | nil=>rfl
     | cons x l=>cases l with
      | cons=>rfl
      | nil =>
       rw [hl] at hev2 hids2;simp only;rw [hev2 x (by simp)];split
       . congr 1;funext e de
         have hi:=hids2 x zz1;split
         . rename_i id _ _ _ hx
           rw [hi id (by rw [hx];simp [zax])]
         . rfl
       . rfl
   . -- clear
     cases hl:args.toList with
     | nil=>rfl
     | cons x l=>cases l with
      | cons=>rfl
      | nil =>
       rw [hl] at hev2 hids2;simp only;rw [hev2 x (by simp)];split
       . exact zni (hids2 x zz1) _
       . rfl
   . -- copy
     cases hl:args.toList with
     | nil=>rfl
     | cons x l=>cases l with
      | nil=>rfl
      | cons y l=>cases l with
       | cons=>rfl
       | nil =>
        rw [hl] at hev2 hids2;simp only;rw [hev2 x (by simp),hev2 y (by simp)];split
        . exact zpl (hids2 x zz1) (hids2 y zz1) _
        . rfl
   . -- len
     cases hl:args.toList with
     | nil=>rfl
     | cons x l=>cases l with
      | cons=>rfl
      | nil =>
       rw [hl] at hev2 hids2;simp only;rw [hev2 x (by simp)];split
       . congr 1;funext td
         split
         . rfl
         . have hi:=hids2 x zz1
           split
           . rfl
           . rename_i id hxx
             rw [hi id (by rw [hxx];simp [zax])]
           . rw [zda hi]
         . rfl
       . rfl
   . -- max
     cases hl:args.toList with
     | nil=>rfl
     | cons x l=>cases l with
      | nil=>rfl
      | cons y l=>cases l with
       | cons=>rfl
       | nil =>
        rw [hl] at hev2;simp only;rw [hev2 x (by simp),hev2 y (by simp)]
   . cases hl:args.toList with
     | nil=>rfl
     | cons x l=>cases l with
      | nil=>rfl
      | cons y l=>cases l with
       | cons=>rfl
       | nil =>
        rw [hl] at hev2;simp only;rw [hev2 x (by simp),hev2 y (by simp)]
  | invoke r mth=>exact False.elim h
  | value f =>
   simp only [zaw] at h ⊢;rw [hev f (by simp)];cases hx:ev f<;>rw [hx] at h<;>try exact False.elim h
   rename_i g caps;simp only at h ⊢;rw [zhu] at h ⊢;have hargs:args.toList.map ev'=args.toList.map ev:=zy80 fun x hx=>hev x (by simp;exact .inr (by simpa using hx))
   rw [hargs];obtain ⟨r',hc,rfl⟩:=h;refine ⟨r',hC _ _ _ _ _ _ hc (fun id hi=>?_) hd (fun id hi=>hH id (zy13.2 (.inr hi))),rfl⟩;rw [zmd,zy13] at hi;rcases hi with hi | hi
   . have:∀ l:List Operand,id∈zdb (l.map ev)->∃ x∈l,id∈zax (ev x):=by
      intro l
      induction l with
      | nil=>simp [zdb]
      | cons y l ih =>
       intro h;simp only [zy18,zdb,zy13] at h;rcases h with h | h
       . exact ⟨y,by simp,h⟩
       . obtain ⟨x,hx,h⟩:=ih h;exact ⟨x,by simp [hx],h⟩
     obtain ⟨x,hx2,h2⟩:=this _ hi;exact hids x (by simp;exact .inr (by simpa using hx2)) id h2
   . exact hids f zz1 id (by rw [hx];simpa only [zax] using hi)
end
end Go.HL
namespace Go.HL
structure zfb (Γ:Ctx) (P:Program) (m:zbt) (s:HS) (a:Act) (w:World):Prop where
 heap:zag Γ m s.heap w
 slots:∀ t,zad m w (RR Γ m s.heap w) (s.slot t) (a.tmps.getD t undef)
 size:a.tmps.size=s.n
 defers:a.defers=[]
 pin:∀ id l,pin<=id->Γ.m0 id=some l->id∈s.pins/\m id=some l
def zds (P:Program) (C:zaj):Prop:=∀ f args H d r,C f args H d r->∀ (Γ:Ctx) m w vals,zag Γ m H w->zae m w (RR Γ m H w) args vals ->
 ((callFunc f vals.toArray).run P w=.ok (.enter f vals.toArray) w /\
 Calls P f vals.toArray w fun e w'=>∃ v m',e=.returned v/\WS Γ H m w (zbe H r.ups) m' w'/\zad m' w' (RR Γ m' (zbe H r.ups) w') r.val v) \/
 ∃ v w' m',(callFunc f vals.toArray).run P w=.ok (.value v) w'/\WS Γ H m w (zbe H r.ups) m' w'/\zad m' w' (RR Γ m' (zbe H r.ups) w') r.val v
section
variable {Γ:Ctx} {P:Program} {m m':zbt} {s:HS} {a:Act} {w w':World} {C:zaj}
theorem zfb.eval (h:zfb Γ P m s a w) (x:Operand):zad m w (RR Γ m s.heap w) (evalOp s.slot x) (a.eval x):=by
 cases x with
 | tmp t=>exact h.slots t
 | const v=>exact zsk v
 | global g=>simp only [evalOp,zad]
 | func f=>simp only [evalOp,zad,Act.eval];exact ⟨#[],rfl,by simp only [zae]⟩
theorem zrb (a:Act) (d t:Nat) (v:Value) (hd:d<a.tmps.size):(a.put (some d) v).tmps.getD t undef=if t=d then v else a.tmps.getD t undef:=by
 simp only [Act.put,zy35,Array.getElem?_setIfInBounds];by_cases h:t=d
 . subst h;simp [hd]
 . rw [zy14 (fun e=>h e.symm),zy14 h]
theorem zfb.step (h:zfb Γ P m s a w) {dst:Option Nat} {r:Res} {v:Value} (hws:WS Γ s.heap m w (zbe s.heap r.ups) m' w') (hv:zad m' w' (RR Γ m' (zbe s.heap r.ups) w') r.val v) (hd:∀ d,dst=some d->d<s.n) :
 zfb Γ P m' (s.app dst r) (a.put dst v) w':=by
 cases dst with
 | none=>exact ⟨hws.ok,fun t=>hws.rep (h.slots t),h.size,h.defers,fun id l hp hl=>⟨(h.pin id l hp hl).1,hws.ext _ _ (h.pin id l hp hl).2⟩⟩
 | some d =>
  have hlt:d<a.tmps.size:=by rw [h.size];exact hd d rfl
  refine ⟨hws.ok,fun t=>?_,by simp [Act.put,HS.app,h.size],h.defers,fun id l hp hl=>⟨(h.pin id l hp hl).1,hws.ext _ _ (h.pin id l hp hl).2⟩⟩;rw [zrb a d t v hlt];by_cases ht:t=d
  . subst ht;rw [zy12 rfl];simp only [HS.app,zaf];exact hv
  . rw [zy14 ht];simp only [HS.app,zai _ _ ht];exact hws.rep (h.slots t)
theorem zfb.skip (h:zfb Γ P m s a w) {dst:Option Nat} (hd:∀ d,dst=some d->d<s.n):zfb Γ P m (s.put dst .und) (a.put dst undef) w:=by
 cases dst with
 | none=>exact h
 | some d =>
  have hlt:d<a.tmps.size:=by rw [h.size];exact hd d rfl
  refine ⟨h.heap,fun t=>?_,by simp [Act.put,HS.put,h.size],h.defers,h.pin⟩;rw [zrb a d t undef hlt];by_cases ht:t=d
  . subst ht;rw [zy12 rfl];simp only [HS.put,zaf,zad]
  . rw [zy14 ht];simp only [HS.put,zai _ _ ht];exact h.slots t
def zkq:Op->Bool
 | .call ⟨.value _,_,_⟩=>true
 | _=>false
theorem zzm {K:Res->Prop} {d:Nat} {ev:Operand->HV} {ρ:Operand->Value} {H:Nat->zaa} {o:Oper} (hok:zag Γ m H w) (hev:∀ x,zad m w (RR Γ m H w) (ev x) (ρ x)) (h:zaw P C o.op d ev H K) (hf:zkq o.op=false) :
 ∃ r,K r/\OS Γ P m H w (execOp ρ o) r:=by
 obtain ⟨dst,op,ty,pos,after,guard⟩:=o;simp only at h hf;cases op<;>try exact False.elim h
 case move x=>exact yad hok (hev x) h
 case assign x=>exact zvh hok (hev x) h
 case pick c x y=>exact yaf hok (fun z _=>hev z) h
 case alloc t=>exact zxq hok h
 case box t x=>exact ybo hok (hev x) h
 case build t ps=>exact zxr hok (fun x _=>hev x.2) h
 case buildSlice t n ps=>exact zmh hok (fun x _=>hev x.2) h
 case load t x=>exact yac hok (hev x) h
 case store t x y=>exact zxy hok (hev x) (hev y) h
 case nilCheck x=>exact zqd hok (hev x) h
 case binOp b t x y yt =>
  simp only [zaw] at h;cases hq:zpv (ev x) with
  | none=>rw [hq] at h;exact ybn hok (hev x) (hev y) h
  | some id =>
   rw [hq] at h;simp only at h;split at h
   . exact zvj hok (by rw [<- zxg hq];exact hev x) (hev y) h
   . exact h.elim
 case unOp u t x=>exact yag hok (hev x) h
 case convert src dt x=>exact ztb hok (hev x) h
 case makeFunc fn first caps=>exact zqc hok (fun x _=>hev x) h
 case makeSlice t x y=>exact zoe hok (hev x) (hev y) h
 case slice t x lo hi mx=>exact zxx hok hev h
 case fieldAddr t x f=>exact zoc hok (hev x) h
 case field t x f=>exact zxu hok (hev x) h
 case indexAddr t x i=>exact zod hok (hev x) (hev i) h
 case extract t i=>exact ztc hok (hev t) h
 case index t x i=>exact zxv hok (hev x) (hev i) h
 case makeMap t r=>exact zte hok h
 case lookup t x i b=>exact zvi hok (hev x) (hev i) h
 case range t x=>exact zxw hok (hev x) h
 case next x b=>exact yae hok (hev x) h
 case entry x=>exact zxt hok (hev x) h
 case mapUpdate t x i y=>obtain ⟨r,h1,h2⟩:=zof hok (hev x) (hev i) (hev y) h;exact ⟨r,h1,h2 (by rfl)⟩
 case insert t x i y=>obtain ⟨r,h1,h2⟩:=zof hok (hev x) (hev i) (hev y) h;exact ⟨r,h1,h2 (by rfl)⟩
 case call c =>
  obtain ⟨callee,args,ats⟩:=c;cases callee with
  | value f=>cases hf
  | invoke r mth=>exact False.elim h
  | builtin b =>
   cases b<;>try exact False.elim h
   . exact zvg hok (fun x _=>hev x) h
   . exact ybp hok (fun x _=>hev x) h
   . exact zxs hok (fun x _=>hev x) h
   . exact yab hok (fun x _=>hev x) h
   . exact ybq hok (fun x _=>hev x) h
   . exact ybr hok (fun x _=>hev x) h
   . exact ybs hok (fun x _=>hev x) h
theorem yaa (hC:zds P C) (hc:zfb Γ P m s a w) {o:Oper} {K:Res->Prop} {next:Act->World->Prop} {Q:Exit->Act->World->Prop} (h:zaw P C o.op (o.dst.getD 0) (evalOp s.slot) s.heap K)
 (hn:∀ r v m' w',K r->WS Γ s.heap m w (zbe s.heap r.ups) m' w'->zad m' w' (RR Γ m' (zbe s.heap r.ups) w') r.val v->next (a.put o.dst v) w'):o.wp P a w next Q:=by
 unfold Oper.wp;cases hf:zkq o.op with
 | false =>
  obtain ⟨r,hk,v,w',m',zbq,hws,hrep⟩:=zzm hc.heap hc.eval h hf;rcases zbq with zbq | ⟨zbq,rfl⟩
  . rw [zbq];exact hn r v m' w' hk hws hrep
  . rw [zbq];exact hn r undef m' w' hk hws hrep
 | true =>
  obtain ⟨dst,op,ty,pos,after,guard⟩:=o;simp only at hf h;cases op<;>try cases hf
  rename_i c;obtain ⟨callee,args,ats⟩:=c;cases callee with
  | invoke r mth=>cases hf
  | builtin b=>cases hf
  | value f =>
   simp only [zaw] at h;split at h
   . rename_i g caps hg
     rw [zhu] at h;obtain ⟨r,hCr,hk⟩:=h;have hfv:=hc.eval f;rw [hg] at hfv;simp only [zad] at hfv;obtain ⟨arr,hfv,hcaps⟩:=hfv;have hargs:=zae.map (ρ:=a.eval) (ev:=evalOp s.slot) args.toList fun x _=>hc.eval x
     have happ:∀ {xs ys:List HV} {vs us:List Value} {R:Nat->Prop},zae m w R xs vs->zae m w R ys us->zae m w R (xs++ys) (vs++us):=by
      intro xs
      induction xs with
      | nil=>intro ys vs us R h1 h2;simp only [zae] at h1;subst h1;exact h2
      | cons x xs ih =>
       intro ys vs us R h1 h2;simp only [zae,zy21] at h1 ⊢;obtain ⟨v,r,rfl,h3,h4⟩:=h1;exact ⟨v,r++us,rfl,h3,ih h4 h2⟩
     have hvals:(args.toList.map a.eval++arr.toList).toArray=args.map a.eval++arr:=by apply Array.ext';simp
     have hboth:=hC g _ _ _ r hCr Γ m w _ hc.heap (happ hargs hcaps);rw [hvals] at hboth;rcases hboth with ⟨hcf,hcalls⟩ | ⟨v,w',m',hcf,hws,hrep⟩
     case inr =>
      have zbq:(execOp a.eval ⟨dst,.call ⟨.value f,args,ats⟩,ty,pos,after,guard⟩).run P w=.ok (.value v) w':=by
       exact yy30
      rw [zbq];exact hn r v m' w' hk hws hrep
     have zbq:(execOp a.eval ⟨dst,.call ⟨.value f,args,ats⟩,ty,pos,after,guard⟩).run P w=.ok (.enter g (args.map a.eval++arr)) w:=by
      exact yy30
     rw [zbq];refine hcalls.mono fun e w' he=>?_
     obtain ⟨v,m',rfl,hws,hrep⟩:=he;exact hn r v m' w' hk hws hrep
   . exact h.elim
end
end Go.HL
namespace Go.HL
def zay (all:List Oper) (o:Oper) (slot:Nat->HV):Option Bool :=
 match o.guard with
 | none=>some true
 | some (j,want)=>match (nth all j).bind (·.dst) with
  | some g=>match slot g with
   | .p (.v (.bool b))=>some (b==want)
   | .und=>some false
   | _=>none
  | none=>none
def zep (P:Program) (C:zaj) (all:List Oper) (o:Oper) (l:Lab) (s s':HS):Prop :=
 (∀ d,o.dst=some d->d<s.n)/\match l with
 | some (r,ids)=>zay all o s.slot=some true/\zaw P C o.op (o.dst.getD 0) (evalOp s.slot) s.heap (·=r)/\ids=zhf o.op (evalOp s.slot) (o.dst.getD 0)/\s'=s.app o.dst r
 | none=>zay all o s.slot=some false/\s'=s.put o.dst .und
inductive Ev (P:Program) (C:zaj) (all:List Oper):List (Oper×Lab)->HS->HS->Prop where
 | nil (s:HS):Ev P C all [] s s
 | cons {o:Oper} {l:Lab} {r:List (Oper×Lab)} {s s1 s2:HS} (h:zep P C all o l s s1) (k:Ev P C all r s1 s2):Ev P C all ((o,l)::r) s s2
section
variable {Γ:Ctx} {P:Program} {C:zaj} {all:List Oper}
theorem zik (s:HS) {g:Nat} {x:HV} (h:s.slot g=x):s.put (some g) x=s:=by
 subst h;simp only [HS.put,zfg]
theorem zgw:∀ (os:List Oper) (s:HS) (acc:List Lab) (K:List Lab->HS->Prop),(∀ o∈os,zkc o.op=true)->zms P C all os s acc K ->
 ∃ labs s',labs.length=os.length/\Ev P C all (os.zip labs) s s'/\K (labs.reverse++acc) s'
 | [],s,acc,K,hd,h=>⟨[],s,rfl,.nil s,h⟩
 | ⟨dst,op,ty,pos,after,guard⟩::os,s,acc,K,hd,h=>by
  have hdo:zkc op=true:=hd ⟨dst,op,ty,pos,after,guard⟩ zz1;have hrest:∀ o∈os,zkc o.op=true:=fun o ho=>hd o (by simp [ho])
  have run:∀ (K':Res->HS->Prop),zbq P C dst op s K'->∃ r,(∀ d,dst=some d->d<s.n)/\zaw P C op (dst.getD 0) (evalOp s.slot) s.heap (·=r)/\K' r (s.app dst r):=by
   intro K' hr;unfold zbq at hr;cases dst with
   | none =>
    obtain ⟨r,h1,h2⟩:=zrc hdo hr;exact ⟨r,by simp,h2,h1⟩
   | some d =>
    obtain ⟨hlt,hr⟩:=zab hr;obtain ⟨r,h1,h2⟩:=zrc hdo hr;refine ⟨r,fun d' hd'=>?_,h2,h1⟩;cases hd';exact zy9 hlt
  have skip:∀ (K':HS->Prop),znn dst s K'->(∀ d,dst=some d->d<s.n)/\K' (s.put dst .und):=by
   intro K' hr;unfold znn at hr;cases dst with
   | none=>exact ⟨by simp,hr⟩
   | some d =>
    obtain ⟨hlt,hr⟩:=zab hr;refine ⟨fun d' hd'=>?_,hr⟩;cases hd';exact zy9 hlt
  have ran:∀ (hw:zay all ⟨dst,op,ty,pos,after,guard⟩ s.slot=some true),zbq P C dst op s (fun r s'=>zms P C all os s' (some (r,zhf op (evalOp s.slot) (dst.getD 0))::acc) K) ->
   ∃ labs s',labs.length=(⟨dst,op,ty,pos,after,guard⟩::os).length/\Ev P C all ((⟨dst,op,ty,pos,after,guard⟩::os).zip labs) s s'/\K (labs.reverse++acc) s':=by
   intro hw hr;obtain ⟨r,h1,h2,h3⟩:=run _ hr;obtain ⟨labs,s',hl,hev,hk⟩:=zgw os _ _ K hrest h3;refine ⟨some (r,zhf op (evalOp s.slot) (dst.getD 0))::labs,s',by simp [hl],.cons ⟨h1,hw,h2,rfl,rfl⟩ hev,?_⟩
   simpa using hk
  have skipped:∀ (hw:zay all ⟨dst,op,ty,pos,after,guard⟩ s.slot=some false),znn dst s (fun s'=>zms P C all os s' (none::acc) K) ->
   ∃ labs s',labs.length=(⟨dst,op,ty,pos,after,guard⟩::os).length/\Ev P C all ((⟨dst,op,ty,pos,after,guard⟩::os).zip labs) s s'/\K (labs.reverse++acc) s':=by
   intro hw hr;obtain ⟨h1,h3⟩:=skip _ hr;obtain ⟨labs,s',hl,hev,hk⟩:=zgw os _ _ K hrest h3;refine ⟨none::labs,s',by simp [hl],.cons ⟨h1,hw,rfl⟩ hev,?_⟩
   simpa using hk
  rw [znl] at h;simp only [zlx] at h;split at h
  . exact ran rfl h
  . rename_i j want
    split at h
    . rename_i g hg
      split at h
      . rename_i b hb
        have h2:=zdi h;clear h;rcases h2 with ⟨rfl,h⟩ | ⟨rfl,h⟩
        . rw [zik s hb] at h
          have h2:=zdi h;clear h;rcases h2 with ⟨rfl,h⟩ | ⟨rfl,h⟩
          . exact ran zz11 h
          . exact skipped zz11 h
        . rw [zik s hb] at h
          have h2:=zdi h;clear h;rcases h2 with ⟨rfl,h⟩ | ⟨rfl,h⟩
          . exact skipped zz11 h
          . exact ran zz11 h
      . rename_i hb
        exact skipped zz11 h
      . exact h.elim
    . exact h.elim
theorem zgr {m:zbt} {s:HS} {a:Act} {w:World} {ops:Array Oper} {o:Oper} {b:Bool} (hc:zfb Γ P m s a w) (h:zay ops.toList o s.slot=some b):Region.wanted o (yielded ops a.tmps)=b:=by
 unfold zay at h;unfold Region.wanted;cases hg:o.guard with
 | none=>rw [hg] at h;cases h;rfl
 | some jw =>
  obtain ⟨j,want⟩:=jw;rw [hg] at h;simp only at h ⊢;rw [zcp] at h;have hj:ops.toList[j]?=ops[j]?:=by simp
  rw [hj] at h;unfold yielded;cases hd:(ops[j]?).bind (·.dst) with
  | none=>rw [hd] at h;cases h
  | some g =>
   rw [hd] at h;simp only at h;have hs:=hc.slots g;rw [zy91];split at h
   . rename_i c hcg
     rw [hcg] at hs;have hv:=zcv hs;have:a.tmps[g]?=some (.bool c):=by
      rw [zy35] at hv;cases ht:a.tmps[g]? with
      | none=>rw [ht] at hv;cases hv
      | some v=>rw [ht] at hv;simp at hv;rw [hv]
     rw [this];cases h;simp only;cases c<;>cases want<;>rfl
   . rename_i hcg
     rw [hcg] at hs;simp only [zad] at hs;cases h;cases ht:a.tmps[g]? with
     | none=>simp only;rfl
     | some v =>
      have:v=undef:=by rw [zy35,ht] at hs;simpa using hs
      subst this
      rfl
   . cases h
theorem yam (hC:zds P C) {m:zbt} {s s':HS} {a:Act} {w:World} {ops:Array Oper} {o:Oper} {l:Lab} (hc:zfb Γ P m s a w) (h:zep P C ops.toList o l s s') {K:Act->World->Prop} {Q:Exit->Act->World->Prop}
 (hK:∀ m' a' w',zfb Γ P m' s' a' w'->K a' w'):if Region.wanted o (yielded ops a.tmps) then o.wp P a w K Q else K (a.put o.dst undef) w:=by
 obtain ⟨hd,h⟩:=h;cases l with
 | none =>
  obtain ⟨hw,rfl⟩:=h;rw [zgr hc hw];simp only [zy41,if_false];exact hK m _ w (hc.skip hd)
 | some ri =>
  obtain ⟨r,ids⟩:=ri;obtain ⟨hw,ha,_,rfl⟩:=h;rw [zgr hc hw];simp only [if_true];refine yaa hC hc ha fun r' v m' w' hr hws hrep=>?_
  subst hr;exact hK m' _ w' (hc.step hws hrep hd)
theorem zje (hC:zds P C) {ops:Array Oper} {Q:Exit->Act->World->Prop}:∀ (os:List Oper) (s:HS) (acc:List Lab) (K:List Lab->HS->Prop) (m:zbt) (a:Act) (w:World),zms P C ops.toList os s acc K->zfb Γ P m s a w ->
 (∀ labs s' m' a' w',K labs s'->zfb Γ P m' s' a' w'->Q .normal a' w')->wpList P ops Q os a w
 | [],s,acc,K,m,a,w,h,hc,hK=>wpList_nil (hK acc s m a w h hc)
 | ⟨dst,op,ty,pos,after,guard⟩::os,s,acc,K,m,a,w,h,hc,hK=>by
  refine wpList_step fun K' hK'=>?_
  have ran:∀ (hw:zay ops.toList ⟨dst,op,ty,pos,after,guard⟩ s.slot=some true) (L:Res->Lab),zbq P C dst op s (fun r s'=>zms P C ops.toList os s' (L r::acc) K) ->
   if Region.wanted ⟨dst,op,ty,pos,after,guard⟩ (yielded ops a.tmps) then Oper.wp P ⟨dst,op,ty,pos,after,guard⟩ a w K' Q else K' (a.put dst undef) w:=by
   intro hw L hr;rw [zgr hc hw];simp only [if_true];unfold zbq at hr;cases dst with
   | none =>
    refine yaa hC hc (o:=⟨none,op,ty,pos,after,guard⟩) hr fun r v m' w' hk hws hrep=>?_
    exact hK' _ _ (zje hC os _ _ K m' _ w' hk (hc.step hws hrep zz1) hK)
   | some d =>
    obtain ⟨hlt,hr⟩:=zab hr;refine yaa hC hc (o:=⟨some d,op,ty,pos,after,guard⟩) hr fun r v m' w' hk hws hrep=>?_
    exact hK' _ _ (zje hC os _ _ K m' _ w' hk (hc.step hws hrep (fun d' hd'=>by cases hd';exact zy9 hlt)) hK)
  have skipped:∀ (hw:zay ops.toList ⟨dst,op,ty,pos,after,guard⟩ s.slot=some false),znn dst s (fun s'=>zms P C ops.toList os s' (none::acc) K) ->
   if Region.wanted ⟨dst,op,ty,pos,after,guard⟩ (yielded ops a.tmps) then Oper.wp P ⟨dst,op,ty,pos,after,guard⟩ a w K' Q else K' (a.put dst undef) w:=by
   intro hw hr;rw [zgr hc hw];simp only [zy41,if_false];unfold znn at hr;cases dst with
   | none=>exact hK' _ _ (zje hC os _ _ K m _ w hr (hc.skip (dst:=none) zz1) hK)
   | some d =>
    obtain ⟨hlt,hr⟩:=zab hr;exact hK' _ _ (zje hC os _ _ K m _ w hr (hc.skip (dst:=some d) (fun d' hd'=>by cases hd';exact zy9 hlt)) hK)
  rw [znl] at h;simp only [zlx] at h;split at h
  . exact ran rfl _ h
  . rename_i j want
    split at h
    . rename_i g hg
      split at h
      . rename_i b hb
        have h2:=zdi h;clear h;rcases h2 with ⟨rfl,h⟩ | ⟨rfl,h⟩
        . rw [zik s hb] at h
          have h2:=zdi h;clear h;rcases h2 with ⟨rfl,h⟩ | ⟨rfl,h⟩
          . exact ran zz11 _ h
          . exact skipped zz11 h
        . rw [zik s hb] at h
          have h2:=zdi h;clear h;rcases h2 with ⟨rfl,h⟩ | ⟨rfl,h⟩
          . exact skipped zz11 h
          . exact ran zz11 _ h
      . rename_i hb
        exact skipped zz11 h
      . exact h.elim
    . exact h.elim
end
end Go.HL
namespace Go.HL
def zgz:Lab->Res
 | some (r,_)=>r
 | none=>⟨.und,[],[]⟩
section
variable {Γ:Ctx} {P:Program} {C:zaj} {all:List Oper}
theorem zgp {α:List (Nat×zaa)} {H:Nat->zaa} {id:Nat} (h:id∉α.map (·.1)):zbe H α id=H id :=
 zhm (us:=α) fun _ he hi=>h (hi ▸ List.mem_map_of_mem he)
theorem zsi {α:Type} (f:Nat->α) {i j:Nat} (x y:α) (h:i≠j):upd (upd f i x) j y=upd (upd f j y) i x:=by
 funext k
 by_cases h1:k=i
 . subst h1;rw [zaf,zai _ _ h,zaf]
 . by_cases h2:k=j
   . subst h2;rw [zaf,zai _ _ h1,zaf]
   . rw [zai _ _ h2,zai _ _ h1,zai _ _ h1,zai _ _ h2]
theorem zsh (H:Nat->zaa):∀ (α:List (Nat×zaa)) {i:Nat} (b:zaa),i∉α.map (·.1)->zbe (upd H i b) α=upd (zbe H α) i b
 | [],i,b,h=>rfl
 | (j,c)::α,i,b,h=>by
  simp only [zy18,zy3,not_or] at h;simp only [zbe];rw [zsi _ _ _ h.1,zsh _ α b h.2]
theorem zow:∀ (α β:List (Nat×zaa)) (H:Nat->zaa),(∀ i∈α.map (·.1),i∉β.map (·.1))->zbe (zbe H α) β=zbe (zbe H β) α
 | [],β,H,h=>rfl
 | (i,b)::α,β,H,h=>by
  simp only [zbe];rw [zow α β _ fun j hj=>h j (by simp at hj ⊢;exact .inr hj),zsh _ β b (h i (by simp))]
theorem zem {o:Oper} {l:Lab} {s s':HS}:zep P C all o l s s'↔(∀ d,o.dst=some d->d<s.n)/\zay all o s.slot=some l.isSome /\
 (∀ r ids,l=some (r,ids)->zaw P C o.op (o.dst.getD 0) (evalOp s.slot) s.heap (·=r)/\ids=zhf o.op (evalOp s.slot) (o.dst.getD 0))/\s'=s.app o.dst (zgz l):=by
 unfold zep;refine and_congr Iff.rfl ?_;cases l with
 | none =>
  simp only [Option.isSome_none,reduceCtorEq,false_implies,implies_true,true_and,zgz];refine and_congr Iff.rfl ?_;obtain ⟨dst,op,ty,pos,after,guard⟩:=o;cases dst<;>exact Iff.rfl
 | some ri =>
  obtain ⟨r,ids⟩:=ri;simp only [Option.isSome_some,zgz]
  constructor
  . rintro ⟨h1,h2,h3,h4⟩
    exact ⟨h1,fun r' ids' he=>by cases he;exact ⟨h2,h3⟩,h4⟩
  . rintro ⟨h1,h2,h4⟩
    exact ⟨h1,(h2 r ids rfl).1,(h2 r ids rfl).2,h4⟩
theorem zll {s:HS} {dst:Option Nat} {r:Res} {t:Nat} (h:dst≠some t):(s.app dst r).slot t=s.slot t:=by
 cases dst with
 | none=>rfl
 | some d=>exact zai _ _ fun e=>h (by rw [e])
theorem zga {s:HS} {dst:Option Nat} {r:Res}:(s.app dst r).heap=zbe s.heap r.ups:=by
 cases dst<;>rfl
theorem zsl {s:HS} {dst:Option Nat} {r:Res}:(s.app dst r).n=s.n:=by
 cases dst<;>rfl
theorem zlk {s:HS} {x y:Option Nat} {r q:Res} (h:∀ d,x=some d->y≠some d) (hu:∀ i∈r.ups.map (·.1),i∉q.ups.map (·.1)) :
 (s.app x r).app y q=(s.app y q).app x r:=by
 have hh:=zow r.ups q.ups s.heap hu;cases x with
 | none=>cases y<;>simp only [HS.app,hh]
 | some d=>cases y with
  | none=>simp only [HS.app,hh]
  | some e =>
   simp only [HS.app,hh];rw [zsi _ _ _ fun e'=>h d rfl (by rw [e'])]
theorem zid {s:HS} {dst:Option Nat} {r:Res} {x:Operand} (h:∀ d,dst=some d->x≠.tmp d):evalOp (s.app dst r).slot x=evalOp s.slot x:=by
 cases x<;>try rfl
 rename_i t;simp only [evalOp];exact zll fun e=>h t e rfl
theorem zfh {ops:Array Oper} {o:Oper} {s:HS} {dst:Option Nat} {r:Res} (h:∀ d,dst=some d->d∉o.looksAt ops):zay ops.toList o (s.app dst r).slot=zay ops.toList o s.slot:=by
 unfold zay;cases hg:o.guard with
 | none=>rfl
 | some jw =>
  obtain ⟨j,want⟩:=jw;simp only;cases hd:(nth ops.toList j).bind (·.dst) with
  | none=>rfl
  | some g =>
   simp only;rw [zll fun e=>?_];refine h g e ?_;simp only [Oper.looksAt,hg,zy13]
   right
   rw [zcp] at hd;have hj:ops.toList[j]?=ops[j]?:=by simp
   rw [hj] at hd;rw [hd];simp
theorem zjp {op:Op} {ev ev':Operand->HV} {d:Nat} (h:∀ x∈op.operands.toList,ev' x=ev x):zhf op ev' d=zhf op ev d:=by
 unfold zhf;cases looks op<;>dsimp only
 congr 1
 revert h
 generalize op.operands.toList=l
 induction l with
 | nil=>intro _;rfl
 | cons y l ih=>intro h;simp only [zob];rw [h y (by simp),ih fun x hx=>h x (by simp [hx])]
theorem ziy:∀ {a b:List Nat},zws a b=true->∀ i∈a,i∉b
 | [],b,h,i,hi=>by simp at hi
 | x::a,b,h,i,hi=>by
  simp only [zws,zy1,zy53] at h;rcases zy3.1 hi with rfl | hi
  . intro hb
    have:=List.any_eq_false.1 h.1 i hb;simp at this
  . exact ziy h.2 i hi
def Ind (ops:Array Oper) (x:Oper×Lab) (y:Oper×Lab):Prop:=x.1.apart ops y.1=true/\zws (zqm x.2) (zjy y.2)=true/\zws (zqm y.2) (zjy x.2)=true
theorem zsj (l:Lab):zqm l=(zgz l).ups.map (·.1):=by cases l<;>rfl
theorem zgm (hC:zcm C) {ops:Array Oper} {o:Oper} {l:Lab} {s s' t:HS} (h:zep P C ops.toList o l s s') (hn:t.n=s.n)
 (hw:zay ops.toList o t.slot=zay ops.toList o s.slot) (he:∀ x∈o.op.operands.toList,evalOp t.slot x=evalOp s.slot x)
 (hH:∀ i∈zjy l,t.heap i=s.heap i):zep P C ops.toList o l t (t.app o.dst (zgz l)):=by
 rw [zem] at h ⊢;obtain ⟨h1,h2,h3,-⟩:=h;refine ⟨fun d hd=>by rw [hn];exact h1 d hd,by rw [hw];exact h2,fun r ids hl=>?_,rfl⟩;subst hl;obtain ⟨h4,h5⟩:=h3 r ids rfl;refine ⟨zso hC h4 he fun i hi=>hH i ?_,by rw [zjp he];exact h5⟩;subst h5;exact hi
theorem swap (hC:zcm C) {ops:Array Oper} {x y:Oper} {lx ly:Lab} {s s1 s2:HS} (hx:zep P C ops.toList x lx s s1) (hy:zep P C ops.toList y ly s1 s2) (hi:Ind ops (x,lx) (y,ly)) :
 ∃ s1',zep P C ops.toList y ly s s1'/\zep P C ops.toList x lx s1' s2:=by
 obtain ⟨hap,hd1,hd2⟩:=hi;obtain ⟨a1,a2,a3⟩:=Oper.apart_spec hap;have e1:s1=s.app x.dst (zgz lx):=(zem.1 hx).2.2.2;have e2:s2=s1.app y.dst (zgz ly):=(zem.1 hy).2.2.2;subst e1;have zms:∀ {o:Oper} {z:Operand} {d:Nat},z∈o.op.operands.toList->d∉o.looksAt ops->z≠.tmp d:=by
  rintro o z d hz hd rfl;apply hd;simp only [Oper.looksAt,zy13,List.mem_filterMap];exact .inl ⟨_,hz,rfl⟩
 have hu1:∀ i∈(zgz lx).ups.map (·.1),i∉zjy ly:=fun i hi=>ziy hd1 i (by rw [zsj];exact hi)
 have hu2:∀ i∈(zgz ly).ups.map (·.1),i∉zjy lx:=fun i hi=>ziy hd2 i (by rw [zsj];exact hi)
 have zkb:∀ {l:Lab} {i:Nat},i∈(zgz l).ups.map (·.1)->i∈zjy l:=by
  intro l i hi;cases l with
  | none=>simp [zgz] at hi
  | some ri=>simp only [zjy,zy13];exact .inr (.inr hi)
 refine ⟨s.app y.dst (zgz ly),zgm hC hy zsl.symm (zfh a1).symm (fun z hz=>(zid fun d hd=>zms hz (a1 d hd)).symm) fun i hi=>?_,?_⟩
 . rw [zga,zgp fun h=>hu1 i h hi]
 . have:=zgm hC (t:=s.app y.dst (zgz ly)) hx zsl (zfh a3) (fun z hz=>zid fun d hd=>zms hz (a3 d hd)) fun i hi=>by
    rw [zga,zgp fun h=>hu2 i h hi]
   rw [e2,zlk a2 fun i hi h=>hu1 i hi (zkb h)];exact this
structure zyp (P:Program) (C:zaj) (ops:Array Oper) (M:Oper->Lab->Prop) where
 Z:HS->Prop
 S:Oper->Lab->Prop
 keep:∀ {o l s s'},M o l->zep P C ops.toList o l s s'->Z s->Z s'
 same:∀ {o l s s' t},M o l->S o l->Z s->Z t->zep P C ops.toList o l s s'->t.n=s.n->zay ops.toList o t.slot=zay ops.toList o s.slot->(∀ x∈o.op.operands.toList,evalOp t.slot x=evalOp s.slot x)->zep P C ops.toList o l t (t.app o.dst (zgz l))
 quiet:∀ {o l},M o l->S o l->(zgz l).ups=[]
def yby {P:Program} {C:zaj} {ops:Array Oper} {M:Oper->Lab->Prop} (z:zyp P C ops M) (x y:Oper×Lab):Prop:=Ind ops x y\/(x.1.apart ops y.1=true/\(z.S x.1 x.2\/z.S y.1 y.2))
theorem ycn (hC:zcm C) {ops:Array Oper} {M:Oper->Lab->Prop} (z:zyp P C ops M) {x y:Oper} {lx ly:Lab} {s s1 s2:HS} (mx:M x lx) (my:M y ly) (hz:z.Z s) (hx:zep P C ops.toList x lx s s1) (hy:zep P C ops.toList y ly s1 s2) (hi:yby z (x,lx) (y,ly)) :
 ∃ s1',zep P C ops.toList y ly s s1'/\zep P C ops.toList x lx s1' s2:=by
 rcases hi with hi | ⟨hap,hs⟩
 . exact swap hC hx hy hi
 obtain ⟨a1,a2,a3⟩:=Oper.apart_spec hap;have hz1:=z.keep mx hx hz;have e1:s1=s.app x.dst (zgz lx):=(zem.1 hx).2.2.2;have e2:s2=s1.app y.dst (zgz ly):=(zem.1 hy).2.2.2;subst e1;have zms:∀ {o:Oper} {z:Operand} {d:Nat},z∈o.op.operands.toList->d∉o.looksAt ops->z≠.tmp d:=by
  rintro o z d hz hd rfl;apply hd;simp only [Oper.looksAt,zy13,List.mem_filterMap];exact .inl ⟨_,hz,rfl⟩
 have wy:=(zfh (ops:=ops) (o:=y) (s:=s) (dst:=x.dst) (r:=zgz lx) a1).symm;have ey:∀ q∈y.op.operands.toList,evalOp s.slot q=evalOp (s.app x.dst (zgz lx)).slot q:=fun q hq=>(zid fun d hd=>zms hq (a1 d hd)).symm
 have wx:=zfh (ops:=ops) (o:=x) (s:=s) (dst:=y.dst) (r:=zgz ly) a3;have ex:∀ q∈x.op.operands.toList,evalOp (s.app y.dst (zgz ly)).slot q=evalOp s.slot q:=fun q hq=>zid fun d hd=>zms hq (a3 d hd)
 rcases hs with hs | hs
 . have hq:=z.quiet mx hs
   have hy':zep P C ops.toList y ly s (s.app y.dst (zgz ly)):=zgm hC hy zsl.symm wy ey fun i _=>by rw [zga,hq];rfl
   have hz2:=z.keep my hy' hz;have:=z.same mx hs hz hz2 hx zsl wx ex;rw [e2,zlk a2 fun i hi=>by rw [hq] at hi;cases hi];exact ⟨_,hy',this⟩
 . have hq:=z.quiet my hs
   have hy':=z.same my hs hz1 hz hy zsl.symm wy ey;have:=zgm hC (t:=s.app y.dst (zgz ly)) hx zsl wx ex fun i _=>by rw [zga,hq];rfl
   rw [e2,zlk a2 fun i hi h=>by rw [hq] at h;cases h];exact ⟨_,hy',this⟩
theorem zqx (hC:zcm C) {ops:Array Oper} {M:Oper->Lab->Prop} (z:zyp P C ops M) {e:Oper×Lab} (me:M e.1 e.2):∀ {pre post:List (Oper×Lab)} {s t:HS},Ev P C ops.toList (pre++e::post) s t->z.Z s->(∀ x∈pre,M x.1 x.2)->(∀ x∈pre,yby z x e)->Ev P C ops.toList (e::(pre++post)) s t
 | [],post,s,t,h,_,_,_=>h
 | x::pre,post,s,t,h,hz,hm,hi=>by
  cases h with
  | cons h k =>
   rename_i o l s1;have mx:M o l:=hm (o,l) zz1;have h2:=zqx hC z me k (z.keep mx h hz) (fun y hy=>hm y zz34) fun y hy=>hi y zz34
   cases h2 with
   | cons h3 k2 =>
    obtain ⟨s1',h4,h5⟩:=ycn hC z mx me hz h h3 (hi _ zz1);exact .cons h4 (.cons h5 k2)
theorem zjl:∀ (os:List Oper) (ms:List Nat),∃ tl,zhb os ms=ms++tl/\tl.length=os.length
 | [],ms=>⟨[],by simp [zhb],rfl⟩
 | o::os,ms=>by
  obtain ⟨tl,h1,h2⟩:=zjl os (ms++[zha ms o.after.toList]);exact ⟨zha ms o.after.toList::tl,by simp [zhb,h1],by simp [h2]⟩
theorem znv:∀ (os:List Oper) (ms:List Nat) (k:Nat),k<os.length->∃ o,os[k]?=some o/\(zhb os ms)[ms.length+k]?=some (zha ((zhb os ms).take (ms.length+k)) o.after.toList)
 | [],ms,k,h=>by simp at h
 | o::os,ms,k,h=>by
  cases k with
  | zero =>
   obtain ⟨tl,h1,h2⟩:=zjl os (ms++[zha ms o.after.toList]);refine ⟨o,rfl,?_⟩;simp [zhb,h1]
  | succ k =>
   obtain ⟨o',h1,h2⟩:=znv os (ms++[zha ms o.after.toList]) k zz39;refine ⟨o',by simpa using h1,?_⟩;simp only [zhb];have:(ms++[zha ms o.after.toList]).length+k=ms.length+(k+1):=by simp;omega
   rw [this] at h2;exact h2
theorem zjk {ms:List Nat} {b:Nat}:∀ {l:List Edge},Nat.testBit (zha ms l) b=true->∃ e∈l,Region.binds .any e=true/\(e.on=b\/∃ m,ms[e.on]?=some m/\m.testBit b=true)
 | [],h=>by simp [zha] at h
 | e::l,h=>by
  simp only [zha] at h;cases hb:Region.binds .any e with
  | false =>
   rw [hb] at h;obtain ⟨e',h1,h2⟩:=zjk h;exact ⟨e',by simp [h1],h2⟩
  | true =>
   rw [hb] at h;have h':Nat.testBit ((zzg e.on ||| (nth ms e.on).getD 0) ||| zha ms l) b=true:=h;rw [Nat.testBit_or,Nat.testBit_or,zy92,zy92] at h';rcases h' with (h' | h') | h'
   . have:zzg e.on=2 ^ e.on:=Nat.one_shiftLeft _
     rw [this,Nat.testBit_two_pow] at h';exact ⟨e,by simp,hb,.inl (by simpa using h')⟩
   . refine ⟨e,by simp,hb,.inr ?_⟩
     rw [zcp] at h';cases hm:ms[e.on]? with
     | none=>rw [hm] at h';simp at h'
     | some m=>rw [hm] at h';exact ⟨m,rfl,by simpa using h'⟩
   . obtain ⟨e',h1,h2⟩:=zjk h'
     exact ⟨e',by simp [h1],h2⟩
theorem zpz {ops:Array Oper} {listed:Array Bool} (hcl:∀ k o,ops[k]?=some o->listed.getD k true=true->∀ e∈o.after,Region.binds .any e=true->listed.getD e.on false=true) :
 ∀ (k m b:Nat),(zhb ops.toList [])[k]?=some m->m.testBit b=true->(∀ o,ops[k]?=some o->∀ e∈o.after,Region.binds .any e=true->listed.getD e.on false=true)->listed.getD b false=true:=by
 intro k
 induction k using Nat.strongRecOn with
 | ind k ih =>
  intro m b hm hb hk;have hlen:k<ops.toList.length:=by
   obtain ⟨tl,h1,h2⟩:=zjl ops.toList [];rw [h1] at hm;have:=(zy16.1 hm).1
   simpa [h2] using this
  obtain ⟨o,ho,hmo⟩:=znv ops.toList [] k hlen;simp only [zy22,zy40] at hmo;rw [hm] at hmo;cases hmo;have ho':ops[k]?=some o:=by simpa using ho
  obtain ⟨e,he,hbd,h⟩:=zjk hb;have hel:=hk o ho' e (by simpa using he) hbd;rcases h with rfl | ⟨m',hm',hb'⟩
  . exact hel
  . rw [zy23] at hm'
    split at hm'
    . rename_i hlt
      refine ih e.on hlt m' b hm' hb' fun o' ho''=>hcl e.on o' ho'' ?_
      have:e.on<listed.size:=by
       rcases zy52 e.on listed.size with h' | h'
       . exact h'
       . simp [Array.getElem?_eq_none h'] at hel
      rw [zy35] at hel ⊢;rw [zy44 this] at hel ⊢;exact hel
    . cases hm'
theorem ziv {ops:Array Oper} {o:Oper} {l:Lab} {m:Nat}:∀ {xs:List Oper} {ls:List Lab} {k:Nat},zmw ops o l m k xs ls=true->∀ (i:Nat) x lx,xs[i]?=some x->ls[i]?=some lx->m.testBit (k+i)=true\/Ind ops (x,lx) (o,l)
 | [],ls,k,h,i,x,lx,hx,hl=>by simp at hx
 | y::xs,[],k,h,i,x,lx,hx,hl=>by simp at hl
 | y::xs,ly::ls,k,h,i,x,lx,hx,hl=>by
  simp only [zmw,zy1,zy92] at h;obtain ⟨h1,h2⟩:=h;cases i with
  | zero =>
   simp at hx hl;subst hx;subst hl;rcases h1 with h1 | ⟨⟨h1,h3⟩,h4⟩
   . exact .inl h1
   . exact .inr ⟨h1,h3,h4⟩
  | succ i =>
   have:=ziv h2 i x lx zz18 zz14;rw [show k+1+i=k+(i+1) by omega] at this;exact this
theorem zkp {ops:Array Oper} {labs:List Lab} {ms:List Nat}:∀ {os:List Oper} {ls:List Lab} {k:Nat},indep ops labs ms k os ls=true->∀ (i:Nat) o l,os[i]?=some o->ls[i]?=some l->zmw ops o l ((nth ms (k+i)).getD 0) 0 (ops.toList.take (k+i)) (labs.take (k+i))=true
 | [],ls,k,h,i,x,lx,hx,hl=>by simp at hx
 | y::os,[],k,h,i,x,lx,hx,hl=>by simp at hl
 | y::os,ly::ls,k,h,i,o,l,hx,hl=>by
  simp only [indep,zy1] at h;cases i with
  | zero=>simp at hx hl;subst hx;subst hl;exact h.1
  | succ i =>
   have:=zkp h.2 i o l zz18 zz14;rw [show k+1+i=k+(i+1) by omega] at this;exact this
theorem zht:∀ {os:List Oper} {k:Nat},zeg k os=true->∀ (i:Nat) o,os[i]?=some o->∀ e∈o.after,Region.binds .any e=true->e.on<k+i
 | [],k,h,i,o,ho,e,he,hb=>by simp at ho
 | y::os,k,h,i,o,ho,e,he,hb=>by
  simp only [zeg,zy1] at h;cases i with
  | zero =>
   simp at ho;subst ho;have:=zy31.1 h.1 e (by simpa using he);simp only [hb,Bool.not_true,Bool.false_or] at this;exact zy9 this
  | succ i =>
   have:=zht h.2 i o zz25 e he hb;omega
def zog:Nat->List Oper->List Lab->List (Nat×Oper×Lab)
 | k,o::os,l::ls=>(k,o,l)::zog (k+1) os ls
 | _,_,_=>[]
theorem zmj:∀ (k:Nat) (os:List Oper) (ls:List Lab),(zog k os ls).map (·.2)=os.zip ls
 | _,[],_=>by simp [zog]
 | _,_::_,[]=>by simp [zog]
 | k,o::os,l::ls=>by simp [zog,zmj (k+1) os ls]
theorem zij:∀ {k:Nat} {os:List Oper} {ls:List Lab} {i:Nat} {o:Oper} {l:Lab},(i,o,l)∈zog k os ls->k<=i/\os[i-k]?=some o/\ls[i-k]?=some l
 | _,[],_,_,_,_,h=>by simp [zog] at h
 | _,_::_,[],_,_,_,h=>by simp [zog] at h
 | k,o'::os,l'::ls,i,o,l,h=>by
  simp only [zog,zy3] at h;rcases h with h | h
  . cases h;simp
  . obtain ⟨h1,h2,h3⟩:=zij h
    obtain ⟨j,rfl⟩:∃ j,i=k+1+j:=⟨i-(k+1),by omega⟩
    rw [show k+1+j-(k+1)=j by omega] at h2 h3;rw [show k+1+j-k=j+1 by omega];exact ⟨by omega,by simpa using h2,by simpa using h3⟩
theorem zrx:∀ {k:Nat} {os:List Oper} {ls:List Lab} {i:Nat},ls.length=os.length->i<os.length->k+i∈(zog k os ls).map (·.1)
 | _,[],_,_,_,h=>by simp at h
 | _,_::_,[],_,h,_=>by simp at h
 | k,o::os,l::ls,i,hl,h=>by
  simp only [zog,zy18,zy3];cases i with
  | zero=>exact .inl rfl
  | succ i =>
   right
   have:=zrx (k:=k+1) (os:=os) (ls:=ls) (i:=i) zz14 zz39;rw [show k+1+i=k+(i+1) by omega] at this;exact this
theorem zjr:∀ (k:Nat) (os:List Oper) (ls:List Lab),(zog k os ls).Pairwise (fun x y=>x.1<y.1)
 | _,[],_=>by simp [zog]
 | _,_::_,[]=>by simp [zog]
 | k,o::os,l::ls=>by
  simp only [zog,List.pairwise_cons];refine ⟨fun y hy=>?_,zjr (k+1) os ls⟩;obtain ⟨i,o',l'⟩:=y;have:=(zij hy).1;simp only;omega
structure ycd (ops:Array Oper) (labs:List Lab) (listed:Array Bool) (L:List (Nat×Oper×Lab)):Prop where
 mem:∀ i o l,(i,o,l)∈L->ops[i]?=some o/\labs[i]?=some l
 has:∀ j,listed.getD j true=false↔j∈L.map (·.1)
 sorted:L.Pairwise (fun x y=>x.1<y.1)
 closed:∀ k o,ops[k]?=some o->listed.getD k true=true->∀ e∈o.after,Region.binds .any e=true->listed.getD e.on false=true
 size:listed.size=ops.size
theorem zua {listed:Array Bool} {k:Nat} (hk:k<listed.size):listed.getD k false=listed.getD k true:=by
 rw [zy35,zy35,zy44 hk];rfl
def Mem (ops:Array Oper) (labs:List Lab) (o:Oper) (l:Lab):Prop:=∃ i:Nat,ops[i]?=some o/\labs[i]?=some l
def ybz {ops:Array Oper} {labs:List Lab} (z:zyp P C ops (Mem ops labs)):Prop:=∀ (j i:Nat) xo xl o l,j<i->ops[j]?=some xo->labs[j]?=some xl->ops[i]?=some o->labs[i]?=some l ->
 Nat.testBit ((nth (zhb ops.toList []) i).getD 0) j=true\/yby z (xo,xl) (o,l)
theorem yax (hC:zds P C) (hL:zcm C) {ops:Array Oper} {labs:List Lab} {Q:Exit->Act->World->Prop} {sEnd:HS} (hup:zeg 0 ops.toList=true) (z:zyp P C ops (Mem ops labs)) (hmay:ybz z)
 (hQ:∀ m a w,zfb Γ P m sEnd a w->Q .normal a w):∀ (fuel:Nat) (listed:Array Bool) (L:List (Nat×Oper×Lab)) (s:HS) (m:zbt) (a:Act) (w:World),ycd ops labs listed L->L.length<=fuel ->
  Ev P C ops.toList (L.map (·.2)) s sEnd->z.Z s->zfb Γ P m s a w->wpAny P .any ops Q fuel listed a w:=by
 have none_ready:∀ {listed:Array Bool} {L:List (Nat×Oper×Lab)},ycd ops labs listed L->Region.ready .any ops listed=[]->L=[]:=by
  intro listed L hp hr;cases L with
  | nil=>rfl
  | cons x L =>
   exfalso;obtain ⟨i,o,l⟩:=x;obtain ⟨ho,-⟩:=hp.mem i o l zz1;have hun:listed.getD i true=false:=(hp.has i).2 zz1;have:i∈Region.ready .any ops listed:=by
    refine mem_ready.2 ⟨hun,o,ho,fun e he hb=>?_⟩;have hlt:=zht hup i o zz25 e he hb;have hi:i<ops.size:=(zy20.1 ho).1;rw [zua (by rw [hp.size];omega)];cases hf:listed.getD e.on true with
    | true=>rfl
    | false =>
     exfalso;have hm:=(hp.has e.on).1 hf;simp only [zy18,zy3] at hm;rcases hm with hm | hm
     . omega
     . obtain ⟨⟨j,o',l'⟩,hj,hje⟩:=zy8.1 hm
       have:=(List.pairwise_cons.1 hp.sorted).1 _ hj;simp only at hje this;omega
   rw [hr] at this;simp at this
 intro fuel
 induction fuel with
 | zero =>
  intro listed L s m a w hp hf hev _ hc;have zwl:L=[]:=zy2 zz0;subst zwl;cases hev;refine ⟨?_,hQ m a w hc⟩;cases hr:Region.ready .any ops listed with
  | nil=>rfl
  | cons j r =>
   exfalso;have hj:j∈Region.ready .any ops listed:=by rw [hr];simp
   have:=(hp.has j).1 (mem_ready.1 hj).1;simp at this
 | succ fuel ih =>
  intro listed L s m a w hp hf hev hz hc;refine ⟨fun hr=>?_,fun i hi=>?_⟩
  . have zwl:=none_ready hp hr
    subst zwl;cases hev;exact hQ m a w hc
  . obtain ⟨hun,o,ho,hedge⟩:=mem_ready.1 hi
    obtain ⟨⟨i',o',l⟩,hmem,rfl⟩:=zy8.1 ((hp.has i).1 hun);simp only at hun ho hi hedge;obtain ⟨pre,post,rfl⟩:=List.append_of_mem hmem;obtain ⟨ho2,hl⟩:=hp.mem i' o' l hmem;rw [ho2] at ho;cases ho;have hsp:=List.pairwise_append.1 hp.sorted;have hsc:=List.pairwise_cons.1 hsp.2.1;have hlen:i'<ops.size:=(zy20.1 ho2).1;have hpre:∀ x∈pre.map (·.2),yby z x (o,l):=by
     intro x hx;obtain ⟨⟨j,xo,xl⟩,hj,rfl⟩:=zy8.1 hx;have hlt:j<i':=hsp.2.2 _ hj (i',o,l) zz1;obtain ⟨hjo,hjl⟩:=hp.mem j xo xl (by simp [hj]);have h2:=hmay j i' xo xl o l hlt hjo hjl ho2 hl;rcases h2 with h2 | h2
     . exfalso
       simp only [zcp] at h2;cases hm:(zhb ops.toList [])[i']? with
       | none=>rw [hm] at h2;simp at h2
       | some mk =>
        rw [hm] at h2;have:=zpz hp.closed i' mk j hm (by simpa using h2) fun o'' ho''=>by rw [ho2] at ho'';cases ho'';exact hedge
        have hjs:j<listed.size:=by rw [hp.size];omega
        rw [zua hjs] at this;have h3:listed.getD j true=false:=(hp.has j).2 (by simp;exact .inl ⟨_,_,hj⟩);rw [this] at h3;cases h3
     . exact h2
    have mo:Mem ops labs o l:=⟨i',ho2,hl⟩
    have hmp:∀ x∈pre.map (·.2),Mem ops labs x.1 x.2:=by
     intro x hx;obtain ⟨⟨j,xo,xl⟩,hj,rfl⟩:=zy8.1 hx;exact ⟨j,hp.mem j xo xl (by simp [hj])⟩
    have hev':=zqx hL z (e:=(o,l)) mo (pre:=pre.map (·.2)) (post:=post.map (·.2)) (by simpa using hev) hz hmp hpre;cases hev' with
    | cons hstep hrest =>
     have hz':=z.keep mo hstep hz;have hp':ycd ops labs (listed.setIfInBounds i' true) (pre++post):=by
      refine ⟨fun j x xl hj=>hp.mem j x xl ?_,fun j=>?_,?_,fun k x hk hkl e he hb=>?_,by simp [hp.size]⟩
      . rcases zy13.1 hj with hj | hj<;>simp [hj]
      . by_cases hj:j=i'
        . subst hj
          have h1:(listed.setIfInBounds j true).getD j true=true:=by simp [hp.size,hlen]
          rw [h1];simp only [Bool.true_eq_false,false_iff,zy46,zy13,not_or]
          constructor
          . intro h
            obtain ⟨⟨j',xo,xl⟩,hj',he⟩:=zy8.1 h;have:=hsp.2.2 _ hj' (j,o,l) zz1;simp only at he this;omega
          . intro h
            obtain ⟨⟨j',xo,xl⟩,hj',he⟩:=zy8.1 h;have:=hsc.1 _ hj';simp only at he this;omega
        . rw [getD_set_ne true (Ne.symm hj),hp.has j]
          simp [hj]
      . exact List.pairwise_append.2 ⟨hsp.1,hsc.2,fun x hx y hy=>hsp.2.2 x hx y zz34⟩
      . apply getD_set_true
        by_cases hki:k=i'
        . subst hki
          rw [ho2] at hk;cases hk;exact hedge e he hb
        . rw [getD_set_ne true (Ne.symm hki)] at hkl
          exact hp.closed k x hk hkl e he hb
     unfold wpOp;rw [ho2];simp only;have hs:=yam (Γ:=Γ) hC hc hstep (K:=wpAny P .any ops Q fuel (listed.setIfInBounds i' true)) (Q:=Q) fun m' a' w' hc' =>
      ih _ (pre++post) _ m' a' w' hp' (by simp at hf ⊢;omega) (by simpa using hrest) hz' hc'
     split at hs
     . rename_i hw;rw [zy12 hw];exact .inl hs
     . rename_i hw;rw [zy14 hw];exact hs
def zoh (P:Program) (C:zaj) (ops:Array Oper) (M:Oper->Lab->Prop):zyp P C ops M:=⟨fun _=>True,fun _ _=>False,fun _ _ _=>trivial,fun _ h=>h.elim,fun _ h=>h.elim⟩
theorem zvp {ops:Array Oper} {labs:List Lab} (hall:zej ops labs=true):ybz (zoh P C ops (Mem ops labs)):=by
 simp only [zej,zy1] at hall;obtain ⟨⟨-,-⟩,hind⟩:=hall;intro j i xo xl o l hlt hjo hjl ho hl;have h1:=zkp hind i o l zz25 hl;simp only [zy40] at h1;have h2:=ziv h1 j xo xl (by rw [zy23];simp [hlt,hjo]) (by rw [zy23];simp [hlt,hjl]);rw [zy40] at h2;exact h2.imp id .inl
theorem zyb {ops:Array Oper} {labs:List Lab} (hall:zej ops labs=true):zeg 0 ops.toList=true:=by
 simp only [zej,zy1] at hall;exact hall.1.2
theorem zjz {id:Nat} {b:zaa}:∀ {us:List (Nat×zaa)},b∈ztn id us↔(id,b)∈us
 | []=>by simp [ztn]
 | (i,c)::r=>by
  simp only [ztn];by_cases h:i=id
  . subst h;simp [zjz (us:=r)]
  . have:Nat.beq i id=false:=by
     cases hb:Nat.beq i id with
     | false=>rfl
     | true=>exact (h (zy0 hb)).elim
    rw [this];simp only [cond_false,zy3,Prod.mk.injEq];rw [zjz (us:=r)]
    constructor
    . exact .inr
    . rintro (⟨rfl,_⟩ | h2)
      . exact (h rfl).elim
      . exact h2
theorem yao (us:List (Nat×zaa)):∀ (H:Nat->zaa) (id:Nat),zbe H us id=H id\/(id,zbe H us id)∈us:=by
 induction us with
 | nil=>intro H id;exact .inl rfl
 | cons e r ih =>
  obtain ⟨i,b⟩:=e;intro H id;simp only [zbe];rcases ih (upd H i b) id with h | h
  . by_cases hi:id=i
    . subst hi
      right
      rw [h,zaf];simp
    . left;rw [h,zai _ _ hi]
  . exact .inr (by simp [h])
theorem zhn {id:Nat} {b:zaa}:∀ {labs:List Lab} {r:Res} {ids:List Nat},some (r,ids)∈labs->(id,b)∈r.ups->b∈zgq id labs
 | [],_,_,h,_=>by cases h
 | none::ls,r,ids,h,hb=>by
  simp only [zgq];rcases zy3.1 h with h | h
  . cases h
  . exact zhn h hb
 | some (q,k)::ls,r,ids,h,hb=>by
  simp only [zgq,zy13];rcases zy3.1 h with h | h
  . cases h;exact .inl (zjz.2 hb)
  . exact .inr (zhn h hb)
theorem zlg {a:Nat}:∀ {os:List Oper} {ls:List Lab} {i:Nat} {o:Oper} {r:Res} {ids:List Nat},os[i]?=some o->ls[i]?=some (some (r,ids))->o.dst=some a->r.val∈zee a os ls
 | [],ls,i,o,r,ids,ho,_,_=>by simp at ho
 | _::os,[],i,o,r,ids,_,hl,_=>by simp at hl
 | x::os,l::ls,i,o,r,ids,ho,hl,hd=>by
  cases i with
  | zero =>
   simp at ho hl;subst ho;subst hl;simp only [zee,isDst,hd,Nat.beq_refl,cond_true];exact zy82 ..
  | succ i =>
   have ih:=zlg (os:=os) (ls:=ls) (i:=i) zz25 zz14 hd;cases l with
   | none=>simpa only [zee] using ih
   | some q =>
    simp only [zee];cases isDst a x.dst
    . exact ih
    . exact zy76 _ ih
theorem zcu {α:Type} {p:α->Prop}:∀ {l:List α} {x:α},zwk p l->x∈l->p x
 | y::l,x,h,hx=>by
  rcases zy3.1 hx with rfl | hx
  . exact h.1
  . exact zcu h.2 hx
theorem zzv {K:Res->Prop} {t:TypeId} {x:Operand} {d:Nat} {ev:Operand->HV} {H:Nat->zaa} (h:zaw P C (.load t x) d ev H K):(∃ id,placeOf (ev x)=some id/\zug P t (ev x) (H id) K)\/∃ cs,ev x=.rp cs:=by
 simp only [zaw] at h;cases hx:ev x with
 | ptr i o=>rw [hx] at h;exact .inl ⟨i,rfl,h⟩
 | eptr i n j o=>rw [hx] at h;exact .inl ⟨i,rfl,h⟩
 | rp cs=>exact .inr ⟨cs,rfl⟩
 | _=>rw [hx] at h;obtain ⟨d,u,i,z,ht,h⟩:=zbn h;exact h.elim
theorem zzw {K:Res->Prop} {t:TypeId} {x:Operand} {d:Nat} {ev:Operand->HV} {H:Nat->zaa} {id:Nat} (hp:placeOf (ev x)=some id) (h:zug P t (ev x) (H id) K):zaw P C (.load t x) d ev H K:=by
 simp only [zaw];cases hx:ev x with
 | ptr i o=>rw [hx] at h hp;cases hp;exact h
 | eptr i n j o=>rw [hx] at h hp;cases hp;exact h
 | _=>rw [hx] at hp;cases hp
theorem zxm {K:Res->Prop} {c:Call} {a d:Nat} {ev ev':Operand->HV} {H H':Nat->zaa} (hc:c.callee=.builtin .len) (ha:c.args.toList=[.tmp a]) (h:zaw P C (.call c) d ev H K) (hx:ev' (.tmp a)=ev (.tmp a))
 (hs:∀ id,ev (.tmp a)=.own id->zwy (H' id) id K) (hn:(∃ id,ev (.tmp a)=.own id)\/ev (.tmp a)=.any\/ev (.tmp a)=.und):zaw P C (.call c) d ev' H' K:=by
 simp only [zaw,hc,ha] at h ⊢;cases hat:c.argTypes.toList with
 | nil=>simp only [hat] at h
 | cons t r=>cases r with
  | cons _ _=>simp only [hat] at h
  | nil =>
   simp only [hat] at h ⊢;unfold tyK at h ⊢;cases htd:ybu P t with
   | none=>rw [htd] at h;exact h.elim
   | some td =>
    rw [htd] at h;simp only at h ⊢;cases hk:td.k with
    | str=>rw [hk] at h;simp only at h;rcases hn with ⟨id,e⟩ | e | e<;>rw [e] at h<;>exact h.elim
    | slice e' =>
     simp only [hk] at h ⊢;rw [hx];rcases hn with ⟨id,e⟩ | e | e
     . rw [e];exact hs id e
     . rw [e] at h;exact h.elim
     . rw [e] at h;exact h.elim
    | _=>rw [hk] at h;exact h.elim
theorem zos {s0:HS} {all:List Oper} {labs:List Lab} {j:Nat} (h:zlf P s0 all labs j):∃ o r ids,nth all j=some o/\nth labs j=some (some (r,ids))/\r.ups=[] /\
 ((∃ t a,o.op=.load t (.tmp a)/\zsd P s0 all labs t a r)\/∃ c a,o.op=.call c/\c.callee=.builtin .len/\c.args.toList=[.tmp a]/\ybl s0 all labs a r):=by
 have hu:∀ r:Res,(match r.ups with | []=>True | _=>False)->r.ups=[]:=fun r h=>by
  cases hr:r.ups with
  | nil=>rfl
  | cons x y=>rw [hr] at h;exact h.elim
 unfold zlf at h;split at h
 . rename_i o ho
   split at h
   . rename_i t a hop
     split at h
     . rename_i r ids hl
       exact ⟨o,r,ids,ho,hl,hu r h.1,.inl ⟨t,a,hop,h.2⟩⟩
     . exact h.elim
   . rename_i c hop
     split at h
     . rename_i hc
       split at h
       . rename_i a ha
         split at h
         . rename_i r ids hl
           exact ⟨o,r,ids,ho,hl,hu r h.1,.inr ⟨c,a,hop,hc,ha,h.2⟩⟩
         . exact h.elim
       . exact h.elim
     . exact h.elim
   . exact h.elim
 . exact h.elim
def zyo (s0:HS) (ops:Array Oper) (labs:List Lab) (s:HS):Prop :=
 (∀ a,s.slot a=.und\/s.slot a∈s0.slot a::zee a ops.toList labs)/\∀ id,s.heap id∈s0.heap id::zgq id labs
theorem zns (s0:HS) (ops:Array Oper) (labs:List Lab):zyo s0 ops labs s0:=⟨fun _=>.inr (zy82 ..),fun _=>zy82 ..⟩
def zqw (P:Program) (C:zaj) (s0:HS) (ops:Array Oper) (labs:List Lab):zyp P C ops (Mem ops labs) where
 Z:=zyo s0 ops labs
 S:=fun o l=>∃ i,ops[i]?=some o/\labs[i]?=some l/\zlf P s0 ops.toList labs i
 keep:=by
  rintro o l s s' ⟨i,ho,hl⟩ h ⟨h1,h2⟩;obtain ⟨-,-,-,rfl⟩:=zem.1 h;refine ⟨fun a=>?_,fun id=>?_⟩
  . by_cases hd:o.dst=some a
    . have e:(s.app o.dst (zgz l)).slot a=(zgz l).val:=by rw [hd];exact zaf _ _ _
      rw [e];cases l with
      | none=>exact .inl rfl
      | some q =>
       obtain ⟨r,ids⟩:=q;exact .inr (zy76 _ (zlg zz25 hl hd))
    . rw [zll hd];exact h1 a
  . rw [zga]
    rcases yao (zgz l).ups s.heap id with e | e
    . rw [e];exact h2 id
    . cases l with
      | none=>simp [zgz] at e
      | some q =>
       obtain ⟨r,ids⟩:=q;exact zy76 _ (zhn (zy38 hl) e)
 same:=by
  rintro o l s s' t - ⟨i,ho,hl,hs⟩ ⟨z1,z2⟩ ⟨y1,y2⟩ h hn hw he;rw [zem] at h ⊢;obtain ⟨h1,h2,h3,-⟩:=h;refine ⟨fun d hd=>by rw [hn];exact h1 d hd,by rw [hw];exact h2,fun r ids hr=>?_,rfl⟩;subst hr;obtain ⟨h4,h5⟩:=h3 r ids rfl;refine ⟨?_,by rw [zjp he];exact h5⟩;have ho':nth ops.toList i=some o:=by rw [zcp];simpa using ho
  have hl':nth labs i=some (some (r,ids)):=by rw [zcp];exact hl
  obtain ⟨o2,r2,ids2,e1,e2,-,hs⟩:=zos hs;rw [ho'] at e1;cases e1;rw [hl'] at e2;cases e2;rcases hs with ⟨ty,a,hop,hs⟩ | ⟨c,a,hop,hc,ha,hs⟩
  . rw [hop] at h4 he ⊢
    have hea:t.slot a=s.slot a:=he (.tmp a) (by simp [Op.operands]);have hv:evalOp s.slot (.tmp a)=s.slot a:=rfl;have hvt:evalOp t.slot (.tmp a)=s.slot a:=hea;have hmem:=z1 a;rcases zzv h4 with ⟨id,hp,hld⟩ | ⟨cs,hcs⟩
    . rw [hv] at hp
      have hin:s.slot a∈s0.slot a::zee a ops.toList labs:=hmem.resolve_left fun e=>by rw [e] at hp;cases hp
      have hst:=zcu hs hin;simp only [hp] at hst;have:=zcu hst (y2 id);exact zzw (id:=id) (by rw [hvt];exact hp) (by rw [hvt];exact this)
    . rw [hv] at hcs
      have hin:s.slot a∈s0.slot a::zee a ops.toList labs:=hmem.resolve_left fun e=>by rw [e] at hcs;cases hcs
      have hst:=zcu hs hin;rw [hcs] at hst;exact hst.elim
  . rw [hop] at h4 he ⊢
    have hea:evalOp t.slot (.tmp a)=evalOp s.slot (.tmp a):=he (.tmp a) (by
     have:Operand.tmp a∈c.args.toList:=by rw [ha];exact zy49.2 rfl
     simp [Op.operands,Call.operands] at this ⊢
     first | exact this | exact .inr this | exact .inl this)
    have hv:evalOp s.slot (.tmp a)=s.slot a:=rfl;refine zxm hc ha h4 hea (fun id e=>?_) ?_
    . rw [hv] at e
      have hin:s.slot a∈s0.slot a::zee a ops.toList labs:=(z1 a).resolve_left fun e2=>by rw [e2] at e;cases e
      have hst:=zcu hs hin;rw [e] at hst;have hst2:zwk (fun b=>zwy b id (·=_)) (s0.heap id::zgq id labs):=hst;exact (zcu (p:=fun b=>zwy b id (·=_)) hst2 (y2 id):_)
    . rw [hv]
      rcases z1 a with e | hin
      . exact .inr (.inr e)
      . have hst:=zcu hs hin
        cases hx:s.slot a with
        | own id=>exact .inl ⟨id,rfl⟩
        | any=>exact .inr (.inl rfl)
        | _=>rw [hx] at hst;exact hst.elim
 quiet:=by
  rintro o l - ⟨i,ho,hl,hs⟩;have hl':nth labs i=some l:=by rw [zcp];exact hl
  obtain ⟨o2,r,ids,-,e2,hu,-⟩:=zos hs;rw [hl'] at e2;cases e2;exact hu
theorem zhp {ex:List Nat} {q:Nat} {ops:Array Oper} {o:Oper} {l:Lab} {m:Nat}:∀ {xs:List Oper} {ls:List Lab} {k:Nat},ziu ex q ops o l m k xs ls=true->∀ (i:Nat) x lx,xs[i]?=some x->ls[i]?=some lx->m.testBit (k+i)=true\/Ind ops (x,lx) (o,l)\/(x.apart ops o=true/\(k+i∈ex\/q∈ex))
 | [],ls,k,h,i,x,lx,hx,hl=>by simp at hx
 | y::xs,[],k,h,i,x,lx,hx,hl=>by simp at hl
 | y::xs,ly::ls,k,h,i,x,lx,hx,hl=>by
  simp only [ziu,zy1,zy92] at h;obtain ⟨h1,h2⟩:=h;cases i with
  | zero =>
   simp at hx hl;subst hx;subst hl;rcases h1 with h1 | ⟨h1,(h3 | h3) | h3⟩
   . exact .inl h1
   . obtain ⟨z,hz,e⟩:=zy60.1 h3
     have:=zy0 e;subst this;exact .inr (.inr ⟨h1,.inl hz⟩)
   . obtain ⟨z,hz,e⟩:=zy60.1 h3
     have:=zy0 e;subst this;exact .inr (.inr ⟨h1,.inr hz⟩)
   . exact .inr (.inl ⟨h1,h3.1,h3.2⟩)
  | succ i =>
   have:=zhp h2 i x lx zz18 zz14;rw [show k+1+i=k+(i+1) by omega] at this;exact this
theorem zji {ex:List Nat} {ops:Array Oper} {labs:List Lab} {ms:List Nat}:∀ {os:List Oper} {ls:List Lab} {k:Nat},zro ex ops labs ms k os ls=true->∀ (i:Nat) o l,os[i]?=some o->ls[i]?=some l->ziu ex (k+i) ops o l ((nth ms (k+i)).getD 0) 0 (ops.toList.take (k+i)) (labs.take (k+i))=true
 | [],ls,k,h,i,x,lx,hx,hl=>by simp at hx
 | y::os,[],k,h,i,x,lx,hx,hl=>by simp at hl
 | y::os,ly::ls,k,h,i,o,l,hx,hl=>by
  simp only [zro,zy1] at h;cases i with
  | zero=>simp at hx hl;subst hx;subst hl;exact h.1
  | succ i =>
   have:=zji h.2 i o l zz18 zz14;rw [show k+1+i=k+(i+1) by omega] at this;exact this
theorem zwt {s0:HS} {ex:List Nat} {ops:Array Oper} {labs:List Lab} (hall:zdx ex ops labs=true) (hst:zwk (zlf P s0 ops.toList labs) ex):ybz (zqw P C s0 ops labs):=by
 simp only [zdx,zy1] at hall;obtain ⟨-,hind⟩:=hall;intro j i xo xl o l hlt hjo hjl ho hl;have h1:=zji hind i o l zz25 hl;simp only [zy40] at h1;have h2:=zhp h1 j xo xl (by rw [zy23];simp [hlt,hjo]) (by rw [zy23];simp [hlt,hjl]);rw [zy40] at h2;rcases h2 with h2 | h2 | ⟨h2,h3⟩
 . exact .inl h2
 . exact .inr (.inl h2)
 . refine .inr (.inr ⟨h2,?_⟩)
   rcases h3 with h3 | h3
   . exact .inl ⟨j,hjo,hjl,zcu hst h3⟩
   . exact .inr ⟨i,ho,hl,zcu hst h3⟩
theorem zzk {ex:List Nat} {ops:Array Oper} {labs:List Lab} (hall:zdx ex ops labs=true):zeg 0 ops.toList=true:=by
 simp only [zdx,zy1] at hall;exact hall.1
end
end Go.HL
namespace Go.HL
section
variable {Γ:Ctx} {P:Program} {C:zaj}
section
variable {m m':zbt} {σ:Ren} {w:World} {R R':Nat->Prop}
theorem zcs.sub (hR:∀ b,R b->R' b) {x:PV} {v:Value} (h:zcs w R x v):zcs w R' x v:=h.mono fun b hb=>⟨rfl,hR b hb⟩
mutual
theorem zry (hm:∀ i j,σ i=some (some j)->m' i=m j) (hn:∀ i,σ i=some none->m' i=some ⟨0,0,0,true⟩) (hR:∀ b,R b->R' b) :
 (x:HV)->(v:Value)->zdr σ x=true->zad m w R (rn σ x) v->zad m' w R' x v
 | .p x,v,_,h=>by simp only [rn,zad] at h ⊢;exact h.sub hR
 | .ptr i o,v,ho,h=>by
  exact yy4
 | .eptr i n k o,v,ho,h=>by
  exact yy4
 | .rp c,v,_,h=>by
  exact yy19
 | .own i,v,ho,h=>by
  simp only [zdr] at ho;split at ho
  . rename_i o hj
    cases o with
    | some j =>
     simp only [rn,hj,zad] at h ⊢;obtain ⟨l,h1,h2⟩:=h;exact ⟨l,by rw [hm i j hj];exact h1,h2⟩
    | none =>
     simp only [rn,hj,zad] at h ⊢;cases h;exact ⟨_,hn i hj,rfl⟩
  . cases ho
 | .osl i n o len,v,ho,h=>by
  simp only [zdr] at ho;split at ho
  . rename_i j hj
    simp only [rn,hj,zad] at h ⊢;obtain ⟨l,a,h1,h2⟩:=h;exact ⟨l,a,by rw [hm i j hj];exact h1,h2⟩
  . cases ho
 | .mp i,v,ho,h=>by
  exact yy4
 | .agg l,v,ho,h=>by
  exact yy6
 | .tup l,v,ho,h=>by
  exact yy6
 | .clo f l,v,ho,h=>by
  exact yy6
 | .und,v,_,h=>by simp only [rn,zad] at h ⊢;exact h
 | .any,v,_,h=>by simp only [zad]
theorem zfu (hm:∀ i j,σ i=some (some j)->m' i=m j) (hn:∀ i,σ i=some none->m' i=some ⟨0,0,0,true⟩) (hR:∀ b,R b->R' b) :
 (x:List HV)->(v:List Value)->zfw σ x=true->zae m w R (rnL σ x) v->zae m' w R' x v
 | [],v,_,h=>by simp only [rnL,zae] at h ⊢;exact h
 | x::xs,v,ho,h=>by
  simp only [zfw,zy1] at ho;simp only [rnL,zae] at h ⊢;obtain ⟨a,r,h1,h2,h3⟩:=h;exact ⟨a,r,h1,zry hm hn hR x a ho.1 h2,zfu hm hn hR xs r ho.2 h3⟩
end
theorem zhk:∀ (l:List HV),(rnL σ l).length=l.length
 | []=>rfl
 | x::l=>by simp only [rnL,zy10,zhk l]
theorem zjt (hm:∀ i j,σ i=some (some j)->m' i=m j) (hn:∀ i,σ i=some none->m' i=some ⟨0,0,0,true⟩) (hR:∀ b,R b->R' b) {l:Loc} {b:zdf}
 (ho:zfv σ b=true) (h:zfj m w R l (rnB σ b)):zfj m' w R' l b:=by
 cases b with
 | cells t cs =>
  obtain ⟨h1,arr,h2,h3⟩:=h;rw [zhk] at h1;exact ⟨h1,arr,h2,zfu hm hn hR _ _ ho h3⟩
 | map kc agg es =>
  obtain ⟨h1,arr,c,h2,h3,h4⟩:=h;exact ⟨h1,arr,c,h2,h3.mono fun b hb=>⟨rfl,hR b hb⟩,h4⟩
 | iter kc agg left cur =>
  obtain ⟨h1,bm,arr,c,seen,h2,h3⟩:=h;exact ⟨h1,bm,arr,c,seen,h2,h3.mono fun b hb=>⟨rfl,hR b hb⟩⟩
 | row t n rows =>
  exact yy12
 | buf t n rows c =>
  exact yy22
end
def zcq (σ:Ren) (m:zbt):zbt:=fun i=>match σ i with
 | none=>none
 | some none=>some ⟨0,0,0,true⟩
 | some (some j)=>m j
theorem ybw.conc {m:zbt} {s t:HS} {a:Act} {w:World} (hc:zfb Γ P m s a w) (h:ybw s t):∃ m',zfb Γ P m' t a w:=by
 obtain ⟨hn,hpp,σ,hs,hh,hi,hpin⟩:=h;have hm:∀ i j,σ i=some (some j)->zcq σ m i=m j:=fun i j hj=>by simp only [zcq,hj]
 have hnn:∀ i,σ i=some none->zcq σ m i=some ⟨0,0,0,true⟩:=fun i hj=>by simp only [zcq,hj]
 have zwl:zfj (zcq σ m) w (RR Γ (zcq σ m) t.heap w) ⟨0,0,0,true⟩=fun b=>zfj (zcq σ m) w (RR Γ (zcq σ m) t.heap w) ⟨0,0,0,true⟩ b:=rfl
 have hlive:∀ id b,t.heap id=.live b->zfv σ b=true/\((∃ j,σ id=some (some j)/\s.heap j=.live (rnB σ b))\/(σ id=some none/\ybm b)):=fun id b hb=>by
  have:=hh id;rw [hb] at this;exact this
 have hown:∀ b,zfz (zcq σ m) t.heap b->zfz m s.heap b:=by
  rintro b ⟨id,l,blk,h1,h2,h3,h4⟩;obtain ⟨-,⟨j,hj,hsj⟩ | ⟨hj,-⟩⟩:=hlive id blk h1
  . rw [hm id j hj] at h2
    exact ⟨j,l,_,hsj,h2,h3,h4⟩
  . rw [hnn id hj] at h2;cases h2;cases h3
 have hR:∀ b,RR Γ m s.heap w b->RR Γ (zcq σ m) t.heap w b:=fun b hb=>⟨hb.1,hb.2.1,fun ho=>hb.2.2 (hown b ho)⟩
 have hok:=hc.heap;refine ⟨zcq σ m,⟨hok.size,hok.os,hok.tape,hok.output,hok.frame,?_,?_,?_,?_,hok.dom⟩,?_,by rw [hc.size,hn],hc.defers,fun id l hp hl=>?_⟩
 . intro id hf
   have:=hh id;rw [hf] at this;simp only at this;simp only [zcq,this]
 . intro id b hb
   obtain ⟨hob,⟨j,hj,hsj⟩ | ⟨hj,hnb⟩⟩:=hlive id b hb
   . obtain ⟨l,h1,h2,h3⟩:=hok.live j _ hsj
     exact ⟨l,by rw [hm id j hj];exact h1,zjt hm hnn hR hob h2,h3⟩
   . refine ⟨_,hnn id hj,?_,fun h=>by cases h⟩
     cases b with
     | cells=>exact hnb.elim
     | map=>exact hnb.elim
     | iter=>exact hnb.elim
     | buf=>exact hnb.elim
     | row ty n rows =>
      simp only [ybm] at hnb;subst hnb;exact ⟨rfl,by simp,.inl ⟨rfl,rfl⟩⟩
 . intro id b hb
   have:=hh id;rw [hb] at this;obtain ⟨hob,j,hj,hsj⟩:=this;rcases hsj with hsj | hsj
   . obtain ⟨l,h1,h2,h3⟩:=hok.live j _ hsj
     refine ⟨l,by rw [hm id j hj];exact h1,zjt hm hnn hR hob h2,fun hl=>?_⟩;obtain ⟨h4,h5⟩:=h3 hl;refine ⟨?_,h5,?_⟩
     . rcases h4 with h4 | h4
       . exact .inl (hok.dom _ h4)
       . exact .inr h4
     . rintro ⟨id',l',blk,h6,h7,h8,h9⟩
       obtain ⟨-,⟨j',hj',hsj'⟩ | ⟨hj',-⟩⟩:=hlive id' blk h6
       . rw [hm id' j' hj'] at h7
         have:=hok.inj j j' _ _ l l' hsj hsj' h1 h7 hl h8 h9.symm;subst this;have:=hi id' id blk j h6 (by rw [hb];exact zaa.noConfusion) hj' hj;subst this;rw [hb] at h6;cases h6
       . rw [hnn id' hj'] at h7;cases h7;cases h8
   . obtain ⟨l,h1,h2,h3⟩:=hok.ro j _ hsj
     exact ⟨l,by rw [hm id j hj];exact h1,zjt hm hnn hR hob h2,fun hl=>hR _ (h3 hl)⟩
 . intro id id' b b' l l' h1 h2 h3 h4 h5 h6 h7
   obtain ⟨-,⟨j,hj,hsj⟩ | ⟨hj,-⟩⟩:=hlive id b h1
   . obtain ⟨-,⟨j',hj',hsj'⟩ | ⟨hj',-⟩⟩:=hlive id' b' h2
     . rw [hm id j hj] at h3
       rw [hm id' j' hj'] at h4;have:=hok.inj j j' _ _ l l' hsj hsj' h3 h4 h5 h6 h7;subst this;exact hi id id' b j h1 (by rw [h2];exact zaa.noConfusion) hj hj'
     . rw [hnn id' hj'] at h4;cases h4;cases h6
   . rw [hnn id hj] at h3;cases h3;cases h5
 . intro i
   rcases hs i with h1 | ⟨h1,h2⟩
   . rw [h1];simp only [zad]
   . refine zry hm hnn hR _ _ h1 ?_
     rw [h2];exact hc.slots i
 . obtain ⟨hmp,hml⟩:=hc.pin id l hp hl
   exact ⟨by rw [hpp];exact hmp,by rw [hm id id (hpin id hmp)];exact hml⟩
section
variable {m:zbt} {w:World} {R R':Nat->Prop}
theorem zrw {l:Loc} {t:TypeId} {n:Nat} {rows:List (List PV)} (hb:zfj m w R l (.row t n rows)) (hR:l.nil=false->R l.blk):zcs w R (.sl n rows) (hdr l):=by
 obtain ⟨h1,h2,h3⟩:=hb;rcases h3 with ⟨hn,h4⟩ | ⟨hn,h4,h5,arr,h6,h7,h8⟩
 . subst h4;rw [show hdr l=.slice none 0 0 by simp [hdr,hn]];exact .sl0 _ _ _ (by simp [maxLen])
 . rw [show hdr l=.slice (some ⟨l.blk,0,none⟩) rows.length l.cap by simp [hdr,hn,h1]]
   refine .sl n rows l.blk 0 l.cap (fun k=>(arr[k]?).getD undef) h4 h5 h2 (hR hn) (fun k x hk=>?_) (fun k x hk=>?_)
   . obtain ⟨cv,h9,_⟩:=h8 k x hk
     rw [zy40,cell_of_row w l.blk k arr t (0,0) h6,h9];rfl
   . obtain ⟨cv,h9,h10⟩:=h8 k x hk
     rw [h9];exact h10
mutual
theorem zyr {fz:List Nat} {H:Nat->zaa} (hR:∀ b,R b->R' b)
 (hf:∀ id t n rows,id∈fz->(H id=.live (.row t n rows)\/H id=.ro (.row t n rows))->∃ l,m id=some l/\zfj m w R l (.row t n rows)/\(l.nil=false->R' l.blk)) :
 (x:HV)->(v:Value)->zad m w R x v->zad m w R' (fzV fz H x) v
 | .own id,v,h=>by
  have hold:zad m w R' (.own id) v:=by simp only [zad] at h ⊢;exact h
  simp only [zad] at h;obtain ⟨l,h1,rfl⟩:=h;simp only [fzV];cases hm:fz.any (Nat.beq id) with
  | false=>exact hold
  | true =>
   have hin:id∈fz:=by
    obtain ⟨y,hy,he⟩:=zy60.1 hm;rw [zy0 he];exact hy
   have key:∀ t n rows,(H id=.live (.row t n rows)\/H id=.ro (.row t n rows))->zad m w R' (.p (.sl n rows)) (hdr l):=by
    intro t n rows hb;obtain ⟨l',h2,h3,h4⟩:=hf id t n rows hin hb;rw [h1] at h2;cases h2;simp only [zad];refine zrw (t:=t) (h3.mono (fun _ _ h=>h) (fun b hb=>⟨rfl,hR b hb⟩) fun _=>rfl) h4
   simp only [cond_true];split
   . rename_i hb;exact key _ _ _ (.inl hb)
   . rename_i hb;exact key _ _ _ (.inr hb)
   . exact hold
 | .agg l,v,h=>by
  simp only [fzV,zad] at h ⊢;obtain ⟨arr,h1,h2⟩:=h;exact ⟨arr,h1,zlu hR hf l _ h2⟩
 | .tup l,v,h=>by
  simp only [fzV,zad] at h ⊢;obtain ⟨arr,h1,h2⟩:=h;exact ⟨arr,h1,zlu hR hf l _ h2⟩
 | .p x,v,h=>zad.mono (fun _ _ h=>h) (fun b hb=>⟨rfl,hR b hb⟩) (.p x) v h
 | .ptr i o,v,h=>zad.mono (fun _ _ h=>h) (fun b hb=>⟨rfl,hR b hb⟩) (.ptr i o) v h
 | .eptr i n k o,v,h=>zad.mono (fun _ _ h=>h) (fun b hb=>⟨rfl,hR b hb⟩) (.eptr i n k o) v h
 | .rp c,v,h=>zad.mono (fun _ _ h=>h) (fun b hb=>⟨rfl,hR b hb⟩) (.rp c) v h
 | .osl i n o l,v,h=>zad.mono (fun _ _ h=>h) (fun b hb=>⟨rfl,hR b hb⟩) (.osl i n o l) v h
 | .mp i,v,h=>zad.mono (fun _ _ h=>h) (fun b hb=>⟨rfl,hR b hb⟩) (.mp i) v h
 | .clo f c,v,h=>zad.mono (fun _ _ h=>h) (fun b hb=>⟨rfl,hR b hb⟩) (.clo f c) v h
 | .und,v,h=>zad.mono (fun _ _ h=>h) (fun b hb=>⟨rfl,hR b hb⟩) .und v h
 | .any,v,h=>zad.mono (fun _ _ h=>h) (fun b hb=>⟨rfl,hR b hb⟩) .any v h
theorem zlu {fz:List Nat} {H:Nat->zaa} (hR:∀ b,R b->R' b)
 (hf:∀ id t n rows,id∈fz->(H id=.live (.row t n rows)\/H id=.ro (.row t n rows))->∃ l,m id=some l/\zfj m w R l (.row t n rows)/\(l.nil=false->R' l.blk)) :
 (x:List HV)->(v:List Value)->zae m w R x v->zae m w R' (fzL fz H x) v
 | [],v,h=>by simp only [fzL,zae] at h ⊢;exact h
 | x::xs,v,h=>by
  simp only [fzL,zae] at h ⊢;obtain ⟨a,r,h1,h2,h3⟩:=h;exact ⟨a,r,h1,zyr hR hf x a h2,zlu hR hf xs r h3⟩
end
theorem zkk {fz:List Nat} {H:Nat->zaa}:∀ (l:List HV),(fzL fz H l).length=l.length
 | []=>rfl
 | x::l=>by simp only [fzL,zy10,zkk l]
end
mutual
theorem zpi {H:Nat->zaa}:(x:HV)->fzV [] H x=x
 | .own id=>rfl
 | .agg l=>by simp only [fzV,zlt l]
 | .tup l=>by simp only [fzV,zlt l]
 | .p x=>rfl
 | .ptr i o=>rfl
 | .eptr i n k o=>rfl
 | .rp c=>rfl
 | .osl i n o l=>rfl
 | .mp i=>rfl
 | .clo f c=>rfl
 | .und=>rfl
 | .any=>rfl
theorem zlt {H:Nat->zaa}:(x:List HV)->fzL [] H x=x
 | []=>rfl
 | x::r=>by simp only [fzL,zpi x,zlt r]
end
theorem ztz (s:HS):fzS [] s=s:=by
 have h1:(fun i=>fzV [] s.heap (s.slot i))=s.slot:=funext fun i=>zpi _
 have h2:fzH [] s.heap=s.heap:=by
  funext id
  unfold fzH;split<;>rename_i h<;>rw [h]<;>first | rfl | (rw [zlt])
 unfold fzS;rw [h1,h2]
theorem zie {fz:List Nat} {H:Nat->zaa} {id:Nat} {b:zdf} (h:fzH fz H id=.live b):∃ c,H id=.live c:=by
 unfold fzH at h;split at h<;>first | (rename_i h1;exact ⟨_,h1⟩) | cases h
theorem zfb.fz {m:zbt} {s:HS} {a:Act} {w:World} (fz:List Nat) (hc:zfb Γ P m s a w):zfb Γ P m (fzS fz s) a w:=by
 have hok:=hc.heap;have hown:∀ b,zfz m (fzH fz s.heap) b->zfz m s.heap b:=by
  rintro b ⟨id,l,blk,h1,h2,h3,h4⟩;obtain ⟨c,hcc⟩:=zie h1;exact ⟨id,l,c,hcc,h2,h3,h4⟩
 have hR:∀ b,RR Γ m s.heap w b->RR Γ m (fzH fz s.heap) w b:=fun b hb=>⟨hb.1,hb.2.1,fun ho=>hb.2.2 (hown b ho)⟩
 have hfz:∀ id t n rows l,id∈fz->s.heap id=.live (.row t n rows)->m id=some l->l.nil=false->RR Γ m (fzH fz s.heap) w l.blk:=by
  intro id t n rows l hi hb hm hl;obtain ⟨l',h1,h2,h3⟩:=hok.live id _ hb;rw [hm] at h1;cases h1;obtain ⟨h4,h5⟩:=h3 hl;refine ⟨?_,h5,?_⟩
  . rcases h4 with h4 | h4
    . exact .inl (hok.dom _ h4)
    . exact .inr h4
  . rintro ⟨id',l',blk,h6,h7,h8,h9⟩
    obtain ⟨c,hcc⟩:=zie h6;have:=hok.inj id id' _ _ l l' hb hcc hm h7 hl h8 h9.symm;subst this;unfold fzH at h6;rw [hb] at h6;have hin:fz.any (Nat.beq id)=true:=zy60.2 ⟨id,hi,Nat.beq_refl id⟩;simp only [hin,cond_true] at h6;cases h6
 have hf:∀ id t n rows,id∈fz->(s.heap id=.live (.row t n rows)\/s.heap id=.ro (.row t n rows))->∃ l,m id=some l/\zfj m w (RR Γ m s.heap w) l (.row t n rows)/\(l.nil=false->RR Γ m (fzH fz s.heap) w l.blk):=by
  intro id t n rows hi hb;rcases hb with hb | hb
  . obtain ⟨l,h1,h2,h3⟩:=hok.live id _ hb
    exact ⟨l,h1,h2,fun hl=>hfz id t n rows l hi hb h1 hl⟩
  . obtain ⟨l,h1,h2,h3⟩:=hok.ro id _ hb
    exact ⟨l,h1,h2,fun hl=>hR _ (h3 hl)⟩
 have hB:∀ l b,zfj m w (RR Γ m s.heap w) l b->zfj m w (RR Γ m (fzH fz s.heap) w) l b:=fun l b h=>h.mono (fun _ _ h=>h) (fun b hb=>⟨rfl,hR b hb⟩) fun _=>rfl
 refine ⟨⟨hok.size,hok.os,hok.tape,hok.output,hok.frame,?_,?_,?_,?_,hok.dom⟩,fun t=>zyr hR hf _ _ (hc.slots t),hc.size,hc.defers,hc.pin⟩
 . intro id h
   refine hok.free id ?_;have h:fzH fz s.heap id=.free:=h;unfold fzH at h;split at h<;>first | assumption | cases h | skip
   rename_i t n rows hb;cases hx:fz.any (Nat.beq id)<;>simp only [hx,cond_true,cond_false] at h<;>cases h
 . intro id b h
   have h:fzH fz s.heap id=.live b:=h;unfold fzH at h;split at h
   . cases h
   . cases h
   . cases h
   . rename_i t n rows hb
     cases hx:fz.any (Nat.beq id)<;>simp only [hx,cond_true,cond_false] at h<;>cases h
     obtain ⟨l,h1,h2,h3⟩:=hok.live id _ hb;exact ⟨l,h1,hB _ _ h2,h3⟩
   . rename_i t cs hb
     cases h;obtain ⟨l,h1,h2,h3⟩:=hok.live id _ hb;obtain ⟨h4,arr,h5,h6⟩:=h2;exact ⟨l,h1,⟨by rw [zkk];exact h4,arr,h5,zlu hR hf _ _ h6⟩,h3⟩
   . rename_i hb
     exact yy20
   . rename_i hb
     exact yy20
   . rename_i hb
     exact yy20
 . intro id b h
   have h:fzH fz s.heap id=.ro b:=h;unfold fzH at h;split at h
   . cases h
   . cases h
   . rename_i hb
     cases h;obtain ⟨l,h1,h2,h3⟩:=hok.ro id _ hb;exact ⟨l,h1,hB _ _ h2,fun hl=>hR _ (h3 hl)⟩
   . rename_i t n rows hb
     cases hx:fz.any (Nat.beq id)<;>simp only [hx,cond_true,cond_false] at h<;>cases h
     have hin:id∈fz:=by
      obtain ⟨y,hy,he⟩:=zy60.1 hx;rw [zy0 he];exact hy
     obtain ⟨l,h1,h2,h3⟩:=hok.live id _ hb;exact ⟨l,h1,hB _ _ h2,fun hl=>hfz id t n rows l hin hb h1 hl⟩
   . cases h
   . cases h
   . cases h
   . cases h
 . intro id id' b b' l l' h1 h2
   obtain ⟨c,hc1⟩:=zie h1;obtain ⟨c',hc2⟩:=zie h2;exact hok.inj id id' c c' l l' hc1 hc2
theorem HLe.conc {m:zbt} {s t:HS} {a:Act} {w:World} (hc:zfb Γ P m s a w) (h:HLe s t):∃ m',zfb Γ P m' t a w:=by
 obtain ⟨fz,h⟩:=h;exact h.conc (hc.fz fz)
theorem zfb.drew {m:zbt} {s:HS} {a:Act} {w:World} (hc:zfb Γ P m s a w):zfb Γ P m s a {w with drawn:=w.drawn+1} :=
 ⟨hc.heap.drew,fun t=>(WS.drew hc.heap).rep (hc.slots t),hc.size,hc.defers,hc.pin⟩
theorem least {p:Nat->Prop} (h:∃ n,p n):∃ n,p n/\∀ k,p k->n<=k:=by
 obtain ⟨n,hn⟩:=h
 induction n using Nat.strongRecOn with
 | ind n ih =>
  by_cases hk:∃ k,k<n/\p k
  . obtain ⟨k,h1,h2⟩:=hk;exact ih k h1 h2
  . exact ⟨n,hn,fun k hp=>Nat.le_of_not_lt fun hlt=>hk ⟨k,hlt,hp⟩⟩
theorem zto {c:Code} {Q:Exit->Act->World->Prop} {a:Act} {w:World} {β:Type} (J:β->Act->World->Prop) (μ:β->Nat) (x₀:β) (h₀:J x₀ a w)
 (round:∀ x a w,J x a w->c.wp P (Exit.then (fun a' w'=>∃ x',J x' a' w'/\μ x'<μ x) Q) a w):(Code.loop c).wp P Q a w:=by
 have hex:∀ a w,(∃ x,J x a w)->∃ n,(∃ x,J x a w/\μ x=n)/\∀ k,(∃ x,J x a w/\μ x=k)->n<=k:=fun a w ⟨x,hx⟩=>least ⟨μ x,x,hx,rfl⟩
 let ν:Act->World->Nat:=fun a w=>open Classical in if h:∃ x,J x a w then Classical.choose (hex a w h) else 0
 refine wp_loop (fun a w=>∃ x,J x a w) ν ⟨x₀,h₀⟩ fun a w hI=>?_
 have hν:∀ a w (h:∃ x,J x a w),(∃ x,J x a w/\μ x=ν a w)/\∀ k,(∃ x,J x a w/\μ x=k)->ν a w<=k:=by
  intro a w h;have:=Classical.choose_spec (hex a w h);simp only [ν,dif_pos h];exact this
 obtain ⟨⟨x,hx,hxe⟩,-⟩:=hν a w hI;refine wp_mono (round x a w hx) fun e a' w' he=>?_
 cases e<;>simp only [Exit.then] at he ⊢<;>try exact he
 obtain ⟨x',hx',hlt⟩:=he;refine ⟨⟨x',hx'⟩,?_⟩;have:=(hν a' w' ⟨x',hx'⟩).2 _ ⟨x',hx',rfl⟩;omega
def zzd:HX->Exit
 | .normal=>.normal
 | .exit i=>.exit i
 | .ret=>.ret
theorem zuq (hm:P.follows .mixedOrders=true) (hC:zds P C) (hL:zcm C):∀ (c:Code) (s:HS) (Q:HX->HS->Prop) (Q':Exit->Act->World->Prop) (m:zbt) (a:Act) (w:World),
 hwp P C c s Q->zfb Γ P m s a w->(∀ e s' m' a' w',Q e s'->zfb Γ P m' s' a' w'->Q' (zzd e) a' w')->c.wp P Q' a w:=by
 intro c
 induction c with
 | skip=>intro s Q Q' m a w h hc hQ;exact wp_skip (hQ .normal s m a w h hc)
 | exit id=>intro s Q Q' m a w h hc hQ;exact wp_exit (hQ (.exit id) s m a w h hc)
 | ret=>intro s Q Q' m a w h hc hQ;exact wp_ret (hQ .ret s m a w h hc)
 | region id ops draw =>
  intro s Q Q' m a w h hc hQ;cases draw with
  | false =>
   replace h:zms P C ops.toList ops.toList s [] (fun _ s=>Q .normal s):=h;exact wp_region_list (zje hC ops.toList s [] _ m a w h hc fun labs s' m' a' w' hq hc'=>hQ .normal s' m' a' w' hq hc')
  | true =>
   replace h:(bif ops.toList.all fun o=>zkc o.op then zms P C ops.toList ops.toList s [] fun labs s'=>zud P s ops labs.reverse (Q .normal s') else False):=h;have hdet:(ops.toList.all fun o=>zkc o.op)=true:=by
    cases hb:(ops.toList.all fun o=>zkc o.op) with
    | true=>rfl
    | false=>rw [hb] at h;exact h.elim
   rw [hdet] at h;simp only [cond_true] at h;obtain ⟨labs,sEnd,hl,hev,hall,hq⟩:=zgw ops.toList s [] _ (fun o ho=>zy31.1 hdet o ho) h;simp only [zy45,List.reverse_reverse] at hall;obtain ⟨z,hup,hmay,hz⟩:∃ z:zyp P C ops (Mem ops labs),zeg 0 ops.toList=true/\ybz z/\z.Z s:=by
    rcases hall with hall | ⟨ex,hall,hst⟩
    . exact ⟨zoh P C ops _,zyb hall,zvp hall,trivial⟩
    . exact ⟨zqw P C s ops labs,zzk hall,zwt hall hst,zns s ops labs⟩
   refine wp_region_any hm (yax hC hL hup z hmay (fun m' a' w' hc'=>hQ .normal sEnd m' a' w' hq hc') ops.size _ (zog 0 ops.toList labs) s m a _ ?_ ?_ (by rw [zmj];exact hev) hz hc.drew)
   . refine ⟨fun i o l hi=>?_,fun j=>?_,zjr _ _ _,fun k o ho hk=>?_,by simp⟩
     . obtain ⟨-,h1,h2⟩:=zij hi
       exact ⟨by simpa using h1,by simpa using h2⟩
     . constructor
       . intro hj
         have hlt:j<ops.size:=by
          rcases zy52 j ops.size with h' | h'
          . exact h'
          . simp [h'] at hj
         have:=zrx (k:=0) (os:=ops.toList) (ls:=labs) (i:=j) hl (by simpa using hlt)
         simpa using this
       . intro hj
         obtain ⟨⟨i,o,l⟩,hi,rfl⟩:=zy8.1 hj;obtain ⟨-,h1,-⟩:=zij hi;have:i<ops.size:=by
          have:=(zy16.1 h1).1
          simpa using this
         simp [this]
     . exfalso
       have:k<ops.size:=(zy20.1 ho).1;simp [this] at hk
   . have:((zog 0 ops.toList labs).map (·.2)).length=ops.size:=by rw [zmj];simp [hl]
     simp only [zy6] at this;omega
 | seq x y ihx ihy =>
  intro s Q Q' m a w h hc hQ;replace h:(bif zuu x then zyu (hwp P C x) (hwp P C y) else ybj (hwp P C x) (hwp P C y)) s Q:=h;have hseq:(hwp P C x) s (fun e s'=>match e with
   | .normal=>hwp P C y s' Q
   | .exit id=>Q (.exit id) s'
   | .ret=>Q .ret s')->(Code.seq x y).wp P Q' a w:=by
   intro h;refine wp_seq (ihx s _ _ m a w h hc fun e s' m' a' w' he hc'=>?_);cases e with
   | normal=>exact ihy s' Q Q' m' a' w' he hc' hQ
   | exit i=>exact hQ (.exit i) s' m' a' w' he hc'
   | ret=>exact hQ .ret s' m' a' w' he hc'
  cases hb:zuu x with
  | false =>
   rw [hb] at h;exact hseq h
  | true =>
   rw [hb] at h;cases h with
   | go h=>exact hseq h
   | meet α I h k =>
    refine wp_seq (ihx s _ _ m a w h hc fun e s' m' a' w' he hc'=>?_);cases e with
    | normal =>
     obtain ⟨x',hle⟩:=he;obtain ⟨m2,hc2⟩:=hle.conc hc';exact ihy (I x') Q Q' m2 a' w' (k x') hc2 hQ
    | exit i=>exact hQ (.exit i) s' m' a' w' he hc'
    | ret=>exact hQ .ret s' m' a' w' he hc'
 | cond x t e iht ihe =>
  intro s Q Q' m a w h hc hQ;replace h:zup x (hwp P C t) (hwp P C e) s Q:=h;simp only [zup] at h;split at h
  . rename_i b hb
    have hv:=hc.eval x;rw [hb] at hv;have hbv:=zcv hv;rcases zdi h with ⟨rfl,h2⟩ | ⟨rfl,h2⟩
    . exact wp_cond_true hbv (iht s Q Q' m a w h2 hc hQ)
    . exact wp_cond_false hbv (ihe s Q Q' m a w h2 hc hQ)
  . exact h.elim
 | block id c ih =>
  intro s Q Q' m a w h hc hQ;replace h:zpu id (hwp P C c) s Q:=h;simp only [zpu] at h;refine wp_block (ih s _ _ m a w h hc fun e s' m' a' w' he hc'=>?_);cases e with
  | normal=>exact hQ .normal s' m' a' w' he hc'
  | exit i =>
   simp only [zzd,Exit.inBlock];simp only at he;cases hb:Nat.beq i id with
   | true =>
    rw [hb] at he;rw [zy12 (zy0 hb)];exact hQ .normal s' m' a' w' he hc'
   | false =>
    rw [hb] at he;rw [zy14 (fun e=>by subst e;simp at hb)];exact hQ (.exit i) s' m' a' w' he hc'
  | ret=>exact hQ .ret s' m' a' w' he hc'
 | loop c ih =>
  intro s Q Q' m a w h hc hQ;replace h:ybg (hwp P C c) s Q:=h;obtain ⟨α,I,μ,x₀,h0,hr⟩:=h;obtain ⟨m0,hc0⟩:=h0.conc hc;refine zto (fun x a w=>∃ m,zfb Γ P m (I x) a w) μ x₀ ⟨m0,hc0⟩ fun x a w ⟨m,hc⟩=>?_
  refine ih (I x) _ _ m a w (hr x) hc fun e s' m' a' w' he hc'=>?_
  cases e with
  | normal =>
   obtain ⟨x',hle,hlt⟩:=he;obtain ⟨m2,hc2⟩:=hle.conc hc';exact ⟨x',⟨m2,hc2⟩,hlt⟩
  | exit i=>exact hQ (.exit i) s' m' a' w' he hc'
  | ret=>exact hQ .ret s' m' a' w' he hc'
 | _=>intro s Q Q' m a w h;exact h.elim
end
end Go.HL
namespace Go.HL
mutual
def zcf (H:Nat->zaa):HV->(HV->List (Nat×zaa)->Prop)->Prop
 | .p x,K=>K (.p x) []
 | .rp c,K=>K (.rp c) []
 | .und,K=>K .und []
 | .any,K=>K .any []
 | .own id,K=>hpv H (.own id) fun v us=>K (.p v) us
 | .osl id n off len,K=>zau (H id) fun b=>match b with
  | .row t n' rows=>bif Nat.beq n n' then zkb rows off len fun rs=>K (.p (.sl n rs)) [(id,.ro (.row t n' rows))] else False
  | _=>False
 | .ptr id off,K=>zau (H id) fun b=>match b with
  | .cells t cs=>zpo H cs fun ps us=>K (.rp (ps.drop off)) ((id,.ro (.cells t cs))::us)
  | _=>False
 | .eptr id n i off,K=>zau (H id) fun b=>match b with
  | .row t n' rows=>bif Nat.beq n n' then zdq rows i fun r=>K (.rp (r.drop off)) [(id,.ro (.row t n' rows))] else False
  | _=>False
 | .mp _,_=>False
 | .agg l,K=>zch H l fun l us=>K (.agg l) us
 | .tup l,K=>zch H l fun l us=>K (.tup l) us
 | .clo f l,K=>zch H l fun l us=>K (.clo f l) us
def zch (H:Nat->zaa):List HV->(List HV->List (Nat×zaa)->Prop)->Prop
 | [],K=>K [] []
 | x::xs,K=>zcf H x fun y u=>zch H xs fun ys us=>K (y::ys) (u++us)
end
def zve (o:Option Nat):HV->HV
 | .p x=>.p (znz o x)
 | x=>x
def zjo:List (Option Nat)->List HV->List HV
 | _,[]=>[]
 | [],xs=>xs
 | o::os,x::xs=>zve o x::zjo os xs
def zny (P:Program) (t:TypeId) (x:HV):HV:=match x with
 | .p x=>match lay P t with
  | o::_=>.p (znz o x)
  | []=>.p x
 | .agg l=>.agg (zjo (lay P t) l)
 | x=>x
def normArgs (P:Program):List TypeId->List HV->List HV
 | _,[]=>[]
 | [],xs=>xs
 | t::ts,x::xs=>zny P t x::normArgs P ts xs
def zft (P:Program) (ts:List TypeId) (x:HV):HV:=match ts with
 | [t]=>zny P t x
 | ts=>match x with
  | .tup l=>.tup (normArgs P ts l)
  | x=>x
def zmi (P:Program) (f:FuncId):List TypeId:=match P.funcs[f]? with
 | some fn=>fn.params.toList
 | none=>[]
mutual
def ziz:HV->(HV->Prop)->Prop
 | .p x,K=>match x with
  | .v a=>K (.p (.v a))
  | .sl n r=>K (.p (.sl n r))
 | .ptr i o,K=>K (.ptr i o)
 | .eptr i n j o,K=>K (.eptr i n j o)
 | .rp c,K=>K (.rp c)
 | .own i,K=>K (.own i)
 | .osl i n o l,K=>K (.osl i n o l)
 | .mp i,K=>K (.mp i)
 | .agg l,K=>zdo l fun l=>K (.agg l)
 | .tup l,K=>zdo l fun l=>K (.tup l)
 | .clo f l,K=>zdo l fun l=>K (.clo f l)
 | .und,K=>K .und
 | .any,K=>K .any
def zdo:List HV->(List HV->Prop)->Prop
 | [],K=>K []
 | x::xs,K=>ziz x fun y=>zdo xs fun ys=>K (y::ys)
end
mutual
theorem zja:(x:HV)->(K:HV->Prop)->ziz x K=K x
 | .p x,K=>by cases x<;>rfl
 | .ptr i o,K=>rfl
 | .eptr i n j o,K=>rfl
 | .rp c,K=>rfl
 | .own i,K=>rfl
 | .osl i n o l,K=>rfl
 | .mp i,K=>rfl
 | .agg l,K=>by simp only [ziz,zcd l]
 | .tup l,K=>by simp only [ziz,zcd l]
 | .clo f l,K=>by simp only [ziz,zcd l]
 | .und,K=>rfl
 | .any,K=>rfl
theorem zcd:(l:List HV)->(K:List HV->Prop)->zdo l K=K l
 | [],K=>rfl
 | x::xs,K=>by simp only [zdo,zja x,zcd xs]
end
section
variable {P:Program} {m:zbt} {w:World} {R:Nat->Prop}
theorem zad.zve (o:Option Nat) {x:HV} {v:Value} (h:zad m w R x v):zad m w R (zve o x) v:=by
 cases x<;>try exact h
 simp only [zad,Go.HL.zve] at h ⊢;exact h.norm o
theorem zae.zjo:∀ (os:List (Option Nat)) {xs:List HV} {vs:List Value},zae m w R xs vs->zae m w R (zjo os xs) vs
 | os,[],vs,h=>by cases os<;>exact h
 | [],x::xs,vs,h=>h
 | o::os,x::xs,vs,h=>by
  simp only [zae,Go.HL.zjo] at h ⊢;obtain ⟨v,r,h1,h2,h3⟩:=h;exact ⟨v,r,h1,h2.zve o,zae.zjo os h3⟩
theorem zad.zny (t:TypeId) {x:HV} {v:Value} (h:zad m w R x v):zad m w R (zny P t x) v:=by
 cases x<;>try exact h
 . simp only [Go.HL.zny]
   split
   . simp only [zad] at h ⊢
     exact h.norm _
   . exact h
 . simp only [Go.HL.zny,zad] at h ⊢
   obtain ⟨arr,h1,h2⟩:=h;exact ⟨arr,h1,h2.zjo _⟩
theorem zae.normArgs:∀ (ts:List TypeId) {xs:List HV} {vs:List Value},zae m w R xs vs->zae m w R (normArgs P ts xs) vs
 | ts,[],vs,h=>by cases ts<;>exact h
 | [],x::xs,vs,h=>h
 | t::ts,x::xs,vs,h=>by
  simp only [zae,Go.HL.normArgs] at h ⊢;obtain ⟨v,r,h1,h2,h3⟩:=h;exact ⟨v,r,h1,h2.zny t,zae.normArgs ts h3⟩
theorem zad.zft (ts:List TypeId) {x:HV} {v:Value} (h:zad m w R x v):zad m w R (zft P ts x) v:=by
 unfold Go.HL.zft;split
 . exact h.zny _
 . split
   . simp only [zad] at h ⊢
     obtain ⟨arr,h1,h2⟩:=h;exact ⟨arr,h1,h2.normArgs _⟩
   . exact h
end
section
variable {Γ:Ctx} {P:Program} {C:zaj} {m:zbt} {H:Nat->zaa} {w:World} {R:Nat->Prop}
theorem zxz {l:Loc} {t:TypeId} {n off len c:Nat} {a:Option Addr} {rows:List (List PV)} (hb:zfj m w R l (.row t n rows)) (hR:l.nil=false->R l.blk) (hle:off+len<=rows.length) (hc:len<=c) (hm:c<=maxLen)
 (ha:len≠0->l.nil=false/\a=some ⟨l.blk,off*n,none⟩):zcs w R (.sl n ((rows.drop off).take len)) (.slice a len c):=by
 have hlen:((rows.drop off).take len).length=len:=by simp;omega
 by_cases h0:len=0
 . subst h0;simp only [List.take_zero];exact .sl0 _ _ _ hm
 . obtain ⟨hn,rfl⟩:=ha h0
   have hlens:=hb.2.1;have zkb:∀ r∈(rows.drop off).take len,r.length=n:=fun r hr=>hlens r (zy67 (zy42 hr))
   have hcell:∀ k x,((rows.drop off).take len).flatten[k]?=some x->∃ cv,w.cell? ⟨l.blk,off*n+k,none⟩=some cv/\zcs w R x cv:=by
    intro k x hk;obtain ⟨i,j,r,e,hj,hr,hx⟩:=zbv zkb hk;have hr':rows[off+i]?=some r:=by
     rw [zy23] at hr;split at hr
     . rw [zy29] at hr;exact hr
     . cases hr
    obtain ⟨cv,h1,h2⟩:=zea hb hn _ x (zaz hlens hr' hx);refine ⟨cv,?_,h2⟩;rw [<- h1];congr 2;subst e;rw [zy17];omega
   have h2:=zcs.sl (w:=w) (R:=R) n ((rows.drop off).take len) l.blk (off*n) c (fun k=>(w.cell? ⟨l.blk,off*n+k,none⟩).getD undef) zz0 hm zkb (hR hn)
    (fun k x hk=>by obtain ⟨cv,h1,_⟩:=hcell k x hk;simp only [h1];rfl) (fun k x hk=>by obtain ⟨cv,h1,h2⟩:=hcell k x hk;simp only [h1];exact h2)
   rw [hlen] at h2;exact h2
def Kept (m:zbt) (w:World) (R:Nat->Prop) (us:List (Nat×zaa)):Prop:=∀ e∈us,∃ b l,e.2=.ro b/\m e.1=some l/\zfj m w R l b/\(l.nil=false->R l.blk)
theorem Kept.left {us vs:List (Nat×zaa)} (h:Kept m w R (us++vs)):Kept m w R us:=fun e he=>h e zz40
theorem Kept.right {us vs:List (Nat×zaa)} (h:Kept m w R (us++vs)):Kept m w R vs:=fun e he=>h e zz40
theorem zet:Frz H []:=by intro e he;cases he
theorem zls {id:Nat} {b:zdf} (hb:H id=.live b\/H id=.ro b):Frz H [(id,.ro b)]:=by
 intro e he;simp at he;subst he;exact ⟨b,hb,rfl⟩
theorem zfp {id:Nat} {b:zdf} (hb:H id=.live b\/H id=.ro b) {H':Nat->zaa} (he:H' id=H id) {K:zdf->Prop} (hk:K b):zau (H' id) K:=by
 unfold zau;rw [he];rcases hb with hb | hb<;>rw [hb]<;>exact hk
theorem zrk {x:HV} {K:PV->List (Nat×zaa)->Prop} (h:hpv H x K):∃ y us,K y us/\Frz H us/\(∀ m w R v,Kept m w R us->zad m w R x v->zcs w R y v) /\
 ∀ H',(∀ id∈us.map (·.1),H' id=H id)->∀ K':PV->List (Nat×zaa)->Prop,K' y us->hpv H' x K':=by
 unfold hpv at h;split at h
 . exact ⟨_,_,h,zet,fun m w R v _ hx=>by simp only [zad] at hx;exact hx,fun H' _ K' hk=>hk⟩
 . rename_i id
   have key:∀ t n rows,(H id=.live (.row t n rows)\/H id=.ro (.row t n rows))->K (.sl n rows) [(id,.ro (.row t n rows))] ->
    ∃ y us,K y us/\Frz H us/\(∀ m w R v,Kept m w R us->zad m w R (.own id) v->zcs w R y v) /\
   ∀ H',(∀ id∈us.map (·.1),H' id=H id)->∀ K':PV->List (Nat×zaa)->Prop,K' y us->hpv H' (.own id) K':=by
    intro t n rows hb hK;refine ⟨_,_,hK,zls hb,fun m w R v hk hx=>?_,fun H' he K' hk=>?_⟩
    . obtain ⟨b,l,h1,h2,h3,h4⟩:=hk _ (zy49.2 rfl)
      cases h1;simp only [zad] at hx;obtain ⟨l',h5,rfl⟩:=hx;simp only at h2;rw [h2] at h5;cases h5;exact zrw h3 h4
    . simp only [hpv]
      rw [he id (by simp)];rcases hb with hb | hb<;>rw [hb]<;>exact hk
   exact yy25
 . exact h.elim
theorem znm:∀ {xs:List HV} {K:List PV->List (Nat×zaa)->Prop},zpo H xs K->∃ ys us,K ys us/\Frz H us/\(∀ m w R vs,Kept m w R us->zae m w R xs vs->zbo w R ys vs) /\
 ∀ H',(∀ id∈us.map (·.1),H' id=H id)->∀ K':List PV->List (Nat×zaa)->Prop,K' ys us->zpo H' xs K'
 | [],K,h=>⟨[],[],h,zet,fun m w R vs _ hx=>by simp only [zae] at hx;subst hx;exact .nil,fun H' _ K' hk=>hk⟩
 | x::xs,K,h=>by
  simp only [zpo] at h;obtain ⟨y,u,h1,h2,h3,h3'⟩:=zrk h;obtain ⟨ys,us,h4,h5,h6,h6'⟩:=znm h1;refine ⟨_,_,h4,h2.append h5,fun m w R vs hk hx=>?_,fun H' he K' hk=>?_⟩
  . simp only [zae] at hx
    obtain ⟨v,r,rfl,h7,h8⟩:=hx;exact .cons (h3 m w R v hk.left h7) (h6 m w R r hk.right h8)
  . simp only [zpo]
    exact h3' H' (fun id hi=>he id zz27) _ (h6' H' (fun id hi=>he id zz22) _ hk)
abbrev zia:Ren:=fun _=>none
structure View (H:Nat->zaa) (x y:HV) (us:List (Nat×zaa)):Prop where
 frz:Frz H us
 rep:∀ m w R v,Kept m w R us->zad m w R x v->zad m w R y v
 noid:zdr zia y=true
 loc:∀ H',(∀ id∈us.map (·.1),H' id=H id)->∀ K':HV->List (Nat×zaa)->Prop,K' y us->zcf H' x K'
structure yce (H:Nat->zaa) (x y:List HV) (us:List (Nat×zaa)):Prop where
 frz:Frz H us
 rep:∀ m w R v,Kept m w R us->zae m w R x v->zae m w R y v
 noid:zfw zia y=true
 loc:∀ H',(∀ id∈us.map (·.1),H' id=H id)->∀ K':List HV->List (Nat×zaa)->Prop,K' y us->zch H' x K'
mutual
theorem zdz:(x:HV)->{K:HV->List (Nat×zaa)->Prop}->zcf H x K->∃ y us,K y us/\View H x y us
 | .p x,K,h=>by simp only [zcf] at h;exact ⟨_,_,h,zet,fun _ _ _ _ _ h=>h,rfl,fun H' _ K' hk=>by simp only [zcf];exact hk⟩
 | .rp x,K,h=>by simp only [zcf] at h;exact ⟨_,_,h,zet,fun _ _ _ _ _ h=>h,rfl,fun H' _ K' hk=>by simp only [zcf];exact hk⟩
 | .und,K,h=>by simp only [zcf] at h;exact ⟨_,_,h,zet,fun _ _ _ _ _ h=>h,rfl,fun H' _ K' hk=>by simp only [zcf];exact hk⟩
 | .any,K,h=>by simp only [zcf] at h;exact ⟨_,_,h,zet,fun _ _ _ _ _ h=>h,rfl,fun H' _ K' hk=>by simp only [zcf];exact hk⟩
 | .own id,K,h=>by
  simp only [zcf] at h;obtain ⟨y,us,h1,h2,h3,h4⟩:=zrk h;exact ⟨_,_,h1,h2,fun m w R v hk hx=>by simp only [zad];exact h3 m w R v hk hx,rfl,fun H' he K' hk=>by simp only [zcf];exact h4 H' he _ hk⟩
 | .osl id n off len,K,h=>by
  simp only [zcf] at h;obtain ⟨b,hb,h⟩:=zaq h;split at h
  . rename_i t n' rows
    have h2:=zab h;clear h;obtain ⟨hnb,rs,hrs,hle,hk⟩:=h2;have hnn:=zy0 hnb;subst hnn;subst hrs;refine ⟨_,_,hk,zls hb,fun m w R v hkp hx=>?_,rfl,fun H' he K' hk=>?_⟩
    . obtain ⟨b',l,h1,h2,h3,h4⟩:=hkp _ (zy49.2 rfl)
      cases h1;obtain ⟨l',a,c,h5,h6,h7,h8,rfl,h9⟩:=zhg hx;simp only [zad];simp only at h2;rw [h2] at h5;cases h5;exact zxz h3 h4 hle h7 h8 h9
    . simp only [zcf]
      refine zfp hb (he id zz1) ?_;simp only [hnb,cond_true];exact ⟨_,rfl,hle,hk⟩
  . exact h.elim
 | .ptr id off,K,h=>by
  simp only [zcf] at h;obtain ⟨b,hb,h⟩:=zaq h;split at h
  . rename_i t cs
    obtain ⟨ys,us,h1,h2,h3,h3'⟩:=znm h;refine ⟨_,_,h1,(zls hb).append h2,fun m w R v hkp hx=>?_,rfl,fun H' he K' hk=>?_⟩
    . obtain ⟨b',l,h4,h5,h6,h7⟩:=hkp (id,.ro (.cells t cs)) zz1
      cases h4;simp only [zad] at hx ⊢;obtain ⟨l',h8,h9,rfl⟩:=hx;simp only at h5;rw [h5] at h8;cases h8;obtain ⟨-,arr,h10,h11⟩:=h6;have hpl:=h3 m w R _ (fun e he=>hkp e zz40) h11;refine ⟨l.blk,off,rfl,fun _=>h7 h9,fun k x hk=>?_⟩;rw [zy29] at hk;obtain ⟨v,hv,hp⟩:=hpl.get _ _ hk;exact ⟨v,by rw [cell_of_row w l.blk _ arr t (0,0) h10];simpa using hv,hp⟩
    . simp only [zcf]
      exact zfp hb (he id zz1) (h3' H' (fun i hi=>he i zz22) _ hk)
  . exact h.elim
 | .eptr id n i off,K,h=>by
  simp only [zcf] at h;obtain ⟨b,hb,h⟩:=zaq h;split at h
  . rename_i t n' rows
    have h2:=zab h;clear h;obtain ⟨hnb,r,h0,hr,hk⟩:=h2;have hnn:=zy0 hnb;subst hnn;refine ⟨_,_,hk,zls hb,fun m w R v hkp hx=>?_,rfl,fun H' he K' hk=>?_⟩
    . obtain ⟨b',l,h1,h2,h3,h4⟩:=hkp _ (zy49.2 rfl)
      cases h1;simp only [zad] at hx ⊢;obtain ⟨l',h5,h6,rfl⟩:=hx;simp only at h2;rw [h2] at h5;cases h5;refine ⟨l.blk,i*n+off,rfl,fun _=>h4 h6,fun k x hk=>?_⟩;rw [zy29] at hk;obtain ⟨cv,h7,h8⟩:=zea h3 h6 _ x (zaz h3.2.1 zz37 hk);exact ⟨cv,by rw [<- h7];congr 2;omega,h8⟩
    . simp only [zcf]
      refine zfp hb (he id zz1) ?_;simp only [hnb,cond_true];exact ⟨r,h0,hr,hk⟩
  . exact h.elim
 | .mp id,K,h=>by simp only [zcf] at h
 | .agg l,K,h=>by
  exact yy1
 | .tup l,K,h=>by
  exact yy1
 | .clo f l,K,h=>by
  exact yy1
theorem zbi:(xs:List HV)->{K:List HV->List (Nat×zaa)->Prop}->zch H xs K->∃ ys us,K ys us/\yce H xs ys us
 | [],K,h=>by simp only [zch] at h;exact ⟨_,_,h,zet,fun _ _ _ _ _ h=>h,rfl,fun H' _ K' hk=>by simp only [zch];exact hk⟩
 | x::xs,K,h=>by
  simp only [zch] at h;obtain ⟨y,u,h1,h2,h3,h3',h3''⟩:=zdz x h;obtain ⟨ys,us,h4,h5,h6,h6',h6''⟩:=zbi xs h1;refine ⟨_,_,h4,h2.append h5,fun m w R vs hk hx=>?_,by simp only [zfw,h3',h6',Bool.and_self],fun H' he K' hk=>?_⟩
  . simp only [zae] at hx ⊢
    obtain ⟨v,r,rfl,h7,h8⟩:=hx;exact ⟨v,r,rfl,h3 m w R v hk.left h7,h6 m w R r hk.right h8⟩
  . simp only [zch]
    exact h3'' H' (fun i hi=>he i zz27) _ (h6'' H' (fun i hi=>he i zz22) _ hk)
end
theorem ybb {us:List (Nat×zaa)} (hf:Frz H us) {e:Nat×zaa} (he:e∈us):zbe H us e.1=e.2:=by
 induction us generalizing H with
 | nil=>cases he
 | cons q a ih =>
  obtain ⟨j,z⟩:=q;have hfu:=Frz.upd (e:=(j,z)) hf;by_cases hm:e∈a
  . exact ih hfu hm
  . rcases zy3.1 he with rfl | he
    . by_cases hj:∃ q∈a,q.1=j
      . obtain ⟨q,hq,hqj⟩:=hj
        obtain ⟨b,hb,hb2⟩:=hfu q hq;simp only at hb;rw [hqj,zaf] at hb;obtain ⟨c,_,hc⟩:=hf (j,z) zz1;simp only at hc;subst hc;have hbc:c=b:=by rcases hb with hb | hb<;>cases hb;rfl
        subst hbc;have gen:∀ {us:List (Nat×zaa)} {H:Nat->zaa},Frz H us->H j=.ro c->zbe H us j=.ro c:=by
         intro us
         induction us with
         | nil=>intro H _ h;exact h
         | cons p us ih2 =>
          intro H hf h;obtain ⟨k,y⟩:=p;refine ih2 (H:=upd H k y) (Frz.upd (e:=(k,y)) hf) ?_;by_cases hk:j=k
          . subst hk
            obtain ⟨d,hd,hd2⟩:=hf (j,y) zz1;simp only at hd hd2;rw [h] at hd;rcases hd with hd | hd<;>cases hd
            rw [zaf];exact hd2
          . rw [zai _ _ hk];exact h
        exact gen (us:=a) (H:=upd H j (.ro c)) hfu (zaf _ _ _)
      . exact (zhm (H:=upd H j z) (us:=a) fun q hq h=>hj ⟨q,hq,h⟩).trans (zaf _ _ _)
    . exact absurd he hm
theorem WS.kept {us:List (Nat×zaa)} (hf:Frz H us) (hok:zag Γ m (zbe H us) w):Kept m w (RR Γ m (zbe H us) w) us:=by
 intro e he;obtain ⟨b,_,hb⟩:=hf e he;obtain ⟨l,h1,h2,h3⟩:=hok.ro e.1 b (by rw [ybb hf he,hb]);exact ⟨b,l,hb,h1,h2,h3⟩
def zla (tmps:Array Value):ResultVar->Sem Value
 | .tmp t=>pure (tmps.getD t undef)
 | .cell a t=>do loadVar t (<- asAddr (tmps.getD a undef))
theorem zrl {s:HS} {a:Act} (hc:zfb Γ P m s a w) {r:ResultVar} {K:HV->Prop} (h:zul P s r K):∃ x v,K x/\zad m w (RR Γ m s.heap w) x v/\(zla a.tmps r).run P w=.ok v w:=by
 cases r with
 | tmp t =>
  simp only [zul,force_eq] at h;exact ⟨_,_,h,hc.slots t,by simp [zla]⟩
 | cell x t =>
  simp only [zul] at h;obtain ⟨td,u,i,z,ht,h⟩:=zbn h;split at h
  . rename_i id off hx
    have hrep:=hc.slots x;rw [hx] at hrep;simp only [zad] at hrep;obtain ⟨l,hl,hn,hv⟩:=hrep;obtain ⟨b,hb,h⟩:=zaq h;obtain ⟨l',hl',hbr⟩:=hc.heap.blk hb;rw [hl] at hl';cases hl';split at h
    . rename_i t' cs
      obtain ⟨_,arr,harr,hrl⟩:=hbr;obtain ⟨y,us,hk,hus,huc,hrep⟩:=zgi hrl h;refine ⟨_,_,hk,hrep,?_⟩;have:=run_read (P:=P) ht (b:=l.blk) (o:=off) (cs:=us) (w:=w) (fun k v hkv=>by rw [cell_of_row w l.blk _ arr t' (0,0) harr];simpa using huc k v hkv) hus;simp only [Instr.loadAt,Instr.sureAddr] at this;simp only [zla,hv,asAddr];exact this
    . exact h.elim
  . exact h.elim
theorem zrm {s:HS} {a:Act} (hc:zfb Γ P m s a w):∀ {rs:List ResultVar} {K:List HV->Prop},zxb P s rs K->∃ xs vs,K xs/\zae m w (RR Γ m s.heap w) xs vs/\xs.length=rs.length/\(rs.mapM (zla a.tmps)).run P w=.ok vs w
 | [],K,h=>⟨[],[],h,by simp only [zae],rfl,by simp [Sem.run]⟩
 | r::rs,K,h=>by
  simp only [zxb] at h;obtain ⟨x,v,h1,h2,h3⟩:=zrl hc h;obtain ⟨xs,vs,h4,h5,h6,h7⟩:=zrm hc h1;refine ⟨_,v::vs,h4,by simp only [zae];exact ⟨v,vs,rfl,h2,h5⟩,by simp [h6],?_⟩;simp only [List.mapM_cons,Sem.run_bind,h3,Result.andThen_ok,h7,Sem.run_pure]
theorem zzs {s:HS} {a:Act} (hc:zfb Γ P m s a w) {fn:Func} {K:HV->Prop} (h:ycb P s fn.results.toList K):∃ x v,K x/\zad m w (RR Γ m s.heap w) x v/\(results fn a.tmps).run P w=.ok v w:=by
 have hre:results fn a.tmps=(do
  let vs <- fn.results.mapM (zla a.tmps)
  pure (if h:vs.size=1 then vs[0] else .tuple vs)):=by
  unfold results;congr 1
 have zbq:∀ {vs:List Value},(fn.results.toList.mapM (zla a.tmps)).run P w=.ok vs w->(results fn a.tmps).run P w=.ok (if h:vs.toArray.size=1 then vs.toArray[0] else .tuple vs.toArray) w:=by
  intro vs hv;rw [hre,Array.mapM_eq_mapM_toList];simp only [Sem.run_bind,Sem.run_map,hv,Result.andThen_ok,Sem.run_pure]
 unfold ycb at h;split at h
 . rename_i r hr
   obtain ⟨x,v,h1,h2,h3⟩:=zrl hc h;refine ⟨x,v,h1,h2,?_⟩;have:=zbq (vs:=[v]) (by rw [hr];simp only [List.mapM_cons,List.mapM_nil,Sem.run_bind,h3,Result.andThen_ok,Sem.run_pure])
   simpa using this
 . rename_i rs hn
   obtain ⟨xs,vs,h1,h2,h3,h4⟩:=zrm hc h;refine ⟨_,.tuple vs.toArray,h1,by simp only [zad];exact ⟨_,rfl,by simpa using h2⟩,?_⟩;rw [zbq h4,dif_neg];have hl:=h2.length;intro h5;have h6:fn.results.toList.length=1:=by rw [<- h3,<- hl];simpa using h5
   match hr:fn.results.toList,h6 with
   | [r],_=>exact hn r hr
end
end Go.HL
namespace Go.HL
def zbl (P:Program) (f:FuncId) (args:List HV) (H:Nat->zaa) (r:HV) (H':Nat->zaa):Prop :=
 ∀ (Γ:Ctx) m w vals,zag Γ m H w->zae m w (RR Γ m H w) args vals->Γ.m0=m ->
  (callFunc f vals.toArray).run P w=.ok (.enter f vals.toArray) w /\
  Calls P f vals.toArray w fun e w'=>∃ v m',e=.returned v/\zag Γ m' H' w'/\zad m' w' (RR Γ m' H' w') r v/\∀ id l,pin<=id->m id=some l->m' id=some l
theorem zbl.args {P:Program} {f:FuncId} {args args':List HV} {H:Nat->zaa} {r:HV} {H':Nat->zaa} (hw:∀ (m:zbt) w R vals,zae m w R args vals->zae m w R args' vals) (h:zbl P f args' H r H'):zbl P f args H r H' :=
 fun Γ m w vals hok hx h0=>h Γ m w vals hok (hw _ _ _ _ hx) h0
abbrev zam:Nat->zaa:=fun _=>.free
mutual
def zoo:HV->Bool
 | .p (.v _)=>true
 | .agg l=>zvx l
 | .tup l=>zvx l
 | .und=>true
 | _=>false
def zvx:List HV->Bool
 | []=>true
 | x::r=>zoo x&&zvx r
end
def zeq (H:Nat->zaa):List Bool->List HV->(List HV->List (Nat×zaa)->Prop)->Prop
 | _,[],K=>K [] []
 | [],x::xs,K=>zeq H [] xs fun ys us=>K (x::ys) us
 | true::ms,x::xs,K=>zcf H x fun y u=>zeq H ms xs fun ys us=>K (y::ys) (u++us)
 | false::ms,x::xs,K=>zeq H ms xs fun ys us=>K (x::ys) us
def ren (L:List (Nat×Nat)):Ren:=lkN (L.map fun p=>(p.1,some p.2))
def rnS (σ:Ren):zaa->zaa
 | .live b=>.live (rnB σ b)
 | .ro b=>.ro (rnB σ b)
 | x=>x
def yak (σ:Ren):zaa->Bool
 | .live b=>zfv σ b
 | .ro b=>zfv σ b
 | .dead=>true
 | .free=>false
structure ycp (P:Program) (f:FuncId) (args:List HV) (H:Nat->zaa) (r:Res) (args':List HV) (us:List (Nat×zaa)):Prop where
 view:zch H args fun a u=>a=args'/\u=us
 spec:zbl P f args' zam r.val zam
 zoo:zoo r.val=true
 ups:r.ups=[]
 tch:r.tch=us.map (·.1)
structure yco (P:Program) (f:FuncId) (args:List HV) (H:Nat->zaa) (r:Res) (us:List (Nat×zaa)) (ms:List Bool) (args1:List HV) (B F:List (Nat×Nat)) (args':List HV) (H':Nat->zaa) (r':HV) (H'':Nat->zaa):Prop where
 mix:zeq H ms args fun a u=>a=args1/\u=us
 spec:zbl P f args' H' r' H''
 argsOk:zfw (ren B) args'=true
 args:rnL (ren B) args'=args1
 dom:∀ i,H' i=.free\/∃ p∈B,p.1=i
 has:∀ p∈B,pin<=p.1/\∃ b,zfv (ren B) b=true/\((H' p.1=.live b/\zbe H us p.2=.live (rnB (ren B) b))\/(H' p.1=.ro b/\zbe H us p.2=.ro (rnB (ren B) b)))
 ndB:(B.map (·.1)).Nodup
 ndB2:(B.map (·.2)).Nodup
 new:∀ p∈F,p.1<pin/\H p.2=.free
 ndF:(F.map (·.1)).Nodup
 ndF2:(F.map (·.2)).Nodup
 after:∀ p∈B++F,yak (ren (B++F)) (H'' p.1)=true
 valOk:zdr (ren (B++F)) r'=true
 val:r.val=rn (ren (B++F)) r'
 ups:r.ups=us++(B++F).map fun p=>(p.2,rnS (ren (B++F)) (H'' p.1))
structure Ov (P:Program) (f:FuncId) (args:List HV) (H:Nat->zaa) (r:Res):Prop where
 out : ∃ fn e i x y i1 i2 b1 b2, P.funcs[f]? = some fn /\ fn.body = none /\ fn.name ≠ "runtime.NumGoroutine" /\ Extern.findNext fn = none /\
  Extern.find fn=some (Extern.SlicesOverlaps.overlaps fn.params fn.resultTypes)/\(∃ t,fn.params[0]?=some t/\P.underlying t=some (.slice e))/\P.info? e=some i/\0<i.size /\
  args=[x,y]/\(x=.own i1\/∃ n o l,x=.osl i1 n o l)/\(y=.own i2\/∃ n o l,y=.osl i2 n o l)/\i1≠i2/\H i1=.live b1/\H i2=.live b2/\((∀ t cs,b1≠.cells t cs)/\(∀ k a es,b1≠.map k a es)/\∀ k a es x,b1≠.iter k a es x)/\((∀ t cs,b2≠.cells t cs)/\(∀ k a es,b2≠.map k a es)/\∀ k a es x,b2≠.iter k a es x)/\r=⟨zbr false,[],[i1,i2]⟩
inductive CR (P:Program):zaj
 | lend {f:FuncId} {args:List HV} {H:Nat->zaa} {d:Nat} {r:Res} {args':List HV} {us:List (Nat×zaa)} (h:ycp P f args H r args' us):CR P f args H d r
 | give {f:FuncId} {args:List HV} {H:Nat->zaa} {d:Nat} {r:Res} {us:List (Nat×zaa)} {ms:List Bool} {args1:List HV} {B F:List (Nat×Nat)} {args':List HV} {H':Nat->zaa} {r':HV} {H'':Nat->zaa}
  (h:yco P f args H r us ms args1 B F args' H' r' H''):CR P f args H d r
 | ov {f:FuncId} {args:List HV} {H:Nat->zaa} {d:Nat} {r:Res} (h:Ov P f args H r):CR P f args H d r
structure ycf (H:Nat->zaa) (ms:List Bool) (x y:List HV) (us:List (Nat×zaa)):Prop where
 frz:Frz H us
 rep:∀ m w R v,Kept m w R us->zae m w R x v->zae m w R y v
 loc:∀ H',(∀ id∈us.map (·.1),H' id=H id)->∀ K':List HV->List (Nat×zaa)->Prop,K' y us->zeq H' ms x K'
section
variable {Γ:Ctx} {P:Program} {m:zbt} {H:Nat->zaa} {w:World} {R:Nat->Prop}
theorem zcy:∀ (ms:List Bool) (xs:List HV) {K:List HV->List (Nat×zaa)->Prop},zeq H ms xs K->∃ ys us,K ys us/\ycf H ms xs ys us
 | ms,[],K,h=>⟨[],[],by cases ms<;>simpa only [zeq] using h,zet,fun _ _ _ _ _ h=>h,fun H' _ K' hk=>by cases ms<;>simpa only [zeq] using hk⟩
 | [],x::xs,K,h=>by
  simp only [zeq] at h;obtain ⟨ys,us,h4,h5,h6,h7⟩:=zcy [] xs h;exact yy14
 | false::ms,x::xs,K,h=>by
  simp only [zeq] at h;obtain ⟨ys,us,h4,h5,h6,h7⟩:=zcy ms xs h;exact yy14
 | true::ms,x::xs,K,h=>by
  simp only [zeq] at h;obtain ⟨y,u,h1,hv⟩:=zdz x h;obtain ⟨ys,us,h4,h5,h6,h7⟩:=zcy ms xs h1;refine ⟨_,_,h4,hv.frz.append h5,fun m w R vs hk hx=>?_,fun H' he K' hk=>?_⟩
  . simp only [zae] at hx ⊢
    obtain ⟨v,r,rfl,h7,h8⟩:=hx;exact ⟨v,r,rfl,hv.rep m w R v hk.left h7,h6 m w R r hk.right h8⟩
  . simp only [zeq]
    exact hv.loc H' (fun i hi=>he i zz27) _ (h7 H' (fun i hi=>he i zz22) _ hk)
theorem ztm {H':Nat->zaa}:∀ {us:List (Nat×zaa)} {H:Nat->zaa} {i:Nat},(H' i=H i\/i∈us.map (·.1))->zbe H' us i=zbe H us i
 | [],H,i,h=>(h.resolve_right zz1:H' i=H i)
 | (j,b)::us,H,i,h=>by
  simp only [zbe];have gen:∀ {us:List (Nat×zaa)} {A B:Nat->zaa} {i:Nat},(A i=B i\/i∈us.map (·.1))->zbe A us i=zbe B us i:=by
   intro us
   induction us with
   | nil=>intro A B i h;exact (h.resolve_right zz1:A i=B i)
   | cons p us ih =>
    intro A B i h;obtain ⟨k,c⟩:=p;refine ih (A:=upd A k c) (B:=upd B k c) ?_;by_cases hk:i=k
    . subst hk;left;rw [zaf,zaf]
    . rcases h with h | h
      . left;rw [zai _ _ hk,zai _ _ hk];exact h
      . simp only [zy18,zy3] at h
        rcases h with h | h
        . exact absurd h hk
        . exact .inr h
  refine gen ?_;by_cases hk:i=j
  . subst hk;left;rw [zaf,zaf]
  . rcases h with h | h
    . left;rw [zai _ _ hk,zai _ _ hk];exact h
    . simp only [zy18,zy3] at h
      rcases h with h | h
      . exact absurd h hk
      . exact .inr h
theorem zwn:zcm (CR P):=by
 intro f args H H' d r h _ hd hu;cases h with
 | lend h =>
  rename_i args' us;obtain ⟨h1,h2,h3,h4,h5⟩:=h;obtain ⟨a,u,⟨rfl,rfl⟩,hv⟩:=zbi _ h1;exact .lend ⟨hv.loc H' (fun i hi=>hu i (by rw [h5];simp only [zy13];exact .inl hi)) _ ⟨rfl,rfl⟩,h2,h3,h4,h5⟩
 | give h =>
  rename_i us ms args1 B F args' H1 r' H2;obtain ⟨a,u,⟨rfl,rfl⟩,hv⟩:=zcy _ _ h.mix;have hups:∀ i,i∈u.map (·.1)\/i∈(B++F).map (·.2)->H' i=H i:=by
   intro i hi;refine hu i ?_;rw [h.ups];simp only [zy46,zy13,List.map_map] at hi ⊢;rcases hi with hi | hi
   . exact .inr (.inl hi)
   . refine .inr (.inr ?_)
     rcases hi with hi | hi
     . exact .inl hi
     . exact .inr hi
  refine .give ⟨hv.loc H' (fun i hi=>hups i (.inl hi)) _ ⟨rfl,rfl⟩,h.spec,h.argsOk,h.args,h.dom,fun p hp=>?_,h.ndB,h.ndB2,fun p hp=>⟨(h.new p hp).1,?_⟩,h.ndF,h.ndF2,h.after,h.valOk,h.val,h.ups⟩
  . rw [ztm (H:=H) (.inl (hups p.2 (.inr (by simp;exact .inl ⟨_,hp⟩))))]
    exact h.has p hp
  . rw [hups p.2 (.inr (by simp;exact .inr ⟨_,hp⟩))]
    exact (h.new p hp).2
 | ov h =>
  obtain ⟨fn,e,i,x,y,i1,i2,b1,b2,h1,h2,h3,h4,h5,h6,h7,h8,h9,h10,h11,h12,h13,h14,h15,h16,rfl⟩:=h.out;exact .ov ⟨fn,e,i,x,y,i1,i2,b1,b2,h1,h2,h3,h4,h5,h6,h7,h8,h9,h10,h11,h12,(hu i1 zz1).trans h13,(hu i2 zz1).trans h14,h15,h16,rfl⟩
theorem zvr {L:List (Nat×Nat)} {i:Nat} {o:Option Nat} (h:ren L i=some o):∃ j,o=some j/\(i,j)∈L:=by
 unfold ren at h
 induction L with
 | nil=>cases h
 | cons p L ih =>
  obtain ⟨a,b⟩:=p;simp only [zy18,lkN] at h;cases hb:Nat.beq i a with
  | true =>
   rw [hb] at h;cases h;have:=zy0 hb;subst this;exact ⟨b,rfl,by simp⟩
  | false =>
   rw [hb] at h;obtain ⟨j,h1,h2⟩:=ih h;exact ⟨j,h1,by simp [h2]⟩
theorem yaj {L:List (Nat×Nat)} {i j:Nat} (hn:(L.map (·.1)).Nodup) (h:(i,j)∈L):ren L i=some (some j):=by
 unfold ren
 induction L with
 | nil=>cases h
 | cons p L ih =>
  obtain ⟨a,b⟩:=p;simp only [zy18,zy63] at hn;simp only [zy18,lkN];rcases zy3.1 h with h | h
  . cases h
    simp
  . have:i≠a:=fun e=>hn.1 (zy8.2 ⟨(i,j),h,e⟩)
    have hb:Nat.beq i a=false:=by
     cases hb:Nat.beq i a with
     | false=>rfl
     | true=>exact absurd (zy0 hb) this
    rw [hb];exact ih hn.2 h
mutual
theorem zzc {m':zbt} {σ:Ren} {R':Nat->Prop} (hm:∀ i o,σ i=some o->∃ j,o=some j/\m' j=m i) (hR:∀ b,R b->R' b):(x:HV)->(v:Value)->zdr σ x=true->zad m w R x v->zad m' w R' (rn σ x) v
 | .p x,v,_,h=>by simp only [rn,zad] at h ⊢;exact h.sub hR
 | .ptr i o,v,ho,h=>by
  exact yy2
 | .eptr i n k o,v,ho,h=>by
  exact yy2
 | .rp c,v,_,h=>by
  exact yy19
 | .own i,v,ho,h=>by
  simp only [zdr] at ho;split at ho
  . rename_i o hj
    obtain ⟨j',rfl,hmj⟩:=hm i _ hj;simp only [rn,hj,zad] at h ⊢;obtain ⟨l,h1,h2⟩:=h;exact ⟨l,by rw [hmj];exact h1,h2⟩
  . cases ho
 | .osl i n o len,v,ho,h=>by
  simp only [zdr] at ho;split at ho
  . rename_i j hj
    obtain ⟨j',hj',hmj⟩:=hm i _ hj;cases hj';simp only [rn,hj,zad] at h ⊢;obtain ⟨l,a,h1,h2⟩:=h;exact ⟨l,a,by rw [hmj];exact h1,h2⟩
  . cases ho
 | .mp i,v,ho,h=>by
  exact yy2
 | .agg l,v,ho,h=>by
  exact yy7
 | .tup l,v,ho,h=>by
  exact yy7
 | .clo f l,v,ho,h=>by
  exact yy7
 | .und,v,_,h=>by simp only [rn,zad] at h ⊢;exact h
 | .any,v,_,h=>by simp only [rn,zad]
theorem zju {m':zbt} {σ:Ren} {R':Nat->Prop} (hm:∀ i o,σ i=some o->∃ j,o=some j/\m' j=m i) (hR:∀ b,R b->R' b):(x:List HV)->(v:List Value)->zfw σ x=true->zae m w R x v->zae m' w R' (rnL σ x) v
 | [],v,_,h=>by simp only [rnL,zae] at h ⊢;exact h
 | x::xs,v,ho,h=>by
  simp only [zfw,zy1] at ho;simp only [rnL,zae] at h ⊢;obtain ⟨a,r,h1,h2,h3⟩:=h;exact ⟨a,r,h1,zzc hm hR x a ho.1 h2,zju hm hR xs r ho.2 h3⟩
end
theorem zvu {m':zbt} {σ:Ren} {R':Nat->Prop} (hm:∀ i o,σ i=some o->∃ j,o=some j/\m' j=m i) (hR:∀ b,R b->R' b) {l:Loc} {b:zdf} (ho:zfv σ b=true) (h:zfj m w R l b):zfj m' w R' l (rnB σ b):=by
 cases b with
 | cells t cs =>
  obtain ⟨h1,arr,h2,h3⟩:=h;rw [<- zhk (σ:=σ) cs] at h1;exact ⟨h1,arr,h2,zju hm hR _ _ ho h3⟩
 | map kc agg es =>
  obtain ⟨h1,arr,c,h2,h3,h4⟩:=h;exact ⟨h1,arr,c,h2,h3.mono fun b hb=>⟨rfl,hR b hb⟩,h4⟩
 | iter kc agg left cur =>
  obtain ⟨h1,bm,arr,c,seen,h2,h3⟩:=h;exact ⟨h1,bm,arr,c,seen,h2,h3.mono fun b hb=>⟨rfl,hR b hb⟩⟩
 | row t n rows =>
  exact yy12
 | buf t n rows c =>
  exact yy22
mutual
theorem zml:(x:HV)->zdr zia x=true->rn zia x=x
 | .p _,_=>rfl
 | .rp _,_=>rfl
 | .und,_=>rfl
 | .any,_=>rfl
 | .ptr _ _,h=>by simp [zdr] at h
 | .eptr _ _ _ _,h=>by simp [zdr] at h
 | .own _,h=>by simp [zdr] at h
 | .osl _ _ _ _,h=>by simp [zdr] at h
 | .mp _,h=>by simp [zdr] at h
 | .agg l,h=>by simp only [zdr] at h;simp only [rn,zel l h]
 | .tup l,h=>by simp only [zdr] at h;simp only [rn,zel l h]
 | .clo f l,h=>by simp only [zdr] at h;simp only [rn,zel l h]
theorem zel:(x:List HV)->zfw zia x=true->rnL zia x=x
 | [],_=>rfl
 | x::xs,h=>by
  simp only [zfw,zy1] at h;simp only [rnL,zml x h.1,zel xs h.2]
end
mutual
theorem zsa {m':zbt} {w':World} {R':Nat->Prop}:(x:HV)->(v:Value)->zoo x=true->zad m w R x v->zad m' w' R' x v
 | .p (.v x),v,_,h=>by simp only [zad] at h ⊢;cases h with | v _ h=>exact .v _ h
 | .p (.sl _ _),v,hs,h=>by simp [zoo] at hs
 | .rp _,v,hs,h=>by simp [zoo] at hs
 | .und,v,hs,h=>by simp only [zad] at h ⊢;exact h
 | .any,v,hs,h=>by simp [zoo] at hs
 | .ptr _ _,v,hs,h=>by simp [zoo] at hs
 | .eptr _ _ _ _,v,hs,h=>by simp [zoo] at hs
 | .own _,v,hs,h=>by simp [zoo] at hs
 | .osl _ _ _ _,v,hs,h=>by simp [zoo] at hs
 | .mp _,v,hs,h=>by simp [zoo] at hs
 | .agg l,v,hs,h=>by
  exact yy36
 | .tup l,v,hs,h=>by
  exact yy36
 | .clo _ _,v,hs,h=>by simp [zoo] at hs
theorem zjw {m':zbt} {w':World} {R':Nat->Prop}:(x:List HV)->(v:List Value)->zvx x=true->zae m w R x v->zae m' w' R' x v
 | [],v,_,h=>by simp only [zae] at h ⊢;exact h
 | x::xs,v,hs,h=>by
  simp only [zvx,zy1] at hs;simp only [zae] at h ⊢;obtain ⟨a,r,h1,h2,h3⟩:=h;exact ⟨a,r,h1,zsa x a hs.1 h2,zjw xs r hs.2 h3⟩
end
theorem zag.grow (hok:zag Γ m H w) {w':World} (hs:w.heap.size<=w'.heap.size) (hh:∀ b,b<w.heap.size->w'.heap[b]?=w.heap[b]?) (ho:w'.os=w.os) (ht:w'.tape=w.tape) (hp:w'.output=w.output) :
 WS Γ H m w H m w':=by
 have hR:∀ b,RR Γ m H w b->w'.heap[b]?=w.heap[b]?/\RR Γ m H w' b:=fun b hb=>⟨hh b hb.2.1,hb.1,zy50 hb.2.1 hs,hb.2.2⟩
 refine ⟨.refl m,⟨zy43 hok.size hs,ho.trans hok.os,ht.trans hok.tape,hp.trans hok.output,fun b hb hn=>(hh b (zy50 hb hok.size)).trans (hok.frame b hb hn),hok.free,fun id b hb=>?_,fun id b hb=>?_,hok.inj,hok.dom⟩,hR⟩
 . obtain ⟨l,h1,h2,h3⟩:=hok.live id b hb
   exact ⟨l,h1,h2.mono (.refl m) hR fun hn=>hh _ (h3 hn).2,fun hn=>⟨(h3 hn).1,zy50 (h3 hn).2 hs⟩⟩
 . obtain ⟨l,h1,h2,h3⟩:=hok.ro id b hb
   exact ⟨l,h1,h2.mono (.refl m) hR fun hn=>(hR _ (h3 hn)).1,fun hn=>(hR _ (h3 hn)).2⟩
theorem zhd {m:zbt} {b:Nat}:¬ zfz m zam b:=by rintro ⟨id,l,blk,h,_⟩;cases h
theorem zsz {f:FuncId} {args:List HV} {r:Res} {args':List HV} {us:List (Nat×zaa)} (h:ycp P f args H r args' us) {vals:List Value} (hok:zag Γ m H w) (hargs:zae m w (RR Γ m H w) args vals) :
 (callFunc f vals.toArray).run P w=.ok (.enter f vals.toArray) w /\
 Calls P f vals.toArray w fun e w'=>∃ v m',e=.returned v/\WS Γ H m w (zbe H r.ups) m' w'/\zad m' w' (RR Γ m' (zbe H r.ups) w') r.val v:=by
 obtain ⟨h1,h2,h3,h4,h5⟩:=h;obtain ⟨a,u,⟨rfl,rfl⟩,hv⟩:=zbi _ h1;have hRs:∀ b,RR Γ m H w b->w.heap[b]?=w.heap[b]?/\b<w.heap.size:=fun b hb=>⟨rfl,hb.2.1⟩
 have hkept:Kept m w (fun b=>b<w.heap.size) u:=by
  intro e he;obtain ⟨b,hb,hb2⟩:=hv.frz e he;rcases hb with hb | hb
  . obtain ⟨l,h1,h2,h3⟩:=hok.live _ _ hb
    exact ⟨b,l,hb2,h1,h2.mono (.refl m) hRs fun _=>rfl,fun hn=>(h3 hn).2⟩
  . obtain ⟨l,h1,h2,h3⟩:=hok.ro _ _ hb
    exact ⟨b,l,hb2,h1,h2.mono (.refl m) hRs fun _=>rfl,fun hn=>(h3 hn).2.1⟩
 have hargs':=hv.rep m w _ vals hkept (zae.mono (.refl m) hRs _ _ hargs)
 let Γc:Ctx:=⟨fun _=>True,w,fun _=>False,fun _=>none⟩
 have hokc:zag Γc (fun _=>none) zam w:=⟨zy19 _,rfl,rfl,rfl,fun _ _ _=>rfl,fun _ _=>rfl,(fun id b hb=>by cases hb),(fun id b hb=>by cases hb),(fun id id' b b' l l' hb=>by cases hb),fun b hb=>hb.elim⟩
 have hrep:zae (fun _=>none) w (RR Γc (fun _=>none) zam w) a vals:=by
  refine zfu (σ:=zia) (m:=m) (R:=fun b=>b<w.heap.size) (fun i j hj=>by cases hj) (fun i hj=>by cases hj) (fun b hb=>⟨.inl trivial,hb,zhd⟩) a vals hv.noid ?_;rw [zel a hv.noid];exact hargs'
 obtain ⟨hcf,hcalls⟩:=h2 Γc _ w vals hokc hrep rfl;refine ⟨hcf,hcalls.mono fun e w' he=>?_⟩;obtain ⟨v,m',rfl,hok',hv',_⟩:=he;have hws:=hok.grow (w':=w') hok'.size (fun b hb=>hok'.frame b hb (fun h=>h)) hok'.os hok'.tape hok'.output;refine ⟨v,m,rfl,by rw [h4];exact hws,by rw [h4];exact zsa _ _ h3 hv'⟩
end
end Go.HL
namespace Go.HL
section
variable {Γ:Ctx} {P:Program} {m:zbt} {H:Nat->zaa} {w:World} {R:Nat->Prop}
theorem zjn {α β:Type} {f:α->β}:∀ {L:List α},(L.map f).Nodup->∀ {p q:α},p∈L->q∈L->f p=f q->p=q
 | [],_,_,_,hp,_,_=>by cases hp
 | z::L,hn,p,q,hp,hq,he=>by
  simp only [zy18,zy63] at hn;cases hp with
  | head=>cases hq with
   | head=>rfl
   | tail _ hq=>exact (hn.1 (zy8.2 ⟨q,hq,he.symm⟩)).elim
  | tail _ hp=>cases hq with
   | head=>exact (hn.1 (zy8.2 ⟨p,hp,he⟩)).elim
   | tail _ hq=>exact zjn hn.2 hp hq he
theorem yap {L:List (Nat×Nat)} {g:Nat->zaa} {H:Nat->zaa} (hn:(L.map (·.2)).Nodup) {p:Nat×Nat} (hp:p∈L):zbe H (L.map fun p=>(p.2,g p.1)) p.2=g p.1:=by
 induction L generalizing H with
 | nil=>cases hp
 | cons q L ih =>
  simp only [zy18,zy63] at hn;simp only [zy18,zbe];rcases zy3.1 hp with rfl | hp
  . rw [zgp,zaf]
    intro h;simp only [List.map_map,zy8,Function.comp] at h;obtain ⟨q,hq,he⟩:=h;exact hn.1 (zy8.2 ⟨q,hq,he⟩)
  . exact ih hn.2 hp
theorem yaq {L:List (Nat×Nat)} {g:Nat->zaa} {H:Nat->zaa} {i:Nat} (hi:i∉L.map (·.2)):zbe H (L.map fun p=>(p.2,g p.1)) i=H i:=by
 refine zgp fun h=>hi ?_
 simp only [List.map_map,zy8,Function.comp] at h ⊢;exact h
theorem zsn {f:FuncId} {args:List HV} {r:Res} {us:List (Nat×zaa)} {ms:List Bool} {args1:List HV} {B F:List (Nat×Nat)} {args':List HV} {H':Nat->zaa} {r':HV} {H'':Nat->zaa}
 (h:yco P f args H r us ms args1 B F args' H' r' H'') {vals:List Value} (hok0:zag Γ m H w) (hargs0:zae m w (RR Γ m H w) args vals) :
 (callFunc f vals.toArray).run P w=.ok (.enter f vals.toArray) w /\
 Calls P f vals.toArray w fun e w'=>∃ v m',e=.returned v/\WS Γ H m w (zbe H r.ups) m' w'/\zad m' w' (RR Γ m' (zbe H r.ups) w') r.val v:=by
 obtain ⟨a,u,⟨rfl,rfl⟩,hv⟩:=zcy _ _ h.mix;have hws0:=WS.frz hok0 hv.frz;have hok:=hws0.ok;have hargs1:zae m w (RR Γ m (zbe H u) w) a vals:=hv.rep m w _ vals (WS.kept hv.frz hok) (hws0.repL hargs0);have hhas:=h.has;have hnewH:∀ p∈F,zbe H u p.2=.free:=by
  intro p hp;rw [zgp]
  . exact (h.new p hp).2
  . intro hm
    obtain ⟨e,he,hee⟩:=zy8.1 hm;obtain ⟨b,hb,-⟩:=hv.frz e he;rw [hee,(h.new p hp).2] at hb;rcases hb with hb | hb<;>cases hb
 have hups:zbe H r.ups=zbe (zbe H u) ((B++F).map fun p=>(p.2,rnS (ren (B++F)) (H'' p.1))):=by rw [h.ups,zfy]
 generalize hH1:zbe H u=H1 at hok hargs1 hws0 hhas hnewH hups
 let σ:=ren B
 let σ2:=ren (B++F)
 have hBF1:((B++F).map (·.1)).Nodup:=by
  rw [zy46];refine List.nodup_append.2 ⟨h.ndB,h.ndF,fun x hx y hy=>?_⟩;obtain ⟨p,hp,rfl⟩:=zy8.1 hx;obtain ⟨q,hq,rfl⟩:=zy8.1 hy;have:=(hhas p hp).1;have:=(h.new q hq).1;omega
 have hBne:∀ p∈B,H1 p.2≠.free/\H' p.1≠.free:=by
  intro p hp;obtain ⟨-,b,-,⟨h1,h2⟩ | ⟨h1,h2⟩⟩:=hhas p hp
  . rw [h1,h2];exact ⟨zaa.noConfusion,zaa.noConfusion⟩
  . rw [h1,h2];exact ⟨zaa.noConfusion,zaa.noConfusion⟩
 have hBF2:((B++F).map (·.2)).Nodup:=by
  rw [zy46];refine List.nodup_append.2 ⟨h.ndB2,h.ndF2,fun x hx y hy=>?_⟩;obtain ⟨p,hp,rfl⟩:=zy8.1 hx;obtain ⟨q,hq,rfl⟩:=zy8.1 hy;intro he;exact (hBne p hp).1 (by rw [he];exact hnewH q hq)
 have hσ:∀ i o,σ i=some o->∃ j,o=some j/\(i,j)∈B:=fun i o ho=>zvr ho
 have hσget:∀ p∈B,σ p.1=some (some p.2):=fun p hp=>yaj h.ndB hp
 have hσ2:∀ i o,σ2 i=some o->∃ j,o=some j/\(i,j)∈B++F:=fun i o ho=>zvr ho
 -- the callee's own names
 let mc:zbt:=zcq σ m
 have hmc:∀ p∈B,mc p.1=m p.2:=fun p hp=>by simp only [mc,zcq,hσget p hp]
 let own:Nat->Prop:=fun b=>zfz mc H' b
 let Γc:Ctx:=⟨fun b=>RR Γ m H1 w b\/own b,w,own,mc⟩
 have hownB:∀ b,own b->∃ p∈B,∃ blk l,H1 p.2=.live blk/\m p.2=some l/\l.nil=false/\l.blk=b:=by
  rintro b ⟨id,l,blk,h1,h2,h3,h4⟩;rcases h.dom id with hf | ⟨p,hp,rfl⟩
  . rw [hf] at h1;cases h1
  . obtain ⟨-,b',-,⟨h5,h6⟩ | ⟨h5,h6⟩⟩:=hhas p hp
    . exact ⟨p,hp,_,l,h6,by rw [<- hmc p hp];exact h2,h3,h4⟩
    . rw [h5] at h1;cases h1
 have hown1:∀ b,own b->zfz m H1 b:=fun b hb=>let ⟨p,_,blk,l,h1,h2,h3,h4⟩:=hownB b hb;⟨p.2,l,blk,h1,h2,h3,h4⟩
 have hownd:∀ b,own b->(Γ.own0 b\/Γ.w0.heap.size<=b)/\b<w.heap.size:=by
  intro b hb;obtain ⟨p,_,blk,l,h1,h2,h3,h4⟩:=hownB b hb;obtain ⟨l',h5,_,h6⟩:=hok.live _ _ h1;rw [h2] at h5;cases h5;rw [<- h4];exact h6 h3
 have hRc:∀ b,RR Γ m H1 w b->RR Γc mc H' w b:=fun b hb=>⟨.inl (.inl hb),hb.2.1,fun ho=>hb.2.2 (hown1 b ho)⟩
 have hmσ:∀ i j,σ i=some (some j)->mc i=m j:=fun i j hj=>by simp only [mc,zcq,hj]
 have hnσ:∀ i,σ i=some none->mc i=some ⟨0,0,0,true⟩:=fun i hj=>by simp only [mc,zcq,hj]
 have hokc:zag Γc mc H' w:=by
  refine ⟨zy19 _,rfl,rfl,rfl,fun _ _ _=>rfl,?_,?_,?_,?_,fun b hb=>.inr hb⟩
  . intro id hf
    cases hs:σ id with
    | none=>simp only [mc,zcq,hs]
    | some o =>
     obtain ⟨j,rfl,hj⟩:=hσ id o hs;exact absurd hf (hBne _ hj).2
  . intro id b hb
    rcases h.dom id with hf | ⟨p,hp,rfl⟩
    . rw [hf] at hb;cases hb
    . obtain ⟨-,b',hbo,⟨h5,h6⟩ | ⟨h5,h6⟩⟩:=hhas p hp
      . rw [hb] at h5;cases h5
        obtain ⟨l,h7,h8,h9⟩:=hok.live _ _ h6;have hl:mc p.1=some l:=by rw [hmc p hp];exact h7
        exact ⟨l,hl,zjt hmσ hnσ hRc hbo h8,fun hn=>⟨.inl ⟨p.1,l,b,hb,hl,hn,rfl⟩,(h9 hn).2⟩⟩
      . rw [hb] at h5;cases h5
  . intro id b hb
    rcases h.dom id with hf | ⟨p,hp,rfl⟩
    . rw [hf] at hb;cases hb
    . obtain ⟨-,b',hbo,⟨h5,h6⟩ | ⟨h5,h6⟩⟩:=hhas p hp
      . rw [hb] at h5;cases h5
      . rw [hb] at h5;cases h5
        obtain ⟨l,h7,h8,h9⟩:=hok.ro _ _ h6;have hl:mc p.1=some l:=by rw [hmc p hp];exact h7
        exact ⟨l,hl,zjt hmσ hnσ hRc hbo h8,fun hn=>hRc _ (h9 hn)⟩
  . intro id id' b b' l l' h1 h2 h3 h4 h5 h6 h7
    rcases h.dom id with hf | ⟨p,hp,rfl⟩
    . rw [hf] at h1;cases h1
    rcases h.dom id' with hf | ⟨q,hq,rfl⟩
    . rw [hf] at h2;cases h2
    rw [hmc p hp] at h3;rw [hmc q hq] at h4;have hp1:∃ blk,H1 p.2=.live blk:=by
     obtain ⟨-,b',-,⟨h8,h9⟩ | ⟨h8,h9⟩⟩:=hhas p hp
     . exact ⟨_,h9⟩
     . rw [h1] at h8;cases h8
    have hq1:∃ blk,H1 q.2=.live blk:=by
     obtain ⟨-,b',-,⟨h8,h9⟩ | ⟨h8,h9⟩⟩:=hhas q hq
     . exact ⟨_,h9⟩
     . rw [h2] at h8;cases h8
    obtain ⟨bp,hp1⟩:=hp1;obtain ⟨bq,hq1⟩:=hq1;have heq:=hok.inj _ _ _ _ _ _ hp1 hq1 h3 h4 h5 h6 h7
    -- names are other ones as the caller's are
    exact congrArg Prod.fst (zjn h.ndB2 hp hq heq)
 have hrepc:zae mc w (RR Γc mc H' w) args' vals:=by
  refine zfu hmσ hnσ hRc args' vals h.argsOk ?_;rw [h.args];exact hargs1
 obtain ⟨hcf,hcalls⟩:=h.spec Γc mc w vals hokc hrepc rfl;refine ⟨hcf,hcalls.mono fun e w' he=>?_⟩;obtain ⟨v,m2,rfl,hok2,hv2,hpin⟩:=he
 -- the caller's names behind the call
 let L:=B++F
 let m3:zbt:=fun i=>match L.find? fun p=>Nat.beq p.2 i with
  | some p=>m2 p.1
  | none=>m i
 have zgv:∀ p∈L,m3 p.2=m2 p.1:=by
  intro p hp;have:L.find? (fun q=>Nat.beq q.2 p.2)=some p:=by
   have gen:∀ {L:List (Nat×Nat)},(L.map (·.2)).Nodup->p∈L->L.find? (fun q=>Nat.beq q.2 p.2)=some p:=by
    intro L
    induction L with
    | nil=>intro _ hp;cases hp
    | cons z L ih =>
     intro hn hp;simp only [zy18,zy63] at hn;rcases zy3.1 hp with rfl | hp
     . simp
     . have hz:Nat.beq z.2 p.2=false:=by
        cases hb:Nat.beq z.2 p.2 with
        | false=>rfl
        | true=>exact absurd (zy8.2 ⟨p,hp,(zy0 hb).symm⟩) hn.1
       rw [List.find?_cons,hz];exact ih hn.2 hp
   exact gen hBF2 hp
  simp only [m3,this]
 have hoff:∀ i,i∉L.map (·.2)->m3 i=m i:=by
  intro i hi;have:L.find? (fun q=>Nat.beq q.2 i)=none:=by
   rw [List.find?_eq_none];intro q hq hb;exact hi (zy8.2 ⟨q,hq,zy0 hb⟩)
  simp only [m3,this]
 have hBm:∀ p∈B,∃ l,m p.2=some l:=by
  intro p hp;obtain ⟨-,b',-,⟨h8,h9⟩ | ⟨h8,h9⟩⟩:=hhas p hp
  . obtain ⟨l,h1,_⟩:=hok.live _ _ h9;exact ⟨l,h1⟩
  . obtain ⟨l,h1,_⟩:=hok.ro _ _ h9;exact ⟨l,h1⟩
 have hB2:∀ p∈B,m2 p.1=m p.2:=by
  intro p hp;obtain ⟨l,hl⟩:=hBm p hp;rw [hl];exact hpin p.1 l (hhas p hp).1 (by rw [hmc p hp];exact hl)
 have hext:zmv m m3:=by
  intro i l hl;by_cases hi:i∈L.map (·.2)
  . obtain ⟨p,hp,rfl⟩:=zy8.1 hi
    rw [zgv p hp];rcases zy13.1 hp with hp | hp
    . rw [hB2 p hp];exact hl
    . rw [hok.free _ (hnewH p hp)] at hl;cases hl
  . rw [hoff i hi];exact hl
 rw [hups]
 let H3:=zbe H1 ((B++F).map fun p=>(p.2,rnS (ren (B++F)) (H'' p.1)))
 show ∃ v0 m',Ending.returned v=Ending.returned v0/\WS Γ H m w H3 m' w'/\zad m' w' (RR Γ m' H3 w') r.val v0;have hH3in:∀ p∈L,H3 p.2=rnS σ2 (H'' p.1):=fun p hp=>yap (g:=fun c=>rnS (ren (B++F)) (H'' c)) hBF2 hp
 have hH3off:∀ i,i∉L.map (·.2)->H3 i=H1 i:=fun i hi=>yaq (g:=fun c=>rnS (ren (B++F)) (H'' c)) hi
 have hframe:∀ b,b<w.heap.size->¬ own b->w'.heap[b]?=w.heap[b]?:=fun b hb hn=>hok2.frame b hb hn
 -- who owns what behind it
 have hliveL:∀ p∈L,∀ b3,H3 p.2=.live b3->∃ b2,H'' p.1=.live b2/\b3=rnB σ2 b2:=by
  intro p hp b3 hb;rw [hH3in p hp] at hb;cases hh:H'' p.1<;>rw [hh] at hb<;>simp only [rnS] at hb<;>cases hb
  exact ⟨_,rfl,rfl⟩
 have hlocL:∀ p∈L,∀ b2 l,H'' p.1=.live b2->m2 p.1=some l->l.nil=false->(own l.blk\/w.heap.size<=l.blk)/\l.blk<w'.heap.size:=by
  intro p hp b2 l h1 h2 h3;obtain ⟨l',h4,_,h5⟩:=hok2.live _ _ h1;rw [h2] at h4;cases h4;exact h5 h3
 have hOw3:∀ b,zfz m3 H3 b->(∃ i l blk,i∉L.map (·.2)/\H1 i=.live blk/\m i=some l/\l.nil=false/\l.blk=b)\/(zfz m2 H'' b/\(own b\/w.heap.size<=b)):=by
  rintro b ⟨i,l,blk,h1,h2,h3,h4⟩;by_cases hi:i∈L.map (·.2)
  . obtain ⟨p,hp,rfl⟩:=zy8.1 hi
    obtain ⟨b2,h5,_⟩:=hliveL p hp _ h1;rw [zgv p hp] at h2
    right
    exact ⟨⟨p.1,l,b2,h5,h2,h3,h4⟩,h4 ▸ (hlocL p hp b2 l h5 h2 h3).1⟩
  . rw [hH3off i hi] at h1
    rw [hoff i hi] at h2;exact .inl ⟨i,l,blk,hi,h1,h2,h3,h4⟩
 have hunt:∀ b i l blk,i∉L.map (·.2)->H1 i=.live blk->m i=some l->l.nil=false->l.blk=b->¬ own b:=by
  intro b i l blk hi h1 h2 h3 h4 ho;obtain ⟨p,hp,bp,lp,h5,h6,h7,h8⟩:=hownB b ho;have:=hok.inj _ _ _ _ _ _ h1 h5 h2 h6 h3 h7 (h4.trans h8.symm);exact hi (this ▸ zy8.2 ⟨p,by simp [L,hp],rfl⟩)
 have hR3:∀ b,RR Γ m H1 w b->w'.heap[b]?=w.heap[b]?/\RR Γ m3 H3 w' b:=by
  intro b hb;have hno:¬ own b:=fun ho=>hb.2.2 (hown1 b ho)
  refine ⟨hframe b hb.2.1 hno,hb.1,zy50 hb.2.1 hok2.size,fun ho=>?_⟩;rcases hOw3 b ho with ⟨i,l,blk,_,h1,h2,h3,h4⟩ | ⟨_,h1 | h1⟩
  . exact hb.2.2 ⟨i,l,blk,h1,h2,h3,h4⟩
  . exact hno h1
  . have:=hb.2.1;omega
 have hR2:∀ b,RR Γc m2 H'' w' b->RR Γ m3 H3 w' b:=by
  intro b ⟨h1,h2,h3⟩;have h1':RR Γ m H1 w b\/own b\/w.heap.size<=b:=by
   rcases h1 with (h1 | h1) | h1
   . exact .inl h1
   . exact .inr (.inl h1)
   . exact .inr (.inr h1)
  rcases h1' with h1 | h1
  . exact (hR3 b h1).2
  . refine ⟨?_,h2,fun ho=>?_⟩
    . rcases h1 with h1 | h1
      . rcases (hownd b h1).1 with h4 | h4
        . exact .inl (hok.dom b h4)
        . exact .inr h4
      . exact .inr (zy43 hok.size h1)
    . rcases hOw3 b ho with ⟨i,l,blk,hi,h4,h5,h6,h7⟩ | ⟨h4,_⟩
      . rcases h1 with h1 | h1
        . exact hunt b i l blk hi h4 h5 h6 h7 h1
        . obtain ⟨l',h8,_,h9⟩:=hok.live _ _ h4
          rw [h5] at h8;cases h8;have:=(h9 h6).2;omega
      . exact h3 h4
 have hm32:∀ i o,σ2 i=some o->∃ j,o=some j/\m3 j=m2 i:=by
  intro i o ho;obtain ⟨j,rfl,hj⟩:=hσ2 i o ho;exact ⟨j,rfl,zgv _ hj⟩
 have hafter:=h.after;have hok3:zag Γ m3 H3 w':=by
  refine ⟨zy43 hok.size hok2.size,hok2.os.trans hok.os,hok2.tape.trans hok.tape,hok2.output.trans hok.output,?_,?_,?_,?_,?_,hok.dom⟩
  . intro b hb hn
    have hlt:b<w.heap.size:=zy50 hb hok.size;refine (hframe b hlt fun ho=>?_).trans (hok.frame b hb hn);rcases (hownd b ho).1 with h1 | h1
    . exact hn h1
    . omega
  . intro i hf
    by_cases hi:i∈L.map (·.2)
    . obtain ⟨p,hp,rfl⟩:=zy8.1 hi
      rw [hH3in p hp] at hf;have:=hafter p hp;cases hh:H'' p.1<;>rw [hh] at hf this
      . cases this
      all_goals cases hf
    . rw [hH3off i hi] at hf
      rw [hoff i hi];exact hok.free i hf
  . intro i b hb
    by_cases hi:i∈L.map (·.2)
    . obtain ⟨p,hp,rfl⟩:=zy8.1 hi
      obtain ⟨b2,h5,rfl⟩:=hliveL p hp _ hb;obtain ⟨l,h6,h7,h8⟩:=hok2.live _ _ h5;have hb2:zfv σ2 b2=true:=by have:=hafter p hp;rw [h5] at this;exact this
      refine ⟨l,by rw [zgv p hp];exact h6,zvu hm32 hR2 hb2 h7,fun hn=>⟨?_,(h8 hn).2⟩⟩;rcases (hlocL p hp b2 l h5 h6 hn).1 with h9 | h9
      . exact (hownd _ h9).1
      . exact .inr (zy43 hok.size h9)
    . rw [hH3off i hi] at hb
      obtain ⟨l,h6,h7,h8⟩:=hok.live _ _ hb;refine ⟨l,by rw [hoff i hi];exact h6,h7.mono hext hR3 fun hn=>hframe _ (h8 hn).2 (hunt _ i l b hi hb h6 hn rfl),fun hn=>⟨(h8 hn).1,zy50 (h8 hn).2 hok2.size⟩⟩
  . intro i b hb
    by_cases hi:i∈L.map (·.2)
    . obtain ⟨p,hp,rfl⟩:=zy8.1 hi
      rw [hH3in p hp] at hb;have hok':=hafter p hp;cases hh:H'' p.1<;>rw [hh] at hb hok'<;>simp only [rnS] at hb<;>cases hb
      obtain ⟨l,h6,h7,h8⟩:=hok2.ro _ _ hh;exact ⟨l,by rw [zgv p hp];exact h6,zvu hm32 hR2 hok' h7,fun hn=>hR2 _ (h8 hn)⟩
    . rw [hH3off i hi] at hb
      obtain ⟨l,h6,h7,h8⟩:=hok.ro _ _ hb;exact ⟨l,by rw [hoff i hi];exact h6,h7.mono hext hR3 fun hn=>(hR3 _ (h8 hn)).1,fun hn=>(hR3 _ (h8 hn)).2⟩
  . intro i i' b b' l l' h1 h2 h3 h4 h5 h6 h7
    by_cases hi:i∈L.map (·.2)<;>by_cases hi':i'∈L.map (·.2)
    . obtain ⟨p,hp,rfl⟩:=zy8.1 hi
      obtain ⟨q,hq,rfl⟩:=zy8.1 hi';obtain ⟨b2,h8,-⟩:=hliveL p hp _ h1;obtain ⟨b2',h9,-⟩:=hliveL q hq _ h2;rw [zgv p hp] at h3;rw [zgv q hq] at h4;have heq:=hok2.inj _ _ _ _ _ _ h8 h9 h3 h4 h5 h6 h7;exact congrArg Prod.snd (zjn hBF1 hp hq heq)
    . obtain ⟨p,hp,rfl⟩:=zy8.1 hi
      obtain ⟨b2,h8,-⟩:=hliveL p hp _ h1;rw [zgv p hp] at h3;rw [hH3off i' hi'] at h2;rw [hoff i' hi'] at h4;exfalso;rcases (hlocL p hp b2 l h8 h3 h5).1 with h9 | h9
      . exact hunt _ i' l' b' hi' h2 h4 h6 h7.symm h9
      . obtain ⟨lx,h10,_,h11⟩:=hok.live _ _ h2
        rw [h4] at h10;cases h10;have:=(h11 h6).2;omega
    . obtain ⟨p,hp,rfl⟩:=zy8.1 hi'
      obtain ⟨b2,h8,-⟩:=hliveL p hp _ h2;rw [zgv p hp] at h4;rw [hH3off i hi] at h1;rw [hoff i hi] at h3;exfalso;rcases (hlocL p hp b2 l' h8 h4 h6).1 with h9 | h9
      . exact hunt _ i l b hi h1 h3 h5 h7 h9
      . obtain ⟨lx,h10,_,h11⟩:=hok.live _ _ h1
        rw [h3] at h10;cases h10;have:=(h11 h5).2;omega
    . rw [hH3off i hi] at h1
      rw [hoff i hi] at h3;rw [hH3off i' hi'] at h2;rw [hoff i' hi'] at h4;exact hok.inj _ _ _ _ _ _ h1 h2 h3 h4 h5 h6 h7
 have hws2:WS Γ H1 m w H3 m3 w':=⟨hext,hok3,hR3⟩
 refine ⟨v,m3,rfl,hws0.trans hws2,?_⟩;rw [h.val];exact zzc hm32 hR2 _ _ h.valOk hv2
theorem zom {ps rs:Array TypeId} {t e:TypeId} {i:TypeInfo} (h0:ps[0]?=some t) (hu:P.underlying t=some (.slice e)) (hi:P.info? e=some i) (hs:0<i.size) {a b:Option Addr} {la ca lb cb:Nat}
 (h:la≠0->lb≠0->∃ x y p q arr arr' t1 t2,a=some ⟨x,p,none⟩/\b=some ⟨y,q,none⟩/\x≠y/\w.heap[x]?=some (.cells arr t1 (0,0))/\w.heap[y]?=some (.cells arr' t2 (0,0))) :
 (Extern.SlicesOverlaps.overlaps ps rs #[.slice a la ca,.slice b lb cb]).run P w=.ok (.bool false) w:=by
 have hsz:¬ i.size=0:=by omega
 conv=>lhs;arg 2;whnf
 rw [h0];by_cases h1:la=0
 . cases a<;>cases b<;>simp [run_underlying hu,sizeOf,typeInfo,hi,h1]
 by_cases h2:lb=0
 . cases a<;>cases b<;>simp [run_underlying hu,sizeOf,typeInfo,hi,h2]
 obtain ⟨x,y,p,q,arr,arr',t1,t2,rfl,rfl,hxy,hx,hy⟩:=h h1 h2;have hb:(x==y)=false:=by simpa using hxy
 have f1:∀ o,w.frozen? ⟨x,o,none⟩=false:=fun o=>by simp [World.frozen?,hx]
 have f2:∀ o,w.frozen? ⟨y,o,none⟩=false:=fun o=>by simp [World.frozen?,hy]
 have s1:w.shape? x=some (t1,arr.size):=by simp [World.shape?,hx]
 have s2:w.shape? y=some (t2,arr'.size):=by simp [World.shape?,hy]
 simp [run_underlying hu,sizeOf,typeInfo,hi,h1,h2,hsz,hxy,hb,f1,f2,s1,s2,noView,viewAt,mayBeOne,stringish]
theorem zzb {x:HV} {id:Nat} {v:Value} {blk:zdf} (hok:zag Γ m H w) (hx:x=.own id\/∃ n o l,x=.osl id n o l) (h:zad m w (RR Γ m H w) x v) (hb:H id=.live blk) (hc:(∀ t cs,blk≠.cells t cs)/\(∀ k a es,blk≠.map k a es)/\∀ k a es x,blk≠.iter k a es x) :
 ∃ a len c l,v=.slice a len c/\m id=some l/\(len≠0->l.nil=false/\(∃ o,a=some ⟨l.blk,o,none⟩)/\∃ arr t,w.heap[l.blk]?=some (.cells arr t (0,0))):=by
 obtain ⟨l,hl,hbr,_⟩:=hok.live id _ hb;have hheap:l.nil=false->∃ arr t,w.heap[l.blk]?=some (.cells arr t (0,0)):=by
  intro hn;cases blk with
  | cells t cs=>exact absurd rfl (hc.1 t cs)
  | map k a es=>exact absurd rfl (hc.2.1 k a es)
  | iter k a es x=>exact absurd rfl (hc.2.2 k a es x)
  | row t n rows =>
   obtain ⟨_,_,⟨h1,_⟩ | ⟨_,_,_,arr,h2,_⟩⟩:=hbr
   . rw [hn] at h1;cases h1
   . exact ⟨arr,t,h2⟩
  | buf t n rows c =>
   obtain ⟨_,_,_,_,_,arr,h2,_⟩:=hbr;exact ⟨arr,t,h2⟩
 rcases hx with rfl | ⟨n,o,len,rfl⟩
 . simp only [zad] at h
   obtain ⟨l',hl',rfl⟩:=h;rw [hl] at hl';cases hl';cases hn:l.nil with
   | true=>exact ⟨none,0,0,l,by simp [hdr,hn],hl,fun h=>absurd rfl h⟩
   | false=>exact ⟨_,_,_,l,by simp only [hdr,hn];rfl,hl,fun _=>⟨hn,⟨_,rfl⟩,hheap hn⟩⟩
 . obtain ⟨l',a,c,hl',h1,h2,h3,rfl,h5⟩:=zhg h
   rw [hl] at hl';cases hl';exact ⟨a,len,c,l,rfl,hl,fun h=>⟨(h5 h).1,⟨_,(h5 h).2⟩,hheap (h5 h).1⟩⟩
theorem zya {f:FuncId} {args:List HV} {r:Res} (h:Ov P f args H r) {vals:List Value} (hok:zag Γ m H w) (hargs:zae m w (RR Γ m H w) args vals) :
 ∃ v w' m',(callFunc f vals.toArray).run P w=.ok (.value v) w'/\WS Γ H m w (zbe H r.ups) m' w'/\zad m' w' (RR Γ m' (zbe H r.ups) w') r.val v:=by
 obtain ⟨fn,e,i,x,y,i1,i2,b1,b2,h1,h2,h3,h4,h5,⟨t,h6,h6'⟩,h7,h8,rfl,h10,h11,h12,h13,h14,h15,h16,rfl⟩:=h.out;simp only [zae] at hargs;obtain ⟨vx,_,rfl,hx,vy,_,rfl,hy,rfl⟩:=hargs;obtain ⟨a,la,ca,l1,rfl,g1,g2⟩:=zzb hok h10 hx h13 h15;obtain ⟨b,lb,cb,l2,rfl,g3,g4⟩:=zzb hok h11 hy h14 h16;have zbq:=zom (P:=P) (w:=w) (ps:=fn.params) (rs:=fn.resultTypes) h6 h6' h7 h8 (a:=a) (b:=b) (la:=la) (ca:=ca) (lb:=lb) (cb:=cb) (fun k1 k2=>by
  obtain ⟨n1,⟨o1,rfl⟩,arr1,t1,q1⟩:=g2 k1;obtain ⟨n2,⟨o2,rfl⟩,arr2,t2,q2⟩:=g4 k2;exact ⟨l1.blk,l2.blk,o1,o2,arr1,arr2,t1,t2,rfl,rfl,fun he=>h12 (hok.inj _ _ _ _ _ _ h13 h14 g1 g3 n1 n2 he),q1,q2⟩)
 refine ⟨.bool false,w,m,?_,.refl hok,zbj _ rfl⟩;simp [callFunc,h1,h2,h3,h4,h5,zbq]
theorem zwo:zds P (CR P):=by
 intro f args H d r h Γ m w vals hok hargs;cases h with
 | lend h=>exact .inl (zsz h hok hargs)
 | give h=>exact .inl (zsn h hok hargs)
 | ov h=>exact .inr (zya h hok hargs)
def yau (pins:List Nat) (v:HV) (H2:Nat->zaa) (r:HV) (H':Nat->zaa):Prop:=HLe (zkf [v] 1 H2 pins) (zkf [r] 1 H' pins)
theorem zol {f : FuncId} {fn : Func} {c : Code} (hf : P.funcs[f]? = some fn) (hb : fn.body = some c) (hn : fn.name ≠ "runtime.NumGoroutine") (vals : Array Value) :
 (callFunc f vals).run P w=.ok (.enter f vals) w:=by
 simp [callFunc,hf,hb,hn]
theorem zkl (hm : P.follows .mixedOrders = true) {f : FuncId} {fn : Func} (hf : P.funcs[f]? = some fn) (hn : fn.name ≠ "runtime.NumGoroutine") {args : List HV} {pins : List Nat} (hpins : ∀ id, pin <= id -> H id = .free \/ id ∈ pins) {K : HV -> (Nat -> zaa) -> Prop}
 (h:yca P (CR P) fn args H pins K) {vals:List Value} (hok:zag Γ m H w) (hargs:zae m w (RR Γ m H w) args vals) (h0:Γ.m0=m) :
 (callFunc f vals.toArray).run P w=.ok (.enter f vals.toArray) w /\
 Calls P f vals.toArray w fun e w'=>∃ x H' v m',e=.returned v/\K x H'/\zag Γ m' H' w'/\zad m' w' (RR Γ m' H' w') x v/\∀ id l,pin<=id->m id=some l->m' id=some l:=by
 unfold yca at h;split at h
 . rename_i c hb
   refine ⟨zol hf hb hn _,?_⟩;obtain ⟨hle,h⟩:=zab h;have hle:=zy9 hle;have hlen:=hargs.length;refine calls_of_wp hf hb ?_;have hc:zfb Γ P m (zkf args fn.ntmps H pins) {tmps:=vals.toArray++Array.replicate (fn.ntmps-vals.toArray.size) undef,defers:=[]} w:=by
    refine ⟨hok,fun t=>?_,by simp [zkf];omega,rfl,fun id l hp hl=>⟨?_,by rw [<- h0];exact hl⟩⟩
    rotate_left
    . rcases hpins id hp with hf | hf
      . rw [h0,hok.free id hf] at hl;cases hl
      . exact hf
    simp only [zkf,zcp];rw [zy35,Array.getElem?_append];by_cases ht:t<args.length
    . obtain ⟨v,hv,hrep⟩:=hargs.get t args[t] (zy15 ht)
      rw [zy12 (by simpa [hlen] using ht),zy15 ht];simp only [Option.getD_some,List.getElem?_toArray,hv];exact hrep
    . rw [zy14 (by simpa [hlen] using ht),zy36 (by omega)]
      simp only [Option.getD_none,zad];rw [Array.getElem?_replicate];split<;>rfl
   refine zuq hm zwo zwn c _ _ _ m _ w h hc fun e s' m' a' w' he hc'=>?_
   have fin:ycb P s' fn.results.toList (fun v=>K v s'.heap)->∃ v,(results fn a'.tmps).run P w'=.ok v w'/\∃ x H' v0 m',Ending.returned v=.returned v0/\K x H'/\zag Γ m' H' w'/\zad m' w' (RR Γ m' H' w') x v0/\∀ id l,pin<=id->m id=some l->m' id=some l:=by
    intro hr;obtain ⟨x,v,h1,h2,h3⟩:=zzs hc' hr;exact ⟨v,h3,x,s'.heap,v,m',rfl,h1,hc'.heap,h2,fun id l hp hl=>(hc'.pin id l hp (by rw [h0];exact hl)).2⟩
   cases e with
   | exit i=>exact he.elim
   | normal=>exact ⟨hc'.defers,fin he⟩
   | ret=>exact ⟨hc'.defers,fin he⟩
 . exact h.elim
theorem yau.rep (P:Program) {pins:List Nat} {x r:HV} {H2 H':Nat->zaa} {v:Value} (h:yau pins x H2 r H') (hok:zag Γ m H2 w) (hv:zad m w (RR Γ m H2 w) x v) (hp:∀ id l,pin<=id->Γ.m0 id=some l->id∈pins/\m id=some l) :
 ∃ m',zag Γ m' H' w/\zad m' w (RR Γ m' H' w) r v/\∀ id l,pin<=id->Γ.m0 id=some l->m' id=some l:=by
 have hc:zfb Γ P m (zkf [x] 1 H2 pins) {tmps:=#[v],defers:=[]} w:=by
  refine ⟨hok,fun t=>?_,rfl,rfl,hp⟩;cases t with
  | zero=>exact hv
  | succ t=>simp only [zkf,zcp,zy58,List.getElem?_nil,Option.getD_none,zad];simp
 obtain ⟨m',hc'⟩:=HLe.conc hc h;exact ⟨m',hc'.heap,hc'.slots 0,fun id l h1 h2=>(hc'.pin id l h1 h2).2⟩
theorem zce (hm : P.follows .mixedOrders = true) {f : FuncId} {fn : Func} (hf : P.funcs[f]? = some fn) (hn : fn.name ≠ "runtime.NumGoroutine") (pins : List Nat) (hpins : ∀ id, H id = .free \/ id ∈ pins) {args : List HV} {r : HV} {H' : Nat -> zaa}
 (h:yca P (CR P) fn args H pins fun x H2=>yau pins x H2 r H'):zbl P f args H r H':=by
 intro Γ m w vals hok hargs h0;obtain ⟨h1,h2⟩:=zkl hm hf hn (fun id _=>hpins id) h hok hargs h0;refine ⟨h1,h2.mono fun e w' he=>?_⟩;obtain ⟨x,H2,v,m',rfl,hk,hok',hv,hp⟩:=he;have hmem:∀ id l,m id=some l->id∈pins:=fun id l hl=>(hpins id).resolve_left fun hf=>by rw [hok.free id hf] at hl;cases hl
 obtain ⟨m2,h3,h4,h5⟩:=hk.rep P hok' hv fun id l hi hl=>⟨hmem id l (by rw [<- h0];exact hl),hp id l hi (by rw [<- h0];exact hl)⟩
 exact ⟨v,m2,rfl,h3,h4,fun id l hi hl=>h5 id l hi (by rw [h0];exact hl)⟩
theorem zcj (hm : P.follows .mixedOrders = true) {f : FuncId} {fn : Func} (hf : P.funcs[f]? = some fn) (hn : fn.name ≠ "runtime.NumGoroutine") {args : List HV} {r : HV}
 (h:yca P (CR P) fn args zam [] fun x H2=>zcf H2 x fun y _=>ziz (zft P fn.resultTypes.toList y) fun y=>y=r):zbl P f args zam r zam:=by
 intro Γ m w vals hok hargs h0;obtain ⟨h1,h2⟩:=zkl hm hf hn (fun _ _=>.inl rfl) h hok hargs h0;refine ⟨h1,h2.mono fun e w' he=>?_⟩;obtain ⟨x,H2,v,m',rfl,hk,hok',hv,hp⟩:=he;obtain ⟨y,us,hy,hview⟩:=zdz _ hk;rw [zja] at hy;subst hy;have hws:=WS.frz hok' hview.frz;have hy:=hview.rep m' w' _ v (WS.kept hview.frz hws.ok) (hws.rep hv);have hRn:∀ b,RR Γ m' (zbe H2 us) w' b->RR Γ (fun _=>none) zam w' b:=fun b hb=>⟨hb.1,hb.2.1,zhd⟩
 refine ⟨v,fun _=>none,rfl,⟨hok'.size,hok'.os,hok'.tape,hok'.output,hok'.frame,fun _ _=>rfl,(fun id b hb=>by cases hb),(fun id b hb=>by cases hb),(fun id id' b b' l l' hb=>by cases hb),hok'.dom⟩,?_,fun id l _ hl=>?_⟩
 . refine zad.zft _ ?_
   refine zry (σ:=zia) (m:=m') (R:=RR Γ m' (zbe H2 us) w') (fun i j hj=>by cases hj) (fun i hj=>by cases hj) hRn _ v hview.noid ?_;rw [zml _ hview.noid];exact hy
 . rw [hok.free id rfl] at hl;cases hl
end
end Go.HL
namespace Go.HL
abbrev i64 (n:Int):HV:=.p (.v (.int .i64 n))
abbrev W (z:Int):Int:=IntKind.i64.wrap z
theorem zgb {b:Bool} {A B:Prop} (h1:b=true->A) (h2:b=false->B):hif b A B:=by cases b<;>simp_all [hif]
theorem zat {b:Bool} {A B:Prop} (h:b=true) (ha:A):hif b A B:=by subst h;exact ha
theorem zap {b:Bool} {A B:Prop} (h:b=false) (hb:B):hif b A B:=by subst h;exact hb
theorem zjg {k:IntKind} {z:Int} {K:Int->Prop} (hz:k.wrap z=z) (h:K z):zgf k z K:=⟨z,hz.symm,h⟩
theorem zas {c k:Prop} (h:c) (hk:k):zfq c k:=⟨h,hk⟩
theorem zjc {P:Program} {s0:HS} {all:Array Oper} {labs:List Lab} {k:Prop} (h:zej all labs=true) (hk:k):zud P s0 all labs k:=⟨.inl h,hk⟩
theorem zwx (ex:List Nat) {P:Program} {s0:HS} {all:Array Oper} {labs:List Lab} {k:Prop} (h:zdx ex all labs=true) (h2:zwk (zlf P s0 all.toList labs) ex) (hk:k):zud P s0 all labs k:=⟨.inr ⟨ex,h,h2⟩,hk⟩
theorem zgy {rows:List (List PV)} {i:Int} {K:List PV->Prop} {r:List PV} (h0:0<=i) (h:rows[i.toNat]?=some r) (hk:K r):zdq rows i K:=⟨r,h0,h,hk⟩
theorem zdh {rows:List (List PV)} {K:List UInt8->Prop} {bs:List UInt8} (h:rows=bs.map zdt) (hk:K bs):zrd rows K:=⟨bs,h,hk⟩
theorem zoz {z:Int} (h1:-9223372036854775808<=z) (h2:z<=9223372036854775807):W z=z:=by
 unfold W IntKind.wrap;simp [IntKind.bits,IntKind.signed];omega
section
variable {P:Program}
theorem zgu {f:FuncId} {args:List HV} {d:Nat} {H:Nat->zaa} {K:Res->Prop} (h:zch H args fun a us=>zdo (normArgs P (zmi P f) a) fun a=>∃ r,zbl P f a zam r zam/\zoo r=true/\K ⟨r,[],us.map (·.1)⟩) :
 zsq (CR P) f args d H K:=by
 obtain ⟨a,us,h,hv⟩:=zbi _ h;rw [zcd] at h;obtain ⟨r,h1,h2,h3⟩:=h;replace h1:=h1.args fun _ _ _ _ hx=>hx.normArgs _
 exact ⟨_,.lend ⟨hv.loc H (fun _ _=>rfl) _ ⟨rfl,rfl⟩,h1,h2,rfl,rfl⟩,h3⟩
theorem zqa {H:Nat->zaa}:∀ {xs:List HV} {K:List HV->List (Nat×zaa)->Prop},zch H xs K->zeq H (xs.map fun _=>true) xs K
 | [],K,h=>by simpa only [List.map_nil,zeq,zch] using h
 | x::xs,K,h=>by
  simp only [zy18,zeq];simp only [zch] at h;obtain ⟨y,u,h1,hv⟩:=zdz x h;exact hv.loc H (fun _ _=>rfl) _ (zqa h1)
theorem zdv {f:FuncId} {args:List HV} {d:Nat} {H:Nat->zaa} {K:Res->Prop} (h:zch H args fun a us=>zdo (normArgs P (zmi P f) a) fun a=>∃ r,zbl P f a zam r zam/\zdr zia r=true/\K ⟨r,us,[]⟩) :
 zsq (CR P) f args d H K:=by
 obtain ⟨a,us,h,hv⟩:=zbi _ h;rw [zcd] at h;obtain ⟨r,h1,h2,h3⟩:=h;replace h1:=h1.args fun _ _ _ _ hx=>hx.normArgs _
 have hre:ren []=zia:=by funext i;rfl
 refine ⟨_,.give (B:=[]) (F:=[]) (us:=us) (ms:=args.map fun _=>true) (args1:=a) (args':=a) (H':=zam) (r':=r) (H'':=zam)
  ⟨zqa (hv.loc H (fun _ _=>rfl) _ ⟨rfl,rfl⟩),h1,by rw [hre];exact hv.noid,by rw [hre];exact zel a hv.noid,fun _=>.inl rfl,by simp,by simp,by simp,by simp,by simp,by simp,by simp,by
   show zdr (ren []) r=true;rw [hre];exact h2,by show r=rn (ren []) r;rw [hre];exact (zml r h2).symm,by simp⟩,h3⟩
end
def zwm (σ:Ren) (s:HS):List (Nat×HV)->Prop
 | []=>True
 | (i,x)::r=>(zdr σ x=true/\rn σ x=s.slot i)/\zwm σ s r
def zpn (σ:Ren) (s:HS):List (Nat×zaa)->Prop
 | []=>True
 | (id,b)::r=>(match b with
  | .free=>False
  | .dead=>(σ id).isSome=true
  | .live b=>zfv σ b=true/\((∃ j,σ id=some (some j)/\s.heap j=.live (rnB σ b))\/(σ id=some none/\ybm b))
  | .ro b=>zfv σ b=true/\∃ j,σ id=some (some j)/\(s.heap j=.live (rnB σ b)\/s.heap j=.ro (rnB σ b)))/\zpn σ s r
def zjs (σ:Ren):List Nat->Prop
 | []=>True
 | i::r=>σ i=some (some i)/\zjs σ r
def zyk:List (Nat×Option Nat)->List Nat
 | []=>[]
 | (_,some j)::r=>j::zyk r
 | (_,none)::r=>zyk r
def zby:List Nat->Bool
 | []=>true
 | x::r=>!(r.any (Nat.beq x))&&zby r
def zdy (L:List (Nat×zaa)):List (Nat×Option Nat)->Bool
 | []=>true
 | (i,_)::r=>L.any (fun p=>Nat.beq i p.1)&&zdy L r
theorem zme {α:Type} {d:α}:∀ {l:List (Nat×α)} {i:Nat},lk d l i=d\/∃ x,(i,x)∈l/\lk d l i=x
 | [],i=>.inl rfl
 | (j,x)::r,i=>by
  simp only [lk];cases hb:Nat.beq i j with
  | true=>have:=zy0 hb;subst this;exact .inr ⟨x,by simp,rfl⟩
  | false =>
   rcases zme (d:=d) (l:=r) (i:=i) with h | ⟨y,h1,h2⟩
   . exact .inl h
   . exact .inr ⟨y,by simp [h1],h2⟩
theorem zsb {σ:Ren} {s:HS}:∀ {l:List (Nat×HV)} {i:Nat} {x:HV},zwm σ s l->(i,x)∈l->zdr σ x=true/\rn σ x=s.slot i
 | (j,y)::r,i,x,h,hm=>by
  simp only [zwm] at h;cases hm with
  | head=>exact h.1
  | tail _ hm=>exact zsb h.2 hm
theorem zjj {l:List (Nat×Option Nat)} {i:Nat} {o:Option Nat} (h:lkN l i=some o):(i,o)∈l:=by
 induction l with
 | nil=>cases h
 | cons p l ih =>
  obtain ⟨a,b⟩:=p;simp only [lkN] at h;cases hb:Nat.beq i a with
  | true=>rw [hb] at h;cases h;have:=zy0 hb;subst this;simp
  | false=>rw [hb] at h;simp [ih h]
theorem zkt {L:List (Nat×zaa)}:∀ {l:List (Nat×Option Nat)} {i:Nat} {o:Option Nat},zdy L l=true->(i,o)∈l->∃ b,(i,b)∈L
 | (j,y)::r,i,o,h,hm=>by
  simp only [zdy,zy1] at h;cases hm with
  | head =>
   obtain ⟨p,hp,hb⟩:=zy60.1 h.1;have:=zy0 hb;subst this;exact ⟨p.2,hp⟩
  | tail _ hm=>exact zkt h.2 hm
theorem zuz {α:Type} {d:α}:∀ {l:List (Nat×α)} {i:Nat},(∀ x,(i,x)∉l)->lk d l i=d
 | [],i,_=>rfl
 | (j,x)::r,i,h=>by
  simp only [lk];cases hb:Nat.beq i j with
  | true=>have:=zy0 hb;subst this;exact absurd zz1 (h x)
  | false=>exact zuz fun y hy=>h y zz34
theorem zri {σ:Ren} {s:HS}:∀ {l:List (Nat×zaa)} {i:Nat} {x:zaa},zpn σ s l->(i,x)∈l->zpn σ s [(i,x)]
 | (j,y)::r,i,x,h,hm=>by
  simp only [zpn] at h;cases hm with
  | head=>exact ⟨h.1,trivial⟩
  | tail _ hm=>exact zri h.2 hm
theorem zmp:∀ {l:List (Nat×Option Nat)},zby (zyk l)=true->∀ {i i' j:Nat},(i,some j)∈l->(i',some j)∈l->i=i'
 | [],_,i,i',j,h,_=>by cases h
 | (a,none)::r,hn,i,i',j,h,h'=>by
  cases h with
  | tail _ h=>cases h' with
   | tail _ h'=>exact zmp (l:=r) hn h h'
 | (a,some b)::r,hn,i,i',j,h,h'=>by
  simp only [zyk,zby,zy1,zy53] at hn;have hin:∀ {r:List (Nat×Option Nat)} {i j:Nat},(i,some j)∈r->j∈zyk r:=by
   intro r
   induction r with
   | nil=>intro i j h;cases h
   | cons p r ih =>
    intro i j h;obtain ⟨a,o⟩:=p;cases h with
    | head=>simp [zyk]
    | tail _ h=>cases o<;>simp [zyk,ih h]
  have hno:∀ {i:Nat},(i,some b)∉r:=by
   intro i hi;have:=List.any_eq_false.1 hn.1 b (hin hi);simp at this
  cases h with
  | head=>cases h' with
   | head=>rfl
   | tail _ h'=>exact absurd h' hno
  | tail _ h=>cases h' with
   | head=>exact absurd h hno
   | tail _ h'=>exact zmp hn.2 h h'
theorem zrf {s:HS} {heap:List (Nat×zaa)} {pins:List Nat} (l:List (Nat×Option Nat)) (h1:zdy heap l=true) (_:zjs (lkN l) pins) (h5:zpn (lkN l) s heap):∀ id,match lk zaa.free heap id with
 | .free=>lkN l id=none
 | .dead=>True
 | .live b=>zfv (lkN l) b=true/\((∃ j,lkN l id=some (some j)/\s.heap j=.live (rnB (lkN l) b))\/(lkN l id=some none/\ybm b))
 | .ro b=>zfv (lkN l) b=true/\∃ j,lkN l id=some (some j)/\(s.heap j=.live (rnB (lkN l) b)\/s.heap j=.ro (rnB (lkN l) b)):=by
 intro id;by_cases hm:∃ x,(id,x)∈heap
 . rcases zme (d:=zaa.free) (l:=heap) (i:=id) with h | ⟨x,hx,h⟩
   . exfalso
     obtain ⟨x,hx⟩:=hm;have gen:∀ {l:List (Nat×zaa)} {σ:Ren},zpn σ s l->(∃ x,(id,x)∈l)->lk .free l id≠.free:=by
      intro l
      induction l with
      | nil=>intro σ _ ⟨x,hx⟩;cases hx
      | cons p l ih =>
       obtain ⟨a,y⟩:=p;intro σ h ⟨x,hx⟩;simp only [lk];cases hb:Nat.beq id a with
       | true =>
        show y≠.free;intro hy;subst hy;exact h.1
       | false =>
        refine ih h.2 ?_;cases hx with
        | head=>simp at hb
        | tail _ hx=>exact ⟨x,hx⟩
     exact gen h5 ⟨x,hx⟩ h
   . rw [h]
     have:=(zri h5 hx).1;cases x<;>simp only at this ⊢
     . exact this
     . exact this
 . rw [zuz fun x hx=>hm ⟨x,hx⟩]
   show lkN l id=none;cases ho:lkN l id with
   | none=>rfl
   | some o=>exact absurd (zkt h1 (zjj ho)) hm
theorem zrg {pins:List Nat} (l:List (Nat×Option Nat)) (h3:zjs (lkN l) pins):∀ id∈pins,lkN l id=some (some id):=by
 intro id hid;have gen:∀ {r:List Nat},zjs (lkN l) r->id∈r->lkN l id=some (some id):=by
  intro r
  induction r with
  | nil=>intro _ h;cases h
  | cons a r ih =>
   intro h hm;simp only [zjs] at h;cases hm with
   | head=>exact h.1
   | tail _ hm=>exact ih h.2 hm
 exact gen h3 hid
def zna (heap:List (Nat×zaa)) (i:Nat):Bool:=match lk .free heap i with
 | .dead=>true
 | _=>false
def zfx (heap:List (Nat×zaa)):List (Nat×Option Nat)->List Nat
 | []=>[]
 | (i,some j)::r=>bif zna heap i then zfx heap r else j::zfx heap r
 | (_,none)::r=>zfx heap r
theorem zsf {heap:List (Nat×zaa)}:∀ (l:List (Nat×Option Nat)),zfx heap l=zyk (l.filter fun p=>!zna heap p.1)
 | []=>rfl
 | (i,o)::r=>by
  cases hd:zna heap i<;>cases o<;>simp [zfx,zyk,List.filter_cons,hd,zsf r]
theorem zou {heap:List (Nat×zaa)} {l:List (Nat×Option Nat)} (h:zby (zfx heap l)=true) {i i' j:Nat} (h1:(i,some j)∈l) (h2:(i',some j)∈l) (d1:lk .free heap i≠.dead) (d2:lk .free heap i'≠.dead):i=i':=by
 rw [zsf] at h;have hd:∀ k,lk .free heap k≠.dead->zna heap k=false:=by
  intro k hk;unfold zna;split
  . rename_i he;exact absurd he hk
  . rfl
 exact zmp h (zy94.2 ⟨h1,by simp [hd i d1]⟩) (zy94.2 ⟨h2,by simp [hd i' d2]⟩)
theorem zzp {s:HS} {pins:List Nat} {n:Nat} {slots:List (Nat×HV)} {heap:List (Nat×zaa)} (l:List (Nat×Option Nat)) (hn:n=s.n) (hp:pins=s.pins) (h1:zdy heap l=true) (h2:zby (zfx heap l)=true)
 (h3:zjs (lkN l) pins) (h4:zwm (lkN l) s slots) (h5:zpn (lkN l) s heap):ybw s (hsP pins n slots heap):=by
 refine ⟨hn,hp,lkN l,fun i=>?_,zrf l h1 h3 h5,fun id id' b j hb hd hj hj'=>zou h2 (zjj hj) (zjj hj') zz19 hd,fun id hid=>zrg l h3 id (hp ▸ hid)⟩;rcases zme (d:=HV.any) (l:=slots) (i:=i) with h | ⟨x,hx,h⟩
 . exact .inl h
 . right
   show zdr (lkN l) (lk .any slots i)=true/\rn (lkN l) (lk .any slots i)=s.slot i;rw [h];exact zsb h4 hx
theorem zuf {s:HS} {pins:List Nat} {n:Nat} {slots:List (Nat×HV)} {heap:List (Nat×zaa)} (l:List (Nat×Option Nat)) (hn:n=s.n) (hp:pins=s.pins) (h1:zdy heap l=true) (h2:zby (zfx heap l)=true)
 (h3:zjs (lkN l) pins) (h4:zwm (lkN l) s slots) (h5:zpn (lkN l) s heap):HLe s (hsP pins n slots heap):=⟨[],by rw [ztz];exact zzp l hn hp h1 h2 h3 h4 h5⟩
theorem zys {s:HS} {n:Nat} {slots:List (Nat×HV)} {heap:List (Nat×zaa)} (l:List (Nat×Option Nat)) (hn:n=s.n) (hp:[]=s.pins) (h1:zdy heap l=true) (h2:zby (zfx heap l)=true)
 (h4:zwm (lkN l) s slots) (h5:zpn (lkN l) s heap):HLe s (hs n slots heap):=zuf l hn hp h1 h2 trivial h4 h5
end Go.HL
namespace Go.HL
section
variable {P:Program}
def zwu (H:Nat->zaa):List (Nat×Nat)->Prop
 | []=>True
 | p::r=>(Nat.blt p.1 pin=true/\H p.2=.free)/\zwu H r
def zzn (σ:Ren) (H' H:Nat->zaa):List (Nat×Nat)->Prop
 | []=>True
 | p::r=>(Nat.ble pin p.1=true/\∃ b,zfv σ b=true/\((H' p.1=.live b/\H p.2=.live (rnB σ b))\/(H' p.1=.ro b/\H p.2=.ro (rnB σ b))))/\zzn σ H' H r
def ztq (σ:Ren) (H'':Nat->zaa):List (Nat×Nat)->Bool
 | []=>true
 | p::r=>yak σ (H'' p.1)&&ztq σ H'' r
def ybv (σ:Ren) (H'':Nat->zaa):List (Nat×Nat)->List (Nat×zaa)
 | []=>[]
 | p::r=>(p.2,rnS σ (H'' p.1))::ybv σ H'' r
def zxk (B:List (Nat×Nat)):List (Nat×zaa)->Bool
 | []=>true
 | p::r=>B.any (fun q=>Nat.beq q.1 p.1)&&zxk B r
theorem zql {σ:Ren} {H'':Nat->zaa}:∀ {L:List (Nat×Nat)},ybv σ H'' L=L.map fun p=>(p.2,rnS σ (H'' p.1))
 | []=>rfl
 | p::r=>by simp only [ybv,zy18,zql]
theorem zjb {H:Nat->zaa}:∀ {L:List (Nat×Nat)},zwu H L->∀ p∈L,p.1<pin/\H p.2=.free
 | q::r,h,p,hp=>by
  rcases zy3.1 hp with rfl | hp
  . exact ⟨by have:=h.1.1;simp only [Nat.blt,Nat.ble_eq] at this;exact this,h.1.2⟩
  . exact zjb h.2 p hp
theorem znh {σ:Ren} {H' H:Nat->zaa}:∀ {L:List (Nat×Nat)},zzn σ H' H L->∀ p∈L,pin<=p.1/\∃ b,zfv σ b=true/\((H' p.1=.live b/\H p.2=.live (rnB σ b))\/(H' p.1=.ro b/\H p.2=.ro (rnB σ b)))
 | q::r,h,p,hp=>by
  rcases zy3.1 hp with rfl | hp
  . exact ⟨zy9 h.1.1,h.1.2⟩
  . exact znh h.2 p hp
theorem zir {σ:Ren} {H'':Nat->zaa}:∀ {L:List (Nat×Nat)},ztq σ H'' L=true->∀ p∈L,yak σ (H'' p.1)=true
 | q::r,h,p,hp=>by
  simp only [ztq,zy1] at h;rcases zy3.1 hp with rfl | hp
  . exact h.1
  . exact zir h.2 p hp
theorem zcc:∀ {l:List Nat},zby l=true->l.Nodup
 | [],_=>by simp
 | x::r,h=>by
  simp only [zby,zy1,zy53] at h;refine zy63.2 ⟨fun hm=>?_,zcc h.2⟩;have:=List.any_eq_false.1 h.1 x hm;simp at this
theorem zks {B:List (Nat×Nat)}:∀ {L:List (Nat×zaa)},zxk B L=true->∀ i,lk .free L i=.free\/∃ p∈B,p.1=i
 | [],_,i=>.inl rfl
 | q::r,h,i=>by
  simp only [zxk,zy1] at h;obtain ⟨a,b⟩:=q;simp only [lk];cases hb:Nat.beq i a with
  | true =>
   have:=zy0 hb;subst this;obtain ⟨p,hp,he⟩:=zy60.1 h.1;exact .inr ⟨p,hp,zy0 he⟩
  | false=>exact zks h.2 i
def ycg (P:Program) (f:FuncId) (H:Nat->zaa) (B F:List (Nat×Nat)) (a1:List HV) (us:List (Nat×zaa)) (K:Res->Prop):Prop :=
 ∃ args' L' r' L'',zbl P f args' (lk .free L') r' (lk .free L'')/\(zfw (ren B) args'=true/\rnL (ren B) args'=a1/\zxk B L'=true/\zzn (ren B) (lk .free L') (zbe H us) B/\zwu H F /\
  (zby (B.map (·.1))&&zby (B.map (·.2))&&zby (F.map (·.1))&&zby (F.map (·.2)))=true/\ztq (ren (B++F)) (lk .free L'') (B++F)=true/\zdr (ren (B++F)) r'=true) /\
  K ⟨rn (ren (B++F)) r',us++ybv (ren (B++F)) (lk .free L'') (B++F),[]⟩
theorem zbg (ms:List Bool) (B F:List (Nat×Nat)) {f:FuncId} {args:List HV} {d:Nat} {H:Nat->zaa} {K:Res->Prop} (h:zeq H ms args fun a us=>zdo a fun a=>ycg P f H B F a us K) :
 zsq (CR P) f args d H K:=by
 have h:=zcy _ _ h;obtain ⟨a,us,hg,hv⟩:=h;rw [zcd] at hg;obtain ⟨args',L',r',L'',h1,⟨h2,h3,h4,h5,h6,h7,h8,h9⟩,h10⟩:=hg;simp only [zy1] at h7;refine ⟨_,.give (us:=us) (ms:=ms) (args1:=a) (B:=B) (F:=F) (args':=args') (H':=lk .free L') (r':=r') (H'':=lk .free L'')
  ⟨hv.loc H (fun _ _=>rfl) _ ⟨rfl,rfl⟩,h1,h2,h3,zks h4,znh h5,zcc h7.1.1.1,zcc h7.1.1.2,zjb h6,zcc h7.1.2,zcc h7.2,zir h8,h9,rfl,by rw [zql]⟩,h10⟩
theorem zub (F:List (Nat×Nat)) {f:FuncId} {args:List HV} {d:Nat} {H:Nat->zaa} {K:Res->Prop}
 (h:zch H args fun a us=>zdo (normArgs P (zmi P f) a) fun a=>∃ r' L'',zbl P f a zam r' (lk .free L'') /\
  (zwu H F/\(zby (F.map (·.1))&&zby (F.map (·.2)))=true/\ztq (ren F) (lk .free L'') F=true/\zdr (ren F) r'=true)/\K ⟨rn (ren F) r',us++ybv (ren F) (lk .free L'') F,[]⟩) :
 zsq (CR P) f args d H K:=by
 obtain ⟨a,us,h,hv⟩:=zbi _ h;rw [zcd] at h;obtain ⟨r',L'',h1,⟨h6,h7,h8,h9⟩,h10⟩:=h;simp only [zy1] at h7;replace h1:=h1.args fun _ _ _ _ hx=>hx.normArgs _
 have hre:ren []=zia:=by funext i;rfl
 refine ⟨_,.give (B:=[]) (F:=F) (us:=us) (ms:=args.map fun _=>true) (args1:=a) (args':=a) (H':=zam) (r':=r') (H'':=lk .free L'')
  ⟨zqa (hv.loc H (fun _ _=>rfl) _ ⟨rfl,rfl⟩),h1,by rw [hre];exact hv.noid,by rw [hre];exact zel a hv.noid,fun _=>.inl rfl,by simp,by simp,by simp,zjb h6,zcc h7.1,zcc h7.2,zir h8,h9,rfl,by rw [zql];rfl⟩,h10⟩
theorem zzo (fz:List Nat) {pins:List Nat} {v r:HV} {H2:Nat->zaa} {heap:List (Nat×zaa)} (l:List (Nat×Option Nat)) (h1:zdy heap l=true) (h2:zby (zfx heap l)=true) (h3:zjs (lkN l) pins)
 (h4:zdr (lkN l) r=true) (h5:rn (lkN l) r=fzV fz H2 v) (h6:zpn (lkN l) (fzS fz (zkf [v] 1 H2 pins)) heap):yau pins v H2 r (lk .free heap):=by
 refine ⟨fz,rfl,rfl,lkN l,fun i=>?_,?_,?_,?_⟩
 . cases i with
   | zero=>exact .inr ⟨h4,h5⟩
   | succ i =>
    refine .inr ⟨?_,?_⟩
    . show zdr (lkN l) ((nth [r] (i+1)).getD .und)=true
      simp [nth,zdr]
    . show rn (lkN l) ((nth [r] (i+1)).getD .und)=fzV fz H2 ((nth [v] (i+1)).getD .und)
      simp [nth,rn,fzV]
 . exact zrf l h1 h3 h6
 . intro id id' b j hb hd hj hj'
   exact zou h2 (zjj hj) (zjj hj') zz19 hd
 . exact zrg l h3
theorem zbp {pins:List Nat} {v r:HV} {H2:Nat->zaa} {heap:List (Nat×zaa)} (l:List (Nat×Option Nat)) (h1:zdy heap l=true) (h2:zby (zfx heap l)=true) (h3:zjs (lkN l) pins)
 (h4:zdr (lkN l) r=true) (h5:rn (lkN l) r=v) (h6:zpn (lkN l) (zkf [v] 1 H2 pins) heap):yau pins v H2 r (lk .free heap) :=
 zzo [] l h1 h2 h3 h4 (by rw [zpi];exact h5) (by rw [ztz];exact h6)
end
end Go.HL
namespace Go.HL
section
variable {P:Program}
theorem zpk {f:FuncId} {args:List HV} {d:Nat} {H:Nat->zaa} {K:Res->Prop} (h:zch H args fun a us=>∃ r,zbl P f a zam r zam/\zoo r=true/\K ⟨r,[],us.map (·.1)⟩) :
 zsq (CR P) f args d H K:=by
 obtain ⟨a,us,⟨r,h1,h2,h3⟩,hv⟩:=zbi _ h;exact ⟨_,.lend ⟨hv.loc H (fun _ _=>rfl) _ ⟨rfl,rfl⟩,h1,h2,rfl,rfl⟩,h3⟩
end
end Go.HL
namespace Go.HL
section
variable {P:Program}
end
end Go.HL
namespace Go.HL
theorem zek:∀ {L:List (Nat×zaa)} (i:Nat),lk .free L i=.free\/i∈L.map (·.1)
 | [],i=>.inl rfl
 | (a,b)::r,i=>by
  simp only [lk,zy18,zy3];cases hb:Nat.beq i a with
  | true=>exact .inr (.inl (zy0 hb))
  | false =>
   rcases zek (L:=r) i with h | h
   . exact .inl h
   . exact .inr (.inr h)
end Go.HL
namespace Go.HL
open Go.RowKit
mutual
def PV.bulk:PV->Nat
 | .v (.string s)=>s.size+1
 | .v _=>1
 | .sl _ rows=>zef rows+1
def zct:List PV->Nat
 | []=>0
 | x::r=>x.bulk+zct r
def zef:List (List PV)->Nat
 | []=>0
 | r::rs=>zct r+zef rs
end
mutual
def dwb {H:Type}:DataW H->Nat
 | .lit (.string bytes)=>bytes.length+1
 | .lit _=>1
 | .nil=>1
 | .ptr d=>dwb d+1
 | .slice elems spare=>zhs elems+zhs spare+1
 | .agg parts=>zhs parts+1
 | .iface _ d=>dwb d+1
 | .map entries=>yaz entries+1
 | .held _=>1
def zhs {H:Type}:List (DataW H)->Nat
 | []=>0
 | d::r=>dwb d+zhs r
def yaz {H:Type}:List (Lit×DataW H)->Nat
 | []=>0
 | x::r=>zzl x+yaz r
def zzl {H:Type}:Lit×DataW H->Nat
 | (.string bytes,d)=>bytes.length+dwb d+1
 | (_,d)=>dwb d+1
end
def zot (P:Program) (S:TypeId->Bool):Nat->Nat->List Field->Bool
 | off,tot,[]=>Nat.beq off tot
 | off,tot,f::fs=>Nat.beq f.offset off&&S f.type&&zot P S (off+P.cellsOf f.type) tot fs
def zyj (P:Program):Nat->TypeId->Bool
 | 0,_=>false
 | n+1,t=>match P.underlying t with
  | some .bool=>true
  | some (.int _)=>true
  | some .string=>true
  | some (.slice e)=>zyj P n e&&Nat.blt 0 (P.cellsOf e)
  | some (.struct fs)=>zot P (zyj P n) 0 (P.cellsOf t) fs.toList
  | _=>false
def ycm (P:Program) (S:TypeId->List PV->Prop):List Field->List PV->Prop
 | [],pvs=>pvs=[]
 | f::fs,pvs=>∃ a b,pvs=a++b/\a.length=P.cellsOf f.type/\S f.type a/\ycm P S fs b
def shp (P:Program):Nat->TypeId->List PV->Prop
 | 0,_,_=>False
 | n+1,t,pvs=>match P.underlying t with
  | some .bool=>∃ b,pvs=[.v (.bool b)]
  | some (.int k)=>∃ z,pvs=[.v (.int k z)]/\(Lit.int k z).wf=true
  | some .string=>∃ s,pvs=[.v (.string s)]/\s.size<=maxLen
  | some (.slice e)=>∃ rows,pvs=[.sl (P.cellsOf e) rows]/\∀ r∈rows,shp P n e r
  | some (.struct fs)=>ycm P (shp P n) fs.toList pvs
  | _=>False
section
variable {H:Type} {enc:TypeId×Value->H} {P:Program} {W:World} {base:Nat} {sp:Nat->Bool} {held:Bool}
abbrev RW (W:World):Nat->Prop:=fun b=>b<W.heap.size
theorem zkj {a:Addr} {n:Nat} {cs:List Value} (h:W.cells? base a n=some cs):cs.length=n/\(∀ k v,cs[k]?=some v->W.cell? (a.add k)=some v):=by
 unfold World.cells? at h;split at h
 . have hl:=mapM_some_length h
   refine ⟨by simpa using hl,fun k v hv=>?_⟩;have hk:k<n:=by
    have:=(zy16.1 hv).1
    simpa [hl] using this
   have:=mapM_some_get h k k (by rw [zy59 hk]);rw [this];exact hv
 . cases h
theorem zzj {b o:Nat} {v:Value} (h:W.cell? ⟨b,o,none⟩=some v):b<W.heap.size:=by
 unfold World.cell? at h;cases hb:W.heap[b]? with
 | none=>simp only [hb] at h;cases h
 | some x=>exact (zy20.1 hb).1
theorem zhq:∀ (a b:List PV),zct (a++b)=zct a+zct b
 | [],b=>by simp [zct]
 | x::a,b=>by simp [zct,zhq a b];omega
theorem zov {fuel:Nat} {S:TypeId->Bool} {Sh:TypeId->List PV->Prop} {cs:List Value}
 (ih:∀ t cs d ps,S t=true->DataW.trod enc P W base sp held fuel t cs=some (d,ps)->∃ pvs,zbo W (RW W) pvs cs/\Sh t pvs/\zct pvs<=dwb d) :
 ∀ (fs:List Field) (off:Nat) (xs:List (DataW H×List MemPlace)),zot P S off cs.length fs=true->off<=cs.length ->
  (∀ f∈fs,f.offset+P.cellsOf f.type<=cs.length) ->
  fs.mapM (fun f=>DataW.trod enc P W base sp held fuel f.type ((cs.drop f.offset).take (P.cellsOf f.type)))=some xs ->
  ∃ pvs,zbo W (RW W) pvs (cs.drop off)/\ycm P Sh fs pvs/\zct pvs<=zhs (xs.map (·.1))
 | [],off,xs,hs,hle,_,h=>by
  simp only [zot] at hs;have:=zy0 hs;subst this;simp only [List.mapM_nil,Option.pure_def,Option.some.injEq] at h;subst h;exact ⟨[],by rw [zy89 (zy19 _)];exact .nil,rfl,by simp [zct,zhs]⟩
 | f::fs,off,xs,hs,hle,hb,h=>by
  simp only [zot,zy1] at hs;obtain ⟨⟨h1,h2⟩,h3⟩:=hs;have h1:=zy0 h1;subst h1;simp only [List.mapM_cons,Option.bind_eq_bind,Option.pure_def] at h;cases hx:DataW.trod enc P W base sp held fuel f.type ((cs.drop f.offset).take (P.cellsOf f.type)) with
  | none=>rw [hx] at h;simp at h
  | some x =>
   obtain ⟨d,ps⟩:=x;rw [hx] at h;simp only [zy91] at h;cases hr:fs.mapM (fun f=>DataW.trod enc P W base sp held fuel f.type ((cs.drop f.offset).take (P.cellsOf f.type))) with
   | none=>rw [hr] at h;simp at h
   | some r =>
    rw [hr] at h;simp only [zy91,Option.some.injEq] at h;subst h;obtain ⟨pa,ha1,ha2,ha3⟩:=ih _ _ _ _ h2 hx;have hbf:=hb f zz1;obtain ⟨pb,hb1,hb2,hb3⟩:=zov ih fs (f.offset+P.cellsOf f.type) r h3 hbf (fun g hg=>hb g (by simp [hg])) hr;have hl:=ha1.length;have htl:((cs.drop f.offset).take (P.cellsOf f.type)).length=P.cellsOf f.type:=by simp;omega
    refine ⟨pa++pb,?_,⟨pa,pb,rfl,by omega,ha2,hb2⟩,by rw [zhq];simp only [zy18,zhs];omega⟩;have:=ha1.append hb1;rw [<- List.drop_drop,zy25] at this;exact this
theorem zse {S:TypeId->Bool} {tot:Nat}:∀ {fs:List Field} {off:Nat},zot P S off tot fs=true->off<=tot/\∀ f∈fs,f.offset+P.cellsOf f.type<=tot
 | [],off,h=>by simp only [zot] at h;have:=zy0 h;exact ⟨by omega,by simp⟩
 | f::fs,off,h=>by
  simp only [zot,zy1] at h;obtain ⟨⟨h1,h2⟩,h3⟩:=h;have h1:=zy0 h1;obtain ⟨h4,h5⟩:=zse h3;refine ⟨by omega,fun g hg=>?_⟩;rcases zy3.1 hg with rfl | hg
  . omega
  . exact h5 g hg
theorem zmr:∀ (n fuel:Nat) (t:TypeId) (cs:List Value) (d:DataW H) (ps:List MemPlace),zyj P n t=true->DataW.trod enc P W base sp held fuel t cs=some (d,ps) ->
 ∃ pvs,zbo W (RW W) pvs cs/\shp P n t pvs/\zct pvs<=dwb d
 | 0,fuel,t,cs,d,ps,hs,h=>by cases hs
 | n+1,0,t,cs,d,ps,hs,h=>by simp [DataW.trod] at h
 | n+1,fuel+1,t,cs,d,ps,hs,h=>by
  simp only [zyj] at hs;simp only [shp];unfold DataW.trod at h;cases hu:P.underlying t with
  | none=>rw [hu] at hs;cases hs
  | some u =>
   rw [hu] at hs h;cases u with
   | bool =>
    rcases cs with _ | ⟨c,_ | ⟨c2,cs⟩⟩
    . cases h
    . cases c<;>try cases h
      rename_i b;exact ⟨[.v (.bool b)],.cons (.v _ rfl) .nil,⟨b,rfl⟩,by simp [zct,PV.bulk,dwb]⟩
    . cases c<;>first | cases h | simp at h
   | int k =>
    rcases cs with _ | ⟨c,_ | ⟨c2,cs⟩⟩
    . cases h
    . cases c<;>try cases h
      rename_i k' z;simp only at h;split at h
      . rename_i hw
        obtain ⟨rfl,hw⟩:=hw;cases h;exact ⟨[.v (.int k' z)],.cons (.v _ rfl) .nil,⟨z,rfl,hw⟩,by simp [zct,PV.bulk,dwb]⟩
      . cases h
    . cases c<;>first | cases h | simp at h
   | string =>
    rcases cs with _ | ⟨c,_ | ⟨c2,cs⟩⟩
    . cases h
    . cases c<;>try cases h
      rename_i s;simp only at h;split at h
      . rename_i hw
        cases h;exact ⟨[.v (.string s)],.cons (.v _ rfl) .nil,⟨s,rfl,hw⟩,by simp only [zct,PV.bulk,dwb,Array.length_toList,zy51];exact zy19 _⟩
      . cases h
    . cases c<;>first | cases h | simp at h
   | slice e =>
    simp only [zy1] at hs;obtain ⟨hs,hpos⟩:=hs;have hpos:0<P.cellsOf e:=zy9 hpos;rcases cs with _ | ⟨c,_ | ⟨c2,cs⟩⟩
    . cases h
    . cases c<;>try cases h
      rename_i a len cap;cases a with
      | none =>
       cases len with
       | zero=>cases cap with
        | zero =>
         cases h;exact ⟨[.sl (P.cellsOf e) []],.cons (.sl0 _ _ _ (zy79 _)) .nil,⟨[],rfl,by simp⟩,by simp [zct,PV.bulk,zef,dwb]⟩
        | succ cap=>cases h
       | succ len=>cases h
      | some a =>
       simp only at h;split at h
       . rename_i hb
         obtain ⟨hb,hlc,hcm⟩:=hb;cases he:(List.range len).mapM (fun i=>(W.cells? base (a.add (i*P.cellsOf e)) (P.cellsOf e)).bind (DataW.trod enc P W base sp held fuel e)) with
         | none=>rw [he] at h;simp at h
         | some elems =>
          rw [he] at h;simp only [zy91] at h;have hle:=mapM_some_length he;simp only [List.length_range] at hle;have hd:zhs (elems.map (·.1))+1<=dwb d:=by
           obtain ⟨rest,hr,hx⟩:=zy4.1 h;cases hx;simp only [dwb];omega
          -- each element
          have hat:∀ i,i<len->∃ cs x,W.cells? base (a.add (i*P.cellsOf e)) (P.cellsOf e)=some cs/\elems[i]?=some x/\DataW.trod enc P W base sp held fuel e cs=some x:=by
           intro i hi;have hg:=mapM_some_get he i i (by rw [zy59 hi]);obtain ⟨x,hx⟩:∃ x,elems[i]?=some x:=⟨_,zy15 zz0⟩
           rw [hx] at hg;cases hc:W.cells? base (a.add (i*P.cellsOf e)) (P.cellsOf e) with
           | none=>rw [hc] at hg;simp at hg
           | some cs=>rw [hc] at hg;exact ⟨cs,x,rfl,hx,by simpa using hg⟩
          cases len with
          | zero =>
           have:elems=[]:=zy2 hle;subst this;refine ⟨[.sl (P.cellsOf e) []],.cons (.sl0 _ _ _ hcm) .nil,⟨[],rfl,by simp⟩,?_⟩;simp [zct,PV.bulk,zef] at hd ⊢;omega
          | succ len =>
           have hspot:a=⟨a.block,a.off,none⟩:=by
            obtain ⟨cs0,x0,h1,_,_⟩:=hat 0 zz0;obtain ⟨hl0,hc0⟩:=zkj h1;have h2:=hc0 0 (cs0[0]'zz0) (zy15 zz0);simp only [zy84,Addr.add,if_true] at h2;obtain ⟨blk,off,spot⟩:=a;unfold World.cell? at h2;split at h2
            . split at h2
              . cases h2
              . rename_i hsn
                cases spot with
                | none=>rfl
                | some x=>simp at hsn
            . cases h2
           obtain ⟨blk,off,spot⟩:=a;simp only [Addr.mk.injEq,true_and] at hspot;subst hspot;have hadd:∀ off j,(⟨blk,off,none⟩:Addr).add j=⟨blk,off+j,none⟩:=by
            intro off j;unfold Addr.add;split
            . rename_i h0;subst h0;rfl
            . rfl
           have zdq:∀ i,i<len+1->∃ r:List PV,r.length=P.cellsOf e/\shp P n e r/\(∃ x,elems[i]?=some x/\zct r<=dwb x.1)/\∀ (k:Nat) y,r[k]?=some y->∃ cv,W.cell? ⟨blk,off+(i*P.cellsOf e+k),none⟩=some cv/\zcs W (RW W) y cv:=by
            intro i hi;obtain ⟨cs,x,h1,h2,h3⟩:=hat i hi;obtain ⟨r,h4,h5,h6⟩:=zmr n fuel e cs x.1 x.2 hs h3;obtain ⟨h7,h8⟩:=zkj h1;refine ⟨r,by rw [<- h7];exact h4.length.symm,h5,⟨x,h2,h6⟩,fun k y hk=>?_⟩;obtain ⟨v,hv,hp⟩:=h4.get k y hk;have h9:=h8 k v hv;rw [hadd,hadd] at h9;exact ⟨v,by rw [<- h9,zy70],hp⟩
           let row:Nat->List PV:=fun i=>if hi:i<len+1 then Classical.choose (zdq i hi) else []
           have hrowi:∀ i (hi:i<len+1),(row i).length=P.cellsOf e/\shp P n e (row i)/\(∃ x,elems[i]?=some x/\zct (row i)<=dwb x.1)/\∀ (k:Nat) y,(row i)[k]?=some y->∃ cv,W.cell? ⟨blk,off+(i*P.cellsOf e+k),none⟩=some cv/\zcs W (RW W) y cv:=by
            intro i hi;have:=Classical.choose_spec (zdq i hi);simp only [row,dif_pos hi];exact this
           let rows:=(List.range (len+1)).map row
           have hrl:rows.length=len+1:=by simp [rows]
           have hmem:∀ r∈rows,∃ i,i<len+1/\r=row i:=by
            intro r hr;obtain ⟨i,hi,rfl⟩:=zy8.1 hr;exact ⟨i,List.mem_range.1 hi,rfl⟩
           have hlens:∀ r∈rows,r.length=P.cellsOf e:=by
            intro r hr;obtain ⟨i,hi,rfl⟩:=hmem r hr;exact (hrowi i hi).1
           have hcell:∀ k y,rows.flatten[k]?=some y->∃ cv,W.cell? ⟨blk,off+k,none⟩=some cv/\zcs W (RW W) y cv:=by
            intro k y hk;obtain ⟨i,j,r,e1,hj,hr,hy⟩:=zbv hlens hk;have hi:i<len+1:=by
             have:=(zy16.1 hr).1;rw [hrl] at this;exact this
            have hre:r=row i:=by
             simp only [rows,zy5,zy59 hi,zy30,Option.some.injEq] at hr;exact hr.symm
            subst hre;obtain ⟨cv,h1,h2⟩:=(hrowi i hi).2.2.2 j y hy;exact ⟨cv,by rw [e1];exact h1,h2⟩
           have hblk:blk<W.heap.size:=by
            obtain ⟨hl0,_,_,hc0⟩:=hrowi 0 zz0;obtain ⟨cv,h1,_⟩:=hc0 0 ((row 0)[0]'zz0) (zy15 zz0);exact zzj h1
           have hprep:zcs W (RW W) (.sl (P.cellsOf e) rows) (.slice (some ⟨blk,off,none⟩) (len+1) cap):=by
            have:=zcs.sl (w:=W) (R:=RW W) (P.cellsOf e) rows blk off cap (fun k=>(W.cell? ⟨blk,off+k,none⟩).getD undef) zz0 hcm hlens hblk
             (fun k y hk=>by obtain ⟨cv,h1,_⟩:=hcell k y hk;simp only [h1];rfl) (fun k y hk=>by obtain ⟨cv,h1,h2⟩:=hcell k y hk;simp only [h1];exact h2)
            rw [hrl] at this;exact this
           refine ⟨[.sl (P.cellsOf e) rows],.cons hprep .nil,⟨rows,rfl,fun r hr=>?_⟩,?_⟩
           . obtain ⟨i,hi,rfl⟩:=hmem r hr
             exact (hrowi i hi).2.1
           . have hbr:∀ (es:List (DataW H×List MemPlace)) (g:Nat->List PV) (m:Nat),es.length=m->(∀ i,i<m->∃ x,es[i]?=some x/\zct (g i)<=dwb x.1)->zef ((List.range m).map g)<=zhs (es.map (·.1)):=by
              intro es
              induction es with
              | nil=>intro g m hm _;simp at hm;subst hm;simp [zef,zhs]
              | cons x es ih =>
               intro g m hm hg;simp at hm;subst hm;rw [List.range_succ_eq_map];simp only [zy18,List.map_map,zef,zhs];obtain ⟨x0,h1,h2⟩:=hg 0 zz0;simp at h1;subst h1;have:=ih (g∘Nat.succ) es.length rfl fun i hi=>by
                obtain ⟨y,h3,h4⟩:=hg (i+1) zz0;exact ⟨y,by simpa using h3,h4⟩
               omega
             have:zef rows<=zhs (elems.map (·.1)):=hbr elems row (len+1) hle fun i hi=>(hrowi i hi).2.2.1
             simp only [zct,PV.bulk];show zef rows+1+0<=dwb d;omega
       . cases h
    . cases c<;>first | cases h | simp at h
   | struct fs =>
    simp only at h;split at h
    . rename_i hl
      obtain ⟨xs,hx,hx2⟩:=zy4.1 h;cases hx2;rw [<- hl] at hs;obtain ⟨h1,h2⟩:=zse hs;obtain ⟨pvs,h3,h4,h5⟩:=zov (S:=zyj P n) (Sh:=shp P n) (fun t cs d ps=>zmr n fuel t cs d ps) fs.toList 0 xs hs h1 h2 hx;exact ⟨pvs,by simpa using h3,h4,by simp only [dwb];omega⟩
    . cases h
   | _=>cases hs
def zln (P:Program) (t:TypeId) (pvs:List PV):HV:=match P.underlying t with
 | some (.struct _)=>.agg (pvs.map .p)
 | _=>match pvs with | [x]=>.p x | _=>.any
theorem zvq {m:zbt} {R:Nat->Prop} {pvs:List PV} {vs:List Value} (h:zbo W R pvs vs):zae m W R (pvs.map .p) vs:=by
 induction h with
 | nil=>simp only [List.map_nil,zae]
 | cons h _ ih=>simp only [zy18,zae];exact ⟨_,_,rfl,by simp only [zad];exact h,ih⟩
theorem zzf {n:Nat} {t:TypeId} {v:Value} {d:DataW H} {ps:List MemPlace} {r:Reach} {b0:Nat} {m:zbt} (hs:zyj P n t=true) (hok:Value.okWide P W r b0 t v) (h:DataW.Trod enc P W base sp held t v d ps) :
 ∃ pvs,shp P n t pvs/\zct pvs<=dwb d/\zad m W (RW W) (zln P t pvs) v:=by
 obtain ⟨fuel,h⟩:=h;obtain ⟨pvs,h1,h2,h3⟩:=zmr n fuel t _ d ps hs h;refine ⟨pvs,h2,h3,?_⟩;cases n with
 | zero=>cases hs
 | succ n =>
  have one:∀ {x:PV},pvs=[x]->v.cells=#[v]->zad m W (RW W) (.p x) v:=by
   intro x hx hv;subst hx;rw [hv] at h1;cases h1 with
   | cons h _=>simp only [zad];exact h
  simp only [zyj] at hs;simp only [shp] at h2;simp only [Value.okWide] at hok;unfold zln;cases hu:P.underlying t with
  | none=>rw [hu] at hs;cases hs
  | some u =>
   rw [hu] at hs h2 hok;cases u with
   | bool =>
    simp only [Cell.okWide,Cell.ok,hu] at hok;obtain ⟨b,rfl⟩:=h2;cases v<;>try exact hok.elim
    exact one rfl rfl
   | int k =>
    exact yy9
   | string =>
    exact yy9
   | slice e =>
    exact yy9
   | struct fs =>
    obtain ⟨cs,rfl,_,_⟩:=hok;simp only [zad];exact ⟨cs,rfl,zvq h1⟩
   | _=>cases hs
def yat (P:Program) (n:Nat):List TypeId->List (List PV)->Prop
 | [],[]=>True
 | t::ts,x::xs=>shp P n t x/\yat P n ts xs
 | _,_=>False
def ziw (P:Program):List TypeId->List (List PV)->List HV
 | t::ts,x::xs=>zln P t x::ziw P ts xs
 | _,_=>[]
theorem zqn {n:Nat} {r:Reach} {b0:Nat} {m:zbt}:∀ {ts:List TypeId} {vs:List Value} {ds:List (DataW H)} {ps:List MemPlace},(∀ t∈ts,zyj P n t=true)->(∀ (j:Nat) t v,ts[j]?=some t->vs[j]?=some v->Value.okWide P W r b0 t v) ->
 DataW.TrodAll enc P W base sp held ts vs ds ps->∃ L,yat P n ts L/\zef L<=zhs ds/\zae m W (RW W) (ziw P ts L) vs/\ds.length=ts.length
 | [],[],[],ps,_,_,_=>⟨[],trivial,by simp [zef,zhs],by simp only [ziw,zae],rfl⟩
 | t::ts,v::vs,d::ds,ps,hs,hok,h=>by
  obtain ⟨p,q,h1,h2,rfl⟩:=h;obtain ⟨x,h3,h4,h5⟩:=zzf (m:=m) (hs t zz1) (hok 0 t v rfl rfl) h1;obtain ⟨L,h6,h7,h8,h9⟩:=zqn (fun t ht=>hs t (by simp [ht])) (fun j t v hj hv=>hok (j+1) t v zz24 zz21) h2;exact ⟨x::L,⟨h3,h6⟩,by simp only [zef,zhs];omega,by simp only [ziw,zae];exact ⟨v,vs,rfl,h5,h8⟩,by simp [h9]⟩
 | [],[],_::_,_,_,_,h=>h.elim
 | [],_::_,_,_,_,_,h=>h.elim
 | _::_,[],_,_,_,_,h=>h.elim
 | _::_,_::_,[],_,_,_,h=>h.elim
theorem zgo (hl:laidOutB P=true) {W':World} (hb:Below W.heap.size W W'):∀ {ts:List TypeId} {vs:List Value} {ds:List (DataW H)} {ps:List MemPlace},(∀ t∈ts,P.readableRec t=true/\t<P.types.size) ->
 DataW.TrodAll enc P W 0 (fun _=>true) true ts vs ds ps->(∀ x∈ps,x.block<W.heap.size)->DataW.TrodAll enc P W' 0 (fun b=>decide (b<W.heap.size)) true ts vs ds ps
 | [],[],[],ps,_,h,_=>h
 | t::ts,v::vs,d::ds,ps,hr,h,hlt=>by
  obtain ⟨p,q,h1,h2,rfl⟩:=h;exact ⟨p,q,Below.trod hl (hr t zz1).1 (hr t zz1).2 h1 hb fun x hx=>hlt x (by simp [hx]),zgo hl hb (fun t ht=>hr t (by simp [ht])) h2 fun x hx=>hlt x (by simp [hx]),rfl⟩
 | [],[],_::_,_,_,h,_=>h.elim
 | [],_::_,_,_,_,h,_=>h.elim
 | _::_,[],_,_,_,h,_=>h.elim
 | _::_,_::_,[],_,_,h,_=>h.elim
theorem znt {f:FuncId} {fn:Func} {s:ChangeSpec} {args:Array Value} {ds gs:List (DataW H)} {before:List MemPlace} {b0:Nat} {tb:TypeId} (n:Nat) (hl:laidOutB P=true)
 (hsupp:fn.params.toList.all (zyj P n)=true) (hread:fn.params.toList.all (fun t=>P.readableRec t&&decide (t<P.types.size))=true)
 (hrt:fn.resultTypes=#[tb]) (htb:P.underlying tb=some .bool) (hvars:s.vars=[]) (hfn:∀ ds:List (DataW H),ds.length=fn.params.toList.length->(s.fn H ds).results=[.lit (.bool true)]/\(s.fn H ds).args=ds/\(s.fn H ds).vars=[])
 (hval:∀ (j:Nat) t v,fn.params[j]?=some t->args[j]?=some v->Value.okWide P W .any b0 t v)
 (hW:DataW.Whole enc P fn.params.toList s.vars false W args.toList ds gs before)
 (hspec:∀ L,yat P n fn.params.toList L->zef L<=zhs ds->zbl P f (ziw P fn.params.toList L) zam (zbr true) zam) :
 Calls P f args W fun e W'=>∃ v,e=.returned v/\s.post enc P fn false true false false W args v W':=by
 have hW':=hW;obtain ⟨p,q,hA,hV,rfl,hfz,hnd⟩:=hW;have hVe:gs=[]/\q=[]:=by
  rw [hvars] at hV;cases gs with
  | nil=>exact ⟨rfl,hV⟩
  | cons=>exact hV.elim
 obtain ⟨rfl,rfl⟩:=hVe;obtain ⟨L,h1,h2,h3,h4⟩:=zqn (m:=fun _=>none) (n:=n) (fun t ht=>zy31.1 hsupp t ht) (fun j t v hj hv=>hval j t v zz24 zz21) hA
 let Γ:Ctx:=⟨fun _=>True,W,fun _=>False,fun _=>none⟩
 have hok:zag Γ (fun _=>none) zam W:=⟨zy19 _,rfl,rfl,rfl,fun _ _ _=>rfl,fun _ _=>rfl,(fun id b hb=>by cases hb),(fun id b hb=>by cases hb),(fun id id' b b' l l' hb=>by cases hb),fun b hb=>hb.elim⟩
 have hrep:zae (fun _=>none) W (RR Γ (fun _=>none) zam W) (ziw P fn.params.toList L) args.toList:=zae.mono (.refl _) (fun b hb=>⟨rfl,.inl trivial,hb,zhd⟩) _ _ h3;obtain ⟨-,hcalls⟩:=hspec L h1 h2 Γ _ W args.toList hok hrep rfl;have hat:args.toList.toArray=args:=by simp
 rw [hat] at hcalls;refine hcalls.mono fun e W1 he=>?_
 obtain ⟨v,m',rfl,hok',hv,_⟩:=he;have hvb:=zcv hv;subst hvb;have hb:Below W.heap.size W W1:=⟨hok'.os,hok'.tape,hok'.output,hok'.size,fun k hk=>hok'.frame k hk fun h=>h⟩
 obtain ⟨hf1,hf2,hf3⟩:=hfn (ds++[]) (by simp [h4]);refine ⟨_,rfl,ds,[],p++[],[],p,[],hW',?_,?_,?_,hb.frame _,fun h=>by cases h⟩
 . rw [hf1,hrt]
   have:(Value.bool true).resultList (#[tb]:Array TypeId).size=[.bool true]:=by simp [Value.resultList]
   rw [this];exact ⟨[],[],⟨1,by simp [DataW.trod,htb,Value.cells]⟩,rfl,rfl⟩
 . rw [hf2]
   have hlt:∀ x∈p,x.block<W.heap.size:=fun x hx=>by simpa using hW'.lt x zz18
   have:=zgo hl hb (fun t ht=>by
    have:=zy31.1 hread t ht;simp only [zy1,zy72] at this;exact this) hA hlt
   simpa using this
 . rw [hvars,hf3]
   rfl
end
end Go.HL
namespace Go.HL
section
variable {P:Program} {n:Nat} {t e:TypeId} {pvs:List PV}
theorem zqg {k:IntKind} (hu:P.underlying t=some (.int k)) (h:shp P n t pvs):∃ z,pvs=[.v (.int k z)]/\(Lit.int k z).wf=true:=by
 cases n with
 | zero=>exact h.elim
 | succ n=>simpa only [shp,hu] using h
theorem zye (hu:P.underlying t=some .bool) (h:shp P n t pvs):∃ b,pvs=[.v (.bool b)]:=by
 cases n with
 | zero=>exact h.elim
 | succ n=>simpa only [shp,hu] using h
theorem zwc (hu:P.underlying t=some (.slice e)) (h:shp P n t pvs):∃ rows,pvs=[.sl (P.cellsOf e) rows]/\∀ r∈rows,shp P (n-1) e r:=by
 cases n with
 | zero=>exact h.elim
 | succ n=>simpa only [shp,hu,Nat.add_sub_cancel] using h
theorem zvv {β:Type} {row:β->List PV} {Q:β->Prop}:∀ {rows:List (List PV)},(∀ r∈rows,∃ x,r=row x/\Q x)->∃ xs:List β,rows=xs.map row/\∀ x∈xs,Q x
 | [],_=>⟨[],rfl,by simp⟩
 | r::rows,h=>by
  obtain ⟨x,rfl,hx⟩:=h r zz1;obtain ⟨xs,rfl,hxs⟩:=zvv (rows:=rows) fun r hr=>h r (by simp [hr])
  exact ⟨x::xs,rfl,by intro y hy;rcases zy3.1 hy with rfl | hy;exact hx;exact hxs y hy⟩
theorem zqs:∀ {rows:List (List PV)},(∀ r∈rows,1<=zct r)->rows.length<=zef rows
 | [],_=>by simp [zef]
 | r::rows,h=>by
  have h1:=h r zz1;have h2:=zqs (rows:=rows) fun r hr=>h r (by simp [hr])
  simp only [zef,zy10];omega
theorem wf_i64 {z:Int} (h:(Lit.int .i64 z).wf=true):-9223372036854775808<=z/\z<=9223372036854775807:=by
 simpa [Lit.wf,IntKind.min,IntKind.max,IntKind.signed,IntKind.bits] using h
theorem zgj {ts:List TypeId} {L:List (List PV)} (h:yat P n (t::ts) L):∃ x xs,L=x::xs/\shp P n t x/\yat P n ts xs:=by
 cases L with
 | nil=>exact h.elim
 | cons x xs=>exact ⟨x,xs,rfl,h.1,h.2⟩
theorem zyd {L:List (List PV)} (h:yat P n [] L):L=[]:=by
 cases L with
 | nil=>rfl
 | cons x xs=>exact h.elim
end
end Go.HL
namespace Go.HL
abbrev pi (n:Int):PV:=.v (.int .i64 n)
abbrev pb (b:Bool):PV:=.v (.bool b)
def inI (z:Int):Prop:=-9223372036854775808<=z/\z<=9223372036854775807
section
variable {P:Program} {n c:Nat} {t e:TypeId} {pvs:List PV}
theorem zyv {z:Int} (h:(Lit.int .i64 z).wf=true):inI z:=wf_i64 h
theorem zyf {α:Type} {row:α->List PV} {Q:α->Prop} (hu:P.underlying t=some (.slice e)) (hc:P.cellsOf e=c) (he:∀ r,shp P (n-1) e r->∃ x,r=row x/\Q x) (h:shp P n t pvs) :
 ∃ l:List α,pvs=[.sl c (l.map row)]/\∀ y∈l,Q y:=by
 obtain ⟨rows,h1,h2⟩:=zwc hu h;obtain ⟨l,h3,h4⟩:=zvv (row:=row) (Q:=Q) fun r hr=>he r (h2 r hr)
 exact ⟨l,by rw [h1,h3,hc],h4⟩
theorem zwb (hu:P.underlying t=some (.slice e)) (hi:P.underlying e=some (.int .u8)) (hc:P.cellsOf e=1) (h:shp P n t pvs):∃ l:List UInt8,pvs=[.sl 1 (l.map zdt)]:=by
 obtain ⟨l,h1,-⟩:=zyf (row:=zdt) (Q:=fun _=>True) hu hc (fun r hr=>by
  obtain ⟨z,h1,h2⟩:=zqg hi hr;have h3:0<=z/\z<=255:=by simpa [Lit.wf,IntKind.min,IntKind.max,IntKind.signed,IntKind.bits] using h2
  refine ⟨UInt8.ofNat z.toNat,?_,trivial⟩;rw [h1];have:((UInt8.ofNat z.toNat).toNat:Int)=z:=by
   rw [UInt8.toNat_ofNat'];omega
  simp only [zdt,this]) h
 exact ⟨l,h1⟩
theorem zts {z:Int} (hu:P.underlying t=some (.int .i64)):zln P t [.v (.int .i64 z)]=i64 z:=by unfold zln;rw [hu]
theorem zwp {b:Bool} (hu:P.underlying t=some .bool):zln P t [.v (.bool b)]=zbr b:=by unfold zln;rw [hu]
theorem ztt {rows:List (List PV)} {k:Nat} (hu:P.underlying t=some (.slice e)):zln P t [.sl k rows]=.p (.sl k rows):=by unfold zln;rw [hu]
end
end Go.HL
namespace Go.HL
theorem zpq {α:Type} {f:α->List PV} {l:List α} {z:Int} {K:List PV->Prop} (k:Nat) (hz:z=k) (h:k<l.length) (hk:K (f l[k])):zdq (l.map f) z K :=
 ⟨_,by omega,by rw [hz,zy64,zy5,zy15 h];rfl,hk⟩
theorem zuo {α:Type} {f:α->List PV} {l:List α} {o n:Nat} {K:List (List PV)->Prop} (h:o+n<=l.length) (hk:K (((l.drop o).take n).map f)):zkb (l.map f) o n K :=
 ⟨_,rfl,by rw [zy6];exact h,by rw [<- List.map_drop,<- List.map_take];exact hk⟩
theorem znq {α:Type} {f:α->List PV} {l:List α} {o n:Nat} {K:List (List PV)->Prop} (h:o+n=l.length) (hk:K ((l.drop o).map f)):zkb (l.map f) o n K:=by
 refine zuo zz0 ?_;rw [zy27 (by rw [zy34];omega)];exact hk
end Go.HL
namespace Go.HL
abbrev zzh (l:List UInt8):HV:=.p (.sl 1 (l.map zdt))
end Go.HL
namespace Go.HL
end Go.HL
namespace Go.HL
section
variable {P:Program}
end
end Go.HL
namespace Go.HL
theorem ybd {b:Bool} {A B:Prop} (ha:A) (h:b=true:=by first | rfl | assumption | omega | (simp only [gt_iff_lt,ge_iff_le,zy72,zy87,zy77,bne_iff_ne,ne_eq,beq_eq_false_iff_ne,bne_eq_false_iff_eq,zy6,zy7,zy10,zy22,zy32,zy34,zy53,Bool.not_eq_false',Bool.not_eq_true,Bool.not_eq_false,Decidable.not_not,Nat.cast_ofNat,zy93]<;>omega) | (simp<;>omega)):hif b A B:=zat h ha
theorem ych {b:Bool} {A B:Prop} (hb:B) (h:b=false:=by first | rfl | assumption | omega | (simp only [gt_iff_lt,ge_iff_le,zy72,zy87,zy77,bne_iff_ne,ne_eq,beq_eq_false_iff_ne,bne_eq_false_iff_eq,zy6,zy7,zy10,zy22,zy32,zy34,zy53,Bool.not_eq_false',Bool.not_eq_true,Bool.not_eq_false,Decidable.not_not,Nat.cast_ofNat,zy93]<;>omega) | (simp<;>omega)):hif b A B:=zap h hb
theorem zdc {z:Int} {K:Int->Prop} (hk:K z) (h1:-9223372036854775808<=z:=by first | omega | (simp only [zy6,zy7,zy32,zy34,zy10,zy22]<;>omega) | (simp<;>omega))
 (h2:z<=9223372036854775807:=by first | omega | (simp only [zy6,zy7,zy32,zy34,zy10,zy22]<;>omega) | (simp<;>omega)):zgf .i64 z K:=zjg (zoz h1 h2) hk
theorem ybf {s:HS} {n:Nat} {slots:List (Nat×HV)} {heap:List (Nat×zaa)} (l:List (Nat×Option Nat))
 (h4:zwm (lkN l) s slots:=by repeat' (first | exact trivial | exact rfl | (refine ⟨⟨rfl,?_⟩,?_⟩) | (refine ⟨rfl,?_⟩) | (simp;done) | (simp;rfl)))
 (h5:zpn (lkN l) s heap:=by repeat' (first | exact trivial | exact rfl | exact .inl rfl | exact .inr rfl | (refine ⟨⟨rfl,.inl ⟨_,rfl,?_⟩⟩,?_⟩) | (refine ⟨⟨rfl,_,rfl,?_⟩,?_⟩) | (refine ⟨⟨rfl,.inr ⟨rfl,?_⟩⟩,?_⟩) | (refine ⟨rfl,?_⟩) | (simp;done) | (simp;rfl)))
 (hn:n=s.n:=by rfl) (hp:[]=s.pins:=by rfl) (h1:zdy heap l=true:=by rfl) (h2:zby (zfx heap l)=true:=by rfl):HLe s (hs n slots heap):=zys l hn hp h1 h2 h4 h5
theorem zpm {s:HS} {pins:List Nat} {n:Nat} {slots:List (Nat×HV)} {heap:List (Nat×zaa)} (l:List (Nat×Option Nat))
 (h4:zwm (lkN l) s slots:=by repeat' (first | exact trivial | exact rfl | (refine ⟨⟨rfl,?_⟩,?_⟩) | (refine ⟨rfl,?_⟩) | (simp;done) | (simp;rfl)))
 (h5:zpn (lkN l) s heap:=by repeat' (first | exact trivial | exact rfl | exact .inl rfl | exact .inr rfl | (refine ⟨⟨rfl,.inl ⟨_,rfl,?_⟩⟩,?_⟩) | (refine ⟨⟨rfl,_,rfl,?_⟩,?_⟩) | (refine ⟨⟨rfl,.inr ⟨rfl,?_⟩⟩,?_⟩) | (refine ⟨rfl,?_⟩) | (simp;done) | (simp;rfl)))
 (hn:n=s.n:=by rfl) (hp:pins=s.pins:=by rfl) (h1:zdy heap l=true:=by rfl) (h2:zby (zfx heap l)=true:=by rfl) (h3:zjs (lkN l) pins:=by repeat' (first | exact trivial | (refine ⟨rfl,?_⟩))):HLe s (hsP pins n slots heap):=zuf l hn hp h1 h2 h3 h4 h5
end Go.HL
namespace Go.HL
theorem om {P:Prop} (h:P:=by first | omega | (simp only [zy6,zy7,zy32,zy34,zy10,zy22]<;>omega) | (simp<;>omega)):P:=h
theorem dc {P:Prop} (h:P:=by first | rfl | assumption | omega | (simp only [gt_iff_lt,ge_iff_le,zy72,zy87,zy77,bne_iff_ne,ne_eq,beq_eq_false_iff_ne,bne_eq_false_iff_eq,zy6,zy7,zy10,zy22,zy32,zy34,zy53,Bool.not_eq_false',Bool.not_eq_true,Bool.not_eq_false,Decidable.not_not,Nat.cast_ofNat,zy93]<;>omega) | (simp<;>omega)):P:=h
theorem sF {z:Int} {K:Int->Prop} {Q:Prop} (q:Q) (h1:-9223372036854775808<=z:=by exact om) (h2:z<=9223372036854775807:=by exact om) (e:Q->K z:=by (intro h;(conv=>whnf);(try (refine zre.go ?_;conv=>whnf));exact h)):zgf .i64 z K:=zjg (zoz h1 h2) (e q)
theorem sT {b:Bool} {A B Q:Prop} (q:Q) (h:b=true:=by exact dc) (e:Q->A:=by (intro h;(conv=>whnf);(try (refine zre.go ?_;conv=>whnf));exact h)):hif b A B:=zat h (e q)
theorem sN {b:Bool} {A B Q:Prop} (q:Q) (h:b=false:=by exact dc) (e:Q->B:=by (intro h;(conv=>whnf);(try (refine zre.go ?_;conv=>whnf));exact h)):hif b A B:=zap h (e q)
theorem sO {c k Q:Prop} (q:Q) (h:c:=by exact om) (e:Q->k:=by (intro h;(conv=>whnf);(try (refine zre.go ?_;conv=>whnf));exact h)):zfq c k:=zas h (e q)
theorem sD {P:Program} {s:HS} {all:Array Oper} {l:List Lab} {k Q:Prop} (q:Q) (e:Q->k:=by (intro h;(conv=>whnf);(try (refine zre.go ?_;conv=>whnf));exact h)) (h:zej all l=true:=by kernel_rfl):zud P s all l k:=zjc h (e q)
theorem sFm {z:Int} {K:Int->Prop} {Q:Prop} (q:Q) (h1:-9223372036854775808<=z:=by exact om) (h2:z<=9223372036854775807:=by exact om) (e:Q->K z:=by (intro h;(conv=>whnf);exact h)):zgf .i64 z K:=zjg (zoz h1 h2) (e q)
theorem sTm {b:Bool} {A B Q:Prop} (q:Q) (h:b=true:=by exact dc) (e:Q->A:=by (intro h;(conv=>whnf);exact h)):hif b A B:=zat h (e q)
theorem sNm {b:Bool} {A B Q:Prop} (q:Q) (h:b=false:=by exact dc) (e:Q->B:=by (intro h;(conv=>whnf);exact h)):hif b A B:=zap h (e q)
theorem sG {X:(HX->HS->Prop)->Prop} {Y:HWP} {K:HX->HS->Prop} {Q:Prop} (q:Q) (e:Q->X fun e s'=>match e with | .normal=>Y s' K | .exit id=>K (.exit id) s' | .ret=>K .ret s':=by (intro h;(conv=>whnf);exact h)):zre X Y K:=.go (e q)
theorem cL {P Q:Prop} (q:Q) (e:Q->P:=by (intro h;refine zgu ?_;(conv=>whnf);exact h)):P:=e q
theorem cZ {P Q:Prop} (q:Q) (e:Q->P:=by (intro h;refine zpk ?_;(conv=>whnf);exact h)):P:=e q
theorem dL {α:Type} {A B K:α->Prop} {r:α} {Q:Prop} (c:A r) (q:Q) (s:B r:=by exact rfl) (e:Q->K r:=by (intro h;(conv=>whnf);(try (refine zre.go ?_;conv=>whnf));exact h)):∃ r,A r/\B r/\K r:=⟨r,c,s,e q⟩
theorem dO {α β:Type} {A B K:α->β->Prop} {r:α} {t:β} {Q:Prop} (c:A r t) (q:Q) (s:B r t:=by exact ⟨zz10,rfl,rfl,rfl⟩) (e:Q->K r t:=by (intro h;(conv=>whnf);(try (refine zre.go ?_;conv=>whnf));exact h)) :
 ∃ r t,A r t/\B r t/\K r t:=⟨r,t,c,s,e q⟩
theorem dG {α β γ δ:Type} {A B K:α->β->γ->δ->Prop} {a:α} {b:β} {r:γ} {t:δ} {Q:Prop} (c:A a b r t) (q:Q)
 (s:B a b r t:=by exact ⟨rfl,rfl,rfl,(by repeat' (first | exact trivial | (refine ⟨zz4,?_⟩))),zz10,rfl,rfl,rfl⟩)
 (e:Q->K a b r t:=by (intro h;(conv=>whnf);(try (refine zre.go ?_;conv=>whnf));exact h)):∃ a b r t,A a b r t/\B a b r t/\K a b r t:=⟨a,b,r,t,c,s,e q⟩
theorem dGm {α β γ δ:Type} {A B K:α->β->γ->δ->Prop} {a:α} {b:β} {r:γ} {t:δ} {Q:Prop} (c:A a b r t) (q:Q)
 (s:B a b r t:=by exact ⟨rfl,rfl,rfl,(by repeat' (first | exact trivial | (refine ⟨zz4,?_⟩))),zz10,rfl,rfl,rfl⟩)
 (e:Q->K a b r t:=by (intro h;(conv=>whnf);exact h)):∃ a b r t,A a b r t/\B a b r t/\K a b r t:=⟨a,b,r,t,c,s,e q⟩
theorem z0 {P:Prop} (h:P:=by first | exact trivial | exact rfl | exact .inl rfl | exact .inr rfl):P:=h
theorem z2 {P:Prop} (h:P:=by first | (simp;done) | (simp;rfl)):P:=h
theorem z1 {P Q:Prop} (q:Q) (e:Q->P:=by first | exact fun h=>.inl ⟨_,rfl,h⟩ | exact fun h=>⟨_,rfl,h⟩ | exact fun h=>.inr ⟨rfl,h⟩):P:=e q
theorem zss {s:HS} {n:Nat} {slots:List (Nat×HV)} {heap:List (Nat×zaa)} (l:List (Nat×Option Nat)) (h:zwm (lkN l) s slots/\zpn (lkN l) s heap)
 (hn:n=s.n:=by rfl) (hp:[]=s.pins:=by rfl) (h1:zdy heap l=true:=by rfl) (h2:zby (zfx heap l)=true:=by rfl):HLe s (hs n slots heap):=zys l hn hp h1 h2 h.1 h.2
theorem zbx {s:HS} {pins:List Nat} {n:Nat} {slots:List (Nat×HV)} {heap:List (Nat×zaa)} (l:List (Nat×Option Nat)) (h:zwm (lkN l) s slots/\zpn (lkN l) s heap)
 (hn:n=s.n:=by rfl) (hp:pins=s.pins:=by rfl) (h1:zdy heap l=true:=by rfl) (h2:zby (zfx heap l)=true:=by rfl) (h3:zjs (lkN l) pins:=by repeat' (first | exact trivial | (refine ⟨rfl,?_⟩))):HLe s (hsP pins n slots heap):=zuf l hn hp h1 h2 h3 h.1 h.2
end Go.HL
namespace Go.HL
end Go.HL
namespace Go.Proofs.Ytodkmlfmaenlpaa
open Go.HL Go.ChangeShapes Go.WideShapes Go.ChangeAt Go.RowKit
theorem own:ownKnob Try.prog.godebug=none:=by kernel_rfl
mutual
theorem zlo {H:Type}:(d:DataW H)->Rows.uptoBulk d=dwb d
 | .lit l=>by cases l<;>simp only [Rows.uptoBulk,dwb]
 | .nil=>by simp only [Rows.uptoBulk,dwb]
 | .ptr d=>by simp only [Rows.uptoBulk,dwb,zlo d]
 | .slice a b=>by simp only [Rows.uptoBulk,dwb,zdu a,zdu b]
 | .agg p=>by simp only [Rows.uptoBulk,dwb,zdu p]
 | .iface _ d=>by simp only [Rows.uptoBulk,dwb,zlo d]
 | .map e=>by simp only [Rows.uptoBulk,dwb,zqr e]
 | .held _=>by simp only [Rows.uptoBulk,dwb]
theorem zdu {H:Type}:(l:List (DataW H))->Rows.uptoBulkAll l=zhs l
 | []=>by simp only [Rows.uptoBulkAll,zhs]
 | d::r=>by simp only [Rows.uptoBulkAll,zhs,zlo d,zdu r]
theorem zqr {H:Type}:(l:List (Lit×DataW H))->Rows.uptoBulkEntries l=yaz l
 | []=>by simp only [Rows.uptoBulkEntries,yaz]
 | d::r=>by simp only [Rows.uptoBulkEntries,yaz,ztv d,zqr r]
theorem ztv {H:Type}:(x:Lit×DataW H)->Rows.uptoBulkEntry x=zzl x
 | (l,d)=>by cases l<;>simp only [Rows.uptoBulkEntry,zzl,zlo d]
end
theorem zpe {H:Type} (l r:List (DataW H)):zhs (l++r)=zhs l+zhs r:=by
 induction l with
 | nil=>simp [zhs]
 | cons x l ih=>simp only [zy21,zhs,ih];omega
theorem yba {H:Type} {ds gs:List (DataW H)} (hk:Rows.uptoSmall H (ds++gs)=true):zhs ds<=1048576:=by
 have h:=of_decide_eq_true hk;rw [zdu,zpe] at h;omega
theorem yaw {a b:Bool} (ha:a=true) (hb:b=true):(a&&b)=true:=by rw [ha,hb];rfl
end Go.Proofs.Ytodkmlfmaenlpaa
