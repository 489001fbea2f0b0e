/- Walks, contracts and laws of the law's functions: part 2. No condition. -/
import Derived.Test.YticmofoeecjnhaaGreatQHa
set_option maxHeartbeats 32000000
set_option maxRecDepth 100000
set_option linter.unusedSimpArgs false
theorem yy17 {P:Prop} (h:P:=by
 simp only [zgg] at h;obtain ⟨y,us,h1,h2,h3,h4,h5⟩:=zdz l h;refine ⟨_,_,h1,h2,fun m w R v hk hx=>?_,h4,fun H' he K' hk=>by simp only [zgg];exact h5 H' he _ hk⟩;simp only [zax] at hx ⊢;obtain ⟨arr,h4,h5⟩:=hx;exact ⟨arr,h4,h3 m w R _ hk h5⟩):P:=h
theorem yy22 {P:Prop} (h:P:=by
 simp only [zih] at ho;split at ho
 . rename_i j hj
   obtain ⟨j',hj',hmj⟩:=hm i _ hj;cases hj';simp only [rn,hj,zax] at h ⊢;obtain ⟨l,h1,h2⟩:=h;exact ⟨l,by rw [hmj];exact h1,h2⟩
 . cases ho):P:=h
theorem yy28 {P:Prop} (h:P:=by
 simp only [zih] at ho;split at ho
 . rename_i j hj
   simp only [rn,hj,zax] at h ⊢;obtain ⟨l,h1,h2⟩:=h;exact ⟨l,by rw [hm i j hj];exact h1,h2⟩
 . cases ho):P:=h
theorem yy45 {P:Prop} (h:P:=by
 simp only [zih] at ho;simp only [rn,zax] at h ⊢;obtain ⟨arr,h1,h2⟩:=h;exact ⟨arr,h1,znq hm hn hR l _ ho h2⟩):P:=h
theorem yy50 {P:Prop} (h:P:=by
 simp only [zih] at ho;simp only [rn,zax] at h ⊢;obtain ⟨arr,h1,h2⟩:=h;exact ⟨arr,h1,zuw hm hR l _ ho h2⟩):P:=h
theorem yy55 {P:Prop} (h:P:=by
 obtain ⟨h1,h2,h3⟩:=h;refine ⟨h1,h2,?_⟩;rcases h3 with h3 | ⟨h3,h4,h5,arr,h6,h7,h8⟩
 . exact .inl h3
 . exact .inr ⟨h3,h4,h5,arr,h6,h7,fun k x hk=>let ⟨cv,h9,h10⟩:=h8 k x hk;⟨cv,h9,h10.sub hR⟩⟩):P:=h
theorem yy60 {P:Prop} (h:P:=by
 refine ⟨_,_,h4,h5,fun m w R vs hk hx=>?_,fun H' he K' hk=>by simp only [zkw];exact h7 H' he _ hk⟩;simp only [zaz] at hx ⊢;obtain ⟨v,r,rfl,h7,h8⟩:=hx;exact ⟨v,r,rfl,h7,h6 m w R r hk h8⟩):P:=h
theorem yy73 {P:Prop} (h:P:=by
 simp only [rn,zax] at h ⊢;obtain ⟨b,o,h1,h2,h3⟩:=h;exact ⟨b,o,h1,fun hc=>hR b (h2 hc),fun k x hk=>let ⟨cv,h4,h5⟩:=h3 k x hk;⟨cv,h4,h5.sub hR⟩⟩):P:=h
theorem yy74 {P:Prop} (h:P:=by
 cases h;obtain ⟨l,h1,h2,h3⟩:=hok.live id _ hb;exact ⟨l,h1,hB _ _ h2,h3⟩):P:=h
theorem yy79 {P:Prop} (h:P:=by
 obtain ⟨h1,h2,h3,h4,h5,arr,h6,h7,h8⟩:=h;exact ⟨h1,h2,h3,h4,h5,arr,h6,h7,fun k x hk=>let ⟨cv,h9,h10⟩:=h8 k x hk;⟨cv,h9,h10.sub hR⟩⟩):P:=h
theorem yy92 {P:Prop} (h:P:=by
 simp only [execOp,resolve,hfv,Deferred.ofValue,Sem.run_bind,Sem.run_pure,Result.andThen_ok,invoke]
 simpa using hcf):P:=h
theorem yy95 {P:Prop} (h:P:=by
 split<;>first | rfl | skip
 . rename_i id;rw [h id (by simp [zdd])]
 . rename_i id _ _ _;rw [h id (by simp [zdd])]):P:=h
theorem yy99 {P:Prop} (h:P:=by
 split
 . split
   . split
     . exact zco zaw
     . exact False.elim
   . exact False.elim
 . exact False.elim):P:=h
theorem yy100 {P:Prop} (h:P:=by
 simp only [yff] at hs;simp only [zax] at h ⊢;obtain ⟨arr,h1,h2⟩:=h;exact ⟨arr,h1,zuz l _ hs h2⟩):P:=h
namespace Go.HL
open Go.RowKit (Below)
section
variable {Γ:Ctx} {P:Program} {m:zfa} {H:Nat->zad} {w:World} {ρ:Operand->Value} {ev:Operand->HV} {dst:Option Tmp} {ty:TypeId} {pos:String} {after:Array Edge} {guard:Option (Nat×Bool)}
theorem ygm.vals {R:Nat->Prop} {n:Nat} {rows:List (List PV)} {v:Value} (h:ygm w R n rows v) :
 ∃ a c vs,v=.slice a rows.length c/\rows.length<=c/\c<=maxLen/\zep w R rows.flatten vs/\(rows=[]\/∃ b o,a=some ⟨b,o,none⟩/\∀ (j:Nat) u,vs[j]?=some u->w.cell? ⟨b,o+j,none⟩=some u):=by
 obtain ⟨a,c,hv,hle,hm,hcell⟩:=h.out;by_cases hne:rows=[]
 . subst hne;exact ⟨a,c,[],hv,hle,hm,.nil,.inl rfl⟩
 . obtain ⟨b,o,ha,hpc⟩:=hcell hne
   have:∀ (l:List PV) (k:Nat),(∀ (j:Nat) x,l[j]?=some x->∃ cv,w.cell? ⟨b,o+(k+j),none⟩=some cv/\zhg w R x cv)->∃ vs,zep w R l vs/\∀ (j:Nat) u,vs[j]?=some u->w.cell? ⟨b,o+(k+j),none⟩=some u:=by
    intro l
    induction l with
    | nil=>intro k _;exact ⟨[],.nil,fun j u hu=>by simp at hu⟩
    | cons x l ih =>
     intro k hk;obtain ⟨cv,h1,h2⟩:=hk 0 x zz4;obtain ⟨vs,h3,h4⟩:=ih (k+1) (fun j y hy=>by
      have:=hk (j+1) y (by simpa using hy)
      rwa [show k+(j+1)=k+1+j by omega] at this)
     refine ⟨cv::vs,.cons h2 h3,fun j u hu=>?_⟩;cases j with
     | zero=>simp at hu;subst hu;exact h1
     | succ j=>have:=h4 j u (by simpa using hu);rwa [show k+1+j=k+(j+1) by omega] at this
   obtain ⟨vs,h1,h2⟩:=this rows.flatten 0 (fun j x hx=>by simpa using hpc j x hx);exact ⟨a,c,vs,hv,hle,hm,h1,.inr ⟨b,o,ha,fun j u hu=>by simpa using h2 j u hu⟩⟩
theorem ygm.src {R:Nat->Prop} {n:Nat} {rows:List (List PV)} {v:Value} (h:ygm w R n rows v) {t e:TypeId} (hu:P.underlying t=some (.slice e)) :
 ∃ vs,zep w R rows.flatten vs/\Src P n t v rows.length vs w:=by
 obtain ⟨a,c,vs,rfl,hle,hm,hp,hc⟩:=h.vals;have hl:vs.length=rows.length*n:=by rw [hp.length,zcc h.lens]
 refine ⟨vs,hp,?_⟩;rcases hc with rfl | ⟨b,o,rfl,hc⟩
 . have hv:vs=[]:=zy21 zz52
   subst hv;cases a with
   | none=>exact Src.ofNil w hu c
   | some ad=>exact Src.ofSlice w hu ad 0 c [] zz4 (fun j u hj=>by simp at hj) zz4
 . exact Src.ofSlice w hu _ _ c vs hl (fun j u hj=>by rw [Addr.add_mid];exact hc j u hj) hp.one
theorem OS.newRow' {w1:World} {H':Nat->zad} (hws:WS Γ H m w1 H' m w) {id:Nat} (hf:H' id=.free) {arr:Array Value} {t:TypeId} {n cap:Nat} {rows:List (List PV)} (hlens:∀ r∈rows,r.length=n)
 (hle:rows.length<=cap) (hm:cap<=maxLen) (hsz:arr.size=cap*n) (hr:∀ (k:Nat) x,rows.flatten[k]?=some x->∃ cv,arr[k]?=some cv/\zhg w (RR Γ m H' w) x cv) {x:Sem Next}
 {ups:List (Nat×zad)} (hups:zea H ups=upd H' id (.live (.row t n rows)))
 (tch:List Nat) (hx:x.run P w1=.ok (.value (.slice (some ⟨w.heap.size,0,none⟩) rows.length cap)) (w.alloc (.cells arr t))):OS Γ P m H w1 x ⟨.own id,ups,tch⟩:=by
 obtain ⟨m',hws2,hm'⟩:=WS.new hws.ok hf (arr:=arr) (t:=t) (b:=.row t n rows) (cap:=cap) (len:=rows.length) (fun m' R' hext hk =>
  ⟨rfl,hlens,.inr ⟨rfl,hle,hm,arr,heap_alloc_new w _,hsz,fun k y hy=>by
   obtain ⟨cv,h1,h2⟩:=hr k y hy;exact ⟨cv,h1,h2.mono hk⟩⟩⟩)
 refine ⟨_,_,m',.inl hx,?_,?_⟩
 . simp only [hups];exact hws.trans hws2
 . simp only [zax]
   exact ⟨_,hm',by simp [hdr]⟩
theorem zgv (z:Array Value) (n:Nat):(Builtin.zeroCells z n).size=n*z.size:=by simp [Builtin.zeroCells]
theorem zkz {H':Nat->zad} (hws:WS Γ H m w H' m w) {d:Nat} (hf:H' d=.free) {t e:TypeId} {de:TyD} {u:TypeDesc} {i:TypeInfo} {z:Value} (hu:P.underlying t=some (.slice e)) (ht:zqy P e de u i z) (hzs:de.zero.length=de.size)
 (hb:0<de.bytes) {rows ys:List (List PV)} {base:Option Addr} {cap:Nat} {vy:Value} (hx:ygm w (RR Γ m H w) de.size rows (.slice base rows.length cap)) (hy:ygm w (RR Γ m H w) de.size ys vy)
 (hg:cap<rows.length+ys.length) (h47:(rows.length+ys.length)*de.bytes<=140737488355328) {ups:List (Nat×zad)} (hups:zea H ups=upd H' d (.live (.row e de.size (rows++ys)))) (tch:List Nat) {x:Sem Next}
 (zeb:∀ {v:Value} {w':World},(Builtin.append_ #[t,t] ty #[.slice base rows.length cap,vy]).run P w=.ok v w'->x.run P w=.ok (.value v) w'):OS Γ P m H w x ⟨.own d,ups,tch⟩:=by
 obtain ⟨olds,ho,hso⟩:=hx.src hu;obtain ⟨news,hn,hsn⟩:=hy.src hu;have hN:rows.length+ys.length<=140737488355328:=by
  have:(rows.length+ys.length)*1<=(rows.length+ys.length)*de.bytes:=Nat.mul_le_mul_left _ hb;omega
 rw [ht.size] at hso hsn;have hr:=run_append_grow_src (P:=P) w t t ty e i z hu ht.info ht.zero base rows.length cap olds hso.cellsD vy ys.length news hsn hg zz0 (growslice_fits hg (by rw [<- ht.bytes];exact h47));have hcap:=grownCap_ge w (rows.length+ys.length) cap e;have hcm:=grownCap_le_maxLen w (rows.length+ys.length) cap e zz85;have hlr:(rows++ys).length=rows.length+ys.length:=by simp
 rw [<- hlr] at hr;have hws':WS Γ H m w H' m w.drew:=hws.trans (WS.drew hws.ok);have hzz:z.cells.size=de.size:=by rw [<- hzs,ht.zeros];simp
 have holds:olds.length=rows.length*de.size:=by rw [ho.length,zcc hx.lens]
 have hnews:news.length=ys.length*de.size:=by rw [hn.length,zcc hy.lens]
 have hall:=ho.append hn;refine OS.newRow' (w:=w.drew) hws' hf (arr:=(olds++news).toArray++Builtin.zeroCells z.cells (grownCap w (rows++ys).length cap e-(rows++ys).length)) (t:=e) (n:=de.size) (cap:=grownCap w (rows++ys).length cap e) (rows:=rows++ys) ?_ (by rw [hlr];exact hcap) (by rw [hlr];exact hcm) ?_ ?_ hups tch (zeb hr)
 . intro r hr
   rcases zy17.1 hr with hr | hr
   . exact hx.lens r hr
   . exact hy.lens r hr
 . rw [hlr]
   simp only [Array.size_append,zgv,hzz,List.size_toArray,zy6,holds,hnews];rw [<- zy47,<- zy47];congr 1;omega
 . intro k y hy
   rw [zy74] at hy;obtain ⟨cv,hcv,hp⟩:=hall.get k y hy;refine ⟨cv,?_,hp.mono hws'.keep⟩;have hlt:k<(olds++news).length:=(zy9.1 hcv).1;rw [zy138 (by simpa using hlt)]
   simpa using hcv
theorem zhb (b:Builtin) (args:Array Operand) (ats:Array TypeId) (f:Sem Value) (hb:∀ consts,builtin b ats ty consts (args.map ρ)=(do pure (Next.value (<- f)):Sem Next)) {v:Value} {w':World} (h:f.run P w=.ok v w') :
 (execOp ρ ⟨dst,.call ⟨.builtin b,args,ats⟩,ty,pos,after,guard⟩).run P w=.ok (.value v) w':=by
 simp only [execOp,resolve,Sem.run_bind,Sem.run_pure,Result.andThen_ok,invoke,hb,h]
theorem yjc {n o:Nat} {rows ys:List (List PV)} (h1:∀ r∈rows,r.length=n) (h2:∀ r∈ys,r.length=n):∀ r∈zcm rows o ys,r.length=n:=by
 intro r hr;simp only [zcm,zy17] at hr;rcases hr with (hr | hr) | hr
 . exact h1 r (zy65 hr)
 . exact h2 r hr
 . exact h1 r (zy81 hr)
theorem yps {o:Nat} {rows ys:List (List PV)} (h:o<=rows.length):(zcm rows o ys).length=max rows.length (o+ys.length):=by
 simp [zcm];omega
theorem ypr {o n:Nat} {rows ys:List (List PV)} (h1:∀ r∈rows,r.length=n) (h2:∀ r∈ys,r.length=n) (ho:o<=rows.length) {k:Nat} {x:PV} (h:(zcm rows o ys).flatten[k]?=some x) :
 (o*n<=k/\k<o*n+ys.flatten.length/\ys.flatten[k-o*n]?=some x)\/(¬ (o*n<=k/\k<o*n+ys.flatten.length)/\rows.flatten[k]?=some x):=by
 have hl1:(rows.take o).flatten.length=o*n:=by
  rw [zcc (n:=n) fun r hr=>h1 r (zy65 hr),zy52];congr 1;omega
 have hl2:ys.flatten.length=ys.length*n:=zcc h2;simp only [zcm,zy74] at h;rcases zy82 k (o*n) with hk | hk
 . right
   refine ⟨by omega,?_⟩;rw [zy33,zy35 (by omega)] at h;have:rows.flatten=(rows.take o).flatten++(rows.drop o).flatten:=by rw [<- zy74,zy25]
   rw [this,zy35 (by omega)];exact h
 . rcases zy82 k (o*n+ys.flatten.length) with hk2 | hk2
   . left
     rw [zy33,zy50 (by omega),zy35 (by omega),hl1] at h;exact ⟨hk,hk2,h⟩
   . right
     refine ⟨by omega,?_⟩;rw [zy50 (by rw [zy6];omega)] at h;simp only [zy6,hl1] at h;by_cases hle:o+ys.length<=rows.length
     . have:rows.flatten=(rows.take (o+ys.length)).flatten++(rows.drop (o+ys.length)).flatten:=by rw [<- zy74,zy25]
       have hl3:(rows.take (o+ys.length)).flatten.length=o*n+ys.flatten.length:=by
        rw [zcc (n:=n) fun r hr=>h1 r (zy65 hr),zy52,hl2,<- zy47];congr 1;omega
       rw [this,zy50 (by omega),hl3];exact h
     . rw [zy31 (by omega)] at h
       simp at h
theorem zma (hok:zbc Γ m H w) {id:Nat} {b:zia} {l:Loc} (hH:H id=.live b) (hl:m id=some l) {t1:TypeId} {n:Nat} {rows:List (List PV)} {mk:List (List PV)->zia} {lim:Nat} (hw:Win m w (RR Γ m H w) l b t1 n rows mk lim)
 (hlim:lim=rows.length\/∃ c,b=.buf t1 n rows c/\lim=c/\l.cap=c) {ys:List (List PV)} {vs:List Value} (hys:∀ r∈ys,r.length=n) (hp:zep w (RR Γ m H w) ys.flatten vs) {o:Nat} (h1:o<=rows.length) (h2:o+ys.length<=lim) (hne:ys≠[]) :
 l.nil=false/\(∀ j,j<vs.length->(w.cell? ⟨l.blk,o*n+j,none⟩).isSome=true)/\(∀ j,j<vs.length->w.frozen? ⟨l.blk,o*n+j,none⟩=false) /\
  WS Γ H m w (upd H id (.live (mk (zcm rows o ys)))) m (w.setCells l.blk (o*n) vs):=by
 have hpos:0<ys.length:=Nat.pos_of_ne_zero fun h=>hne (zy21 h)
 have hroom:=hw.room;have hn:l.nil=false:=by
  cases h:l.nil with
  | false=>rfl
  | true=>simp [Loc.room,h] at hroom;omega
 have hvl:vs.length=ys.length*n:=by rw [hp.length,zcc hys]
 obtain ⟨arr,harr,hsz,hcell,hset⟩:=hw.arr hn;have hcap:lim<=l.cap:=by simpa [Loc.room,hn] using hroom
 have hfit:o*n+vs.length<=arr.size:=by
  rw [hvl,hsz,<- zy47];exact zy69 _ zz0
 refine ⟨hn,fun j hj=>?_,fun j hj=>by simp [World.frozen?,harr],?_⟩
 . rw [cell_of_row w l.blk _ arr _ (0,0) harr,zy90 (by omega)];rfl
 . refine WS.set hok hH hl hn (zbv _ _ _ _).1 (zbv _ _ _ _).2.1 (zbv _ _ _ _).2.2.1 (zbv _ _ _ _).2.2.2 (fun k hk=>zfs _ _ _ _ _ hk) fun R' hk=>?_
   refine hset _ R' (putAt arr (o*n) vs) _ (zfr _ _ _ _ _ harr hfit) (zgu _ _ _) (yjc hw.lens hys) ?_ fun k x hx=>?_
   . rw [yps h1]
     rcases hlim with rfl | ⟨c,hb,rfl,hc⟩
     . left;omega
     . right;exact ⟨hc.symm,by have:=hw.le;omega,lim,hb⟩
   . rw [zfp]
     rcases ypr hw.lens hys h1 hx with ⟨g1,g2,g3⟩ | ⟨g1,g3⟩
     . obtain ⟨cv,h4,h5⟩:=hp.get _ _ g3
       have hlt:=(zy9.1 h4).1;rw [zy1 (by omega)];exact ⟨cv,h4,h5.mono hk⟩
     . rw [zy0 (by rw [hp.length];omega)]
       obtain ⟨cv,h4,h5⟩:=hcell k x g3;exact ⟨cv,h4,h5.mono hk⟩
theorem zmn {rows:List (List PV)} {o:Nat}:zcm rows o []=rows:=by simp [zcm]
theorem zys (hok:zbc Γ m H w) {id:Nat} {b:zia} {l:Loc} (hH:H id=.live b) (hl:m id=some l) {e:TypeId} {de:TyD} {rows:List (List PV)} {mk:List (List PV)->zia} {lim:Nat} (hw:Win m w (RR Γ m H w) l b e de.size rows mk lim)
 (hlim:lim=rows.length\/∃ c,b=.buf e de.size rows c/\lim=c/\l.cap=c) {off len:Nat} {vx vy:Value} (hx:zax m w (RR Γ m H w) (.osl id de.size off len) vx) {t:TypeId} {u:TypeDesc} {i:TypeInfo} {z:Value} (hu:P.underlying t=some (.slice e)) (ht:zqy P e de u i z)
 {ys:List (List PV)} (hs:ygm w (RR Γ m H w) de.size ys vy) (h1:off+len<=rows.length) (h2:off+len+ys.length<=lim) {x:Sem Next}
 (zeb:∀ {v:Value} {w':World},(Builtin.append_ #[t,t] ty #[vx,vy]).run P w=.ok v w'->x.run P w=.ok (.value v) w') (tch:List Nat) :
 OS Γ P m H w x ⟨.osl id de.size off (len+ys.length),[(id,.live (mk (zcm rows (off+len) ys)))],tch⟩:=by
 have hx':=hx;simp only [zax] at hx;obtain ⟨l',a,hl',g1,g2,rfl,g5⟩:=hx;rw [hl] at hl';cases hl';have hroom:=hw.room;obtain ⟨news,hnw,hsn⟩:=hs.src hu;rw [ht.size] at hsn;by_cases hys:ys=[]
 . subst hys
   have hnn:news=[]:=zy21 zz88;subst hnn;have hr:=run_append_nothing (P:=P) w t t ty e i hu ht.info a len (l.room-off) zz0 vy hsn;refine ⟨_,_,m,.inl (zeb hr),?_,?_⟩
   . simp only [zea,zmn,hw.set,<- hH,zmp];exact .refl hok
   . simp only [zea,zmn,hw.set,<- hH,zmp];simpa using hx'
 . obtain ⟨hn,hc,hf,hws⟩:=zma hok hH hl hw hlim hs.lens hnw h1 h2 hys
   have hpos:0<ys.length:=Nat.pos_of_ne_zero fun h=>hys (zy21 h)
   have ha:a=some ⟨l.blk,off*de.size,none⟩:=(g5 (.inl zz0)).trans zz87;subst ha;have hr:=run_append_room_src (P:=P) w t t ty _ i hu ht.info l.blk (off*de.size) len (l.room-off) vy ys.length news hsn zz0
    (fun j hj=>by rw [<- ht.size,<- zy47];exact hc j hj) (fun j hj=>by rw [<- ht.size,<- zy47];exact hf j hj)
   rw [<- ht.size,<- zy47] at hr;refine ⟨_,_,m,.inl (zeb hr),hws,?_⟩;simp only [zax];exact ⟨l,_,hl,by omega,g2,rfl,fun _=>by simp [Loc.at,hn]⟩
theorem ygl (z:List Value):∀ k:Nat,(List.replicate k (z.map PV.v)).flatten=((List.replicate k z).flatten).map PV.v
 | 0=>rfl
 | k+1=>by rw [zy89,zy89,zy131,zy131,zy36,ygl z k]
theorem zng (z:Array Value) (k:Nat):(Builtin.zeroCells z k).toList=(List.replicate k z.toList).flatten:=by
 apply zy71;intro j;have hl:((List.replicate k z.toList).flatten).length=k*z.size:=by
  rw [zcc (n:=z.size) fun r hr=>by rw [zy64 hr];simp,zy76]
 rcases zy82 j (k*z.size) with h | h
 . have hzs:0<z.size:=by
    rcases zy115 z.size with h0 | h0
    . rw [h0] at h;simp at h
    . exact h0
   have e1:(Builtin.zeroCells z k).toList[j]?=some (z[j % z.size]!):=by
    rw [zy116,zy90 (by rw [zgv];exact h)];simp [Builtin.zeroCells]
   have hlt:=Nat.mod_lt j hzs;have hd:j / z.size<k:=Nat.div_lt_of_lt_mul (by rw [Nat.mul_comm];exact h);have e2:=zdj (rows:=List.replicate k z.toList) (n:=z.size) (i:=j / z.size) (j:=j % z.size) (r:=z.toList) (x:=z[j % z.size]) (fun r hr=>by rw [zy64 hr];simp)
    (by rw [zy67,zy1 hd]) zz63
   rw [show j / z.size*z.size+j % z.size=j by rw [Nat.mul_comm];exact Nat.div_add_mod j z.size] at e2;rw [e1,e2,getElem!_pos z _ hlt]
 . rw [zy51 (by rw [zy140,zgv];exact h),zy51 (by rw [hl];exact h)]
theorem zvv {R:Nat->Prop}:∀ {l:List Value},(∀ v∈l,v.oneCell'=true)->zep w R (l.map PV.v) l
 | [],_=>.nil
 | v::r,h=>.cons (.v v (h v zz4)) (zvv fun x hx=>h x zz38)
theorem zyk {R:Nat->Prop} {z:List Value} (h:z.all (·.oneCell')=true) (k:Nat):zep w R (List.replicate k (z.map PV.v)).flatten (List.replicate k z).flatten:=by
 rw [ygl];refine zvv fun v hv=>?_
 obtain ⟨l,hl,hv⟩:=List.mem_flatten.1 hv;rw [zy64 hl] at hv;exact zy7.1 h v hv
theorem zsa (t tx ty e:TypeId) (i:TypeInfo) (z:Value) (hu:P.underlying t=some (.slice e)) (hx:P.underlying tx=some (.int .i64)) (hi:P.info? e=some i) (hz:i.zero=some z) (base:Option Addr) (sLen sCap:Nat) (olds:List Value)
 (hold:(Builtin.firstCells i.size sLen (.slice base sLen sCap)).run P w.drew=.ok olds.toArray w.drew) (n:Int) (h0:0<=n) (h9:n<=9223372036854775807) (hs:0<i.size) (hb:n*i.bytes<=281474976710656)
 (hg:sCap<sLen+n.toNat) (h63:((sLen+n.toNat:Nat):Int)<=9223372036854775807) (hfit:Builtin.nextslicecap (sLen+n.toNat) sCap*i.bytes<=281474976710656) (hpos:0<n) :
 (Builtin.append_ #[t,tx] ty #[.slice base sLen sCap,.int .i64 n]).run P w =
  .ok (.slice (some ⟨w.heap.size,0,none⟩) (sLen+n.toNat) (grownCap w (sLen+n.toNat) sCap e))
   (w.drew.alloc (.cells ((olds++(Builtin.zeroCells z.cells n.toNat).toList).toArray++Builtin.zeroCells z.cells (grownCap w (sLen+n.toNat) sCap e-(sLen+n.toNat))) e)):=by
 have hn:¬ (sLen+n.toNat<=sCap):=by omega
 have h63':¬ (9223372036854775807<((sLen:Int)+(n.toNat:Int))):=by omega
 have h48':¬ (281474976710656<Builtin.nextslicecap (sLen+n.toNat) sCap*i.bytes):=by omega
 have hw:IntKind.i64.wrap n=n:=by
  unfold IntKind.wrap;simp [IntKind.bits,IntKind.signed];omega
 have hneg:¬ n<0:=by omega
 have hbig:¬ (281474976710656<n*(i.bytes:Int)):=by omega
 have hnz:¬ (n.toNat*i.size=0):=by
  have:0<n.toNat*i.size:=Nat.mul_pos zz0 hs;omega
 have hnz2:¬ (n<=0\/i.size=0):=by omega
 have h63'':¬ (9223372036854775807<((sLen:Int)+max n 0)):=by omega
 simp [Builtin.append_,run_underlying hu,run_underlying hx,sizeOf,typeInfo,zeroValue,hi,hz,hn,h63',h48',Question.forced,hold,newRow,grownCap,asInt,asIntOf,hw,hneg,hbig,hnz,hnz2,h63''];congr 2;apply Array.ext';simp [zy33]
theorem yol {K:Res->Prop} {d:Nat} {x y:Operand} {t t':TypeId} (hok:zbc Γ m H w) (hx:zax m w (RR Γ m H w) (ev x) (ρ x)) (hy:zax m w (RR Γ m H w) (ev y) (ρ y))
 (h:tyK P t' fun td=>match td.k with | .int .i64=>(match ev y with | .p (.v (.int .i64 z))=>zhi P t (ev x) z d H K | _=>False) | _=>False) :
 ∃ r,K r/\OS Γ P m H w (execOp ρ ⟨dst,.call ⟨.builtin .append,#[x,y],#[t,t']⟩,ty,pos,after,guard⟩) r:=by
 obtain ⟨td,u',i',z',ht',h⟩:=zeo h;split at h
 case h_2=>exact h.elim
 rename_i hk;split at h
 case h_2=>exact h.elim
 rename_i n hyy;rw [hyy] at hy;have hyv:=zdl hy;unfold zhi at h;have hq:=zej h;clear h;obtain ⟨e,de,u,i,z,hu,ht,h⟩:=hq;have hx2:=zav h;clear h;obtain ⟨hc,h⟩:=hx2;simp only [zy13] at hc;obtain ⟨⟨⟨hpos,hby⟩,hzs⟩,hone⟩:=hc;have hpos:0<de.size:=zy11 hpos;have hby:0<de.bytes:=zy11 hby;have hzs:=zy4 hzs;have hrunx:∀ {v:Value} {w':World},(Builtin.append_ #[t,t'] ty #[ρ x,ρ y]).run P w=.ok v w'->(execOp ρ ⟨dst,.call ⟨.builtin .append,#[x,y],#[t,t']⟩,ty,pos,after,guard⟩).run P w=.ok (.value v) w' :=
  fun hr=>zhz .append #[x,y] #[t,t'] (fun _ _=>rfl) zz91
 split at h
 case h_2=>exact h.elim
 rename_i id n1 off len hxx;rw [hxx] at hx;have hq:=zck h;clear h;obtain ⟨b,hb,h⟩:=hq;obtain ⟨l,hl,hbr⟩:=hok.blk hb;split at h
 case h_2=>exact h.elim
 rename_i t1 n2 rows cap;have hx2:=zav h;clear h;obtain ⟨hee,⟨g0,g9,g1,g2,g3⟩,h⟩:=hx2;simp only [zy13] at hee;have he2:=zy4 hee.1;have he3:=zy4 hee.2;subst he2 he3;split at h
 case h_2=>exact h.elim
 rename_i hfree;refine ⟨_,h,?_⟩;have hbr':=hbr;obtain ⟨b1,b2,b3,b4,b5,_⟩:=hbr';have hsx:=zsv hl hx hbr.2.2.1 (fun _=>ztk hbr) g2;simp only [zax] at hx;obtain ⟨l',a,hl',k1,k2,hxv,k5⟩:=hx;rw [hl] at hl';cases hl';have hroom:l.room=cap:=by simp [Loc.room,b1,b2]
 rw [hxv] at hsx hrunx;obtain ⟨olds,ho,hso⟩:=hsx.src hu;have hwl:((rows.drop off).take len).length=len:=by rw [zy52,zy34];omega
 rw [hwl] at hso;rw [ht.size] at hso;rw [hyv] at hrunx;have hcast:(((len+n.toNat)*de.bytes:Nat):Int)=(len+n)*de.bytes:=by rw [Int.natCast_mul,zy125,Int.toNat_of_nonneg g0]
 have h47:(len+n.toNat)*de.bytes<=140737488355328:=by
  have h1:(((len+n.toNat)*de.bytes:Nat):Int)<=((140737488355328:Nat):Int):=by rw [hcast];exact g3
  exact Int.ofNat_le.1 h1
 have hN:len+n.toNat<=140737488355328:=by
  have:(len+n.toNat)*1<=(len+n.toNat)*de.bytes:=Nat.mul_le_mul_left _ hby;omega
 have hnb:n*(i.bytes:Int)<=281474976710656:=by
  rw [<- ht.bytes];have h1:n*(de.bytes:Int)<=(len+n)*de.bytes:=Int.mul_le_mul_of_nonneg_right zz0 zz0;omega
 have hr:=zsa (P:=P) (w:=w) t t' ty e i z hu (ht'.int hk) ht.info ht.zero a len (l.room-off) olds hso.cellsD n g0 g9 (by rw [<- ht.size];exact hpos) hnb zz0 zz0 (growslice_fits zz0 (by rw [<- ht.bytes];exact h47)) zz0;have hcap:=grownCap_ge w (len+n.toNat) (l.room-off) e;have hcm:=grownCap_le_maxLen w (len+n.toNat) (l.room-off) e zz85;have hzz:z.cells.size=de.size:=by rw [<- hzs,ht.zeros];simp
 have hzl:(Builtin.zeroCells z.cells n.toNat).toList=(List.replicate n.toNat de.zero).flatten:=by rw [zng,ht.zeros]
 have hlr:((rows.drop off).take len++List.replicate n.toNat (de.zero.map PV.v)).length=len+n.toNat:=by rw [zy6,hwl,zy76]
 rw [<- hlr] at hr;have hws':WS Γ H m w H m w.drew:=WS.drew hok;have holds:olds.length=len*de.size:=by rw [ho.length,zcc hsx.lens,hwl]
 have hall:=ho.append (zyk (w:=w) (R:=RR Γ m H w) hone n.toNat);rw [hzl] at hr;refine OS.newRow' (w:=w.drew) hws' hfree (arr:=(olds++(List.replicate n.toNat de.zero).flatten).toArray++Builtin.zeroCells z.cells (grownCap w ((rows.drop off).take len++List.replicate n.toNat (de.zero.map PV.v)).length (l.room-off) e-((rows.drop off).take len++List.replicate n.toNat (de.zero.map PV.v)).length)) (t:=e) (n:=de.size)
  (cap:=grownCap w ((rows.drop off).take len++List.replicate n.toNat (de.zero.map PV.v)).length (l.room-off) e) (rows:=(rows.drop off).take len++List.replicate n.toNat (de.zero.map PV.v)) ?_ (by rw [hlr];exact hcap) (by rw [hlr];exact hcm) ?_ ?_ rfl _ (hrunx hr)
 . intro r hr
   rcases zy17.1 hr with hr | hr
   . exact hsx.lens r hr
   . rw [zy64 hr,zy2,hzs]
 . have hfl:((List.replicate n.toNat de.zero).flatten).length=n.toNat*de.size:=by
    rw [zcc (n:=de.size) fun r hr=>by rw [zy64 hr];exact hzs,zy76]
   rw [hlr];simp only [Array.size_append,zgv,hzz,List.size_toArray,zy6,holds,hfl];rw [<- zy47,<- zy47];congr 1;omega
 . intro k y hy
   rw [zy74] at hy;obtain ⟨cv,hcv,hp⟩:=hall.get k y hy;refine ⟨cv,?_,hp.mono hws'.keep⟩;have hlt:k<(olds++(List.replicate n.toNat de.zero).flatten).length:=(zy9.1 hcv).1;rw [zy138 (by simpa using hlt)]
   simpa using hcv
theorem xdj (hok:zbc Γ m H w) {n0 most:Nat} {y:HV} {v:Value} {K:Nat->List (List PV)->List Nat->Prop} (hy:zax m w (RR Γ m H w) y v) (h:yqb H n0 y most K) :
 ∃ n ys ids a len c,K n ys ids/\v=.slice a len c/\ys.length=Nat.min len most/\ys.length<=c/\ygm w (RR Γ m H w) n ys (.slice a ys.length c):=by
 unfold yqb at h;split at h
 . rename_i id n1 off len
   have hq:=zck h;clear h;obtain ⟨b,hb,h⟩:=hq;obtain ⟨l,hl,hbr⟩:=hok.blk hb;have hq:=zyi hbr h;clear h;obtain ⟨t1,n2,rows,mk,lim,h,hw,_⟩:=hq;have hq:=zav h;clear h;obtain ⟨hnn,rs,rfl,hle,h⟩:=hq;have hnn:=zy4 hnn;subst hnn;have hmin:Nat.min len most<=len:=Nat.min_le_left _ _;have hlen:((rows.drop off).take (Nat.min len most)).length=Nat.min len most:=by rw [zy52,zy34];omega
   have hy':=hy;simp only [zax] at hy;obtain ⟨l',a,hl',k1,k2,rfl,k5⟩:=hy;rw [hl] at hl';cases hl';have hy2:zax m w (RR Γ m H w) (.osl id n1 off (Nat.min len most)) (.slice a (Nat.min len most) (l.room-off)):=by
    simp only [zax];exact ⟨l,a,hl,by omega,k2,rfl,k5⟩
   have hs:=zsv hl hy2 hw.lens hw.cells hle;exact ⟨_,_,_,a,len,_,h,rfl,hlen,by omega,by rw [hlen];exact hs⟩
 . have hq:=zok hok hy h;clear h;obtain ⟨n,rows,ids,h,hs⟩:=hq
   obtain ⟨a,c,hv,hle,hm,hcell⟩:=hs.out;have hlen:(rows.take most).length=Nat.min rows.length most:=by rw [zy52];exact Nat.min_comm _ _
   refine ⟨n,rows.take most,ids,a,rows.length,c,h,hv,hlen,by simp;omega,⟨a,c,rfl,by simp;omega,hm,fun hne=>?_⟩,fun r hr=>hs.lens r (zy65 hr)⟩;obtain ⟨b,o,ha,hpc⟩:=hcell (by rintro rfl;simp at hne);refine ⟨b,o,ha,fun k x hk=>hpc k x ?_⟩;have:rows.flatten=(rows.take most).flatten++(rows.drop most).flatten:=by rw [<- zy74,zy25]
   rw [this,zy35 ((zy9.1 hk).1)];exact hk
theorem xdx {K:Res->Prop} {C:zbg} {d:Nat} {args:Array Operand} {ats:Array TypeId} (hok:zbc Γ m H w) (hxs:∀ x∈args.toList,zax m w (RR Γ m H w) (ev x) (ρ x)) (h:zcq P C (.call ⟨.builtin .copy,args,ats⟩) d ev H K) :
 ∃ r,K r/\OS Γ P m H w (execOp ρ ⟨dst,.call ⟨.builtin .copy,args,ats⟩,ty,pos,after,guard⟩) r:=by
 simp only [zcq] at h;split at h
 case h_2=>exact h.elim
 rename_i x y hargs;have hargs':args=#[x,y]:=by rw [<- zy60 (xs:=args),hargs]
 subst hargs';split at h
 case h_2=>exact h.elim
 rename_i t t' hats;have hats':ats=#[t,t']:=by rw [<- zy60 (xs:=ats),hats]
 subst hats';have hx:=hxs x zz4;have hy:=hxs y zz4;unfold ydc at h;have hq:=zej h;clear h;obtain ⟨e,de,u,i,z,hu,ht,h⟩:=hq;split at h
 case h_2=>exact h.elim
 rename_i id n1 off len hxx;rw [hxx] at hx;split at h
 case h_2=>exact h.elim
 rename_i b hH;obtain ⟨l,hl,hbr,_⟩:=hok.live id _ hH;have hq:=zyi hbr h;clear h;obtain ⟨t1,n2,rows,mk,lim,h,hw,hlim⟩:=hq;have hq:=xdj hok hy h;clear h;obtain ⟨n,ys,ids,a,ylen,c,h,hyv,hyl,hyc,hs⟩:=hq;have hx2:=zav h;clear h;obtain ⟨hee,⟨g1,g2⟩,h⟩:=hx2;simp only [zy13] at hee;have he1:=zy4 hee.1.1;have he2:=zy4 hee.1.2;have he3:=zy4 hee.2;subst he1 he2 he3;have hx':=hx;simp only [zax] at hx;obtain ⟨l',ad,hl',k1,k2,hxv,k5⟩:=hx;rw [hl] at hl';cases hl';have hroom:=hw.room;obtain ⟨vs,hp,yqb⟩:=hs.src hu;rw [ht.size] at yqb;have hcl:(Builtin.firstCells i.size ys.length (ρ y)).run P w=.ok vs.toArray w:=by
  have:=yqb.cells;rw [hyv];cases a<;>exact this
 refine ⟨_,h,?_⟩;have hlen:(Builtin.lenOf (ρ y)).run P w=.ok ylen w:=by rw [hyv];rfl
 by_cases hys:ys=[]
 . subst hys
   have hvs:vs=[]:=zy21 (by simpa using hp.length);subst hvs;have zeb:(Builtin.copy_ #[t,t'] ty #[ρ x,ρ y]).run P w=.ok (goInt 0) w:=by
    rw [hxv];simp only [zy14] at hyl hcl;cases ad<;>simp [Builtin.copy_,run_underlying hu,hlen,sizeOf,typeInfo,ht.info,<- hyl,hcl,storeCells]
   refine ⟨_,_,m,.inl (zhb .copy #[x,y] #[t,t'] _ (fun _=>rfl) zz90),?_,?_⟩
   . simp only [zea,zmn,hw.set,<- hH,zmp];exact .refl hok
   . exact zef _ rfl
 . obtain ⟨hn,hc,hf,hws⟩:=zma hok hH hl hw hlim hs.lens hp g1 g2 hys
   have hpos:0<ys.length:=Nat.pos_of_ne_zero fun h=>hys (zy21 h)
   have ha:ad=some ⟨l.blk,off*de.size,none⟩:=(k5 (.inl zz0)).trans zz87;subst ha;have hst:=run_storeCells_cells (P:=P) l.blk (off*de.size) vs 0 w (by simpa using hc) (by simpa using hf) hp.one;simp only [zy96] at hst;have zeb:(Builtin.copy_ #[t,t'] ty #[ρ x,ρ y]).run P w=.ok (goInt ys.length) (w.setCells l.blk (off*de.size) vs):=by
    rw [hxv];simp [Builtin.copy_,run_underlying hu,hlen,sizeOf,typeInfo,ht.info,<- hyl,hcl,hst]
   refine ⟨_,_,m,.inl (zhb .copy #[x,y] #[t,t'] _ (fun _=>rfl) zz90),hws,?_⟩;exact zef _ rfl
theorem yyk {K:Res->Prop} {C:zbg} {d:Nat} {args:Array Operand} {ats:Array TypeId} (hok:zbc Γ m H w) (hxs:∀ x∈args.toList,zax m w (RR Γ m H w) (ev x) (ρ x)) (h:zcq P C (.call ⟨.builtin .clear,args,ats⟩) d ev H K) :
 ∃ r,K r/\OS Γ P m H w (execOp ρ ⟨dst,.call ⟨.builtin .clear,args,ats⟩,ty,pos,after,guard⟩) r:=by
 simp only [zcq] at h;split at h
 case h_2=>exact h.elim
 rename_i x hargs;have hargs':args=#[x]:=by rw [<- zy60 (xs:=args),hargs]
 subst hargs';split at h
 case h_2=>exact h.elim
 rename_i t hats;have hats':ats=#[t]:=by rw [<- zy60 (xs:=ats),hats]
 subst hats';have hx:=hxs x zz4;unfold zrj at h;have hq:=zej h;clear h;obtain ⟨e,de,u,i,z,hu,ht,h⟩:=hq;have hx2:=zav h;clear h;obtain ⟨hc,h⟩:=hx2;simp only [zy13] at hc;obtain ⟨hzs,hone⟩:=hc;have hzs:=zy4 hzs;split at h
 case h_2=>exact h.elim
 rename_i id n1 off len hxx;rw [hxx] at hx;split at h
 case h_2=>exact h.elim
 rename_i b hH;obtain ⟨l,hl,hbr,_⟩:=hok.live id _ hH;have hq:=zyi hbr h;clear h;obtain ⟨t1,n2,rows,mk,lim,h,hw,hlim⟩:=hq;have hx2:=zav h;clear h;obtain ⟨hee,⟨g1,g2⟩,h⟩:=hx2;simp only [zy13] at hee;have he1:=zy4 hee.1;have he2:=zy4 hee.2;subst he1 he2;simp only [zax] at hx;obtain ⟨l',ad,hl',k1,k2,hxv,k5⟩:=hx;rw [hl] at hl';cases hl';have hroom:=hw.room;refine ⟨_,h,?_⟩;by_cases hl0:len=0
 . subst hl0
   have zeb:(Builtin.clear_ #[t] ty #[ρ x]).run P w=.ok (.tuple #[]) w:=by
    rw [hxv];cases ad<;>simp [Builtin.clear_,run_underlying hu]
   refine ⟨_,_,m,.inl (zhb .clear #[x] #[t] _ (fun _=>rfl) zz90),?_,?_⟩
   . simp only [zea,zy142,zmn,hw.set,<- hH,zmp];exact .refl hok
   . simp only [zax,zaz];exact ⟨#[],rfl,rfl⟩
 . have hp:=zyk (w:=w) (R:=RR Γ m H w) hone len
   obtain ⟨hn,hc,hf,hws⟩:=zma hok hH hl hw hlim (ys:=List.replicate len (de.zero.map PV.v)) (fun r hr=>by rw [zy64 hr,zy2,hzs]) hp g1 (by rw [zy76];exact g2) (fun h=>hl0 (by simpa using congrArg List.length h));have ha:ad=some ⟨l.blk,off*de.size,none⟩:=(k5 (.inl zz0)).trans zz87;subst ha;have hst:=run_storeCells_cells (P:=P) l.blk (off*de.size) _ 0 w (by simpa using hc) (by simpa using hf) hp.one;simp only [zy96] at hst;have hzl:(Builtin.zeroCells z.cells len).toList=(List.replicate len de.zero).flatten:=by rw [zng,ht.zeros]
   have zeb:(Builtin.clear_ #[t] ty #[ρ x]).run P w=.ok (.tuple #[]) (w.setCells l.blk (off*de.size) (List.replicate len de.zero).flatten):=by
    rw [hxv];obtain ⟨k,rfl⟩:∃ k,len=k+1:=⟨len-1,by omega⟩
    simp [Builtin.clear_,run_underlying hu,zeroValue,typeInfo,ht.info,ht.zero,hzl,hst]
   refine ⟨_,_,m,.inl (zhb .clear #[x] #[t] _ (fun _=>rfl) zz90),hws,?_⟩;simp only [zax,zaz];exact ⟨#[],rfl,rfl⟩
theorem xgr {K:Res->Prop} {C:zbg} {d:Nat} {args:Array Operand} {ats:Array TypeId} (hok:zbc Γ m H w) (hxs:∀ x∈args.toList,zax m w (RR Γ m H w) (ev x) (ρ x)) (h:zcq P C (.call ⟨.builtin .cap,args,ats⟩) d ev H K) :
 ∃ r,K r/\OS Γ P m H w (execOp ρ ⟨dst,.call ⟨.builtin .cap,args,ats⟩,ty,pos,after,guard⟩) r:=by
 simp only [zcq] at h;split at h
 case h_2=>exact h.elim
 rename_i x hargs;have hargs':args=#[x]:=by rw [<- zy60 (xs:=args),hargs]
 subst hargs';split at h
 case h_2=>exact h.elim
 rename_i t hats;have hats':ats=#[t]:=by rw [<- zy60 (xs:=ats),hats]
 subst hats';have hx:=hxs x zz4;have hq:=zej h;clear h;obtain ⟨e,de,u,i,z,hu,ht,h⟩:=hq;have he:P.elem t=e:=by simp [Program.elem,hu]
 have hu':P.underlying t=some (.slice (P.elem t)):=by rw [he];exact hu
 split at h
 case h_2=>exact h.elim
 rename_i id n1 off len hxx;rw [hxx] at hx;have hq:=zck h;clear h;obtain ⟨b,hb,h⟩:=hq;obtain ⟨l,hl,hbr⟩:=hok.blk hb;split at h
 case h_2=>exact h.elim
 rename_i t1 n2 rows cap;obtain ⟨g,h⟩:=h;obtain ⟨b1,b2,_⟩:=hbr;simp only [zax] at hx;obtain ⟨l',ad,hl',k1,k2,hxv,k5⟩:=hx;rw [hl] at hl';cases hl';have hroom:l.room=cap:=by simp [Loc.room,b1,b2]
 have zeb:(Builtin.cap_ #[t] ty #[ρ x]).run P w=.ok (goInt ((cap-off:Nat))) w:=by rw [hxv,hroom];exact run_cap_slice w t ty ad len _ hu'
 exact ⟨_,h,.ret hok (zhb .cap #[x] #[t] _ (fun _=>rfl) (by simpa [goInt] using zeb)) (zef _ rfl) _⟩
theorem ytj {K:Res->Prop} {C:zbg} {d:Nat} {args:Array Operand} {ats:Array TypeId} (hok:zbc Γ m H w) (hxs:∀ x∈args.toList,zax m w (RR Γ m H w) (ev x) (ρ x)) (h:zcq P C (.call ⟨.builtin .append,args,ats⟩) d ev H K) :
 ∃ r,K r/\OS Γ P m H w (execOp ρ ⟨dst,.call ⟨.builtin .append,args,ats⟩,ty,pos,after,guard⟩) r:=by
 simp only [zcq] at h;split at h
 . rename_i x y hargs
   have hargs':args=#[x,y]:=by rw [<- zy60 (xs:=args),hargs]
   subst hargs';split at h
   . rename_i t t' hats
     have hats':ats=#[t,t']:=by rw [<- zy60 (xs:=ats),hats]
     subst hats';have hx:=hxs x zz4;have hy:=hxs y zz4;split at h
     case h_2=>exact yol hok hx hy h
     rename_i htt;have htt:=zy4 htt;subst htt;unfold zlh at h;obtain ⟨e,de,u,i,z,hu,ht,h⟩:=zej h;obtain ⟨n,ys,ids,hK,hs⟩:=zok hok hy h;clear h;have hx2:=zav hK;clear hK;obtain ⟨hc,hK⟩:=hx2;simp only [zy13] at hc;obtain ⟨⟨⟨hn,hpos⟩,hby⟩,hzs⟩:=hc;have hn:=zy4 hn;subst hn;have hpos:0<de.size:=zy11 hpos;have hby:0<de.bytes:=zy11 hby;have hzs:=zy4 hzs;have hrunx:∀ {v:Value} {w':World},(Builtin.append_ #[t,t] ty #[ρ x,ρ y]).run P w=.ok v w'->(execOp ρ ⟨dst,.call ⟨.builtin .append,#[x,y],#[t,t]⟩,ty,pos,after,guard⟩).run P w=.ok (.value v) w' :=
      fun hr=>zhz .append #[x,y] #[t,t] (fun _ _=>rfl) zz91
     split at hK
     . rename_i hxx
       rw [hxx] at hx;have hxv:=zqf hx;rw [hxv] at hrunx;split at hK
       . rename_i hfree
         obtain ⟨h47,hK⟩:=hK;refine ⟨_,hK,?_⟩;have zgk:ygm w (RR Γ m H w) de.size [] (.slice none 0 0):=⟨⟨none,0,rfl,by simp,by simp [maxLen],fun h=>absurd rfl h⟩,by simp⟩
         by_cases hys:ys=[]
         . subst hys
           obtain ⟨news,hnw,hsn⟩:=hs.src hu;have hnn:news=[]:=zy21 zz88;subst hnn;rw [ht.size] at hsn;have hr:=run_append_nothing (P:=P) w t t ty e i hu ht.info none 0 0 (zy22 _) (ρ y) hsn;obtain ⟨m',hws,hm'⟩:=WS.newNil hok hfree e de.size;refine ⟨_,_,m',.inl (hrunx hr),hws,?_⟩;simp only [zax];exact ⟨_,hm',rfl⟩
         . exact zkz (.refl hok) hfree hu ht hzs hby zgk hs zz57 (by simpa using h47) rfl _ hrunx
       . exact hK.elim
     . rename_i id hxx
       rw [hxx] at hx;simp only [zax] at hx;obtain ⟨l,hl,hxv⟩:=hx;split at hK
       . rename_i e' n' rows hH
         have hx2:=zav hK;clear hK;obtain ⟨hee,hK⟩:=hx2;simp only [zy13] at hee;obtain ⟨he1,he2⟩:=hee;have he1:=zy4 he1;have he2:=zy4 he2;subst he1 he2;split at hK
         . rename_i hfree
           obtain ⟨h47,hK⟩:=hK;refine ⟨_,hK,?_⟩;obtain ⟨l',hl',hbr,_⟩:=hok.live id _ hH;rw [hl] at hl';cases hl';have hsx:=zsq hbr;have hdrop:=WS.drop hok hH;have hdid:d≠id:=by rintro rfl;rw [hH] at hfree;cases hfree
           have hfree':upd H id .dead d=.free:=(zbd _ _ hdid).trans hfree;rw [hxv] at hrunx;have hbr':=hbr;obtain ⟨hlen,hlens,hb3⟩:=hbr;rcases hb3 with ⟨zgk,hr0⟩ | ⟨hnn,hc1,hc2,arr,harr,hsz,hcell⟩
           . subst hr0
             have hhd:hdr l=.slice none 0 0:=by simp [hdr,zgk]
             rw [hhd] at hrunx hsx;by_cases hys:ys=[]
             . subst hys
               obtain ⟨news,hnw,hsn⟩:=hs.src hu;have hnn:news=[]:=zy21 zz88;subst hnn;rw [ht.size] at hsn;have hr:=run_append_nothing (P:=P) w t t ty _ i hu ht.info none 0 0 (zy22 _) (ρ y) hsn;obtain ⟨m',hws,hm'⟩:=WS.newNil hdrop.ok hfree' e' de.size;refine ⟨_,_,m',.inl (hrunx hr),hdrop.trans hws,?_⟩;simp only [zax];exact ⟨_,hm',rfl⟩
             . exact zkz hdrop hfree' hu ht hzs hby hsx hs zz57 (by simpa using h47) rfl _ hrunx
           . have hhd:hdr l=.slice (some ⟨l.blk,0,none⟩) rows.length l.cap:=by simp [hdr,hnn,hlen]
             rw [hhd] at hrunx hsx;by_cases hroom:rows.length+ys.length<=l.cap
             . obtain ⟨news,hnw,hsn⟩:=hs.src hu
               have hnl:news.length=ys.length*de.size:=by rw [hnw.length,zcc hs.lens]
               have hfit:rows.length*de.size+news.length<=arr.size:=by
                rw [hnl,hsz,<- zy47];exact zy69 _ hroom
               rw [ht.size] at hsn;have hr:=run_append_room_src (P:=P) w t t ty _ i hu ht.info l.blk 0 rows.length l.cap (ρ y) ys.length news hsn hroom
                (fun j hj=>by rw [cell_of_row w l.blk _ arr _ (0,0) harr,zy90 (by rw [<- ht.size];omega)];rfl) (fun j hj=>by simp [World.frozen?,harr])
               rw [<- ht.size,zy59] at hr;obtain ⟨m',hws,hm'⟩:=WS.rename hok hH hl hnn hfree (b':=.row e' de.size (rows++ys)) (rows++ys).length (w':=w.setCells l.blk (rows.length*de.size) news)
                (zbv _ _ _ _).1 (zbv _ _ _ _).2.1 (zbv _ _ _ _).2.2.1 (zbv _ _ _ _).2.2.2 (fun k hk=>zfs _ _ _ _ _ hk) (fun m' R' hext hk=>by
                 refine ⟨rfl,fun r hr=>?_,.inr ⟨rfl,by simpa using hroom,hc2,putAt arr (rows.length*de.size) news,zfr _ _ _ _ _ harr hfit,by rw [zgu,hsz],fun k y hy=>?_⟩⟩
                 . rcases zy17.1 hr with hr | hr
                   . exact hlens r hr
                   . exact hs.lens r hr
                 . rw [zy74] at hy
                   have hfl:=zcc hlens;rw [zfp];rcases zy82 k rows.flatten.length with hlt | hge
                   . rw [zy35 hlt] at hy
                     rw [zy0 (by omega)];obtain ⟨cv,h1,h2⟩:=hcell k y hy;exact ⟨cv,h1,h2.mono hk⟩
                   . rw [zy50 hge] at hy
                     obtain ⟨cv,h1,h2⟩:=hnw.get _ _ hy;have hklt:=(zy9.1 h1).1;refine ⟨cv,?_,h2.mono hk⟩;rw [zy1 (by omega),<- hfl];exact h1)
               refine ⟨_,_,m',.inl (hrunx hr),hws,?_⟩;simp only [zax];exact ⟨_,hm',by simp [hdr]⟩
             . exact zkz hdrop hfree' hu ht hzs hby hsx hs zz0 h47 rfl _ hrunx
         . exact hK.elim
       . exact hK.elim
     . rename_i id n1 off len hxx
       rw [hxx] at hx;split at hK
       . rename_i b hH
         obtain ⟨l,hl,hbr,_⟩:=hok.live id _ hH;have hq:=zyi hbr hK;clear hK;obtain ⟨t1,n2,rows,mk,lim,hK,hw,hlim⟩:=hq;have hx2:=zav hK;clear hK;obtain ⟨hee,hg,hK⟩:=hx2;simp only [zy13] at hee;obtain ⟨⟨he1,he2⟩,he3⟩:=hee;have he1:=zy4 he1;have he2:=zy4 he2;have he3:=zy4 he3;subst he1 he2 he3;obtain ⟨hg1,hg2⟩:=hg;refine ⟨_,hK,?_⟩;exact zys hok hH hl hw hlim hx hu ht hs hg1 hg2 hrunx _
       . exact hK.elim
     . exact hK.elim
   . exact h.elim
 . exact h.elim
theorem yxu {u:TypeDesc} {v:Value} (h:yhy (zoo (zhv u)) v=true):yhx (zoo (zhv u))=u:=by
 cases u<;>simp only [zhv] at h ⊢<;>try rfl
 all_goals first | (rename_i k;cases k<;>rfl) | (exfalso;cases v<;>simp [zoo,yhy] at h;rename_i k n;cases k<;>simp [zoo] at h)
theorem xgj {n:Nat} {v:Value} (h:yhy n v=true):MapKept.IsKey (yhx n) v:=by
 cases v<;>simp only [yhy] at h<;>try cases h
 all_goals (have h:=zy4 h;subst h)
 . trivial
 . rename_i k z;cases k<;>rfl
 . trivial
theorem ysp {d:TypeDesc} {a b:Value} (ha:MapKept.IsKey d a) (hb:MapKept.IsKey d b):yof a b=true↔a=b:=by
 cases d<;>cases a<;>cases b<;>simp_all [MapKept.IsKey,yof,MapKept.bytes_beq]
theorem zhn.snoc {R:Nat->Prop} {agg:Bool} {xs:List (Value×List PV)} {es:List MapEntry} (h:zhn w R agg xs es) {x:Value×List PV} {e:MapEntry} (hx:yvz w R agg x e):zhn w R agg (xs++[x]) (es++[e]):=by
 induction h with
 | nil=>exact .cons hx .nil
 | cons h1 _ ih=>exact .cons h1 ih
theorem yhc {R:Nat->Prop} {agg:Bool} {d:TypeDesc} {k:Value} (hk:MapKept.IsKey d k):∀ {xs:List (Value×List PV)} {es:List MapEntry},zhn w R agg xs es->∀ (i:Nat),(∀ x∈es,MapKept.IsKey d x.key) ->
 (Instr.findNow d k es i=some none/\yhb xs k=none/\(∀ x∈es,x.key≠k)/\∀ v,xeh xs k v=xs++[(k,v)]) \/
 ∃ j e cs,Instr.findNow d k es i=some (some (i+j,e.val))/\es[j]?=some e/\e.key=k/\yhb xs k=some cs/\yvz w R agg (k,cs) e /\
  ∀ v e',yvz w R agg (k,v) e'->zhn w R agg (xeh xs k v) (es.set j e')
 | _,_,.nil,_,_=>.inl ⟨rfl,rfl,by simp,fun _=>rfl⟩
 | (k',cs)::xs,e::es,.cons hx hr,i,h=>by
  obtain ⟨r,hr1,hiff⟩:=MapKept.sameNow_of_keys hk (h e (.head _));have hke:e.key=k':=hx.1;have hq:yof k k'=r:=by
   have h1:=ysp hk (h e (.head _));rw [hke] at h1 hiff;cases r with
   | true=>exact h1.2 (hiff.1 rfl)
   | false=>cases hc:yof k k' with
    | false=>rfl
    | true=>have:=hiff.2 (h1.1 hc);cases this
  cases r with
  | true =>
   have hkk:=hiff.1 rfl;refine .inr ⟨0,e,cs,by simp [Instr.findNow,hr1],rfl,hkk.symm,by simp [yhb,hq],by rw [hkk,hke];exact hx,fun v e' he'=>?_⟩;simp only [xeh,hq,if_true,zy127];exact .cons he' hr
  | false =>
   have hne:e.key≠k:=fun q=>by have:=hiff.2 q.symm;cases this
   rcases yhc hk hr (i+1) (fun x hx=>h x (.tail _ hx)) with ⟨h1,h2,h3,h4⟩ | ⟨j,e',cs',h1,h2,h3,h4,h5,h6⟩
   . refine .inl ⟨by simp [Instr.findNow,hr1,h1],by simp [yhb,hq,h2],fun x hx=>?_,fun v=>by simp [xeh,hq,h4]⟩
     cases hx with
     | head=>exact hne
     | tail _ hx=>exact h3 x hx
   . refine .inr ⟨j+1,e',cs',by simp [Instr.findNow,hr1,h1];omega,by simpa using h2,h3,by simp [yhb,hq,h4],h5,fun v e'' he=>?_⟩
     simp only [xeh,hq,zy114];exact .cons hx (h6 v e'' he)
theorem ydx {k:TypeId} {dk:TyD} {uk:TypeDesc} {ik:TypeInfo} {zk:Value} (ht:zqy P k dk uk ik zk) {v:Value} (h:yhy (zoo dk.k) v=true):yhx (zoo dk.k)=uk/\MapKept.IsKey uk v:=by
 have hd:dk.k=zhv uk:=ht.kind;rw [hd] at h ⊢;have:=yxu h;exact ⟨this,this ▸ xgj h⟩
theorem yop {K:Res->Prop} {C:zbg} {d:Nat} {t:TypeId} {r:Option Operand} (hok:zbc Γ m H w) (h:zcq P C (.makeMap t r) d ev H K) :
 ∃ r',K r'/\OS Γ P m H w (execOp ρ ⟨dst,.makeMap t r,ty,pos,after,guard⟩) r':=by
 simp only [zcq] at h;cases r with
 | some _=>exact h.elim
 | none =>
  obtain ⟨k,e,dk,uk,ik,zk,de,u,i,z,hu,htk,ht,h⟩:=zsp h;split at h
  . rename_i hfree
    obtain ⟨m',hws,hm'⟩:=WS.newObj hok hfree (o:=.map #[] 0) (b:=.map (zoo dk.k) (zdt de.k) []) (cap:=0) (len:=0)
     (fun m' R' hext hk=>⟨rfl,#[],0,(MapKept.heap_alloc w _).1,.nil,MapKept.stamped_empty 0,by simp⟩)
    refine ⟨_,h,.map (some w.heap.size),_,m',.inl ?_,hws,?_⟩
    . simp only [execOp]
      exact zbo _ (by rfl)
    . simp only [zax]
      exact ⟨_,hm',rfl,rfl⟩
  . exact h.elim
theorem zhn.split {w:World} {R:Nat->Prop} {agg:Bool}:∀ {A':List MapEntry} {e:MapEntry} {B':List MapEntry} {xs:List (Value×List PV)},zhn w R agg xs (A'++e::B') ->
 ∃ A x B,xs=A++x::B/\zhn w R agg A A'/\yvz w R agg x e/\zhn w R agg B B'
 | [],e,B',xs,h=>by cases h with | cons h1 h2=>exact ⟨[],_,_,rfl,.nil,h1,h2⟩
 | a::A',e,B',xs,h=>by
  cases h with
  | cons h1 h2 =>
   obtain ⟨A,x,B,rfl,k1,k2,k3⟩:=zhn.split h2;exact ⟨_::A,x,B,rfl,.cons h1 k1,k2,k3⟩
theorem zhn.join {w:World} {R:Nat->Prop} {agg:Bool}:∀ {A':List MapEntry} {B':List MapEntry} {A B:List (Value×List PV)},zhn w R agg A A'->zhn w R agg B B'->zhn w R agg (A++B) (A'++B')
 | [],B',A,B,h,k=>by cases h;exact k
 | a::A',B',A,B,h,k=>by cases h with | cons h1 h2=>exact .cons h1 (h2.join k)
theorem ysr {arr:Array MapEntry} {seen:Array Nat} {e:MapEntry} {A B:List MapEntry} (hn:(arr.toList.map (·.born)).Nodup) (h:(leftOf arr seen).toList=A++e::B):(leftOf arr (seen.push e.born)).toList=A++B:=by
 have h1:(leftOf arr (seen.push e.born)).toList=(leftOf arr seen).toList.filter fun x=>!(x.born==e.born):=by
  unfold leftOf;rw [Array.toList_filter,Array.toList_filter,List.filter_filter];refine List.filter_congr fun x _=>?_
  rw [contains_push];cases seen.contains x.born<;>cases x.born==e.born<;>rfl
 have hs:(leftOf arr seen).toList.Sublist arr.toList:=by unfold leftOf;rw [Array.toList_filter];exact List.filter_sublist
 have h2:((A++e::B).map (·.born)).Nodup:=by rw [<- h];exact (hs.map _).nodup hn
 rw [zy36,zy24,List.nodup_append] at h2;obtain ⟨_,h3,h4⟩:=h2;have h5:=(zy126.1 h3).1;rw [h1,h,zy53,zy124 (by simp),zy84.2 fun x hx=>?_,zy84.2 fun x hx=>?_]
 . have:x.born≠e.born:=fun q=>h5 (q ▸ List.mem_map_of_mem hx)
   simpa using this
 . have:x.born≠e.born:=h4 x.born (List.mem_map_of_mem hx) e.born zz4
   simpa using this
theorem xdl {kc:Nat} {v:Value} (h:MapKept.IsKey (yhx kc) v):v.oneCell'=true:=by
 generalize yhx kc=d at h;cases d<;>cases v<;>first | rfl | exact h.elim
theorem yyo {K:Res->Prop} {C:zbg} {d:Nat} {t:TypeId} {x:Operand} (hok:zbc Γ m H w) (hx:zax m w (RR Γ m H w) (ev x) (ρ x)) (h:zcq P C (.range t x) d ev H K) :
 ∃ r',K r'/\OS Γ P m H w (execOp ρ ⟨dst,.range t x,ty,pos,after,guard⟩) r':=by
 simp only [zcq] at h;obtain ⟨k,e,dk,uk,ik,zk,de,u,i,z,hu,htk,ht,h⟩:=zsp h;split at h
 . rename_i id hxx
   rw [hxx] at hx;simp only [zax] at hx;obtain ⟨l,hl,hn,hv⟩:=hx;split at h
   . rename_i kc agg es hb
     split at h
     . rename_i hfree
       obtain ⟨l',hl',hbr,hlo⟩:=hok.live id _ hb;rw [hl] at hl';cases hl';obtain ⟨_,arr,clock,harr,her,hst,hks⟩:=hbr;obtain ⟨hws1,hrr⟩:=WS.kill hok hb hl hn (w':=w) rfl rfl rfl rfl (fun _ _=>rfl);have hne:d≠id:=by rintro rfl;rw [hb] at hfree;cases hfree
       obtain ⟨m',hws2,hm'⟩:=WS.newObj hws1.ok (id:=d) (by rw [zbd _ _ hne];exact hfree) (o:=.mapIter (some l.blk) clock #[] clock) (b:=.iter kc agg es none) (cap:=0) (len:=0)
        (fun m' R' hext hk=>⟨rfl,l.blk,arr,clock,#[],heap_alloc_new _ _,⟨(hk _ hrr).1.trans harr,(hk _ hrr).2,hst,hks,by
         have:(leftOf arr #[]).toList=arr.toList:=by unfold leftOf;simp
         rw [this];exact (her.mono hws1.keep).mono hk,by simp⟩⟩)
       refine ⟨_,h,.pointer (some ⟨w.heap.size,0,none⟩),_,m',.inl ?_,hws1.trans hws2,?_⟩
       . simp only [execOp]
         rw [hv];exact zbo _ (run_range_map w t k e l.blk arr clock hu harr)
       . simp only [zax]
         exact ⟨_,hm',rfl,rfl⟩
     . exact h.elim
   . exact h.elim
 . exact h.elim
theorem xea {K:Res->Prop} {C:zbg} {d:Nat} {x:Operand} {str:Bool} (hok:zbc Γ m H w) (hx:zax m w (RR Γ m H w) (ev x) (ρ x)) (h:zcq P C (.next x str) d ev H K) :
 ∃ r',K r'/\OS Γ P m H w (execOp ρ ⟨dst,.next x str,ty,pos,after,guard⟩) r':=by
 simp only [zcq] at h;split at h
 . exact h.elim
 split at h
 . rename_i id hxx
   rw [hxx] at hx;simp only [zax] at hx;obtain ⟨l,hl,hn,hv⟩:=hx;split at h
   . rename_i kc agg left cur hb
     obtain ⟨l',hl',hbr,hlo⟩:=hok.live id _ hb;rw [hl] at hl';cases hl';obtain ⟨_,bm,arr,clock,seen,hit,hI⟩:=hbr;have hst:=hI.stamped;rcases run_next_at (P:=P) w ty l.blk bm clock clock seen arr clock hit hI.map hst.1 (zy22 _) with ⟨h0,zeb⟩ | ⟨e,he,w1,hw1,zeb⟩
     . have hl0:left=[]:=by
        have:=hI.left;rw [Array.eq_empty_of_size_eq_zero h0] at this;cases this;rfl
       refine ⟨_,h.1 hl0,.ret hok (v:=.tuple #[.bool false]) ?_ ?_ _⟩
       . simp only [execOp]
         rw [hv];exact zbo _ zeb
       . simp only [zax,zaz]
         exact ⟨_,rfl,.bool false,[],rfl,.v _ rfl,rfl⟩
     . obtain ⟨A',B',hAB⟩:=List.append_of_mem he
       have hleft:=hI.left;rw [hAB] at hleft;obtain ⟨A,y,B,rfl,hA,hy,hB⟩:=zhn.split hleft;have hw0:WS Γ H m w H m w1:=by
        rcases hw1 with rfl | rfl
        . exact .refl hok
        . exact .drew hok
       have hheap:w1.heap=w.heap:=by rcases hw1 with rfl | rfl<;>rfl
       have hother:∀ k,k≠l.blk->(ChangeMaps.setBlock w1 l.blk (.mapIter (some bm) clock (seen.push e.born) clock)).heap[k]?=w1.heap[k]?:=fun k hk=>by
        show (w1.heap.setIfInBounds _ _)[k]?=_;rw [Array.getElem?_setIfInBounds_ne (fun q=>hk q.symm)]
       have hself:(ChangeMaps.setBlock w1 l.blk (.mapIter (some bm) clock (seen.push e.born) clock)).heap[l.blk]?=some (.mapIter (some bm) clock (seen.push e.born) clock):=by
        show (w1.heap.setIfInBounds _ _)[l.blk]?=_;rw [Array.getElem?_setIfInBounds_self_of_lt];rw [hheap];exact (zy78.1 hit).1
       have hws:WS Γ H m w1 (upd H id (.live (.iter kc agg (A++B) (some y)))) m (ChangeMaps.setBlock w1 l.blk (.mapIter (some bm) clock (seen.push e.born) clock)):=by
        refine WS.set hw0.ok hb hl hn (by show (w1.heap.setIfInBounds _ _).size=_;simp) rfl rfl rfl hother fun R' hR=>?_
        have hk:∀ b,RR Γ m H w b->(ChangeMaps.setBlock w1 l.blk (.mapIter (some bm) clock (seen.push e.born) clock)).heap[b]?=w.heap[b]?/\R' b:=fun b hb=>by
         have h1:=hw0.keep b hb;have h2:=hR b h1.2;exact ⟨h2.1.trans h1.1,h2.2⟩
        refine ⟨hn,bm,arr,clock,seen.push e.born,hself,⟨(hk _ hI.ok).1.trans hI.map,(hk _ hI.ok).2,hst,hI.keys,?_,fun z hz=>?_⟩⟩
        . rw [ysr hst.2.1 hAB]
          exact (hA.join hB).mono hk
        . cases hz
          exact ⟨e,(mem_left he).1,⟨seen,rfl⟩,hy.mono hk⟩
       refine ⟨_,h.2 A y B rfl,.tuple #[.bool true,e.key,e.val],_,m,.inl ?_,hw0.trans hws,?_⟩
       . simp only [execOp]
         rw [hv];exact zbo _ zeb
       . simp only [zax,zaz]
         exact ⟨_,rfl,.bool true,[e.key,e.val],rfl,.v _ rfl,e.key,[e.val],rfl,trivial,e.val,[],rfl,trivial,rfl⟩
   . exact h.elim
 . exact h.elim
theorem yyl {K:Res->Prop} {C:zbg} {d:Nat} {x:Operand} (hok:zbc Γ m H w) (hx:zax m w (RR Γ m H w) (ev x) (ρ x)) (h:zcq P C (.entry x) d ev H K) :
 ∃ r',K r'/\OS Γ P m H w (execOp ρ ⟨dst,.entry x,ty,pos,after,guard⟩) r':=by
 simp only [zcq] at h;split at h
 . rename_i id hxx
   rw [hxx] at hx;simp only [zax] at hx;obtain ⟨l,hl,hn,hv⟩:=hx;obtain ⟨b,hb,h⟩:=zck h;obtain ⟨l',hl',hbr⟩:=hok.blk hb;rw [hl] at hl';cases hl';split at h
   . rename_i kc agg left cur
     obtain ⟨k,v,rfl,hc,h⟩:=h;obtain ⟨_,bm,arr,clock,seen,hit,hI⟩:=hbr;obtain ⟨e,he,⟨s0,rfl⟩,hk,hone,hp⟩:=hI.cur _ hc;have hst:=hI.stamped;refine ⟨_,h,.ret hok (v:=.tuple #[e.key,e.val]) ?_ ?_ _⟩
     . simp only [execOp]
       rw [hv];exact zbo _ (run_entry_at (P:=P) w l.blk bm clock s0 arr clock e hit hI.map he hst.2.1)
     . have hk:e.key=k:=hk
       have h1:=xdl (hI.keys e he);rw [hk] at h1;cases hp with
       | cons h2 h3 =>
        simp only [zax,zaz];exact ⟨_,rfl,e.key,[e.val],rfl,by rw [hk];exact .v k h1,e.val,[],rfl,h2,rfl⟩
   . exact h.elim
 . exact h.elim
theorem yzh {e:TypeId} {de:TyD} {u:TypeDesc} {i:TypeInfo} {z:Value} (ht:zqy P e de u i z) {arr:Array Value} {off:Nat} {us:List Value}
 (hus:(zdt de.k=true/\us.length=de.size)\/(zdt de.k=false/\us.length=1)) (huc:∀ (k:Nat) v,us[k]?=some v->arr.toList[off+k]?=some v) :
 (part e arr off).run P w=.ok (if zdt de.k then .agg us.toArray else us.headD undef) w:=by
 unfold part;rw [Sem.run_bind,ht.isAgg w,Result.andThen_ok];rcases hus with ⟨ha,hl⟩ | ⟨ha,hl⟩
 . rw [ha]
   simp only [if_true];have hsz:(sizeOf e).run P w=.ok de.size w:=by simp [sizeOf,typeInfo,ht.info,ht.size]
   simp only [Sem.run_bind,hsz,Result.andThen_ok,Sem.run_pure];congr 2;apply Array.ext';apply zy71;intro k;simp only [Array.toList_extract,List.extract_eq_take_drop,Nat.add_sub_cancel_left];rw [zy46];by_cases hk:k<de.size
   . rw [zy1 hk,zy44]
     have h1:=huc k (us[k]'zz0) (zy3 zz0);rw [h1,zy3 (by omega)]
   . rw [zy0 hk,zy51 (by omega)]
 . rw [ha]
   simp only [zy79,if_false]
   match us,hl with
   | [c],_ =>
    have h1:=huc 0 c rfl;simp only [zy96,zy116] at h1;simp [h1]
theorem zxu {R:Nat->Prop} {td:TyD} {cs:List PV} {K:HV->Prop} {vs:List Value} (hr:zep w R cs vs) (h:zit td cs 0 K) :
 ∃ x,K x/\(zdt td.k=true->td.size<=vs.length)/\(∀ v,(if zdt td.k then (∃ us,v=.agg (us:List Value).toArray/\us=vs.take td.size) else vs[0]?=some v)->zax m w R x v):=by
 unfold zit at h;split at h
 . rename_i ha
   obtain ⟨hle,h⟩:=zav h;rw [zgs,zph] at h;have hle:=zy11 hle;refine ⟨_,h,fun _=>by rw [hr.length];omega,fun v hv=>?_⟩;rw [ha] at hv;simp only [if_true] at hv;obtain ⟨us,rfl,rfl⟩:=hv;simp only [zax];refine ⟨_,rfl,zaz.of_get (by simp [hr.length]) fun k x v hx hv=>?_⟩;rw [zy10,zy151] at hx;obtain ⟨x',hx',rfl⟩:=zy29.1 hx;have hv:(vs.take td.size)[k]?=some v:=by simpa using hv
   rw [zy46] at hx' hv;by_cases hk:k<td.size
   . rw [zy1 hk] at hx' hv
     obtain ⟨v',hv',hp⟩:=hr.get _ _ hx';rw [hv'] at hv;cases hv;simp only [zax];exact hp
   . rw [zy0 hk] at hx';cases hx'
 . rename_i ha
   have hfin:∀ y,nth cs 0=some y->∀ v,vs[0]?=some v->zhg w R y v:=by
    intro y hy v hv;rw [zgp] at hy;obtain ⟨v',hv',hp⟩:=hr.get _ _ hy;rw [hv'] at hv;cases hv;exact hp
   split at h
   . rename_i x hx
     exact ⟨_,h,by simp [ha],fun v hv=>by rw [ha] at hv;simp only [zax];exact hfin _ hx v zz64⟩
   . rename_i n r hx
     exact ⟨_,h,by simp [ha],fun v hv=>by rw [ha] at hv;simp only [zax];exact hfin _ hx v zz64⟩
   . exact h.elim
theorem yxh {e:TypeId} {de:TyD} {ok agg:Bool} {o:Option (List PV)} {K:Res->Prop} {id:Nat} (h:ynz P e de ok agg o K id) :
 agg=zdt de.k/\match o with
  | some cs=>cs.length=de.size/\zit de cs 0 fun v=>okK ok v true id K
  | none=>de.zero.length=de.size/\(de.zero.all (·.oneCell'))=true/\de.zagg=zdt de.k/\zit de (zxm (lay P e) (de.zero.map .v)) 0 fun v=>okK ok v false id K:=by
 unfold ynz at h;obtain ⟨h1,h⟩:=zav h;refine ⟨eq_of_beq h1,?_⟩;cases o with
 | some cs =>
  obtain ⟨h2,h⟩:=zav h;exact ⟨zy4 h2,h⟩
 | none =>
  obtain ⟨h2,h⟩:=zav h;simp only [zy13] at h2;exact ⟨zy4 h2.1.1,h2.1.2,eq_of_beq h2.2,h⟩
theorem ytl {K:Res->Prop} {C:zbg} {d:Nat} {t:TypeId} {x i:Operand} {ok:Bool} (hok:zbc Γ m H w) (hx:zax m w (RR Γ m H w) (ev x) (ρ x)) (hi:zax m w (RR Γ m H w) (ev i) (ρ i)) (h:zcq P C (.lookup t x i ok) d ev H K) :
 ∃ r,K r/\OS Γ P m H w (execOp ρ ⟨dst,.lookup t x i ok,ty,pos,after,guard⟩) r:=by
 simp only [zcq] at h;obtain ⟨k,e,dk,uk,ik,zk,de,u,inf,z,hu,htk,ht,h⟩:=zsp h;split at h
 . rename_i kv hii
   rw [hii] at hi;have hiv:ρ i=kv:=by simp only [zax] at hi;cases hi;rfl
   obtain ⟨hki,h⟩:=zav h;obtain ⟨hkd,hkey⟩:=ydx htk hki;split at h
   . rename_i id hxx
     rw [hxx] at hx;simp only [zax] at hx;obtain ⟨l,hl,hn,hv⟩:=hx;obtain ⟨b,hb,h⟩:=zck h;obtain ⟨l',hl',hbr⟩:=hok.blk hb;rw [hl] at hl';cases hl';split at h
     . rename_i kc agg es
       have hx2:=zav h;clear h;obtain ⟨hkc,o,ho,h⟩:=hx2;have hkc:=zy4 hkc;subst hkc;obtain ⟨_,arr,clock,harr,her,hst,hks⟩:=hbr;rw [hkd] at hks;obtain ⟨hag,h⟩:=yxh h;have hget:=MapKept.run_getObj_map (P:=P) harr;have hck:=fun em=>MapKept.run_checkKey (P:=P) (w:=w) htk.und hkey em 9999
       have fin:∀ (v:Value) (bb:Bool) (y:HV),(Instr.lookup t (ρ x) (ρ i) ok).run P w=.ok (if ok then .tuple #[v,.bool bb] else v) w->zax m w (RR Γ m H w) y v ->
        okK ok y bb id K->∃ r,K r/\OS Γ P m H w (execOp ρ ⟨dst,.lookup t x i ok,ty,pos,after,guard⟩) r:=by
        intro v bb y zeb hy hk;cases ok with
        | true =>
         refine ⟨_,hk,.ret hok (v:=.tuple #[v,.bool bb]) ?_ ?_ _⟩
         . simp only [execOp];exact zbo _ zeb
         . simp only [zax]
           refine ⟨_,rfl,?_⟩;simp only [zaz];exact ⟨v,[.bool bb],rfl,hy,.bool bb,[],rfl,zef _ rfl,rfl⟩
        | false =>
         refine ⟨_,hk,.ret hok (v:=v) ?_ hy _⟩;simp only [execOp];exact zbo _ zeb
       rcases yhc hkey her 0 (fun x hx=>hks x hx) with ⟨h1,h2,_,_⟩ | ⟨j,en,cs,h1,h2,h3,h4,h5,_⟩
       . rw [h2] at ho
         subst ho;obtain ⟨hz1,hz2,hz3,h⟩:=h;rw [ht.zagg] at hz3;have hzp:zep w (RR Γ m H w) (zxm (lay P e) (de.zero.map .v)) z.cells.toList:=by
          refine zep.norm _ ?_;rw [<- ht.zeros];exact zvv fun v hv=>zy7.1 hz2 v hv
         obtain ⟨y,hk,hlen,hrep⟩:=zxu (m:=m) hzp h;refine fin z false y ?_ (hrep z ?_) hk
         . rw [hv,hiv]
           simp [Instr.lookup,run_underlying hu,hget,hck,MapKept.run_findKey htk.und h1,zeroValue,typeInfo,ht.info,ht.zero,Result.andThen]
         . rw [ht.zeros] at hz1
           cases hza:zdt de.k with
           | true =>
            rw [hza] at hz3;simp only [if_true];cases z with
            | agg arr =>
             refine ⟨arr.toList,by simp,?_⟩;rw [zy37 (by simp [Value.cells] at hz1 ⊢;omega)]
             rfl
            | _=>simp [yln] at hz3
           | false =>
            rw [hza] at hz3;simp only [zy79,if_false];cases z<;>first | rfl | simp [yln] at hz3
       . rw [h4] at ho
         subst ho;obtain ⟨hcl,h⟩:=h;have hvs:∃ vs,zep w (RR Γ m H w) cs vs/\(if zdt de.k then (∃ us,en.val=.agg (us:List Value).toArray/\us=vs.take de.size) else vs[0]?=some en.val):=by
          obtain ⟨_,h5⟩:=h5;rw [<- hag];cases agg with
          | true =>
           obtain ⟨arr',h6,h7⟩:=h5;refine ⟨arr'.toList,h7,?_⟩;simp only [if_true];exact ⟨arr'.toList,by simp [h6],by rw [zy37 (by have:=h7.length;dsimp only at this;omega)]⟩
          | false=>exact ⟨[en.val],h5.2,by simp⟩
         obtain ⟨vs,hp,hval⟩:=hvs;obtain ⟨y,hk,hlen,hrep⟩:=zxu (m:=m) hp h;refine fin en.val true y ?_ (hrep _ hval) hk;rw [hv,hiv];simp [Instr.lookup,run_underlying hu,hget,hck,MapKept.run_findKey htk.und h1,Result.andThen]
     . exact h.elim
   . exact h.elim
 . exact h.elim
theorem yyn {K:Res->Prop} {C:zbg} {d:Nat} {t:TypeId} {x i:Operand} (hok:zbc Γ m H w) (hx:zax m w (RR Γ m H w) (ev x) (ρ x)) (hi:zax m w (RR Γ m H w) (ev i) (ρ i)) (h:zcq P C (.index t x i) d ev H K) :
 ∃ r,K r/\OS Γ P m H w (execOp ρ ⟨dst,.index t x i,ty,pos,after,guard⟩) r:=by
 simp only [zcq] at h;obtain ⟨n,e,de,u,inf,z,hu,ht,h⟩:=yjl h;split at h
 . rename_i l hxx
   rw [hxx] at hx;split at h
   . rename_i k i' hii
     rw [hii] at hi;have hiv:=zdl hi;obtain ⟨j,rfl,hj,h⟩:=h;simp only [zax] at hx;obtain ⟨arr,hv,hrl⟩:=hx;obtain ⟨y,us,hk,hus,huc,hrep⟩:=zot hrl h;have hsz:∀ W:World,(sizeOf e).run P W=.ok de.size W:=fun W=>by simp [sizeOf,typeInfo,ht.info,ht.size]
     have hpart:=yzh (w:=w) ht (arr:=arr) hus huc;refine ⟨_,hk,.ret hok ?_ hrep _⟩;simp only [execOp,hv,hiv];refine zbo _ ?_;simp only [Instr.index,asIntOf,Sem.run_bind,Sem.run_pure,Result.andThen_ok,run_underlying hu];rw [zy1 ⟨by omega,by omega⟩];simp only [Sem.run_bind,hsz,Result.andThen_ok,zy40];exact hpart
   . exact h.elim
 . exact h.elim
theorem yen {K:Res->Prop} {t:TypeId} {x i y:Operand} (hok:zbc Γ m H w) (hx:zax m w (RR Γ m H w) (ev x) (ρ x)) (hi:zax m w (RR Γ m H w) (ev i) (ρ i)) (hy:zax m w (RR Γ m H w) (ev y) (ρ y))
 (h:zjc P t (ev x) (ev i) (ev y) H K):∃ r,K r/\∀ {xo:Sem Next},(xo=(do Instr.mapUpdate t (ρ x) (ρ i) (ρ y);pure Next.skip:Sem Next))->OS Γ P m H w xo r:=by
 unfold zjc at h;obtain ⟨k,e,dk,uk,ik,zk,de,u,inf,z,hu,htk,ht,h⟩:=zsp h;split at h
 . rename_i kv hii
   rw [hii] at hi;have hiv:ρ i=kv:=by simp only [zax] at hi;cases hi;rfl
   obtain ⟨hki,h⟩:=zav h;obtain ⟨hkd,hkey⟩:=ydx htk hki;split at h
   . rename_i id hxx
     rw [hxx] at hx;simp only [zax] at hx;obtain ⟨l,hl,hn,hv⟩:=hx;split at h
     . rename_i kc agg es hH
       obtain ⟨hb,h⟩:=zav h;simp only [zy13] at hb;obtain ⟨⟨h1,hag⟩,hkc⟩:=hb;have hag:agg=ylm (ev y):=eq_of_beq hag;have hkc:=zy4 hkc;subst hkc;obtain ⟨l',hl',hbr,_⟩:=hok.live id _ hH;rw [hl] at hl';cases hl';obtain ⟨_,arr,clock,harr,her,hst,hks⟩:=hbr;have hks':=hks;rw [hkd] at hks';obtain ⟨vs,us,h,hfz,hprep⟩:=yhr hok (hy.cells h1) h;have hx2:=zav h;clear h;obtain ⟨hb,es',hes,h⟩:=hx2;simp only [zy13] at hb;have hlen:=zy4 hb.1;have hus:us=[]:=by simpa using hb.2
       subst hus;have hcl:(ρ y).cells.size=de.size:=by have:=hprep.length;simp at this;omega
       have her':∀ born,yvz w (RR Γ m H w) agg (kv,vs) ⟨kv,ρ y,born⟩:=by
        intro born;refine ⟨rfl,?_⟩;simp only [zea] at hprep;rw [hag];cases hyy:ev y<;>rw [hyy] at hy h1
        case agg l2 =>
         simp only [zax] at hy;obtain ⟨arr2,hv2,_⟩:=hy;simp only [ylm];exact ⟨arr2,hv2,by rw [hv2] at hprep;exact hprep⟩
        all_goals (
         simp only [ylm];have hone:=hy.one h1;rw [zrd hone] at hprep;exact ⟨hone,hprep⟩)
       have hrunG:∀ (j:Option (Nat×Value)),(Instr.findKey k kv arr.toList).run P w=.ok j w->(∀ i v,j=some (i,v)->∃ e,arr[i]?=some e/\e.key=kv) ->
        (Instr.mapUpdate t (.map (some l.blk)) kv (ρ y)).run P w=(setObj l.blk (match j with
         | some (i,_)=>.map (arr.modify i fun e=>{e with key:=kv,val:=ρ y}) clock
         | none=>.map (arr.push {key:=kv,val:=ρ y,born:=clock}) (clock+1))).run P w:=by
        intro j hj hjk;simp only [Instr.mapUpdate,Sem.run_bind,run_underlying hu,Result.andThen_ok,MapKept.run_getObj_map harr,MapKept.run_checkKey htk.und hkey,hj];cases j with
        | none=>rfl
        | some q =>
         obtain ⟨i,v⟩:=q;obtain ⟨e1,he1,he2⟩:=hjk i v rfl;simp [he1,he2,MapKept.run_keyThatStays hkey,Result.andThen]
       have fin:∀ (o':Obj),(Instr.mapUpdate t (.map (some l.blk)) kv (ρ y)).run P w=(setObj l.blk o').run P w ->
        (∀ (w':World) (R':Nat->Prop),w'.heap[l.blk]?=some o'->(∀ b,RR Γ m H w b->w'.heap[b]?=w.heap[b]?/\R' b)->zmx m w' R' l (.map (zoo dk.k) agg es')) ->
        ∃ r,K r/\∀ {xo:Sem Next},(xo=(do Instr.mapUpdate t (ρ x) (ρ i) (ρ y);pure Next.skip:Sem Next))->OS Γ P m H w xo r:=by
        intro o' zeb hbr';refine ⟨_,h,fun {xo} hxo=>⟨undef,{w with heap:=w.heap.setIfInBounds l.blk o'},m,.inr ⟨?_,rfl⟩,WS.set hok hH hl hn ?_ rfl rfl rfl ?_ ?_,by simp only [zax]⟩⟩
        . rw [hxo,hv,hiv,Sem.run_bind,zeb,MapKept.run_setObj_map _ harr];rfl
        . simp
        . exact fun k hk=>(MapKept.heap_set harr).2 k hk
        . exact fun R' hk=>hbr' _ R' (MapKept.heap_set harr).1 hk
       rcases yhc hkey her 0 (fun x hx=>hks' x hx) with ⟨a1,a2,a3,a4⟩ | ⟨j,en,cs,a1,a2,a3,a4,a5,a6⟩
       . refine fin _ (hrunG none (MapKept.run_findKey htk.und a1) zz4) fun w' R' hw' hk=>?_
         rw [hes,a4];refine ⟨hn,_,_,hw',?_,MapKept.stamped_push hst a3,?_⟩
         . rw [Array.toList_push]
           exact ((her.mono hk).snoc ((her' clock).mono hk))
         . intro x hx
           simp only [Array.toList_push,zy17,zy23] at hx;rcases hx with hx | rfl
           . exact hks x hx
           . rw [hkd];exact hkey
       . have hj:arr[j]?=some en:=by simpa using a2
         rw [zy59] at a1;refine fin _ (hrunG (some (j,en.val)) (MapKept.run_findKey htk.und a1) (by intro i v hiv;cases hiv;exact ⟨en,hj,a3⟩)) fun w' R' hw' hk=>?_
         have hkey':∀ e',arr[j]?=some e'->({e' with key:=kv,val:=ρ y}:MapEntry).key=e'.key:=fun e' he'=>by rw [hj] at he';cases he';exact a3.symm
         refine ⟨hn,_,_,hw',?_,MapKept.stamped_modify hst _ _ (fun _ _=>rfl) (fun e' _ he'=>hkey' e' he'),MapKept.isKey_modify hks _ _ hkey'⟩;have:=(a6 vs {en with key:=kv,val:=ρ y} (her' en.born)).mono hk;rw [hes];have hl2:(arr.modify j fun e=>{e with key:=kv,val:=ρ y}).toList=arr.toList.set j {en with key:=kv,val:=ρ y}:=by
          apply zy71;intro q;simp only [zy116,zy133,zy132];by_cases hq:j=q
          . subst hq
            have:j<arr.size:=(zy78.1 hj).1;rw [zy1 rfl,zy1 rfl,zy1 (by simpa using this),hj];rfl
          . rw [zy0 hq,zy0 hq]
         rw [hl2];exact this
     . exact h.elim
   . exact h.elim
 . exact h.elim
end
end Go.HL
namespace Go.HL
section
variable {α:Type} {K:Res->Prop} {P:Program} {H:Nat->zad}
theorem zaw {r0:Res}:K r0->∃ r,K r/\r0=r:=fun h=>⟨r0,h,rfl⟩
theorem zco {c:Prop} {A:Prop} {B:Res->Prop} (h:A->∃ r,K r/\B r):znc c A->∃ r,K r/\znc c (B r):=fun ⟨hc,ha⟩=>let ⟨r,h1,h2⟩:=h ha;⟨r,h1,hc,h2⟩
theorem zlk {k:IntKind} {z:Int} {A:Int->Prop} {B:Int->Res->Prop} (h:∀ y,A y->∃ r,K r/\B y r):zms k z A->∃ r,K r/\zms k z (fun y=>B y r) :=
 fun ⟨y,hy,ha⟩=>let ⟨r,h1,h2⟩:=h y ha;⟨r,h1,y,hy,h2⟩
theorem zzr {rows:List (List PV)} {i:Int} {A:List PV->Prop} {B:List PV->Res->Prop} (h:∀ y,A y->∃ r,K r/\B y r):zvy rows i A->∃ r,K r/\zvy rows i (fun y=>B y r) :=
 fun ⟨y,h0,hy,ha⟩=>let ⟨r,h1,h2⟩:=h y ha;⟨r,h1,y,h0,hy,h2⟩
theorem ynv {rows:List (List PV)} {A:List UInt8->Prop} {B:List UInt8->Res->Prop} (h:∀ y,A y->∃ r,K r/\B y r):yku rows A->∃ r,K r/\yku rows (fun y=>B y r) :=
 fun ⟨y,hy,ha⟩=>let ⟨r,h1,h2⟩:=h y ha;⟨r,h1,y,hy,h2⟩
theorem zso {rows:List (List PV)} {o n:Nat} {A:List (List PV)->Prop} {B:List (List PV)->Res->Prop} (h:∀ y,A y->∃ r,K r/\B y r):zrk rows o n A->∃ r,K r/\zrk rows o n (fun y=>B y r) :=
 fun ⟨y,h0,hy,ha⟩=>let ⟨r,h1,h2⟩:=h y ha;⟨r,h1,y,h0,hy,h2⟩
theorem zbn {b:Bool} {A:Prop} {B:Res->Prop} (h:A->∃ r,K r/\B r):(bif b then A else False)->∃ r,K r/\(bif b then B r else False):=by
 cases b
 . exact fun h=>h.elim
 . exact h
theorem zds {t:TypeId} {A:TyD->Prop} {B:TyD->Res->Prop} (h:∀ y,A y->∃ r,K r/\B y r):tyK P t A->∃ r,K r/\tyK P t (fun y=>B y r):=by
 unfold tyK;cases xhs P t
 . exact False.elim
 . exact h _
theorem zec {t:TypeId} {A:TypeId->TyD->Prop} {B:TypeId->TyD->Res->Prop} (h:∀ e y,A e y->∃ r,K r/\B e y r):zgn P t A->∃ r,K r/\zgn P t (fun e y=>B e y r):=by
 unfold zgn;refine zds fun d=>?_
 cases d.k<;>first | exact False.elim | exact zds (h _)
theorem ysg {t:TypeId} {A:Prop} {B:Res->Prop} (h:A->∃ r,K r/\B r):ysf P t A->∃ r,K r/\ysf P t (B r):=by
 unfold ysf;cases (P.info? t).map (·.size) with
 | none=>exact False.elim
 | some n=>cases n with
  | zero=>exact False.elim
  | succ n=>exact h
theorem zgz {x:HV} {A:HV->Prop} {B:HV->Res->Prop} (h:∀ y,A y->∃ r,K r/\B y r):force x A->∃ r,K r/\force x (fun y=>B y r):=by
 rw [force_eq];intro ha;obtain ⟨r,h1,h2⟩:=h x ha;exact ⟨r,h1,by rw [force_eq];exact h2⟩
theorem zme {x:List HV} {A:List HV->Prop} {B:List HV->Res->Prop} (h:∀ y,A y->∃ r,K r/\B y r):zfm x A->∃ r,K r/\zfm x (fun y=>B y r):=by
 rw [zgy];intro ha;obtain ⟨r,h1,h2⟩:=h x ha;exact ⟨r,h1,by rw [zgy];exact h2⟩
theorem znj {x:List PV} {A:List PV->Prop} {B:List PV->Res->Prop} (h:∀ y,A y->∃ r,K r/\B y r):zkb x A->∃ r,K r/\zkb x (fun y=>B y r):=by
 rw [zgs];intro ha;obtain ⟨r,h1,h2⟩:=h x ha;exact ⟨r,h1,by rw [zgs];exact h2⟩
theorem yqx {ev:Operand->HV} {x:List Operand} {A:List HV->Prop} {B:List HV->Res->Prop} (h:∀ y,A y->∃ r,K r/\B y r):evL ev x A->∃ r,K r/\evL ev x (fun y=>B y r):=by
 rw [zrh];intro ha;obtain ⟨r,h1,h2⟩:=h _ ha;exact ⟨r,h1,by rw [zrh];exact h2⟩
theorem zcu {s:zad} {A:zia->Prop} {B:zia->Res->Prop} (h:∀ y,A y->∃ r,K r/\B y r):zcy s A->∃ r,K r/\zcy s (fun y=>B y r):=by
 unfold zcy;cases s<;>first | exact False.elim | exact h _
theorem yla {s:zad} {id:Nat} {b:zia} {x:HV}:xdg s id b x K->∃ r,K r/\xdg s id b x (·=r):=by
 unfold xdg;cases s<;>first | exact False.elim | exact zaw
theorem zqp {d:TyD} {cs:List HV} {o:Nat} {A:HV->Prop} {B:HV->Res->Prop} (h:∀ y,A y->∃ r,K r/\B y r):zne d cs o A->∃ r,K r/\zne d cs o (fun y=>B y r):=by
 unfold zne;cases zdt d.k
 . simp only
   cases nth cs o
   . exact False.elim
   . exact zgz h
 . exact zbn (zme fun y=>h _)
theorem zmj {d:TyD} {cs:List PV} {o:Nat} {A:HV->Prop} {B:HV->Res->Prop} (h:∀ y,A y->∃ r,K r/\B y r):zit d cs o A->∃ r,K r/\zit d cs o (fun y=>B y r):=by
 unfold zit;cases zdt d.k
 . simp only
   cases nth cs o with
   | none=>exact False.elim
   | some x=>cases x<;>exact h _
 . exact zbn (znj fun y=>h _)
theorem xdh {x:HV} {A:PV->List (Nat×zad)->Prop} {B:PV->List (Nat×zad)->Res->Prop} (h:∀ y u,A y u->∃ r,K r/\B y u r):hpv H x A->∃ r,K r/\hpv H x (fun y u=>B y u r):=by
 unfold hpv;cases x<;>simp only<;>first | exact False.elim | exact h _ _ | skip
 rename_i id;cases H id with
 | live b=>cases b<;>first | exact False.elim | exact h _ _
 | ro b=>cases b<;>first | exact False.elim | exact h _ _
 | _=>exact False.elim
theorem ylc:∀ {xs:List HV} {A:List PV->List (Nat×zad)->Prop} {B:List PV->List (Nat×zad)->Res->Prop},(∀ y u,A y u->∃ r,K r/\B y u r)->yhq H xs A->∃ r,K r/\yhq H xs (fun y u=>B y u r)
 | [],A,B,h=>h _ _
 | x::xs,A,B,h=>by simp only [yhq];exact xdh fun y u=>ylc fun ys us=>h _ _
theorem zli {n:Nat} {x:HV} {A:Nat->List (List PV)->List Nat->Prop} {B:Nat->List (List PV)->List Nat->Res->Prop} (h:∀ n y u,A n y u->∃ r,K r/\B n y u r):zjn H n x A->∃ r,K r/\zjn H n x (fun n y u=>B n y u r):=by
 unfold zjn;split
 . exact h _ _ _
 . exact h _ _ _
 . refine zcu fun b=>?_
   cases b<;>first | exact False.elim | exact h _ _ _
 . refine zcu fun b=>?_
   cases b<;>first | exact False.elim | exact zbn (zso fun y=>h _ _ _)
 . exact False.elim
theorem zmr {b:zia} {A:TypeId->Nat->List (List PV)->(List (List PV)->zia)->Nat->Prop} {B:TypeId->Nat->List (List PV)->(List (List PV)->zia)->Nat->Res->Prop} (h:∀ t n r k l,A t n r k l->∃ r',K r'/\B t n r k l r'):yzw b A->∃ r,K r/\yzw b (fun t n r' k l=>B t n r' k l r):=by
 cases b<;>first | exact False.elim | exact h _ _ _ _ _
theorem yxl {id n off len sz:Nat} {lo hi:Option HV}:yxk H id n off len sz lo hi K->∃ r,K r/\yxk H id n off len sz lo hi (·=r):=by
 unfold yxk;refine zcu fun b=>zmr fun t n r k l=>zbn ?_
 split
 . split<;>first | exact zco zaw | exact False.elim
 . split<;>first | exact zco zaw | exact False.elim
 . exact False.elim
theorem yht {x:HV} {sz:Nat} {l hh mx:Int}:zke x H sz l hh mx K->∃ r,K r/\zke x H sz l hh mx (·=r):=by
 unfold zke;split
 . exact zco (zbn (zso fun y=>zaw))
 . refine zcu fun b=>?_
   cases b<;>first | exact False.elim | exact zco zaw
 . exact zcu fun b=>zmr fun t n r k l=>zco zaw
 . exact False.elim
theorem ycx {t:TypeId} {x:HV} {z:Int} {d:Nat}:zhi P t x z d H K->∃ r,K r/\zhi P t x z d H (·=r):=by
 unfold zhi;refine zec fun e de=>zbn ?_
 split
 . refine zcu fun b=>?_
   cases b<;>try exact False.elim
   refine zbn (zco ?_);cases H d<;>first | exact False.elim | exact zaw
 . exact False.elim
theorem yxm {n most:Nat} {x:HV} {A:Nat->List (List PV)->List Nat->Prop} {B:Nat->List (List PV)->List Nat->Res->Prop} (h:∀ n y u,A n y u->∃ r,K r/\B n y u r):yqb H n x most A->∃ r,K r/\yqb H n x most (fun n y u=>B n y u r):=by
 unfold yqb;split
 . exact zcu fun b=>zmr fun t n r k l=>zbn (zso fun y=>h _ _ _)
 . exact zli fun n y u=>h _ _ _
theorem yrq {t:TypeId} {x y:HV}:ydc P t x y H K->∃ r,K r/\ydc P t x y H (·=r):=by
 unfold ydc;refine zec fun e de=>?_
 split
 . rename_i id n off len
   cases H id<;>first | exact False.elim | exact zmr fun t n r k l=>yxm fun n y u=>zbn (zco zaw)
 . exact False.elim
theorem ynx {t:TypeId} {x:HV}:zrj P t x H K->∃ r,K r/\zrj P t x H (·=r):=by
 unfold zrj;refine zec fun e de=>zbn ?_
 split
 . rename_i id n off len
   cases H id<;>first | exact False.elim | exact zmr fun t n r k l=>zbn (zco zaw)
 . exact False.elim
theorem zsn {n:Nat} {i:Int} {A:Nat->Prop} {B:Nat->Res->Prop} (h:∀ j,A j->∃ r,K r/\B j r):xfj n i A->∃ r,K r/\xfj n i (fun j=>B j r) :=
 fun ⟨j,h1,h2,h3⟩=>let ⟨r,h4,h5⟩:=h j h3;⟨r,h4,j,h1,h2,h5⟩
theorem yrw {es:List (Value×List PV)} {k:Value} {A:Option (List PV)->Prop} {B:Option (List PV)->Res->Prop} (h:∀ j,A j->∃ r,K r/\B j r):zpz es k A->∃ r,K r/\zpz es k (fun j=>B j r) :=
 fun ⟨j,h1,h3⟩=>let ⟨r,h4,h5⟩:=h j h3;⟨r,h4,j,h1,h5⟩
theorem yxi {es:List (Value×List PV)} {k:Value} {v:List PV} {A:List (Value×List PV)->Prop} {B:List (Value×List PV)->Res->Prop} (h:∀ j,A j->∃ r,K r/\B j r):xao es k v A->∃ r,K r/\xao es k v (fun j=>B j r) :=
 fun ⟨j,h1,h3⟩=>let ⟨r,h4,h5⟩:=h j h3;⟨r,h4,j,h1,h5⟩
theorem zop {t:TypeId} {A:TyD->TypeId->TyD->Prop} {B:TyD->TypeId->TyD->Res->Prop} (h:∀ a b c,A a b c->∃ r,K r/\B a b c r):zzz P t A->∃ r,K r/\zzz P t (fun a b c=>B a b c r):=by
 unfold zzz;refine zds fun d=>?_
 split
 . exact zds fun dk=>zds fun de=>h _ _ _
 . exact False.elim
theorem ybx {t:TypeId} {A:Nat->TyD->Prop} {B:Nat->TyD->Res->Prop} (h:∀ a b,A a b->∃ r,K r/\B a b r):ygq P t A->∃ r,K r/\ygq P t (fun a b=>B a b r):=by
 unfold ygq;refine zds fun d=>?_
 split
 . exact zds fun de=>h _ _
 . exact False.elim
theorem yth {ok b:Bool} {v:HV} {id:Nat}:okK ok v b id K->∃ r,K r/\okK ok v b id (·=r):=by
 cases ok<;>exact zaw
theorem ysa {e:TypeId} {de:TyD} {ok agg:Bool} {o:Option (List PV)} {id:Nat}:ynz P e de ok agg o K id->∃ r,K r/\ynz P e de ok agg o (·=r) id:=by
 unfold ynz;refine zbn ?_;cases o with
 | some cs=>exact zbn (zmj fun v=>yth)
 | none=>exact zbn (zmj fun v=>yth)
theorem ztc:∀ {xs ys:List HV} {A:Bool->Prop} {B:Bool->Res->Prop},(∀ y,A y->∃ r,K r/\B y r)->ztb xs ys A->∃ r,K r/\ztb xs ys (fun y=>B y r)
 | [],[],A,B,h=>h _
 | [],y::ys,A,B,h=>False.elim
 | x::xs,[],A,B,h=>False.elim
 | x::xs,y::ys,A,B,h=>by
  simp only [ztb];split
  . split
    . exact zbn (ztc fun z=>h _)
    . exact False.elim
  . split
    . exact ztc fun z=>h _
    . exact False.elim
  . exact False.elim
theorem zql {fs:List (Nat×Nat)}:∀ {ps:List (Nat×HV)} {cs:List HV} {A:List HV->Prop} {B:List HV->Res->Prop},(∀ y,A y->∃ r,K r/\B y r)->zrr P fs ps cs A->∃ r,K r/\zrr P fs ps cs (fun y=>B y r)
 | [],cs,A,B,h=>h _
 | (i,x)::ps,cs,A,B,h=>by
  simp only [zrr];cases nth fs i with
  | none=>exact False.elim
  | some q=>exact zbn (zql h)
theorem zzq {os:List (Option Nat)} {xs:List HV} {A:List PV->List (Nat×zad)->Prop} {B:List PV->List (Nat×zad)->Res->Prop} (h:∀ y u,A y u->∃ r,K r/\B y u r):xap H os xs A->∃ r,K r/\xap H os xs (fun y u=>B y u r) :=
 ylc fun _ u=>znj fun z=>h z u
theorem yez {os:List (Option Nat)} {n:Nat}:∀ {xs:List HV} {A:List (List PV)->List (Nat×zad)->Prop} {B:List (List PV)->List (Nat×zad)->Res->Prop},(∀ y u,A y u->∃ r,K r/\B y u r)->zwf H os n xs A->∃ r,K r/\zwf H os n xs (fun y u=>B y u r)
 | [],A,B,h=>h _ _
 | x::xs,A,B,h=>by
  simp only [zwf];exact zbn (zzq fun y u=>zbn (yez fun ys us=>h _ _))
theorem ydj {x:HV} {sz n:Nat} {l h:Int}:zue x H sz K n l h->∃ r,K r/\zue x H sz (·=r) n l h:=by
 unfold zue;refine zco ?_;split
 . exact zbn (zso fun y=>zaw)
 . rename_i id
   cases H id with
   | live b=>cases b<;>first | exact False.elim | exact zbn zaw
   | ro b=>cases b<;>first | exact False.elim | exact zbn zaw
   | _=>exact False.elim
 . exact False.elim
theorem yoa {t:TypeId} {s:ByteArray} {lo hi:Option HV}:zxd P t s lo hi K->∃ r,K r/\zxd P t s lo hi (·=r):=by
 unfold zxd;refine zds fun td=>?_
 exact yy99
theorem yoc {x:HV} {sz:Nat} {lo hi:Option HV}:zol x H sz lo hi K->∃ r,K r/\zol x H sz lo hi (·=r):=by
 unfold zol;refine zli fun n rows u=>?_
 split
 . split<;>first | exact ydj | exact False.elim
 . split<;>first | exact ydj | exact False.elim
 . exact False.elim
theorem yhl {t:TypeId} {x y:HV} {d:Nat}:zlh P t x y d H K->∃ r,K r/\zlh P t x y d H (·=r):=by
 unfold zlh;refine zec fun e de=>zli fun n ys u=>zbn ?_
 split
 . cases H d<;>first | exact False.elim | exact zco zaw
 . rename_i id
   cases H id with
   | live b=>cases b with
    | cells=>exact False.elim
    | map=>exact False.elim
    | iter=>exact False.elim
    | row=>refine zbn ?_;cases H d<;>first | exact False.elim | exact zco zaw
    | buf=>exact False.elim
   | _=>exact False.elim
 . rename_i id n off len
   cases H id<;>first | exact False.elim | exact zmr fun t n r k l=>zbn (zco zaw)
 . exact False.elim
theorem yxd {t:TypeId} {op:BinOp} {x y:HV}:xfi P false t op x y K->∃ r,K r/\xfi P false t op x y (·=r):=by
 unfold xfi;split
 . split
   . split<;>first | exact False.elim | exact zco zaw | exact zco (zlk fun y=>zaw) | exact zbn (zlk fun y=>zaw) | exact zbn (zco (zlk fun y=>zaw)) | exact zbn (zco zaw) | exact zbn zaw
   . exact False.elim
 . split
   . refine zds fun td=>?_
     split
     . split<;>first | exact False.elim | exact zaw
     . exact False.elim
   . exact False.elim
 . split
   . split<;>first | exact False.elim | exact zaw | exact zco zaw
   . exact False.elim
 . split
   . refine zco ?_
     split<;>first | exact False.elim | exact ztc fun y=>zaw
   . exact False.elim
 . split
   . refine zec fun e de=>?_
     split<;>exact False.elim
   . exact False.elim
 . split
   . refine zec fun e de=>?_
     split<;>first | exact False.elim | exact zaw
   . exact False.elim
 . exact False.elim
theorem ydf {t:TypeId} {x i:HV}:zhj P t x i H K->∃ r,K r/\zhj P t x i H (·=r):=by
 unfold zhj;refine zec fun e de=>?_
 split
 . split
   . exact zbn (zzr fun r=>zaw)
   . refine zcu fun b=>?_
     cases b<;>first | exact False.elim | exact zbn (zco zaw) | exact zbn (zsn fun j=>zaw)
   . exact zbn (zco zaw)
   . exact False.elim
 . exact False.elim
theorem zuc {t:TypeId} {x i y:HV}:zjc P t x i y H K->∃ r,K r/\zjc P t x i y H (·=r):=by
 unfold zjc;refine zop fun a b c=>?_
 split
 . refine zbn ?_
   split
   . rename_i id
     cases H id with
     | live b=>cases b with
      | map=>exact zbn (zzq fun vs us=>zbn (yxi fun es=>zaw))
      | _=>exact False.elim
     | _=>exact False.elim
   . exact False.elim
 . exact False.elim
theorem ykt {C:zbg} {op:Op} {d:Nat} {ev:Operand->HV} (hd:zwb op=true) :
 zcq P C op d ev H K->∃ r,K r/\zcq P C op d ev H (·=r):=by
 cases op<;>simp only [zcq]<;>try exact False.elim
 case move x=>exact zgz fun v=>zaw
 case assign x=>exact zgz fun v=>zaw
 case pick c a b =>
  split
  . rename_i b _
    cases b<;>simp only [hif]
    . exact zgz fun v=>zaw
    . exact zgz fun v=>zaw
  . exact False.elim
 case alloc t=>exact zds fun td=>zbn yla
 case box t x=>exact zgz fun v=>zbn yla
 case build t ps =>
  refine zds fun td=>?_
  split
  . exact zbn (zql fun l=>zme fun l=>zbn zaw)
  . exact zds fun de=>zbn (zql fun l=>zme fun l=>zbn zaw)
  . exact False.elim
 case buildSlice t n ps =>
  refine zec fun e de=>zbn (yez fun rows us=>?_)
  cases H d<;>first | exact False.elim | exact zaw
 case load t a =>
  refine zds fun td=>?_
  split
  . refine zcu fun b=>?_
    cases b<;>first | exact False.elim | exact zqp fun v=>zaw
  . exact zmj fun v=>zaw
  . refine zcu fun b=>?_
    cases b<;>first | exact False.elim | exact zbn (zzr fun r=>zmj fun v=>zaw)
  . exact False.elim
 case store t a x =>
  refine zds fun td=>?_
  split
  . rename_i id off _
    cases H id with
    | live b=>cases b with
     | cells=>exact zgz fun v=>zbn (zme fun cs=>zaw)
     | row=>exact False.elim
     | map=>exact False.elim
     | iter=>exact False.elim
     | buf=>exact False.elim
    | _=>exact False.elim
  . rename_i id n i off _
    cases H id with
    | live b=>cases b with
     | cells=>exact False.elim
     | map=>exact False.elim
     | iter=>exact False.elim
     | buf=>exact False.elim
     | row=>exact zbn (zzq fun vs us=>zzr fun r=>zbn (znj fun r'=>zaw))
    | _=>exact False.elim
  . exact False.elim
 case nilCheck x =>
  split<;>first | exact False.elim | exact zaw
 case binOp b t x y yt =>
  have hcs:zyy y=false:=by simpa [zwb] using hd
  rw [hcs];cases yhw (ev x) with
  | some id=>exact False.elim
  | none=>exact yxd
 case unOp o t x =>
  split
  . split<;>first | exact False.elim | exact zaw
  . split
    . exact zlk fun y=>zaw
    . exact False.elim
  . exact False.elim
 case convert src dt x =>
  refine zds fun ts=>zds fun td=>?_
  split
  . split
    . exact zlk fun y=>zaw
    . exact False.elim
  . split
    . refine zds fun de=>?_
      split
      . split
        . exact zco zaw
        . exact False.elim
      . exact False.elim
    . exact False.elim
  . split
    . split
      . refine zds fun de=>?_
        split
        . exact zli fun n rows u=>zbn (ynv fun bs=>zaw)
        . exact False.elim
      . exact False.elim
    . refine zbn (zds fun de=>?_)
      exact yy99
    . exact False.elim
 case makeFunc fn first caps =>
  split
  . exact zbn (yqx fun l=>zaw)
  . exact False.elim
 case makeSlice t l c =>
  refine zec fun e de=>zbn ?_
  split
  . split
    . refine zco ?_
      cases H d<;>try exact False.elim
      dsimp only;split
      . split
        . exact zsn fun j=>zaw
        . exact False.elim
      . exact zaw
    . exact False.elim
  . exact False.elim
 case slice t x lo hi mx =>
  cases mx
  . cases isStr (ev x) with
    | some s=>exact yoa
    | none =>
     refine zec fun e de=>?_
     split
     . exact yxl
     . exact yoc
  . refine zec fun e de=>?_
    split
    . split
      . split
        . exact yht
        . exact False.elim
      . exact False.elim
    . exact False.elim
 case fieldAddr t x f =>
  refine zds fun td=>?_
  split
  . split
    . refine ysg ?_
      split<;>first | exact False.elim | exact zaw
    . exact False.elim
  . exact False.elim
 case field t x f =>
  refine zds fun td=>?_
  split
  . split
    . split
      . exact zds fun tdf=>zqp fun y=>zaw
      . exact False.elim
    . exact False.elim
  . exact False.elim
 case indexAddr t x i =>
  split
  . refine ybx fun n de=>?_
    split
    . exact zsn fun j=>zaw
    . exact False.elim
  . exact ydf
 case index t x i =>
  refine ybx fun n de=>?_
  split
  . split
    . exact zsn fun j=>zqp fun v=>zaw
    . exact False.elim
  . exact False.elim
 case makeMap t r =>
  cases r
  . refine zop fun a b c=>?_
    cases H d<;>first | exact False.elim | exact zaw
  . exact False.elim
 case lookup t x i ok =>
  refine zop fun a b c=>?_
  split
  . refine zbn ?_
    split
    . refine zcu fun b=>?_
      cases b<;>first | exact False.elim | exact zbn (yrw fun o=>ysa)
    . exact False.elim
  . exact False.elim
 case range t x =>
  refine zop fun a b c=>?_
  split
  . rename_i id _
    cases H id with
    | live b=>cases b with
     | map=>cases H d<;>first | exact False.elim | exact zaw
     | _=>exact False.elim
    | _=>exact False.elim
  . exact False.elim
 case next x s=>cases hd
 case entry x =>
  split
  . refine zcu fun b=>?_
    cases b with
    | iter=>exact fun ⟨k,v,h1,h2,h3⟩=>⟨_,h3,k,v,h1,h2,rfl⟩
    | _=>exact False.elim
  . exact False.elim
 case mapUpdate t x i y=>exact zuc
 case insert t x i y=>exact zuc
 case extract t i =>
  split
  . split
    . exact zgz fun v=>zaw
    . exact False.elim
  . exact False.elim
 case call c =>
  split
  . split
    . split
      . refine zds fun td=>?_
        split
        . split<;>first | exact False.elim | exact zaw
        . split
          . exact zaw
          . refine zcu fun b=>?_
            cases b<;>first | exact False.elim | exact zaw
          . exact zli fun n rows u=>zaw
        . exact False.elim
      . exact False.elim
    . exact False.elim
  . split
    . split
      . split<;>first | exact False.elim | exact zaw
      . exact False.elim
    . exact False.elim
  . split
    . split
      . split<;>first | exact False.elim | exact zaw
      . exact False.elim
    . exact False.elim
  . split
    . split
      . split
        . exact yhl
        . refine zds fun td=>?_
          split
          . split
            . exact ycx
            . exact False.elim
          . exact False.elim
      . exact False.elim
    . exact False.elim
  . split
    . split
      . exact yrq
      . exact False.elim
    . exact False.elim
  . split
    . split
      . exact ynx
      . exact False.elim
    . exact False.elim
  . split
    . split
      . refine zec fun e de=>?_
        split
        . refine zcu fun b=>?_
          cases b<;>first | exact False.elim | exact zco zaw
        . exact False.elim
      . exact False.elim
    . exact False.elim
  . split
    . exact yqx fun l=>fun ⟨r,h1,h2⟩=>⟨r,h2,r,h1,rfl⟩
    . exact False.elim
  . exact False.elim
end
end Go.HL
namespace Go.HL
section
variable {P:Program} {H H':Nat->zad}
theorem zxe:∀ {l:List HV} {x:HV} {id:Nat},x∈l->id∈zdd x->id∈zhs l
 | y::l,x,id,hx,hi=>by
  simp only [zhs,zy17];rcases zy18.1 hx with rfl | hx
  . exact .inl hi
  . exact .inr (zxe hx hi)
theorem zzu (a b:List HV):zhs (a++b)=zhs a++zhs b:=by
 induction a with
 | nil=>simp [zhs]
 | cons x a ih=>simp [zhs,ih]
theorem zqm {x y:HV} (h:y∈zez x) {id:Nat} (hi:id∈zdd y):id∈zdd x:=by
 cases x<;>simp only [zez,zy23] at h<;>first | (subst h;exact hi) | (simp only [zdd];exact zxe h hi)
theorem zxp {ev:Operand->HV}:∀ {l:List Operand} {x:Operand} {id:Nat},x∈l->id∈zdd (ev x)->id∈yej ev l
 | y::l,x,id,hx,hi=>by
  simp only [yej,zy17];rcases zy18.1 hx with rfl | hx
  . exact .inl hi
  . exact .inr (zxp hx hi)
theorem ysd {x:HV} (h:∀ id∈zdd x,H' id=H id) (K:PV->List (Nat×zad)->Prop):hpv H' x K=hpv H x K:=by
 unfold hpv;cases x<;>try rfl
 rename_i id;simp only [h id zz68]
theorem zxc:∀ {xs:List HV} (_:∀ x∈xs,∀ id∈zdd x,H' id=H id) (K:List PV->List (Nat×zad)->Prop),yhq H' xs K=yhq H xs K
 | [],_,K=>rfl
 | x::xs,h,K=>by
  simp only [yhq];rw [ysd (h x (by simp))];congr 1;funext v u;rw [zxc fun y hy=>h y (by simp [hy])]
theorem zhr {n:Nat} {x:HV} (h:∀ id∈zdd x,H' id=H id) (K:Nat->List (List PV)->List Nat->Prop):zjn H' n x K=zjn H n x K:=by
 unfold zjn;exact yy95
theorem yob {id:Nat} (h:H' id=H id) (n off len sz:Nat) (lo hi:Option HV) (K:Res->Prop):yxk H' id n off len sz lo hi K=yxk H id n off len sz lo hi K:=by
 unfold yxk;rw [h]
theorem zzt {x:HV} (h:∀ id∈zdd x,H' id=H id) (sz:Nat) (l hh mx:Int) (K:Res->Prop):zke x H' sz l hh mx K=zke x H sz l hh mx K:=by
 unfold zke;exact yy95
theorem yod {n most:Nat} {x:HV} (h:∀ id∈zdd x,H' id=H id) (K:Nat->List (List PV)->List Nat->Prop):yqb H' n x most K=yqb H n x most K:=by
 unfold yqb;split
 . rename_i id _ _ _;rw [h id (by simp [zdd])]
 . exact zhr h _
theorem yhn {t:TypeId} {x y:HV} (hx:∀ id∈zdd x,H' id=H id) (hy:∀ id∈zdd y,H' id=H id) (K:Res->Prop):ydc P t x y H' K=ydc P t x y H K:=by
 unfold ydc;congr 1;funext e de;split
 . rename_i id _ _ _
   simp only [hx id zz68,yod hy]
 . rfl
theorem ydb {t:TypeId} {x:HV} (hx:∀ id∈zdd x,H' id=H id) (K:Res->Prop):zrj P t x H' K=zrj P t x H K:=by
 unfold zrj;congr 1;funext e de;congr 1;split
 . rename_i id _ _ _
   simp only [hx id zz68]
 . rfl
theorem zwc {t:TypeId} {x:HV} {z:Int} {d:Nat} (hx:∀ id∈zdd x,H' id=H id) (hd:H' d=H d) (K:Res->Prop):zhi P t x z d H' K=zhi P t x z d H K:=by
 unfold zhi;congr 1;funext e de;congr 1;split
 . rename_i id _ _ _
   simp only [hx id zz68,hd]
 . rfl
theorem zqb {os:List (Option Nat)} {xs:List HV} (h:∀ x∈xs,∀ id∈zdd x,H' id=H id) (K:List PV->List (Nat×zad)->Prop):xap H' os xs K=xap H os xs K:=zxc h _
theorem zuy {os:List (Option Nat)} {n:Nat}:∀ {xs:List HV} (_:∀ x∈xs,∀ id∈zdd x,H' id=H id) (K:List (List PV)->List (Nat×zad)->Prop),zwf H' os n xs K=zwf H os n xs K
 | [],_,K=>rfl
 | x::xs,h,K=>by
  simp only [zwf];rw [zqb fun y hy id hi=>h x (by simp) id (zqm hy hi)];congr 2;funext r u;rw [zuy fun y hy=>h y (by simp [hy])]
theorem yhs {x:HV} (h:∀ id∈zdd x,H' id=H id) (sz:Nat) (K:Res->Prop) (n:Nat) (l hh:Int):zue x H' sz K n l hh=zue x H sz K n l hh:=by
 unfold zue;congr 1;split
 . rfl
 . rename_i id;simp only [h id zz68]
 . rfl
theorem ydk {x:HV} (h:∀ id∈zdd x,H' id=H id) (sz:Nat) (lo hi:Option HV) (K:Res->Prop):zol x H' sz lo hi K=zol x H sz lo hi K:=by
 unfold zol;rw [zhr h];simp only [yhs h]
theorem zzm {t:TypeId} {x y:HV} {d:Nat} (hx:∀ id∈zdd x,H' id=H id) (hy:∀ id∈zdd y,H' id=H id) (hd:H' d=H d) (K:Res->Prop):zlh P t x y d H' K=zlh P t x y d H K:=by
 unfold zlh;congr 1;funext e de;rw [zhr hy];congr 1;funext n ys u;congr 1;split
 . simp only [hd]
 . rename_i id
   simp only [hx id zz68,hd]
 . rename_i id _ _ _
   simp only [hx id zz68]
 . rfl
theorem zwd {t:TypeId} {x i:HV} (hx:∀ id∈zdd x,H' id=H id) (K:Res->Prop):zhj P t x i H' K=zhj P t x i H K:=by
 unfold zhj;congr 1;funext e de;split
 . split
   . rfl
   . rename_i id
     rw [hx id (by simp [zdd])]
   . rfl
   . rfl
 . rfl
theorem zoi {t:TypeId} {x i y:HV} (hx:∀ id∈zdd x,H' id=H id) (hy:∀ id∈zdd y,H' id=H id) (K:Res->Prop):zjc P t x i y H' K=zjc P t x i y H K:=by
 unfold zjc;congr 1;funext a b c;split
 . congr 1
   split
   . rename_i id
     rw [hx id (by simp [zdd])];simp only [zqb fun z hz id hi=>hy id (zqm hz hi)]
   . rfl
 . rfl
def zgw (C:zbg):Prop:=∀ f args H H' d r,C f args H d r->(∀ id∈zhs args,H' id=H id)->H' d=H d->(∀ id∈r.tch++r.ups.map (·.1),H' id=H id)->C f args H' d r
theorem ynu {C:zbg} (hC:zgw C) {op:Op} {d:Nat} {ev ev':Operand->HV} {r:Res} (h:zcq P C op d ev H (·=r)) (hev:∀ x∈op.operands.toList,ev' x=ev x)
 (hH:∀ id∈zqi op ev d++(r.tch++r.ups.map (·.1)),H' id=H id):zcq P C op d ev' H' (·=r):=by
 have hd:looks op=true->H' d=H d:=fun hlk=>hH d (by simp [zqi,hlk])
 have hids:looks op=true->∀ x∈op.operands.toList,∀ id∈zdd (ev x),H' id=H id:=fun hlk x hx id hi=>hH id (by simp only [zqi,hlk,zy38,zy18,zy17];exact .inr (.inl (zxp hx hi)))
 have key:∀ {A B:Prop},A->B=A->B:=fun a e=>e ▸ a
 cases op<;>simp only [Op.operands,Array.toList_empty] at hev hids<;>try exact False.elim h
 all_goals try (replace hd:=hd rfl;replace hids:=hids rfl)
 case move x=>refine key h ?_;simp only [zcq];rw [hev x (by simp)]
 case assign x=>refine key h ?_;simp only [zcq];rw [hev x (by simp)]
 case pick c a b=>refine key h ?_;simp only [zcq];rw [hev c (by simp),hev a (by simp),hev b (by simp)]
 case alloc t=>refine key h ?_;simp only [zcq,hd]
 case box t x=>refine key h ?_;simp only [zcq,hd];rw [hev x (by simp)]
 case build t ps =>
  refine key h ?_;simp only [zcq];have:(ps.toList.map fun x=>(x.1,ev' x.2))=(ps.toList.map fun x=>(x.1,ev x.2)):=zy86 fun x hx=>by rw [hev x.2 (by simpa using ⟨x.1,by simpa using hx⟩)]
  rw [this]
 case buildSlice t n ps =>
  refine key h ?_;simp only [zcq,hd];have:(ps.toList.map fun x=>ev' x.2)=(ps.toList.map fun x=>ev x.2):=zy86 fun x hx=>by rw [hev x.2 (by simpa using ⟨x.1,by simpa using hx⟩)]
  rw [this];congr 1;funext e de;rw [zuy fun y hy id hi=>?_];obtain ⟨x,hx,rfl⟩:=zy28.1 hy;exact hids x.2 (by simpa using ⟨x.1,by simpa using hx⟩) id hi
 case load t a =>
  refine key h ?_;simp only [zcq];rw [hev a (by simp)];congr 1;funext td;have hi:=hids a zz4;cases hx:ev a<;>rw [hx] at hi<;>simp only
  . rename_i id off;rw [hi id (by simp [zdd])]
  . rename_i id n i off;rw [hi id (by simp [zdd])]
 case store t a x =>
  refine key h ?_;simp only [zcq];rw [hev a (by simp),hev x (by simp)];congr 1;funext td;have hi:=hids a zz4;have hi2:=hids x zz4;cases hx:ev a<;>rw [hx] at hi<;>simp only
  . rename_i id off;rw [hi id (by simp [zdd])]
  . rename_i id n i off
    rw [hi id (by simp [zdd])];simp only [zqb fun y hy id hi'=>hi2 id (zqm hy hi')]
 case nilCheck x=>refine key h ?_;simp only [zcq];rw [hev x (by simp)]
 case binOp b t x y yt =>
  refine key h ?_;simp only [zcq];rw [hev x (by simp),hev y (by simp)];have hi:=hids x zz4;cases hq:yhw (ev x) with
  | none=>rfl
  | some id =>
   have he:ev x=.own id:=by
    unfold yhw at hq;split at hq
    . rename_i i hx;cases hq;exact hx
    . cases hq
   simp only [zzp,hi id (by rw [he];simp [zdd])]
 case unOp o t x=>refine key h ?_;simp only [zcq];rw [hev x (by simp)]
 case convert src dt x =>
  refine key h ?_;simp only [zcq];rw [hev x (by simp)];have hi:=hids x zz4;congr 1;funext ts;congr 1;funext td;split
  . rfl
  . rfl
  . simp only [zhr hi]
    cases hxx:ev x with
    | own id =>
     have e:=hi id (by rw [hxx];simp [zdd]);simp only [e]
    | _=>rfl
 case makeFunc fn first caps =>
  refine key h ?_;simp only [zcq];congr 1;funext f;rw [zrh,zrh];have:caps.toList.map ev'=caps.toList.map ev:=zy86 fun x hx=>hev x (by simp;exact .inr (by simpa using hx))
  rw [this]
 case makeSlice t l c=>refine key h ?_;simp only [zcq,hd];rw [hev l (by simp),hev c (by simp)]
 case slice t x lo hi mx =>
  refine key h ?_;simp only [zcq];rw [hev x (by simp)];have hlo:lo.map ev'=lo.map ev:=by cases lo<;>simp only [Option.map_none,zy70,Option.some.injEq];exact hev _ zz4
  have hhi:hi.map ev'=hi.map ev:=by cases hi<;>simp only [Option.map_none,zy70,Option.some.injEq];exact hev _ zz4
  rw [hlo,hhi];have hi':=hids x zz4;cases mx with
  | none =>
   simp only;cases isStr (ev x) with
   | some s=>rfl
   | none =>
   simp only;congr 1;funext e de;cases hxx:ev x<;>rw [hxx] at hi'<;>simp only [ydk hi']
   rename_i id n off len;exact yob (hi' id zz68) _ _ _ _ _ _ _
  | some m =>
   simp only;rw [hev m (by simp)];simp only [zzt hi']
 case fieldAddr t x f=>refine key h ?_;simp only [zcq];rw [hev x (by simp)]
 case field t x f=>refine key h ?_;simp only [zcq];rw [hev x (by simp)]
 case indexAddr t x i =>
  refine key h ?_;simp only [zcq];rw [hev x (by simp),hev i (by simp)];have hi:=hids x zz4;split
  . rfl
  . exact zwd hi _
 case index t x i=>refine key h ?_;simp only [zcq];rw [hev x (by simp),hev i (by simp)]
 case makeMap t r=>refine key h ?_;simp only [zcq,hd]
 case lookup t x i ok =>
  refine key h ?_;simp only [zcq];rw [hev x (by simp),hev i (by simp)];have hi:=hids x zz4;congr 1;funext a b c;split
  . congr 1
    split
    . rename_i id hx
      rw [hi id (by rw [hx];simp [zdd])]
    . rfl
  . rfl
 case range t x =>
  refine key h ?_;simp only [zcq];rw [hev x (by simp)];have hi:=hids x zz4;congr 1;funext a b c;split
  . rename_i id hx
    rw [hi id (by rw [hx];simp [zdd]),hd]
  . rfl
 case next x str =>
  refine key h ?_;simp only [zcq];rw [hev x (by simp)];have hi:=hids x zz4;cases str with
  | true=>rfl
  | false =>
   simp only;split
   . rename_i id hx
     rw [hi id (by rw [hx];simp [zdd])]
   . rfl
 case entry x =>
  refine key h ?_;simp only [zcq];rw [hev x (by simp)];have hi:=hids x zz4;split
  . rename_i id hx
    rw [hi id (by rw [hx];simp [zdd])]
  . rfl
 case mapUpdate t x i y=>refine key h ?_;simp only [zcq];rw [hev x (by simp),hev i (by simp),hev y (by simp)];exact zoi (hids x zz4) (hids y zz4) _
 case insert t x i y=>refine key h ?_;simp only [zcq];rw [hev x (by simp),hev i (by simp),hev y (by simp)];exact zoi (hids x zz4) (hids y zz4) _
 case extract t i=>refine key h ?_;simp only [zcq];rw [hev t (by simp)]
 case call c =>
  obtain ⟨callee,args,ats⟩:=c;simp only [Call.operands] at hev hids;cases callee with
  | builtin b =>
   have hev2:∀ x∈args.toList,ev' x=ev x:=fun x hx=>hev x zz46
   have hids2:∀ x∈args.toList,∀ id∈zdd (ev x),H' id=H id:=fun x hx=>hids x zz46
   refine key h ?_;cases b<;>simp only [zcq]
   . -- append
     cases hl:args.toList with
     | nil=>rfl
     | cons x l=>cases l with
      | nil=>rfl
      | cons y l=>cases l with
       | cons=>rfl
       | nil =>
        rw [hl] at hev2 hids2;simp only;rw [hev2 x (by simp),hev2 y (by simp)];cases ats.toList with
        | nil=>rfl
        | cons t l=>cases l with
         | nil=>rfl
         | cons t' l=>cases l with
          | cons=>rfl
          | nil=>simp only [zzm (P:=P) (hids2 x zz4) (hids2 y zz4) hd,zwc (P:=P) (hids2 x zz4) hd]
   . -- cap
     cases hl:args.toList with
     | nil=>rfl
     | cons x l=>cases l with
      | cons=>rfl
      | nil =>
       rw [hl] at hev2 hids2;simp only;rw [hev2 x (by simp)];split
       . congr 1;funext e de
         have hi:=hids2 x zz4;split
         . rename_i id _ _ _ hx
           rw [hi id (by rw [hx];simp [zdd])]
         . rfl
       . rfl
   . -- clear
     cases hl:args.toList with
     | nil=>rfl
     | cons x l=>cases l with
      | cons=>rfl
      | nil =>
       rw [hl] at hev2 hids2;simp only;rw [hev2 x (by simp)];split
       . exact ydb (hids2 x zz4) _
       . rfl
   . -- copy
     cases hl:args.toList with
     | nil=>rfl
     | cons x l=>cases l with
      | nil=>rfl
      | cons y l=>cases l with
       | cons=>rfl
       | nil =>
        rw [hl] at hev2 hids2;simp only;rw [hev2 x (by simp),hev2 y (by simp)];split
        . exact yhn (hids2 x zz4) (hids2 y zz4) _
        . rfl
   . -- len
     cases hl:args.toList with
     | nil=>rfl
     | cons x l=>cases l with
      | cons=>rfl
      | nil =>
       rw [hl] at hev2 hids2;simp only;rw [hev2 x (by simp)];split
       . congr 1;funext td
         split
         . rfl
         . have hi:=hids2 x zz4
           split
           . rfl
           . rename_i id hxx
             rw [hi id (by rw [hxx];simp [zdd])]
           . rw [zhr hi]
         . rfl
       . rfl
   . -- max
     cases hl:args.toList with
     | nil=>rfl
     | cons x l=>cases l with
      | nil=>rfl
      | cons y l=>cases l with
       | cons=>rfl
       | nil =>
        rw [hl] at hev2;simp only;rw [hev2 x (by simp),hev2 y (by simp)]
   . cases hl:args.toList with
     | nil=>rfl
     | cons x l=>cases l with
      | nil=>rfl
      | cons y l=>cases l with
       | cons=>rfl
       | nil =>
        rw [hl] at hev2;simp only;rw [hev2 x (by simp),hev2 y (by simp)]
  | invoke r mth=>exact False.elim h
  | value f =>
   simp only [zcq] at h ⊢;rw [hev f (by simp)];cases hx:ev f<;>rw [hx] at h<;>try exact False.elim h
   rename_i g caps;simp only at h ⊢;rw [zrh] at h ⊢;have hargs:args.toList.map ev'=args.toList.map ev:=zy86 fun x hx=>hev x (by simp;exact .inr (by simpa using hx))
   rw [hargs];obtain ⟨r',hc,rfl⟩:=h;refine ⟨r',hC _ _ _ _ _ _ hc (fun id hi=>?_) hd (fun id hi=>hH id (zy17.2 (.inr hi))),rfl⟩;rw [zzu,zy17] at hi;rcases hi with hi | hi
   . have:∀ l:List Operand,id∈zhs (l.map ev)->∃ x∈l,id∈zdd (ev x):=by
      intro l
      induction l with
      | nil=>simp [zhs]
      | cons y l ih =>
       intro h;simp only [zy24,zhs,zy17] at h;rcases h with h | h
       . exact ⟨y,by simp,h⟩
       . obtain ⟨x,hx,h⟩:=ih h;exact ⟨x,by simp [hx],h⟩
     obtain ⟨x,hx2,h2⟩:=this _ hi;exact hids x (by simp;exact .inr (by simpa using hx2)) id h2
   . exact hids f zz4 id (by rw [hx];simpa only [zdd] using hi)
end
end Go.HL
namespace Go.HL
structure zmb (Γ:Ctx) (P:Program) (m:zfa) (s:HS) (a:Act) (w:World):Prop where
 heap:zbc Γ m s.heap w
 slots:∀ t,zax m w (RR Γ m s.heap w) (s.slot t) (a.tmps.getD t undef)
 size:a.tmps.size=s.n
 defers:a.defers=[]
 pin:∀ id l,pin<=id->Γ.m0 id=some l->id∈s.pins/\m id=some l
def zjf (P:Program) (C:zbg):Prop:=∀ f args H d r,C f args H d r->∀ (Γ:Ctx) m w vals,zbc Γ m H w->zaz m w (RR Γ m H w) args vals ->
 ((callFunc f vals.toArray).run P w=.ok (.enter f vals.toArray) w /\
 Calls P f vals.toArray w fun e w'=>∃ v m',e=.returned v/\WS Γ H m w (zea H r.ups) m' w'/\zax m' w' (RR Γ m' (zea H r.ups) w') r.val v) \/
 ∃ v w' m',(callFunc f vals.toArray).run P w=.ok (.value v) w'/\WS Γ H m w (zea H r.ups) m' w'/\zax m' w' (RR Γ m' (zea H r.ups) w') r.val v
section
variable {Γ:Ctx} {P:Program} {m m':zfa} {s:HS} {a:Act} {w w':World} {C:zbg}
theorem zmb.eval (h:zmb Γ P m s a w) (x:Operand):zax m w (RR Γ m s.heap w) (evalOp s.slot x) (a.eval x):=by
 cases x with
 | tmp t=>exact h.slots t
 | const v=>exact yng v
 | global g=>simp only [evalOp,zax]
 | func f=>simp only [evalOp,zax,Act.eval];exact ⟨#[],rfl,by simp only [zaz]⟩
theorem ykq (a:Act) (d t:Nat) (v:Value) (hd:d<a.tmps.size):(a.put (some d) v).tmps.getD t undef=if t=d then v else a.tmps.getD t undef:=by
 simp only [Act.put,zy75,Array.getElem?_setIfInBounds];by_cases h:t=d
 . subst h;simp [hd]
 . rw [zy0 (fun e=>h e.symm),zy0 h]
theorem zmb.step (h:zmb Γ P m s a w) {dst:Option Nat} {r:Res} {v:Value} (hws:WS Γ s.heap m w (zea s.heap r.ups) m' w') (hv:zax m' w' (RR Γ m' (zea s.heap r.ups) w') r.val v) (hd:∀ d,dst=some d->d<s.n) :
 zmb Γ P m' (s.app dst r) (a.put dst v) w':=by
 cases dst with
 | none=>exact ⟨hws.ok,fun t=>hws.rep (h.slots t),h.size,h.defers,fun id l hp hl=>⟨(h.pin id l hp hl).1,hws.ext _ _ (h.pin id l hp hl).2⟩⟩
 | some d =>
  have hlt:d<a.tmps.size:=by rw [h.size];exact hd d rfl
  refine ⟨hws.ok,fun t=>?_,by simp [Act.put,HS.app,h.size],h.defers,fun id l hp hl=>⟨(h.pin id l hp hl).1,hws.ext _ _ (h.pin id l hp hl).2⟩⟩;rw [ykq a d t v hlt];by_cases ht:t=d
  . subst ht;rw [zy1 rfl];simp only [HS.app,zba];exact hv
  . rw [zy0 ht];simp only [HS.app,zbd _ _ ht];exact hws.rep (h.slots t)
theorem zmb.skip (h:zmb Γ P m s a w) {dst:Option Nat} (hd:∀ d,dst=some d->d<s.n):zmb Γ P m (s.put dst .und) (a.put dst undef) w:=by
 cases dst with
 | none=>exact h
 | some d =>
  have hlt:d<a.tmps.size:=by rw [h.size];exact hd d rfl
  refine ⟨h.heap,fun t=>?_,by simp [Act.put,HS.put,h.size],h.defers,h.pin⟩;rw [ykq a d t undef hlt];by_cases ht:t=d
  . subst ht;rw [zy1 rfl];simp only [HS.put,zba,zax]
  . rw [zy0 ht];simp only [HS.put,zbd _ _ ht];exact h.slots t
def zxg:Op->Bool
 | .call ⟨.value _,_,_⟩=>true
 | _=>false
theorem xda {K:Res->Prop} {d:Nat} {ev:Operand->HV} {ρ:Operand->Value} {H:Nat->zad} {o:Oper} (hok:zbc Γ m H w) (hev:∀ x,zax m w (RR Γ m H w) (ev x) (ρ x)) (h:zcq P C o.op d ev H K) (hf:zxg o.op=false) :
 ∃ r,K r/\OS Γ P m H w (execOp ρ o) r:=by
 obtain ⟨dst,op,ty,pos,after,guard⟩:=o;simp only at h hf;cases op<;>try exact False.elim h
 case move x=>exact xdz hok (hev x) h
 case assign x=>exact ytk hok (hev x) h
 case pick c x y=>exact xeb hok (fun z _=>hev z) h
 case alloc t=>exact yyi hok h
 case box t x=>exact xgq hok (hev x) h
 case build t ps=>exact yyj hok (fun x _=>hev x.2) h
 case buildSlice t n ps=>exact yae hok (fun x _=>hev x.2) h
 case load t x=>exact xdy hok (hev x) h
 case store t x y=>exact yyq hok (hev x) (hev y) h
 case nilCheck x=>exact yil hok (hev x) h
 case binOp b t x y yt =>
  simp only [zcq] at h;cases hq:yhw (ev x) with
  | none=>rw [hq] at h;exact xgp hok (hev x) (hev y) h
  | some id =>
   rw [hq] at h;simp only at h;split at h
   . exact ytm hok (by rw [<- yxr hq];exact hev x) (hev y) h
   . exact h.elim
 case unOp u t x=>exact xec hok (hev x) h
 case convert src dt x=>exact yom hok (hev x) h
 case makeFunc fn first caps=>exact yik hok (fun x _=>hev x) h
 case makeSlice t x y=>exact yem hok (hev x) (hev y) h
 case slice t x lo hi mx=>exact yyp hok hev h
 case fieldAddr t x f=>exact yek hok (hev x) h
 case field t x f=>exact yym hok (hev x) h
 case indexAddr t x i=>exact yel hok (hev x) (hev i) h
 case extract t i=>exact yon hok (hev t) h
 case index t x i=>exact yyn hok (hev x) (hev i) h
 case makeMap t r=>exact yop hok h
 case lookup t x i b=>exact ytl hok (hev x) (hev i) h
 case range t x=>exact yyo hok (hev x) h
 case next x b=>exact xea hok (hev x) h
 case entry x=>exact yyl hok (hev x) h
 case mapUpdate t x i y=>obtain ⟨r,h1,h2⟩:=yen hok (hev x) (hev i) (hev y) h;exact ⟨r,h1,h2 (by rfl)⟩
 case insert t x i y=>obtain ⟨r,h1,h2⟩:=yen hok (hev x) (hev i) (hev y) h;exact ⟨r,h1,h2 (by rfl)⟩
 case call c =>
  obtain ⟨callee,args,ats⟩:=c;cases callee with
  | value f=>cases hf
  | invoke r mth=>exact False.elim h
  | builtin b =>
   cases b<;>try exact False.elim h
   . exact ytj hok (fun x _=>hev x) h
   . exact xgr hok (fun x _=>hev x) h
   . exact yyk hok (fun x _=>hev x) h
   . exact xdx hok (fun x _=>hev x) h
   . exact xgs hok (fun x _=>hev x) h
   . exact xgt hok (fun x _=>hev x) h
   . exact xgu hok (fun x _=>hev x) h
theorem xdw (hC:zjf P C) (hc:zmb Γ P m s a w) {o:Oper} {K:Res->Prop} {next:Act->World->Prop} {Q:Exit->Act->World->Prop} (h:zcq P C o.op (o.dst.getD 0) (evalOp s.slot) s.heap K)
 (hn:∀ r v m' w',K r->WS Γ s.heap m w (zea s.heap r.ups) m' w'->zax m' w' (RR Γ m' (zea s.heap r.ups) w') r.val v->next (a.put o.dst v) w'):o.wp P a w next Q:=by
 unfold Oper.wp;cases hf:zxg o.op with
 | false =>
  obtain ⟨r,hk,v,w',m',zeb,hws,hrep⟩:=xda hc.heap hc.eval h hf;rcases zeb with zeb | ⟨zeb,rfl⟩
  . rw [zeb];exact hn r v m' w' hk hws hrep
  . rw [zeb];exact hn r undef m' w' hk hws hrep
 | true =>
  obtain ⟨dst,op,ty,pos,after,guard⟩:=o;simp only at hf h;cases op<;>try cases hf
  rename_i c;obtain ⟨callee,args,ats⟩:=c;cases callee with
  | invoke r mth=>cases hf
  | builtin b=>cases hf
  | value f =>
   simp only [zcq] at h;split at h
   . rename_i g caps hg
     rw [zrh] at h;obtain ⟨r,hCr,hk⟩:=h;have hfv:=hc.eval f;rw [hg] at hfv;simp only [zax] at hfv;obtain ⟨arr,hfv,hcaps⟩:=hfv;have hargs:=zaz.map (ρ:=a.eval) (ev:=evalOp s.slot) args.toList fun x _=>hc.eval x
     have happ:∀ {xs ys:List HV} {vs us:List Value} {R:Nat->Prop},zaz m w R xs vs->zaz m w R ys us->zaz m w R (xs++ys) (vs++us):=by
      intro xs
      induction xs with
      | nil=>intro ys vs us R h1 h2;simp only [zaz] at h1;subst h1;exact h2
      | cons x xs ih =>
       intro ys vs us R h1 h2;simp only [zaz,zy38] at h1 ⊢;obtain ⟨v,r,rfl,h3,h4⟩:=h1;exact ⟨v,r++us,rfl,h3,ih h4 h2⟩
     have hvals:(args.toList.map a.eval++arr.toList).toArray=args.map a.eval++arr:=by apply Array.ext';simp
     have hboth:=hC g _ _ _ r hCr Γ m w _ hc.heap (happ hargs hcaps);rw [hvals] at hboth;rcases hboth with ⟨hcf,hcalls⟩ | ⟨v,w',m',hcf,hws,hrep⟩
     case inr =>
      have zeb:(execOp a.eval ⟨dst,.call ⟨.value f,args,ats⟩,ty,pos,after,guard⟩).run P w=.ok (.value v) w':=by
       exact yy92
      rw [zeb];exact hn r v m' w' hk hws hrep
     have zeb:(execOp a.eval ⟨dst,.call ⟨.value f,args,ats⟩,ty,pos,after,guard⟩).run P w=.ok (.enter g (args.map a.eval++arr)) w:=by
      exact yy92
     rw [zeb];refine hcalls.mono fun e w' he=>?_
     obtain ⟨v,m',rfl,hws,hrep⟩:=he;exact hn r v m' w' hk hws hrep
   . exact h.elim
end
end Go.HL
namespace Go.HL
def zdg (all:List Oper) (o:Oper) (slot:Nat->HV):Option Bool :=
 match o.guard with
 | none=>some true
 | some (j,want)=>match (nth all j).bind (·.dst) with
  | some g=>match slot g with
   | .p (.v (.bool b))=>some (b==want)
   | .und=>some false
   | _=>none
  | none=>none
def zkv (P:Program) (C:zbg) (all:List Oper) (o:Oper) (l:Lab) (s s':HS):Prop :=
 (∀ d,o.dst=some d->d<s.n)/\match l with
 | some (r,ids)=>zdg all o s.slot=some true/\zcq P C o.op (o.dst.getD 0) (evalOp s.slot) s.heap (·=r)/\ids=zqi o.op (evalOp s.slot) (o.dst.getD 0)/\s'=s.app o.dst r
 | none=>zdg all o s.slot=some false/\s'=s.put o.dst .und
inductive Ev (P:Program) (C:zbg) (all:List Oper):List (Oper×Lab)->HS->HS->Prop where
 | nil (s:HS):Ev P C all [] s s
 | cons {o:Oper} {l:Lab} {r:List (Oper×Lab)} {s s1 s2:HS} (h:zkv P C all o l s s1) (k:Ev P C all r s1 s2):Ev P C all ((o,l)::r) s s2
section
variable {Γ:Ctx} {P:Program} {C:zbg} {all:List Oper}
theorem zss (s:HS) {g:Nat} {x:HV} (h:s.slot g=x):s.put (some g) x=s:=by
 subst h;simp only [HS.put,zmp]
theorem zqa:∀ (os:List Oper) (s:HS) (acc:List Lab) (K:List Lab->HS->Prop),(∀ o∈os,zwb o.op=true)->ybo P C all os s acc K ->
 ∃ labs s',labs.length=os.length/\Ev P C all (os.zip labs) s s'/\K (labs.reverse++acc) s'
 | [],s,acc,K,hd,h=>⟨[],s,rfl,.nil s,h⟩
 | ⟨dst,op,ty,pos,after,guard⟩::os,s,acc,K,hd,h=>by
  have hdo:zwb op=true:=hd ⟨dst,op,ty,pos,after,guard⟩ zz4;have hrest:∀ o∈os,zwb o.op=true:=fun o ho=>hd o (by simp [ho])
  have run:∀ (K':Res->HS->Prop),zeb P C dst op s K'->∃ r,(∀ d,dst=some d->d<s.n)/\zcq P C op (dst.getD 0) (evalOp s.slot) s.heap (·=r)/\K' r (s.app dst r):=by
   intro K' hr;unfold zeb at hr;cases dst with
   | none =>
    obtain ⟨r,h1,h2⟩:=ykt hdo hr;exact ⟨r,by simp,h2,h1⟩
   | some d =>
    obtain ⟨hlt,hr⟩:=zav hr;obtain ⟨r,h1,h2⟩:=ykt hdo hr;refine ⟨r,fun d' hd'=>?_,h2,h1⟩;cases hd';exact zy11 hlt
  have skip:∀ (K':HS->Prop),zwe dst s K'->(∀ d,dst=some d->d<s.n)/\K' (s.put dst .und):=by
   intro K' hr;unfold zwe at hr;cases dst with
   | none=>exact ⟨by simp,hr⟩
   | some d =>
    obtain ⟨hlt,hr⟩:=zav hr;refine ⟨fun d' hd'=>?_,hr⟩;cases hd';exact zy11 hlt
  have ran:∀ (hw:zdg all ⟨dst,op,ty,pos,after,guard⟩ s.slot=some true),zeb P C dst op s (fun r s'=>ybo P C all os s' (some (r,zqi op (evalOp s.slot) (dst.getD 0))::acc) K) ->
   ∃ labs s',labs.length=(⟨dst,op,ty,pos,after,guard⟩::os).length/\Ev P C all ((⟨dst,op,ty,pos,after,guard⟩::os).zip labs) s s'/\K (labs.reverse++acc) s':=by
   intro hw hr;obtain ⟨r,h1,h2,h3⟩:=run _ hr;obtain ⟨labs,s',hl,hev,hk⟩:=zqa os _ _ K hrest h3;refine ⟨some (r,zqi op (evalOp s.slot) (dst.getD 0))::labs,s',by simp [hl],.cons ⟨h1,hw,h2,rfl,rfl⟩ hev,?_⟩
   simpa using hk
  have skipped:∀ (hw:zdg all ⟨dst,op,ty,pos,after,guard⟩ s.slot=some false),zwe dst s (fun s'=>ybo P C all os s' (none::acc) K) ->
   ∃ labs s',labs.length=(⟨dst,op,ty,pos,after,guard⟩::os).length/\Ev P C all ((⟨dst,op,ty,pos,after,guard⟩::os).zip labs) s s'/\K (labs.reverse++acc) s':=by
   intro hw hr;obtain ⟨h1,h3⟩:=skip _ hr;obtain ⟨labs,s',hl,hev,hk⟩:=zqa os _ _ K hrest h3;refine ⟨none::labs,s',by simp [hl],.cons ⟨h1,hw,rfl⟩ hev,?_⟩
   simpa using hk
  rw [ydg] at h;simp only [zzo] at h;split at h
  . exact ran rfl h
  . rename_i j want
    split at h
    . rename_i g hg
      split at h
      . rename_i b hb
        have h2:=ziq h;clear h;rcases h2 with ⟨rfl,h⟩ | ⟨rfl,h⟩
        . rw [zss s hb] at h
          have h2:=ziq h;clear h;rcases h2 with ⟨rfl,h⟩ | ⟨rfl,h⟩
          . exact ran zz50 h
          . exact skipped zz50 h
        . rw [zss s hb] at h
          have h2:=ziq h;clear h;rcases h2 with ⟨rfl,h⟩ | ⟨rfl,h⟩
          . exact skipped zz50 h
          . exact ran zz50 h
      . rename_i hb
        exact skipped zz50 h
      . exact h.elim
    . exact h.elim
theorem zpk {m:zfa} {s:HS} {a:Act} {w:World} {ops:Array Oper} {o:Oper} {b:Bool} (hc:zmb Γ P m s a w) (h:zdg ops.toList o s.slot=some b):Region.wanted o (yielded ops a.tmps)=b:=by
 unfold zdg at h;unfold Region.wanted;cases hg:o.guard with
 | none=>rw [hg] at h;cases h;rfl
 | some jw =>
  obtain ⟨j,want⟩:=jw;rw [hg] at h;simp only at h ⊢;rw [zgp] at h;have hj:ops.toList[j]?=ops[j]?:=by simp
  rw [hj] at h;unfold yielded;cases hd:(ops[j]?).bind (·.dst) with
  | none=>rw [hd] at h;cases h
  | some g =>
   rw [hd] at h;simp only at h;have hs:=hc.slots g;rw [zy159];split at h
   . rename_i c hcg
     rw [hcg] at hs;have hv:=zhh hs;have:a.tmps[g]?=some (.bool c):=by
      rw [zy75] at hv;cases ht:a.tmps[g]? with
      | none=>rw [ht] at hv;cases hv
      | some v=>rw [ht] at hv;simp at hv;rw [hv]
     rw [this];cases h;simp only;cases c<;>cases want<;>rfl
   . rename_i hcg
     rw [hcg] at hs;simp only [zax] at hs;cases h;cases ht:a.tmps[g]? with
     | none=>simp only;rfl
     | some v =>
      have:v=undef:=by rw [zy75,ht] at hs;simpa using hs
      subst this
      rfl
   . cases h
theorem xer (hC:zjf P C) {m:zfa} {s s':HS} {a:Act} {w:World} {ops:Array Oper} {o:Oper} {l:Lab} (hc:zmb Γ P m s a w) (h:zkv P C ops.toList o l s s') {K:Act->World->Prop} {Q:Exit->Act->World->Prop}
 (hK:∀ m' a' w',zmb Γ P m' s' a' w'->K a' w'):if Region.wanted o (yielded ops a.tmps) then o.wp P a w K Q else K (a.put o.dst undef) w:=by
 obtain ⟨hd,h⟩:=h;cases l with
 | none =>
  obtain ⟨hw,rfl⟩:=h;rw [zpk hc hw];simp only [zy79,if_false];exact hK m _ w (hc.skip hd)
 | some ri =>
  obtain ⟨r,ids⟩:=ri;obtain ⟨hw,ha,_,rfl⟩:=h;rw [zpk hc hw];simp only [if_true];refine xdw hC hc ha fun r' v m' w' hr hws hrep=>?_
  subst hr;exact hK m' _ w' (hc.step hws hrep hd)
theorem zud (hC:zjf P C) {ops:Array Oper} {Q:Exit->Act->World->Prop}:∀ (os:List Oper) (s:HS) (acc:List Lab) (K:List Lab->HS->Prop) (m:zfa) (a:Act) (w:World),ybo P C ops.toList os s acc K->zmb Γ P m s a w ->
 (∀ labs s' m' a' w',K labs s'->zmb Γ P m' s' a' w'->Q .normal a' w')->wpList P ops Q os a w
 | [],s,acc,K,m,a,w,h,hc,hK=>wpList_nil (hK acc s m a w h hc)
 | ⟨dst,op,ty,pos,after,guard⟩::os,s,acc,K,m,a,w,h,hc,hK=>by
  refine wpList_step fun K' hK'=>?_
  have ran:∀ (hw:zdg ops.toList ⟨dst,op,ty,pos,after,guard⟩ s.slot=some true) (L:Res->Lab),zeb P C dst op s (fun r s'=>ybo P C ops.toList os s' (L r::acc) K) ->
   if Region.wanted ⟨dst,op,ty,pos,after,guard⟩ (yielded ops a.tmps) then Oper.wp P ⟨dst,op,ty,pos,after,guard⟩ a w K' Q else K' (a.put dst undef) w:=by
   intro hw L hr;rw [zpk hc hw];simp only [if_true];unfold zeb at hr;cases dst with
   | none =>
    refine xdw hC hc (o:=⟨none,op,ty,pos,after,guard⟩) hr fun r v m' w' hk hws hrep=>?_
    exact hK' _ _ (zud hC os _ _ K m' _ w' hk (hc.step hws hrep zz4) hK)
   | some d =>
    obtain ⟨hlt,hr⟩:=zav hr;refine xdw hC hc (o:=⟨some d,op,ty,pos,after,guard⟩) hr fun r v m' w' hk hws hrep=>?_
    exact hK' _ _ (zud hC os _ _ K m' _ w' hk (hc.step hws hrep (fun d' hd'=>by cases hd';exact zy11 hlt)) hK)
  have skipped:∀ (hw:zdg ops.toList ⟨dst,op,ty,pos,after,guard⟩ s.slot=some false),zwe dst s (fun s'=>ybo P C ops.toList os s' (none::acc) K) ->
   if Region.wanted ⟨dst,op,ty,pos,after,guard⟩ (yielded ops a.tmps) then Oper.wp P ⟨dst,op,ty,pos,after,guard⟩ a w K' Q else K' (a.put dst undef) w:=by
   intro hw hr;rw [zpk hc hw];simp only [zy79,if_false];unfold zwe at hr;cases dst with
   | none=>exact hK' _ _ (zud hC os _ _ K m _ w hr (hc.skip (dst:=none) zz4) hK)
   | some d =>
    obtain ⟨hlt,hr⟩:=zav hr;exact hK' _ _ (zud hC os _ _ K m _ w hr (hc.skip (dst:=some d) (fun d' hd'=>by cases hd';exact zy11 hlt)) hK)
  rw [ydg] at h;simp only [zzo] at h;split at h
  . exact ran rfl _ h
  . rename_i j want
    split at h
    . rename_i g hg
      split at h
      . rename_i b hb
        have h2:=ziq h;clear h;rcases h2 with ⟨rfl,h⟩ | ⟨rfl,h⟩
        . rw [zss s hb] at h
          have h2:=ziq h;clear h;rcases h2 with ⟨rfl,h⟩ | ⟨rfl,h⟩
          . exact ran zz50 _ h
          . exact skipped zz50 h
        . rw [zss s hb] at h
          have h2:=ziq h;clear h;rcases h2 with ⟨rfl,h⟩ | ⟨rfl,h⟩
          . exact skipped zz50 h
          . exact ran zz50 _ h
      . rename_i hb
        exact skipped zz50 h
      . exact h.elim
    . exact h.elim
end
end Go.HL
namespace Go.HL
def zqc:Lab->Res
 | some (r,_)=>r
 | none=>⟨.und,[],[]⟩
section
variable {Γ:Ctx} {P:Program} {C:zbg} {all:List Oper}
theorem zpj {α:List (Nat×zad)} {H:Nat->zad} {id:Nat} (h:id∉α.map (·.1)):zea H α id=H id :=
 zqw (us:=α) fun _ he hi=>h (hi ▸ List.mem_map_of_mem he)
theorem ybk {α:Type} (f:Nat->α) {i j:Nat} (x y:α) (h:i≠j):upd (upd f i x) j y=upd (upd f j y) i x:=by
 funext k
 by_cases h1:k=i
 . subst h1;rw [zba,zbd _ _ h,zba]
 . by_cases h2:k=j
   . subst h2;rw [zba,zbd _ _ h1,zba]
   . rw [zbd _ _ h2,zbd _ _ h1,zbd _ _ h1,zbd _ _ h2]
theorem yne (H:Nat->zad):∀ (α:List (Nat×zad)) {i:Nat} (b:zad),i∉α.map (·.1)->zea (upd H i b) α=upd (zea H α) i b
 | [],i,b,h=>rfl
 | (j,c)::α,i,b,h=>by
  simp only [zy24,zy18,not_or] at h;simp only [zea];rw [ybk _ _ _ h.1,yne _ α b h.2]
theorem ygi:∀ (α β:List (Nat×zad)) (H:Nat->zad),(∀ i∈α.map (·.1),i∉β.map (·.1))->zea (zea H α) β=zea (zea H β) α
 | [],β,H,h=>rfl
 | (i,b)::α,β,H,h=>by
  simp only [zea];rw [ygi α β _ fun j hj=>h j (by simp at hj ⊢;exact .inr hj),yne _ β b (h i (by simp))]
theorem zkr {o:Oper} {l:Lab} {s s':HS}:zkv P C all o l s s'↔(∀ d,o.dst=some d->d<s.n)/\zdg all o s.slot=some l.isSome /\
 (∀ r ids,l=some (r,ids)->zcq P C o.op (o.dst.getD 0) (evalOp s.slot) s.heap (·=r)/\ids=zqi o.op (evalOp s.slot) (o.dst.getD 0))/\s'=s.app o.dst (zqc l):=by
 unfold zkv;refine and_congr Iff.rfl ?_;cases l with
 | none =>
  simp only [Option.isSome_none,reduceCtorEq,false_implies,implies_true,true_and,zqc];refine and_congr Iff.rfl ?_;obtain ⟨dst,op,ty,pos,after,guard⟩:=o;cases dst<;>exact Iff.rfl
 | some ri =>
  obtain ⟨r,ids⟩:=ri;simp only [Option.isSome_some,zqc]
  constructor
  . rintro ⟨h1,h2,h3,h4⟩
    exact ⟨h1,fun r' ids' he=>by cases he;exact ⟨h2,h3⟩,h4⟩
  . rintro ⟨h1,h2,h4⟩
    exact ⟨h1,(h2 r ids rfl).1,(h2 r ids rfl).2,h4⟩
theorem zyr {s:HS} {dst:Option Nat} {r:Res} {t:Nat} (h:dst≠some t):(s.app dst r).slot t=s.slot t:=by
 cases dst with
 | none=>rfl
 | some d=>exact zbd _ _ fun e=>h (by rw [e])
theorem zod {s:HS} {dst:Option Nat} {r:Res}:(s.app dst r).heap=zea s.heap r.ups:=by
 cases dst<;>rfl
theorem ynl {s:HS} {dst:Option Nat} {r:Res}:(s.app dst r).n=s.n:=by
 cases dst<;>rfl
theorem zyq {s:HS} {x y:Option Nat} {r q:Res} (h:∀ d,x=some d->y≠some d) (hu:∀ i∈r.ups.map (·.1),i∉q.ups.map (·.1)) :
 (s.app x r).app y q=(s.app y q).app x r:=by
 have hh:=ygi r.ups q.ups s.heap hu;cases x with
 | none=>cases y<;>simp only [HS.app,hh]
 | some d=>cases y with
  | none=>simp only [HS.app,hh]
  | some e =>
   simp only [HS.app,hh];rw [ybk _ _ _ fun e'=>h d rfl (by rw [e'])]
theorem zsk {s:HS} {dst:Option Nat} {r:Res} {x:Operand} (h:∀ d,dst=some d->x≠.tmp d):evalOp (s.app dst r).slot x=evalOp s.slot x:=by
 cases x<;>try rfl
 rename_i t;simp only [evalOp];exact zyr fun e=>h t e rfl
theorem zmq {ops:Array Oper} {o:Oper} {s:HS} {dst:Option Nat} {r:Res} (h:∀ d,dst=some d->d∉o.looksAt ops):zdg ops.toList o (s.app dst r).slot=zdg ops.toList o s.slot:=by
 unfold zdg;cases hg:o.guard with
 | none=>rfl
 | some jw =>
  obtain ⟨j,want⟩:=jw;simp only;cases hd:(nth ops.toList j).bind (·.dst) with
  | none=>rfl
  | some g =>
   simp only;rw [zyr fun e=>?_];refine h g e ?_;simp only [Oper.looksAt,hg,zy17]
   right
   rw [zgp] at hd;have hj:ops.toList[j]?=ops[j]?:=by simp
   rw [hj] at hd;rw [hd];simp
theorem zuo {op:Op} {ev ev':Operand->HV} {d:Nat} (h:∀ x∈op.operands.toList,ev' x=ev x):zqi op ev' d=zqi op ev d:=by
 unfold zqi;cases looks op<;>dsimp only
 congr 1
 revert h
 generalize op.operands.toList=l
 induction l with
 | nil=>intro _;rfl
 | cons y l ih=>intro h;simp only [yej];rw [h y (by simp),ih fun x hx=>h x (by simp [hx])]
theorem ztr:∀ {a b:List Nat},yws a b=true->∀ i∈a,i∉b
 | [],b,h,i,hi=>by simp at hi
 | x::a,b,h,i,hi=>by
  simp only [yws,zy13,zy54] at h;rcases zy18.1 hi with rfl | hi
  . intro hb
    have:=zy120.1 h.1 i hb;simp at this
  . exact ztr h.2 i hi
def Ind (ops:Array Oper) (x:Oper×Lab) (y:Oper×Lab):Prop:=x.1.apart ops y.1=true/\yws (yjf x.2) (zvo y.2)=true/\yws (yjf y.2) (zvo x.2)=true
theorem ynf (l:Lab):yjf l=(zqc l).ups.map (·.1):=by cases l<;>rfl
theorem zpg (hC:zgw C) {ops:Array Oper} {o:Oper} {l:Lab} {s s' t:HS} (h:zkv P C ops.toList o l s s') (hn:t.n=s.n)
 (hw:zdg ops.toList o t.slot=zdg ops.toList o s.slot) (he:∀ x∈o.op.operands.toList,evalOp t.slot x=evalOp s.slot x)
 (hH:∀ i∈zvo l,t.heap i=s.heap i):zkv P C ops.toList o l t (t.app o.dst (zqc l)):=by
 rw [zkr] at h ⊢;obtain ⟨h1,h2,h3,-⟩:=h;refine ⟨fun d hd=>by rw [hn];exact h1 d hd,by rw [hw];exact h2,fun r ids hl=>?_,rfl⟩;subst hl;obtain ⟨h4,h5⟩:=h3 r ids rfl;refine ⟨ynu hC h4 he fun i hi=>hH i ?_,by rw [zuo he];exact h5⟩;subst h5;exact hi
theorem swap (hC:zgw C) {ops:Array Oper} {x y:Oper} {lx ly:Lab} {s s1 s2:HS} (hx:zkv P C ops.toList x lx s s1) (hy:zkv P C ops.toList y ly s1 s2) (hi:Ind ops (x,lx) (y,ly)) :
 ∃ s1',zkv P C ops.toList y ly s s1'/\zkv P C ops.toList x lx s1' s2:=by
 obtain ⟨hap,hd1,hd2⟩:=hi;obtain ⟨a1,a2,a3⟩:=Oper.apart_spec hap;have e1:s1=s.app x.dst (zqc lx):=(zkr.1 hx).2.2.2;have e2:s2=s1.app y.dst (zqc ly):=(zkr.1 hy).2.2.2;subst e1;have ybo:∀ {o:Oper} {z:Operand} {d:Nat},z∈o.op.operands.toList->d∉o.looksAt ops->z≠.tmp d:=by
  rintro o z d hz hd rfl;apply hd;simp only [Oper.looksAt,zy17,List.mem_filterMap];exact .inl ⟨_,hz,rfl⟩
 have hu1:∀ i∈(zqc lx).ups.map (·.1),i∉zvo ly:=fun i hi=>ztr hd1 i (by rw [ynf];exact hi)
 have hu2:∀ i∈(zqc ly).ups.map (·.1),i∉zvo lx:=fun i hi=>ztr hd2 i (by rw [ynf];exact hi)
 have zrk:∀ {l:Lab} {i:Nat},i∈(zqc l).ups.map (·.1)->i∈zvo l:=by
  intro l i hi;cases l with
  | none=>simp [zqc] at hi
  | some ri=>simp only [zvo,zy17];exact .inr (.inr hi)
 refine ⟨s.app y.dst (zqc ly),zpg hC hy ynl.symm (zmq a1).symm (fun z hz=>(zsk fun d hd=>ybo hz (a1 d hd)).symm) fun i hi=>?_,?_⟩
 . rw [zod,zpj fun h=>hu1 i h hi]
 . have:=zpg hC (t:=s.app y.dst (zqc ly)) hx ynl (zmq a3) (fun z hz=>zsk fun d hd=>ybo hz (a3 d hd)) fun i hi=>by
    rw [zod,zpj fun h=>hu2 i h hi]
   rw [e2,zyq a2 fun i hi h=>hu1 i hi (zrk h)];exact this
structure xad (P:Program) (C:zbg) (ops:Array Oper) (M:Oper->Lab->Prop) where
 Z:HS->Prop
 S:Oper->Lab->Prop
 keep:∀ {o l s s'},M o l->zkv P C ops.toList o l s s'->Z s->Z s'
 same:∀ {o l s s' t},M o l->S o l->Z s->Z t->zkv P C ops.toList o l s s'->t.n=s.n->zdg ops.toList o t.slot=zdg ops.toList o s.slot->(∀ x∈o.op.operands.toList,evalOp t.slot x=evalOp s.slot x)->zkv P C ops.toList o l t (t.app o.dst (zqc l))
 quiet:∀ {o l},M o l->S o l->(zqc l).ups=[]
def xhh {P:Program} {C:zbg} {ops:Array Oper} {M:Oper->Lab->Prop} (z:xad P C ops M) (x y:Oper×Lab):Prop:=Ind ops x y\/(x.1.apart ops y.1=true/\(z.S x.1 x.2\/z.S y.1 y.2))
theorem xik (hC:zgw C) {ops:Array Oper} {M:Oper->Lab->Prop} (z:xad P C ops M) {x y:Oper} {lx ly:Lab} {s s1 s2:HS} (mx:M x lx) (my:M y ly) (hz:z.Z s) (hx:zkv P C ops.toList x lx s s1) (hy:zkv P C ops.toList y ly s1 s2) (hi:xhh z (x,lx) (y,ly)) :
 ∃ s1',zkv P C ops.toList y ly s s1'/\zkv P C ops.toList x lx s1' s2:=by
 rcases hi with hi | ⟨hap,hs⟩
 . exact swap hC hx hy hi
 obtain ⟨a1,a2,a3⟩:=Oper.apart_spec hap;have hz1:=z.keep mx hx hz;have e1:s1=s.app x.dst (zqc lx):=(zkr.1 hx).2.2.2;have e2:s2=s1.app y.dst (zqc ly):=(zkr.1 hy).2.2.2;subst e1;have ybo:∀ {o:Oper} {z:Operand} {d:Nat},z∈o.op.operands.toList->d∉o.looksAt ops->z≠.tmp d:=by
  rintro o z d hz hd rfl;apply hd;simp only [Oper.looksAt,zy17,List.mem_filterMap];exact .inl ⟨_,hz,rfl⟩
 have wy:=(zmq (ops:=ops) (o:=y) (s:=s) (dst:=x.dst) (r:=zqc lx) a1).symm;have ey:∀ q∈y.op.operands.toList,evalOp s.slot q=evalOp (s.app x.dst (zqc lx)).slot q:=fun q hq=>(zsk fun d hd=>ybo hq (a1 d hd)).symm
 have wx:=zmq (ops:=ops) (o:=x) (s:=s) (dst:=y.dst) (r:=zqc ly) a3;have ex:∀ q∈x.op.operands.toList,evalOp (s.app y.dst (zqc ly)).slot q=evalOp s.slot q:=fun q hq=>zsk fun d hd=>ybo hq (a3 d hd)
 rcases hs with hs | hs
 . have hq:=z.quiet mx hs
   have hy':zkv P C ops.toList y ly s (s.app y.dst (zqc ly)):=zpg hC hy ynl.symm wy ey fun i _=>by rw [zod,hq];rfl
   have hz2:=z.keep my hy' hz;have:=z.same mx hs hz hz2 hx ynl wx ex;rw [e2,zyq a2 fun i hi=>by rw [hq] at hi;cases hi];exact ⟨_,hy',this⟩
 . have hq:=z.quiet my hs
   have hy':=z.same my hs hz1 hz hy ynl.symm wy ey;have:=zpg hC (t:=s.app y.dst (zqc ly)) hx ynl wx ex fun i _=>by rw [zod,hq];rfl
   rw [e2,zyq a2 fun i hi h=>by rw [hq] at h;cases h];exact ⟨_,hy',this⟩
theorem ykh (hC:zgw C) {ops:Array Oper} {M:Oper->Lab->Prop} (z:xad P C ops M) {e:Oper×Lab} (me:M e.1 e.2):∀ {pre post:List (Oper×Lab)} {s t:HS},Ev P C ops.toList (pre++e::post) s t->z.Z s->(∀ x∈pre,M x.1 x.2)->(∀ x∈pre,xhh z x e)->Ev P C ops.toList (e::(pre++post)) s t
 | [],post,s,t,h,_,_,_=>h
 | x::pre,post,s,t,h,hz,hm,hi=>by
  cases h with
  | cons h k =>
   rename_i o l s1;have mx:M o l:=hm (o,l) zz4;have h2:=ykh hC z me k (z.keep mx h hz) (fun y hy=>hm y zz47) fun y hy=>hi y zz47
   cases h2 with
   | cons h3 k2 =>
    obtain ⟨s1',h4,h5⟩:=xik hC z mx me hz h h3 (hi _ zz4);exact .cons h4 (.cons h5 k2)
theorem zul:∀ (os:List Oper) (ms:List Nat),∃ tl,zqe os ms=ms++tl/\tl.length=os.length
 | [],ms=>⟨[],by simp [zqe],rfl⟩
 | o::os,ms=>by
  obtain ⟨tl,h1,h2⟩:=zul os (ms++[zqd ms o.after.toList]);exact ⟨zqd ms o.after.toList::tl,by simp [zqe,h1],by simp [h2]⟩
theorem ydy:∀ (os:List Oper) (ms:List Nat) (k:Nat),k<os.length->∃ o,os[k]?=some o/\(zqe os ms)[ms.length+k]?=some (zqd ((zqe os ms).take (ms.length+k)) o.after.toList)
 | [],ms,k,h=>by simp at h
 | o::os,ms,k,h=>by
  cases k with
  | zero =>
   obtain ⟨tl,h1,h2⟩:=zul os (ms++[zqd ms o.after.toList]);refine ⟨o,rfl,?_⟩;simp [zqe,h1]
  | succ k =>
   obtain ⟨o',h1,h2⟩:=ydy os (ms++[zqd ms o.after.toList]) k zz84;refine ⟨o',by simpa using h1,?_⟩;simp only [zqe];have:(ms++[zqd ms o.after.toList]).length+k=ms.length+(k+1):=by simp;omega
   rw [this] at h2;exact h2
theorem zuk {ms:List Nat} {b:Nat}:∀ {l:List Edge},Nat.testBit (zqd ms l) b=true->∃ e∈l,Region.binds .any e=true/\(e.on=b\/∃ m,ms[e.on]?=some m/\m.testBit b=true)
 | [],h=>by simp [zqd] at h
 | e::l,h=>by
  simp only [zqd] at h;cases hb:Region.binds .any e with
  | false =>
   rw [hb] at h;obtain ⟨e',h1,h2⟩:=zuk h;exact ⟨e',by simp [h1],h2⟩
  | true =>
   rw [hb] at h;have h':Nat.testBit ((xbv e.on ||| (nth ms e.on).getD 0) ||| zqd ms l) b=true:=h;rw [Nat.testBit_or,Nat.testBit_or,zy105,zy105] at h';rcases h' with (h' | h') | h'
   . have:xbv e.on=2 ^ e.on:=Nat.one_shiftLeft _
     rw [this,Nat.testBit_two_pow] at h';exact ⟨e,by simp,hb,.inl (by simpa using h')⟩
   . refine ⟨e,by simp,hb,.inr ?_⟩
     rw [zgp] at h';cases hm:ms[e.on]? with
     | none=>rw [hm] at h';simp at h'
     | some m=>rw [hm] at h';exact ⟨m,rfl,by simpa using h'⟩
   . obtain ⟨e',h1,h2⟩:=zuk h'
     exact ⟨e',by simp [h1],h2⟩
theorem yib {ops:Array Oper} {listed:Array Bool} (hcl:∀ k o,ops[k]?=some o->listed.getD k true=true->∀ e∈o.after,Region.binds .any e=true->listed.getD e.on false=true) :
 ∀ (k m b:Nat),(zqe ops.toList [])[k]?=some m->m.testBit b=true->(∀ o,ops[k]?=some o->∀ e∈o.after,Region.binds .any e=true->listed.getD e.on false=true)->listed.getD b false=true:=by
 intro k
 induction k using Nat.strongRecOn with
 | ind k ih =>
  intro m b hm hb hk;have hlen:k<ops.toList.length:=by
   obtain ⟨tl,h1,h2⟩:=zul ops.toList [];rw [h1] at hm;have:=(zy9.1 hm).1
   simpa [h2] using this
  obtain ⟨o,ho,hmo⟩:=ydy ops.toList [] k hlen;simp only [zy14,zy59] at hmo;rw [hm] at hmo;cases hmo;have ho':ops[k]?=some o:=by simpa using ho
  obtain ⟨e,he,hbd,h⟩:=zuk hb;have hel:=hk o ho' e (by simpa using he) hbd;rcases h with rfl | ⟨m',hm',hb'⟩
  . exact hel
  . rw [zy46] at hm'
    split at hm'
    . rename_i hlt
      refine ih e.on hlt m' b hm' hb' fun o' ho''=>hcl e.on o' ho'' ?_
      have:e.on<listed.size:=by
       rcases zy82 e.on listed.size with h' | h'
       . exact h'
       . simp [Array.getElem?_eq_none h'] at hel
      rw [zy75] at hel ⊢;rw [zy90 this] at hel ⊢;exact hel
    . cases hm'
theorem ztf {ops:Array Oper} {o:Oper} {l:Lab} {m:Nat}:∀ {xs:List Oper} {ls:List Lab} {k:Nat},ybw ops o l m k xs ls=true->∀ (i:Nat) x lx,xs[i]?=some x->ls[i]?=some lx->m.testBit (k+i)=true\/Ind ops (x,lx) (o,l)
 | [],ls,k,h,i,x,lx,hx,hl=>by simp at hx
 | y::xs,[],k,h,i,x,lx,hx,hl=>by simp at hl
 | y::xs,ly::ls,k,h,i,x,lx,hx,hl=>by
  simp only [ybw,zy13,zy105] at h;obtain ⟨h1,h2⟩:=h;cases i with
  | zero =>
   simp at hx hl;subst hx;subst hl;rcases h1 with h1 | ⟨⟨h1,h3⟩,h4⟩
   . exact .inl h1
   . exact .inr ⟨h1,h3,h4⟩
  | succ i =>
   have:=ztf h2 i x lx zz46 zz52;rw [show k+1+i=k+(i+1) by omega] at this;exact this
theorem zxf {ops:Array Oper} {labs:List Lab} {ms:List Nat}:∀ {os:List Oper} {ls:List Lab} {k:Nat},indep ops labs ms k os ls=true->∀ (i:Nat) o l,os[i]?=some o->ls[i]?=some l->ybw ops o l ((nth ms (k+i)).getD 0) 0 (ops.toList.take (k+i)) (labs.take (k+i))=true
 | [],ls,k,h,i,x,lx,hx,hl=>by simp at hx
 | y::os,[],k,h,i,x,lx,hx,hl=>by simp at hl
 | y::os,ly::ls,k,h,i,o,l,hx,hl=>by
  simp only [indep,zy13] at h;cases i with
  | zero=>simp at hx hl;subst hx;subst hl;exact h.1
  | succ i =>
   have:=zxf h.2 i o l zz46 zz52;rw [show k+1+i=k+(i+1) by omega] at this;exact this
theorem zrg:∀ {os:List Oper} {k:Nat},zka k os=true->∀ (i:Nat) o,os[i]?=some o->∀ e∈o.after,Region.binds .any e=true->e.on<k+i
 | [],k,h,i,o,ho,e,he,hb=>by simp at ho
 | y::os,k,h,i,o,ho,e,he,hb=>by
  simp only [zka,zy13] at h;cases i with
  | zero =>
   simp at ho;subst ho;have:=zy7.1 h.1 e (by simpa using he);simp only [hb,Bool.not_true,Bool.false_or] at this;exact zy11 this
  | succ i =>
   have:=zrg h.2 i o zz70 e he hb;omega
def yet:Nat->List Oper->List Lab->List (Nat×Oper×Lab)
 | k,o::os,l::ls=>(k,o,l)::yet (k+1) os ls
 | _,_,_=>[]
theorem yaj:∀ (k:Nat) (os:List Oper) (ls:List Lab),(yet k os ls).map (·.2)=os.zip ls
 | _,[],_=>by simp [yet]
 | _,_::_,[]=>by simp [yet]
 | k,o::os,l::ls=>by simp [yet,yaj (k+1) os ls]
theorem zsr:∀ {k:Nat} {os:List Oper} {ls:List Lab} {i:Nat} {o:Oper} {l:Lab},(i,o,l)∈yet k os ls->k<=i/\os[i-k]?=some o/\ls[i-k]?=some l
 | _,[],_,_,_,_,h=>by simp [yet] at h
 | _,_::_,[],_,_,_,h=>by simp [yet] at h
 | k,o'::os,l'::ls,i,o,l,h=>by
  simp only [yet,zy18] at h;rcases h with h | h
  . cases h;simp
  . obtain ⟨h1,h2,h3⟩:=zsr h
    obtain ⟨j,rfl⟩:∃ j,i=k+1+j:=⟨i-(k+1),by omega⟩
    rw [show k+1+j-(k+1)=j by omega] at h2 h3;rw [show k+1+j-k=j+1 by omega];exact ⟨by omega,by simpa using h2,by simpa using h3⟩
theorem ymd:∀ {k:Nat} {os:List Oper} {ls:List Lab} {i:Nat},ls.length=os.length->i<os.length->k+i∈(yet k os ls).map (·.1)
 | _,[],_,_,_,h=>by simp at h
 | _,_::_,[],_,h,_=>by simp at h
 | k,o::os,l::ls,i,hl,h=>by
  simp only [yet,zy24,zy18];cases i with
  | zero=>exact .inl rfl
  | succ i =>
   right
   have:=ymd (k:=k+1) (os:=os) (ls:=ls) (i:=i) zz52 zz84;rw [show k+1+i=k+(i+1) by omega] at this;exact this
theorem zus:∀ (k:Nat) (os:List Oper) (ls:List Lab),(yet k os ls).Pairwise (fun x y=>x.1<y.1)
 | _,[],_=>by simp [yet]
 | _,_::_,[]=>by simp [yet]
 | k,o::os,l::ls=>by
  simp only [yet,List.pairwise_cons];refine ⟨fun y hy=>?_,zus (k+1) os ls⟩;obtain ⟨i,o',l'⟩:=y;have:=(zsr hy).1;simp only;omega
structure xhy (ops:Array Oper) (labs:List Lab) (listed:Array Bool) (L:List (Nat×Oper×Lab)):Prop where
 mem:∀ i o l,(i,o,l)∈L->ops[i]?=some o/\labs[i]?=some l
 has:∀ j,listed.getD j true=false↔j∈L.map (·.1)
 sorted:L.Pairwise (fun x y=>x.1<y.1)
 closed:∀ k o,ops[k]?=some o->listed.getD k true=true->∀ e∈o.after,Region.binds .any e=true->listed.getD e.on false=true
 size:listed.size=ops.size
theorem yrj {listed:Array Bool} {k:Nat} (hk:k<listed.size):listed.getD k false=listed.getD k true:=by
 rw [zy75,zy75,zy90 hk];rfl
def Mem (ops:Array Oper) (labs:List Lab) (o:Oper) (l:Lab):Prop:=∃ i:Nat,ops[i]?=some o/\labs[i]?=some l
def xhi {ops:Array Oper} {labs:List Lab} (z:xad P C ops (Mem ops labs)):Prop:=∀ (j i:Nat) xo xl o l,j<i->ops[j]?=some xo->labs[j]?=some xl->ops[i]?=some o->labs[i]?=some l ->
 Nat.testBit ((nth (zqe ops.toList []) i).getD 0) j=true\/xhh z (xo,xl) (o,l)
theorem xfr (hC:zjf P C) (hL:zgw C) {ops:Array Oper} {labs:List Lab} {Q:Exit->Act->World->Prop} {sEnd:HS} (hup:zka 0 ops.toList=true) (z:xad P C ops (Mem ops labs)) (hmay:xhi z)
 (hQ:∀ m a w,zmb Γ P m sEnd a w->Q .normal a w):∀ (fuel:Nat) (listed:Array Bool) (L:List (Nat×Oper×Lab)) (s:HS) (m:zfa) (a:Act) (w:World),xhy ops labs listed L->L.length<=fuel ->
  Ev P C ops.toList (L.map (·.2)) s sEnd->z.Z s->zmb Γ P m s a w->wpAny P .any ops Q fuel listed a w:=by
 have none_ready:∀ {listed:Array Bool} {L:List (Nat×Oper×Lab)},xhy ops labs listed L->Region.ready .any ops listed=[]->L=[]:=by
  intro listed L hp hr;cases L with
  | nil=>rfl
  | cons x L =>
   exfalso;obtain ⟨i,o,l⟩:=x;obtain ⟨ho,-⟩:=hp.mem i o l zz4;have hun:listed.getD i true=false:=(hp.has i).2 zz4;have:i∈Region.ready .any ops listed:=by
    refine mem_ready.2 ⟨hun,o,ho,fun e he hb=>?_⟩;have hlt:=zrg hup i o zz70 e he hb;have hi:i<ops.size:=(zy78.1 ho).1;rw [yrj (by rw [hp.size];omega)];cases hf:listed.getD e.on true with
    | true=>rfl
    | false =>
     exfalso;have hm:=(hp.has e.on).1 hf;simp only [zy24,zy18] at hm;rcases hm with hm | hm
     . omega
     . obtain ⟨⟨j,o',l'⟩,hj,hje⟩:=zy28.1 hm
       have:=(List.pairwise_cons.1 hp.sorted).1 _ hj;simp only at hje this;omega
   rw [hr] at this;simp at this
 intro fuel
 induction fuel with
 | zero =>
  intro listed L s m a w hp hf hev _ hc;have zgk:L=[]:=zy21 zz0;subst zgk;cases hev;refine ⟨?_,hQ m a w hc⟩;cases hr:Region.ready .any ops listed with
  | nil=>rfl
  | cons j r =>
   exfalso;have hj:j∈Region.ready .any ops listed:=by rw [hr];simp
   have:=(hp.has j).1 (mem_ready.1 hj).1;simp at this
 | succ fuel ih =>
  intro listed L s m a w hp hf hev hz hc;refine ⟨fun hr=>?_,fun i hi=>?_⟩
  . have zgk:=none_ready hp hr
    subst zgk;cases hev;exact hQ m a w hc
  . obtain ⟨hun,o,ho,hedge⟩:=mem_ready.1 hi
    obtain ⟨⟨i',o',l⟩,hmem,rfl⟩:=zy28.1 ((hp.has i).1 hun);simp only at hun ho hi hedge;obtain ⟨pre,post,rfl⟩:=List.append_of_mem hmem;obtain ⟨ho2,hl⟩:=hp.mem i' o' l hmem;rw [ho2] at ho;cases ho;have hsp:=List.pairwise_append.1 hp.sorted;have hsc:=List.pairwise_cons.1 hsp.2.1;have hlen:i'<ops.size:=(zy78.1 ho2).1;have hpre:∀ x∈pre.map (·.2),xhh z x (o,l):=by
     intro x hx;obtain ⟨⟨j,xo,xl⟩,hj,rfl⟩:=zy28.1 hx;have hlt:j<i':=hsp.2.2 _ hj (i',o,l) zz4;obtain ⟨hjo,hjl⟩:=hp.mem j xo xl (by simp [hj]);have h2:=hmay j i' xo xl o l hlt hjo hjl ho2 hl;rcases h2 with h2 | h2
     . exfalso
       simp only [zgp] at h2;cases hm:(zqe ops.toList [])[i']? with
       | none=>rw [hm] at h2;simp at h2
       | some mk =>
        rw [hm] at h2;have:=yib hp.closed i' mk j hm (by simpa using h2) fun o'' ho''=>by rw [ho2] at ho'';cases ho'';exact hedge
        have hjs:j<listed.size:=by rw [hp.size];omega
        rw [yrj hjs] at this;have h3:listed.getD j true=false:=(hp.has j).2 (by simp;exact .inl ⟨_,_,hj⟩);rw [this] at h3;cases h3
     . exact h2
    have mo:Mem ops labs o l:=⟨i',ho2,hl⟩
    have hmp:∀ x∈pre.map (·.2),Mem ops labs x.1 x.2:=by
     intro x hx;obtain ⟨⟨j,xo,xl⟩,hj,rfl⟩:=zy28.1 hx;exact ⟨j,hp.mem j xo xl (by simp [hj])⟩
    have hev':=ykh hL z (e:=(o,l)) mo (pre:=pre.map (·.2)) (post:=post.map (·.2)) (by simpa using hev) hz hmp hpre;cases hev' with
    | cons hstep hrest =>
     have hz':=z.keep mo hstep hz;have hp':xhy ops labs (listed.setIfInBounds i' true) (pre++post):=by
      refine ⟨fun j x xl hj=>hp.mem j x xl ?_,fun j=>?_,?_,fun k x hk hkl e he hb=>?_,by simp [hp.size]⟩
      . rcases zy17.1 hj with hj | hj<;>simp [hj]
      . by_cases hj:j=i'
        . subst hj
          have h1:(listed.setIfInBounds j true).getD j true=true:=by simp [hp.size,hlen]
          rw [h1];simp only [Bool.true_eq_false,false_iff,zy36,zy17,not_or]
          constructor
          . intro h
            obtain ⟨⟨j',xo,xl⟩,hj',he⟩:=zy28.1 h;have:=hsp.2.2 _ hj' (j,o,l) zz4;simp only at he this;omega
          . intro h
            obtain ⟨⟨j',xo,xl⟩,hj',he⟩:=zy28.1 h;have:=hsc.1 _ hj';simp only at he this;omega
        . rw [getD_set_ne true (Ne.symm hj),hp.has j]
          simp [hj]
      . exact List.pairwise_append.2 ⟨hsp.1,hsc.2,fun x hx y hy=>hsp.2.2 x hx y zz47⟩
      . apply getD_set_true
        by_cases hki:k=i'
        . subst hki
          rw [ho2] at hk;cases hk;exact hedge e he hb
        . rw [getD_set_ne true (Ne.symm hki)] at hkl
          exact hp.closed k x hk hkl e he hb
     unfold wpOp;rw [ho2];simp only;have hs:=xer (Γ:=Γ) hC hc hstep (K:=wpAny P .any ops Q fuel (listed.setIfInBounds i' true)) (Q:=Q) fun m' a' w' hc' =>
      ih _ (pre++post) _ m' a' w' hp' (by simp at hf ⊢;omega) (by simpa using hrest) hz' hc'
     split at hs
     . rename_i hw;rw [zy1 hw];exact .inl hs
     . rename_i hw;rw [zy0 hw];exact hs
def yeu (P:Program) (C:zbg) (ops:Array Oper) (M:Oper->Lab->Prop):xad P C ops M:=⟨fun _=>True,fun _ _=>False,fun _ _ _=>trivial,fun _ h=>h.elim,fun _ h=>h.elim⟩
theorem ytv {ops:Array Oper} {labs:List Lab} (hall:zkf ops labs=true):xhi (yeu P C ops (Mem ops labs)):=by
 simp only [zkf,zy13] at hall;obtain ⟨⟨-,-⟩,hind⟩:=hall;intro j i xo xl o l hlt hjo hjl ho hl;have h1:=zxf hind i o l zz70 hl;simp only [zy59] at h1;have h2:=ztf h1 j xo xl (by rw [zy46];simp [hlt,hjo]) (by rw [zy46];simp [hlt,hjl]);rw [zy59] at h2;exact h2.imp id .inl
theorem yyw {ops:Array Oper} {labs:List Lab} (hall:zkf ops labs=true):zka 0 ops.toList=true:=by
 simp only [zkf,zy13] at hall;exact hall.1.2
theorem zvs {id:Nat} {b:zad}:∀ {us:List (Nat×zad)},b∈ypx id us↔(id,b)∈us
 | []=>by simp [ypx]
 | (i,c)::r=>by
  simp only [ypx];by_cases h:i=id
  . subst h;simp [zvs (us:=r)]
  . have:Nat.beq i id=false:=by
     cases hb:Nat.beq i id with
     | false=>rfl
     | true=>exact (h (zy4 hb)).elim
    rw [this];simp only [cond_false,zy18,Prod.mk.injEq];rw [zvs (us:=r)]
    constructor
    . exact .inr
    . rintro (⟨rfl,_⟩ | h2)
      . exact (h rfl).elim
      . exact h2
theorem xfb (us:List (Nat×zad)):∀ (H:Nat->zad) (id:Nat),zea H us id=H id\/(id,zea H us id)∈us:=by
 induction us with
 | nil=>intro H id;exact .inl rfl
 | cons e r ih =>
  obtain ⟨i,b⟩:=e;intro H id;simp only [zea];rcases ih (upd H i b) id with h | h
  . by_cases hi:id=i
    . subst hi
      right
      rw [h,zba];simp
    . left;rw [h,zbd _ _ hi]
  . exact .inr (by simp [h])
theorem zqx {id:Nat} {b:zad}:∀ {labs:List Lab} {r:Res} {ids:List Nat},some (r,ids)∈labs->(id,b)∈r.ups->b∈zvr id labs
 | [],_,_,h,_=>by cases h
 | none::ls,r,ids,h,hb=>by
  simp only [zvr];rcases zy18.1 h with h | h
  . cases h
  . exact zqx h hb
 | some (q,k)::ls,r,ids,h,hb=>by
  simp only [zvr,zy17];rcases zy18.1 h with h | h
  . cases h;exact .inl (zvs.2 hb)
  . exact .inr (zqx h hb)
theorem zyh {a:Nat}:∀ {os:List Oper} {ls:List Lab} {i:Nat} {o:Oper} {r:Res} {ids:List Nat},os[i]?=some o->ls[i]?=some (some (r,ids))->o.dst=some a->r.val∈zlz a os ls
 | [],ls,i,o,r,ids,ho,_,_=>by simp at ho
 | _::os,[],i,o,r,ids,_,hl,_=>by simp at hl
 | x::os,l::ls,i,o,r,ids,ho,hl,hd=>by
  cases i with
  | zero =>
   simp at ho hl;subst ho;subst hl;simp only [zlz,isDst,hd,Nat.beq_refl,cond_true];exact List.mem_cons_self ..
  | succ i =>
   have ih:=zyh (os:=os) (ls:=ls) (i:=i) zz70 zz52 hd;cases l with
   | none=>simpa only [zlz] using ih
   | some q =>
    simp only [zlz];cases isDst a x.dst
    . exact ih
    . exact zy136 _ ih
theorem zmd {α:Type} {p:α->Prop}:∀ {l:List α} {x:α},xbp p l->x∈l->p x
 | y::l,x,h,hx=>by
  rcases zy18.1 hx with rfl | hx
  . exact h.1
  . exact zmd h.2 hx
theorem xdn {K:Res->Prop} {t:TypeId} {x:Operand} {d:Nat} {ev:Operand->HV} {H:Nat->zad} (h:zcq P C (.load t x) d ev H K):(∃ id,placeOf (ev x)=some id/\yrz P t (ev x) (H id) K)\/∃ cs,ev x=.rp cs:=by
 simp only [zcq] at h;cases hx:ev x with
 | ptr i o=>rw [hx] at h;exact .inl ⟨i,rfl,h⟩
 | eptr i n j o=>rw [hx] at h;exact .inl ⟨i,rfl,h⟩
 | rp cs=>exact .inr ⟨cs,rfl⟩
 | _=>rw [hx] at h;obtain ⟨d,u,i,z,ht,h⟩:=zeo h;exact h.elim
theorem xdo {K:Res->Prop} {t:TypeId} {x:Operand} {d:Nat} {ev:Operand->HV} {H:Nat->zad} {id:Nat} (hp:placeOf (ev x)=some id) (h:yrz P t (ev x) (H id) K):zcq P C (.load t x) d ev H K:=by
 simp only [zcq];cases hx:ev x with
 | ptr i o=>rw [hx] at h hp;cases hp;exact h
 | eptr i n j o=>rw [hx] at h hp;cases hp;exact h
 | _=>rw [hx] at hp;cases hp
def xac (s0:HS) (ops:Array Oper) (labs:List Lab) (s:HS):Prop :=
 (∀ a,s.slot a=.und\/s.slot a∈s0.slot a::zlz a ops.toList labs)/\∀ id,s.heap id∈s0.heap id::zvr id labs
theorem ydo (s0:HS) (ops:Array Oper) (labs:List Lab):xac s0 ops labs s0:=⟨fun _=>.inr (List.mem_cons_self ..),fun _=>List.mem_cons_self ..⟩
def yjz (P:Program) (C:zbg) (s0:HS) (ops:Array Oper) (labs:List Lab):xad P C ops (Mem ops labs) where
 Z:=xac s0 ops labs
 S:=fun o l=>∃ i,ops[i]?=some o/\labs[i]?=some l/\zyg P s0 ops.toList labs i
 keep:=by
  rintro o l s s' ⟨i,ho,hl⟩ h ⟨h1,h2⟩;obtain ⟨-,-,-,rfl⟩:=zkr.1 h;refine ⟨fun a=>?_,fun id=>?_⟩
  . by_cases hd:o.dst=some a
    . have e:(s.app o.dst (zqc l)).slot a=(zqc l).val:=by rw [hd];exact zba _ _ _
      rw [e];cases l with
      | none=>exact .inl rfl
      | some q =>
       obtain ⟨r,ids⟩:=q;exact .inr (zy136 _ (zyh zz70 hl hd))
    . rw [zyr hd];exact h1 a
  . rw [zod]
    rcases xfb (zqc l).ups s.heap id with e | e
    . rw [e];exact h2 id
    . cases l with
      | none=>simp [zqc] at e
      | some q =>
       obtain ⟨r,ids⟩:=q;exact zy136 _ (zqx (zy12 hl) e)
 same:=by
  rintro o l s s' t - ⟨i,ho,hl,hs⟩ ⟨z1,z2⟩ ⟨y1,y2⟩ h hn hw he;rw [zkr] at h ⊢;obtain ⟨h1,h2,h3,-⟩:=h;refine ⟨fun d hd=>by rw [hn];exact h1 d hd,by rw [hw];exact h2,fun r ids hr=>?_,rfl⟩;subst hr;obtain ⟨h4,h5⟩:=h3 r ids rfl;refine ⟨?_,by rw [zuo he];exact h5⟩;have ho':nth ops.toList i=some o:=by rw [zgp];simpa using ho
  have hl':nth labs i=some (some (r,ids)):=by rw [zgp];exact hl
  unfold zyg at hs;rw [ho'] at hs;simp only at hs;split at hs
  . rename_i ty a hop
    rw [hl'] at hs;simp only at hs;obtain ⟨-,hs⟩:=hs;rw [hop] at h4 he ⊢;have hea:t.slot a=s.slot a:=he (.tmp a) (by simp [Op.operands]);have hv:evalOp s.slot (.tmp a)=s.slot a:=rfl;have hvt:evalOp t.slot (.tmp a)=s.slot a:=hea;have hmem:=z1 a;rcases xdn h4 with ⟨id,hp,hld⟩ | ⟨cs,hcs⟩
    . rw [hv] at hp
      have hin:s.slot a∈s0.slot a::zlz a ops.toList labs:=hmem.resolve_left fun e=>by rw [e] at hp;cases hp
      have hst:=zmd hs hin;simp only [hp] at hst;have:=zmd hst (y2 id);exact xdo (id:=id) (by rw [hvt];exact hp) (by rw [hvt];exact this)
    . rw [hv] at hcs
      have hin:s.slot a∈s0.slot a::zlz a ops.toList labs:=hmem.resolve_left fun e=>by rw [e] at hcs;cases hcs
      have hst:=zmd hs hin;rw [hcs] at hst;exact hst.elim
  . exact hs.elim
 quiet:=by
  rintro o l - ⟨i,ho,hl,hs⟩;have ho':nth ops.toList i=some o:=by rw [zgp];simpa using ho
  have hl':nth labs i=some l:=by rw [zgp];exact hl
  unfold zyg at hs;rw [ho'] at hs;simp only at hs;split at hs
  . rw [hl'] at hs
    cases l with
    | none=>exact hs.elim
    | some q =>
     obtain ⟨r,ids⟩:=q;simp only at hs;show r.ups=[];cases hu:r.ups with
     | nil=>rfl
     | cons x y=>rw [hu] at hs;exact hs.1.elim
  . exact hs.elim
theorem zra {ex:List Nat} {q:Nat} {ops:Array Oper} {o:Oper} {l:Lab} {m:Nat}:∀ {xs:List Oper} {ls:List Lab} {k:Nat},zte ex q ops o l m k xs ls=true->∀ (i:Nat) x lx,xs[i]?=some x->ls[i]?=some lx->m.testBit (k+i)=true\/Ind ops (x,lx) (o,l)\/(x.apart ops o=true/\(k+i∈ex\/q∈ex))
 | [],ls,k,h,i,x,lx,hx,hl=>by simp at hx
 | y::xs,[],k,h,i,x,lx,hx,hl=>by simp at hl
 | y::xs,ly::ls,k,h,i,x,lx,hx,hl=>by
  simp only [zte,zy13,zy105] at h;obtain ⟨h1,h2⟩:=h;cases i with
  | zero =>
   simp at hx hl;subst hx;subst hl;rcases h1 with h1 | ⟨h1,(h3 | h3) | h3⟩
   . exact .inl h1
   . obtain ⟨z,hz,e⟩:=zy103.1 h3
     have:=zy4 e;subst this;exact .inr (.inr ⟨h1,.inl hz⟩)
   . obtain ⟨z,hz,e⟩:=zy103.1 h3
     have:=zy4 e;subst this;exact .inr (.inr ⟨h1,.inr hz⟩)
   . exact .inr (.inl ⟨h1,h3.1,h3.2⟩)
  | succ i =>
   have:=zra h2 i x lx zz46 zz52;rw [show k+1+i=k+(i+1) by omega] at this;exact this
theorem zuf {ex:List Nat} {ops:Array Oper} {labs:List Lab} {ms:List Nat}:∀ {os:List Oper} {ls:List Lab} {k:Nat},ylk ex ops labs ms k os ls=true->∀ (i:Nat) o l,os[i]?=some o->ls[i]?=some l->zte ex (k+i) ops o l ((nth ms (k+i)).getD 0) 0 (ops.toList.take (k+i)) (labs.take (k+i))=true
 | [],ls,k,h,i,x,lx,hx,hl=>by simp at hx
 | y::os,[],k,h,i,x,lx,hx,hl=>by simp at hl
 | y::os,ly::ls,k,h,i,o,l,hx,hl=>by
  simp only [ylk,zy13] at h;cases i with
  | zero=>simp at hx hl;subst hx;subst hl;exact h.1
  | succ i =>
   have:=zuf h.2 i o l zz46 zz52;rw [show k+1+i=k+(i+1) by omega] at this;exact this
theorem ywt {s0:HS} {ex:List Nat} {ops:Array Oper} {labs:List Lab} (hall:zjo ex ops labs=true) (hst:xbp (zyg P s0 ops.toList labs) ex):xhi (yjz P C s0 ops labs):=by
 simp only [zjo,zy13] at hall;obtain ⟨-,hind⟩:=hall;intro j i xo xl o l hlt hjo hjl ho hl;have h1:=zuf hind i o l zz70 hl;simp only [zy59] at h1;have h2:=zra h1 j xo xl (by rw [zy46];simp [hlt,hjo]) (by rw [zy46];simp [hlt,hjl]);rw [zy59] at h2;rcases h2 with h2 | h2 | ⟨h2,h3⟩
 . exact .inl h2
 . exact .inr (.inl h2)
 . refine .inr (.inr ⟨h2,?_⟩)
   rcases h3 with h3 | h3
   . exact .inl ⟨j,hjo,hjl,zmd hst h3⟩
   . exact .inr ⟨i,ho,hl,zmd hst h3⟩
theorem xch {ex:List Nat} {ops:Array Oper} {labs:List Lab} (hall:zjo ex ops labs=true):zka 0 ops.toList=true:=by
 simp only [zjo,zy13] at hall;exact hall.1
end
end Go.HL
namespace Go.HL
section
variable {Γ:Ctx} {P:Program} {C:zbg}
section
variable {m m':zfa} {σ:Ren} {w:World} {R R':Nat->Prop}
theorem zhg.sub (hR:∀ b,R b->R' b) {x:PV} {v:Value} (h:zhg w R x v):zhg w R' x v:=h.mono fun b hb=>⟨rfl,hR b hb⟩
mutual
theorem ymk (hm:∀ i j,σ i=some (some j)->m' i=m j) (hn:∀ i,σ i=some none->m' i=some ⟨0,0,0,true⟩) (hR:∀ b,R b->R' b) :
 (x:HV)->(v:Value)->zih σ x=true->zax m w R (rn σ x) v->zax m' w R' x v
 | .p x,v,_,h=>by simp only [rn,zax] at h ⊢;exact h.sub hR
 | .ptr i o,v,ho,h=>by
  exact yy28
 | .eptr i n k o,v,ho,h=>by
  exact yy28
 | .rp c,v,_,h=>by
  exact yy73
 | .own i,v,ho,h=>by
  simp only [zih] at ho;split at ho
  . rename_i o hj
    cases o with
    | some j =>
     simp only [rn,hj,zax] at h ⊢;obtain ⟨l,h1,h2⟩:=h;exact ⟨l,by rw [hm i j hj];exact h1,h2⟩
    | none =>
     simp only [rn,hj,zax] at h ⊢;cases h;exact ⟨_,hn i hj,rfl⟩
  . cases ho
 | .osl i n o len,v,ho,h=>by
  simp only [zih] at ho;split at ho
  . rename_i j hj
    simp only [rn,hj,zax] at h ⊢;obtain ⟨l,a,h1,h2⟩:=h;exact ⟨l,a,by rw [hm i j hj];exact h1,h2⟩
  . cases ho
 | .mp i,v,ho,h=>by
  exact yy28
 | .agg l,v,ho,h=>by
  exact yy45
 | .tup l,v,ho,h=>by
  exact yy45
 | .clo f l,v,ho,h=>by
  exact yy45
 | .und,v,_,h=>by simp only [rn,zax] at h ⊢;exact h
 | .any,v,_,h=>by simp only [zax]
theorem znq (hm:∀ i j,σ i=some (some j)->m' i=m j) (hn:∀ i,σ i=some none->m' i=some ⟨0,0,0,true⟩) (hR:∀ b,R b->R' b) :
 (x:List HV)->(v:List Value)->zns σ x=true->zaz m w R (rnL σ x) v->zaz m' w R' x v
 | [],v,_,h=>by simp only [rnL,zaz] at h ⊢;exact h
 | x::xs,v,ho,h=>by
  simp only [zns,zy13] at ho;simp only [rnL,zaz] at h ⊢;obtain ⟨a,r,h1,h2,h3⟩:=h;exact ⟨a,r,h1,ymk hm hn hR x a ho.1 h2,znq hm hn hR xs r ho.2 h3⟩
end
theorem zqq:∀ (l:List HV),(rnL σ l).length=l.length
 | []=>rfl
 | x::l=>by simp only [rnL,zy5,zqq l]
theorem zuv (hm:∀ i j,σ i=some (some j)->m' i=m j) (hn:∀ i,σ i=some none->m' i=some ⟨0,0,0,true⟩) (hR:∀ b,R b->R' b) {l:Loc} {b:zia}
 (ho:znr σ b=true) (h:zmx m w R l (rnB σ b)):zmx m' w R' l b:=by
 cases b with
 | cells t cs =>
  obtain ⟨h1,arr,h2,h3⟩:=h;rw [zqq] at h1;exact ⟨h1,arr,h2,znq hm hn hR _ _ ho h3⟩
 | map kc agg es =>
  obtain ⟨h1,arr,c,h2,h3,h4⟩:=h;exact ⟨h1,arr,c,h2,h3.mono fun b hb=>⟨rfl,hR b hb⟩,h4⟩
 | iter kc agg left cur =>
  obtain ⟨h1,bm,arr,c,seen,h2,h3⟩:=h;exact ⟨h1,bm,arr,c,seen,h2,h3.mono fun b hb=>⟨rfl,hR b hb⟩⟩
 | row t n rows =>
  exact yy55
 | buf t n rows c =>
  exact yy79
end
def zha (σ:Ren) (m:zfa):zfa:=fun i=>match σ i with
 | none=>none
 | some none=>some ⟨0,0,0,true⟩
 | some (some j)=>m j
theorem xhf.conc {m:zfa} {s t:HS} {a:Act} {w:World} (hc:zmb Γ P m s a w) (h:xhf s t):∃ m',zmb Γ P m' t a w:=by
 obtain ⟨hn,hpp,σ,hs,hh,hi,hpin⟩:=h;have hm:∀ i j,σ i=some (some j)->zha σ m i=m j:=fun i j hj=>by simp only [zha,hj]
 have hnn:∀ i,σ i=some none->zha σ m i=some ⟨0,0,0,true⟩:=fun i hj=>by simp only [zha,hj]
 have zgk:zmx (zha σ m) w (RR Γ (zha σ m) t.heap w) ⟨0,0,0,true⟩=fun b=>zmx (zha σ m) w (RR Γ (zha σ m) t.heap w) ⟨0,0,0,true⟩ b:=rfl
 have hlive:∀ id b,t.heap id=.live b->znr σ b=true/\((∃ j,σ id=some (some j)/\s.heap j=.live (rnB σ b))\/(σ id=some none/\xgn b)):=fun id b hb=>by
  have:=hh id;rw [hb] at this;exact this
 have hown:∀ b,znz (zha σ m) t.heap b->znz m s.heap b:=by
  rintro b ⟨id,l,blk,h1,h2,h3,h4⟩;obtain ⟨-,⟨j,hj,hsj⟩ | ⟨hj,-⟩⟩:=hlive id blk h1
  . rw [hm id j hj] at h2
    exact ⟨j,l,_,hsj,h2,h3,h4⟩
  . rw [hnn id hj] at h2;cases h2;cases h3
 have hR:∀ b,RR Γ m s.heap w b->RR Γ (zha σ m) t.heap w b:=fun b hb=>⟨hb.1,hb.2.1,fun ho=>hb.2.2 (hown b ho)⟩
 have hok:=hc.heap;refine ⟨zha σ m,⟨hok.size,hok.os,hok.tape,hok.output,hok.frame,?_,?_,?_,?_,hok.dom⟩,?_,by rw [hc.size,hn],hc.defers,fun id l hp hl=>?_⟩
 . intro id hf
   have:=hh id;rw [hf] at this;simp only at this;simp only [zha,this]
 . intro id b hb
   obtain ⟨hob,⟨j,hj,hsj⟩ | ⟨hj,hnb⟩⟩:=hlive id b hb
   . obtain ⟨l,h1,h2,h3⟩:=hok.live j _ hsj
     exact ⟨l,by rw [hm id j hj];exact h1,zuv hm hnn hR hob h2,h3⟩
   . refine ⟨_,hnn id hj,?_,fun h=>by cases h⟩
     cases b with
     | cells=>exact hnb.elim
     | map=>exact hnb.elim
     | iter=>exact hnb.elim
     | buf=>exact hnb.elim
     | row ty n rows =>
      simp only [xgn] at hnb;subst hnb;exact ⟨rfl,by simp,.inl ⟨rfl,rfl⟩⟩
 . intro id b hb
   have:=hh id;rw [hb] at this;obtain ⟨hob,j,hj,hsj⟩:=this;rcases hsj with hsj | hsj
   . obtain ⟨l,h1,h2,h3⟩:=hok.live j _ hsj
     refine ⟨l,by rw [hm id j hj];exact h1,zuv hm hnn hR hob h2,fun hl=>?_⟩;obtain ⟨h4,h5⟩:=h3 hl;refine ⟨?_,h5,?_⟩
     . rcases h4 with h4 | h4
       . exact .inl (hok.dom _ h4)
       . exact .inr h4
     . rintro ⟨id',l',blk,h6,h7,h8,h9⟩
       obtain ⟨-,⟨j',hj',hsj'⟩ | ⟨hj',-⟩⟩:=hlive id' blk h6
       . rw [hm id' j' hj'] at h7
         have:=hok.inj j j' _ _ l l' hsj hsj' h1 h7 hl h8 h9.symm;subst this;have:=hi id' id blk j h6 (by rw [hb];exact zad.noConfusion) hj' hj;subst this;rw [hb] at h6;cases h6
       . rw [hnn id' hj'] at h7;cases h7;cases h8
   . obtain ⟨l,h1,h2,h3⟩:=hok.ro j _ hsj
     exact ⟨l,by rw [hm id j hj];exact h1,zuv hm hnn hR hob h2,fun hl=>hR _ (h3 hl)⟩
 . intro id id' b b' l l' h1 h2 h3 h4 h5 h6 h7
   obtain ⟨-,⟨j,hj,hsj⟩ | ⟨hj,-⟩⟩:=hlive id b h1
   . obtain ⟨-,⟨j',hj',hsj'⟩ | ⟨hj',-⟩⟩:=hlive id' b' h2
     . rw [hm id j hj] at h3
       rw [hm id' j' hj'] at h4;have:=hok.inj j j' _ _ l l' hsj hsj' h3 h4 h5 h6 h7;subst this;exact hi id id' b j h1 (by rw [h2];exact zad.noConfusion) hj hj'
     . rw [hnn id' hj'] at h4;cases h4;cases h6
   . rw [hnn id hj] at h3;cases h3;cases h5
 . intro i
   rcases hs i with h1 | ⟨h1,h2⟩
   . rw [h1];simp only [zax]
   . refine ymk hm hnn hR _ _ h1 ?_
     rw [h2];exact hc.slots i
 . obtain ⟨hmp,hml⟩:=hc.pin id l hp hl
   exact ⟨by rw [hpp];exact hmp,by rw [hm id id (hpin id hmp)];exact hml⟩
section
variable {m:zfa} {w:World} {R R':Nat->Prop}
theorem yma {l:Loc} {t:TypeId} {n:Nat} {rows:List (List PV)} (hb:zmx m w R l (.row t n rows)) (hR:l.nil=false->R l.blk):zhg w R (.sl n rows) (hdr l):=by
 obtain ⟨h1,h2,h3⟩:=hb;rcases h3 with ⟨hn,h4⟩ | ⟨hn,h4,h5,arr,h6,h7,h8⟩
 . subst h4;rw [show hdr l=.slice none 0 0 by simp [hdr,hn]];exact .sl0 _ _ _ (by simp [maxLen])
 . rw [show hdr l=.slice (some ⟨l.blk,0,none⟩) rows.length l.cap by simp [hdr,hn,h1]]
   refine .sl n rows l.blk 0 l.cap (fun k=>(arr[k]?).getD undef) h4 h5 h2 (hR hn) (fun k x hk=>?_) (fun k x hk=>?_)
   . obtain ⟨cv,h9,_⟩:=h8 k x hk
     rw [zy59,cell_of_row w l.blk k arr t (0,0) h6,h9];rfl
   . obtain ⟨cv,h9,h10⟩:=h8 k x hk
     rw [h9];exact h10
mutual
theorem xan {fz:List Nat} {H:Nat->zad} (hR:∀ b,R b->R' b)
 (hf:∀ id t n rows,id∈fz->(H id=.live (.row t n rows)\/H id=.ro (.row t n rows))->∃ l,m id=some l/\zmx m w R l (.row t n rows)/\(l.nil=false->R' l.blk)) :
 (x:HV)->(v:Value)->zax m w R x v->zax m w R' (fzV fz H x) v
 | .own id,v,h=>by
  have hold:zax m w R' (.own id) v:=by simp only [zax] at h ⊢;exact h
  simp only [zax] at h;obtain ⟨l,h1,rfl⟩:=h;simp only [fzV];cases hm:fz.any (Nat.beq id) with
  | false=>exact hold
  | true =>
   have hin:id∈fz:=by
    obtain ⟨y,hy,he⟩:=zy103.1 hm;rw [zy4 he];exact hy
   have key:∀ t n rows,(H id=.live (.row t n rows)\/H id=.ro (.row t n rows))->zax m w R' (.p (.sl n rows)) (hdr l):=by
    intro t n rows hb;obtain ⟨l',h2,h3,h4⟩:=hf id t n rows hin hb;rw [h1] at h2;cases h2;simp only [zax];refine yma (t:=t) (h3.mono (fun _ _ h=>h) (fun b hb=>⟨rfl,hR b hb⟩) fun _=>rfl) h4
   simp only [cond_true];split
   . rename_i hb;exact key _ _ _ (.inl hb)
   . rename_i hb;exact key _ _ _ (.inr hb)
   . exact hold
 | .agg l,v,h=>by
  simp only [fzV,zax] at h ⊢;obtain ⟨arr,h1,h2⟩:=h;exact ⟨arr,h1,zzj hR hf l _ h2⟩
 | .tup l,v,h=>by
  simp only [fzV,zax] at h ⊢;obtain ⟨arr,h1,h2⟩:=h;exact ⟨arr,h1,zzj hR hf l _ h2⟩
 | .p x,v,h=>zax.mono (fun _ _ h=>h) (fun b hb=>⟨rfl,hR b hb⟩) (.p x) v h
 | .ptr i o,v,h=>zax.mono (fun _ _ h=>h) (fun b hb=>⟨rfl,hR b hb⟩) (.ptr i o) v h
 | .eptr i n k o,v,h=>zax.mono (fun _ _ h=>h) (fun b hb=>⟨rfl,hR b hb⟩) (.eptr i n k o) v h
 | .rp c,v,h=>zax.mono (fun _ _ h=>h) (fun b hb=>⟨rfl,hR b hb⟩) (.rp c) v h
 | .osl i n o l,v,h=>zax.mono (fun _ _ h=>h) (fun b hb=>⟨rfl,hR b hb⟩) (.osl i n o l) v h
 | .mp i,v,h=>zax.mono (fun _ _ h=>h) (fun b hb=>⟨rfl,hR b hb⟩) (.mp i) v h
 | .clo f c,v,h=>zax.mono (fun _ _ h=>h) (fun b hb=>⟨rfl,hR b hb⟩) (.clo f c) v h
 | .und,v,h=>zax.mono (fun _ _ h=>h) (fun b hb=>⟨rfl,hR b hb⟩) .und v h
 | .any,v,h=>zax.mono (fun _ _ h=>h) (fun b hb=>⟨rfl,hR b hb⟩) .any v h
theorem zzj {fz:List Nat} {H:Nat->zad} (hR:∀ b,R b->R' b)
 (hf:∀ id t n rows,id∈fz->(H id=.live (.row t n rows)\/H id=.ro (.row t n rows))->∃ l,m id=some l/\zmx m w R l (.row t n rows)/\(l.nil=false->R' l.blk)) :
 (x:List HV)->(v:List Value)->zaz m w R x v->zaz m w R' (fzL fz H x) v
 | [],v,h=>by simp only [fzL,zaz] at h ⊢;exact h
 | x::xs,v,h=>by
  simp only [fzL,zaz] at h ⊢;obtain ⟨a,r,h1,h2,h3⟩:=h;exact ⟨a,r,h1,xan hR hf x a h2,zzj hR hf xs r h3⟩
end
theorem zxa {fz:List Nat} {H:Nat->zad}:∀ (l:List HV),(fzL fz H l).length=l.length
 | []=>rfl
 | x::l=>by simp only [fzL,zy5,zxa l]
end
mutual
theorem yhj {H:Nat->zad}:(x:HV)->fzV [] H x=x
 | .own id=>rfl
 | .agg l=>by simp only [fzV,zzi l]
 | .tup l=>by simp only [fzV,zzi l]
 | .p x=>rfl
 | .ptr i o=>rfl
 | .eptr i n k o=>rfl
 | .rp c=>rfl
 | .osl i n o l=>rfl
 | .mp i=>rfl
 | .clo f c=>rfl
 | .und=>rfl
 | .any=>rfl
theorem zzi {H:Nat->zad}:(x:List HV)->fzL [] H x=x
 | []=>rfl
 | x::r=>by simp only [fzL,yhj x,zzi r]
end
theorem yri (s:HS):fzS [] s=s:=by
 have h1:(fun i=>fzV [] s.heap (s.slot i))=s.slot:=funext fun i=>yhj _
 have h2:fzH [] s.heap=s.heap:=by
  funext id
  unfold fzH;split<;>rename_i h<;>rw [h]<;>first | rfl | (rw [zzi])
 unfold fzS;rw [h1,h2]
theorem zsl {fz:List Nat} {H:Nat->zad} {id:Nat} {b:zia} (h:fzH fz H id=.live b):∃ c,H id=.live c:=by
 unfold fzH at h;split at h<;>first | (rename_i h1;exact ⟨_,h1⟩) | cases h
theorem zmb.fz {m:zfa} {s:HS} {a:Act} {w:World} (fz:List Nat) (hc:zmb Γ P m s a w):zmb Γ P m (fzS fz s) a w:=by
 have hok:=hc.heap;have hown:∀ b,znz m (fzH fz s.heap) b->znz m s.heap b:=by
  rintro b ⟨id,l,blk,h1,h2,h3,h4⟩;obtain ⟨c,hcc⟩:=zsl h1;exact ⟨id,l,c,hcc,h2,h3,h4⟩
 have hR:∀ b,RR Γ m s.heap w b->RR Γ m (fzH fz s.heap) w b:=fun b hb=>⟨hb.1,hb.2.1,fun ho=>hb.2.2 (hown b ho)⟩
 have hfz:∀ id t n rows l,id∈fz->s.heap id=.live (.row t n rows)->m id=some l->l.nil=false->RR Γ m (fzH fz s.heap) w l.blk:=by
  intro id t n rows l hi hb hm hl;obtain ⟨l',h1,h2,h3⟩:=hok.live id _ hb;rw [hm] at h1;cases h1;obtain ⟨h4,h5⟩:=h3 hl;refine ⟨?_,h5,?_⟩
  . rcases h4 with h4 | h4
    . exact .inl (hok.dom _ h4)
    . exact .inr h4
  . rintro ⟨id',l',blk,h6,h7,h8,h9⟩
    obtain ⟨c,hcc⟩:=zsl h6;have:=hok.inj id id' _ _ l l' hb hcc hm h7 hl h8 h9.symm;subst this;unfold fzH at h6;rw [hb] at h6;have hin:fz.any (Nat.beq id)=true:=zy103.2 ⟨id,hi,Nat.beq_refl id⟩;simp only [hin,cond_true] at h6;cases h6
 have hf:∀ id t n rows,id∈fz->(s.heap id=.live (.row t n rows)\/s.heap id=.ro (.row t n rows))->∃ l,m id=some l/\zmx m w (RR Γ m s.heap w) l (.row t n rows)/\(l.nil=false->RR Γ m (fzH fz s.heap) w l.blk):=by
  intro id t n rows hi hb;rcases hb with hb | hb
  . obtain ⟨l,h1,h2,h3⟩:=hok.live id _ hb
    exact ⟨l,h1,h2,fun hl=>hfz id t n rows l hi hb h1 hl⟩
  . obtain ⟨l,h1,h2,h3⟩:=hok.ro id _ hb
    exact ⟨l,h1,h2,fun hl=>hR _ (h3 hl)⟩
 have hB:∀ l b,zmx m w (RR Γ m s.heap w) l b->zmx m w (RR Γ m (fzH fz s.heap) w) l b:=fun l b h=>h.mono (fun _ _ h=>h) (fun b hb=>⟨rfl,hR b hb⟩) fun _=>rfl
 refine ⟨⟨hok.size,hok.os,hok.tape,hok.output,hok.frame,?_,?_,?_,?_,hok.dom⟩,fun t=>xan hR hf _ _ (hc.slots t),hc.size,hc.defers,hc.pin⟩
 . intro id h
   refine hok.free id ?_;have h:fzH fz s.heap id=.free:=h;unfold fzH at h;split at h<;>first | assumption | cases h | skip
   rename_i t n rows hb;cases hx:fz.any (Nat.beq id)<;>simp only [hx,cond_true,cond_false] at h<;>cases h
 . intro id b h
   have h:fzH fz s.heap id=.live b:=h;unfold fzH at h;split at h
   . cases h
   . cases h
   . cases h
   . rename_i t n rows hb
     cases hx:fz.any (Nat.beq id)<;>simp only [hx,cond_true,cond_false] at h<;>cases h
     obtain ⟨l,h1,h2,h3⟩:=hok.live id _ hb;exact ⟨l,h1,hB _ _ h2,h3⟩
   . rename_i t cs hb
     cases h;obtain ⟨l,h1,h2,h3⟩:=hok.live id _ hb;obtain ⟨h4,arr,h5,h6⟩:=h2;exact ⟨l,h1,⟨by rw [zxa];exact h4,arr,h5,zzj hR hf _ _ h6⟩,h3⟩
   . rename_i hb
     exact yy74
   . rename_i hb
     exact yy74
   . rename_i hb
     exact yy74
 . intro id b h
   have h:fzH fz s.heap id=.ro b:=h;unfold fzH at h;split at h
   . cases h
   . cases h
   . rename_i hb
     cases h;obtain ⟨l,h1,h2,h3⟩:=hok.ro id _ hb;exact ⟨l,h1,hB _ _ h2,fun hl=>hR _ (h3 hl)⟩
   . rename_i t n rows hb
     cases hx:fz.any (Nat.beq id)<;>simp only [hx,cond_true,cond_false] at h<;>cases h
     have hin:id∈fz:=by
      obtain ⟨y,hy,he⟩:=zy103.1 hx;rw [zy4 he];exact hy
     obtain ⟨l,h1,h2,h3⟩:=hok.live id _ hb;exact ⟨l,h1,hB _ _ h2,fun hl=>hfz id t n rows l hin hb h1 hl⟩
   . cases h
   . cases h
   . cases h
   . cases h
 . intro id id' b b' l l' h1 h2
   obtain ⟨c,hc1⟩:=zsl h1;obtain ⟨c',hc2⟩:=zsl h2;exact hok.inj id id' c c' l l' hc1 hc2
theorem HLe.conc {m:zfa} {s t:HS} {a:Act} {w:World} (hc:zmb Γ P m s a w) (h:HLe s t):∃ m',zmb Γ P m' t a w:=by
 obtain ⟨fz,h⟩:=h;exact h.conc (hc.fz fz)
theorem zmb.drew {m:zfa} {s:HS} {a:Act} {w:World} (hc:zmb Γ P m s a w):zmb Γ P m s a {w with drawn:=w.drawn+1} :=
 ⟨hc.heap.drew,fun t=>(WS.drew hc.heap).rep (hc.slots t),hc.size,hc.defers,hc.pin⟩
theorem least {p:Nat->Prop} (h:∃ n,p n):∃ n,p n/\∀ k,p k->n<=k:=by
 obtain ⟨n,hn⟩:=h
 induction n using Nat.strongRecOn with
 | ind n ih =>
  by_cases hk:∃ k,k<n/\p k
  . obtain ⟨k,h1,h2⟩:=hk;exact ih k h1 h2
  . exact ⟨n,hn,fun k hp=>Nat.le_of_not_lt fun hlt=>hk ⟨k,hlt,hp⟩⟩
theorem ypy {c:Code} {Q:Exit->Act->World->Prop} {a:Act} {w:World} {β:Type} (J:β->Act->World->Prop) (μ:β->Nat) (x₀:β) (h₀:J x₀ a w)
 (round:∀ x a w,J x a w->c.wp P (Exit.then (fun a' w'=>∃ x',J x' a' w'/\μ x'<μ x) Q) a w):(Code.loop c).wp P Q a w:=by
 have hex:∀ a w,(∃ x,J x a w)->∃ n,(∃ x,J x a w/\μ x=n)/\∀ k,(∃ x,J x a w/\μ x=k)->n<=k:=fun a w ⟨x,hx⟩=>least ⟨μ x,x,hx,rfl⟩
 let ν:Act->World->Nat:=fun a w=>open Classical in if h:∃ x,J x a w then Classical.choose (hex a w h) else 0
 refine wp_loop (fun a w=>∃ x,J x a w) ν ⟨x₀,h₀⟩ fun a w hI=>?_
 have hν:∀ a w (h:∃ x,J x a w),(∃ x,J x a w/\μ x=ν a w)/\∀ k,(∃ x,J x a w/\μ x=k)->ν a w<=k:=by
  intro a w h;have:=Classical.choose_spec (hex a w h);simp only [ν,dif_pos h];exact this
 obtain ⟨⟨x,hx,hxe⟩,-⟩:=hν a w hI;refine wp_mono (round x a w hx) fun e a' w' he=>?_
 cases e<;>simp only [Exit.then] at he ⊢<;>try exact he
 obtain ⟨x',hx',hlt⟩:=he;refine ⟨⟨x',hx'⟩,?_⟩;have:=(hν a' w' ⟨x',hx'⟩).2 _ ⟨x',hx',rfl⟩;omega
def xbi:HX->Exit
 | .normal=>.normal
 | .exit i=>.exit i
 | .ret=>.ret
theorem ysi (hm:P.follows .mixedOrders=true) (hC:zjf P C) (hL:zgw C):∀ (c:Code) (s:HS) (Q:HX->HS->Prop) (Q':Exit->Act->World->Prop) (m:zfa) (a:Act) (w:World),
 hwp P C c s Q->zmb Γ P m s a w->(∀ e s' m' a' w',Q e s'->zmb Γ P m' s' a' w'->Q' (xbi e) a' w')->c.wp P Q' a w:=by
 intro c
 induction c with
 | skip=>intro s Q Q' m a w h hc hQ;exact wp_skip (hQ .normal s m a w h hc)
 | exit id=>intro s Q Q' m a w h hc hQ;exact wp_exit (hQ (.exit id) s m a w h hc)
 | ret=>intro s Q Q' m a w h hc hQ;exact wp_ret (hQ .ret s m a w h hc)
 | region id ops draw =>
  intro s Q Q' m a w h hc hQ;cases draw with
  | false =>
   replace h:ybo P C ops.toList ops.toList s [] (fun _ s=>Q .normal s):=h;exact wp_region_list (zud hC ops.toList s [] _ m a w h hc fun labs s' m' a' w' hq hc'=>hQ .normal s' m' a' w' hq hc')
  | true =>
   replace h:(bif ops.toList.all fun o=>zwb o.op then ybo P C ops.toList ops.toList s [] fun labs s'=>yrr P s ops labs.reverse (Q .normal s') else False):=h;have hdet:(ops.toList.all fun o=>zwb o.op)=true:=by
    cases hb:(ops.toList.all fun o=>zwb o.op) with
    | true=>rfl
    | false=>rw [hb] at h;exact h.elim
   rw [hdet] at h;simp only [cond_true] at h;obtain ⟨labs,sEnd,hl,hev,hall,hq⟩:=zqa ops.toList s [] _ (fun o ho=>zy7.1 hdet o ho) h;simp only [zy8,List.reverse_reverse] at hall;obtain ⟨z,hup,hmay,hz⟩:∃ z:xad P C ops (Mem ops labs),zka 0 ops.toList=true/\xhi z/\z.Z s:=by
    rcases hall with hall | ⟨ex,hall,hst⟩
    . exact ⟨yeu P C ops _,yyw hall,ytv hall,trivial⟩
    . exact ⟨yjz P C s ops labs,xch hall,ywt hall hst,ydo s ops labs⟩
   refine wp_region_any hm (xfr hC hL hup z hmay (fun m' a' w' hc'=>hQ .normal sEnd m' a' w' hq hc') ops.size _ (yet 0 ops.toList labs) s m a _ ?_ ?_ (by rw [yaj];exact hev) hz hc.drew)
   . refine ⟨fun i o l hi=>?_,fun j=>?_,zus _ _ _,fun k o ho hk=>?_,by simp⟩
     . obtain ⟨-,h1,h2⟩:=zsr hi
       exact ⟨by simpa using h1,by simpa using h2⟩
     . constructor
       . intro hj
         have hlt:j<ops.size:=by
          rcases zy82 j ops.size with h' | h'
          . exact h'
          . simp [h'] at hj
         have:=ymd (k:=0) (os:=ops.toList) (ls:=labs) (i:=j) hl (by simpa using hlt)
         simpa using this
       . intro hj
         obtain ⟨⟨i,o,l⟩,hi,rfl⟩:=zy28.1 hj;obtain ⟨-,h1,-⟩:=zsr hi;have:i<ops.size:=by
          have:=(zy9.1 h1).1
          simpa using this
         simp [this]
     . exfalso
       have:k<ops.size:=(zy78.1 ho).1;simp [this] at hk
   . have:((yet 0 ops.toList labs).map (·.2)).length=ops.size:=by rw [yaj];simp [hl]
     simp only [zy2] at this;omega
 | seq x y ihx ihy =>
  intro s Q Q' m a w h hc hQ;replace h:(bif ysm x then xar (hwp P C x) (hwp P C y) else xgi (hwp P C x) (hwp P C y)) s Q:=h;have hseq:(hwp P C x) s (fun e s'=>match e with
   | .normal=>hwp P C y s' Q
   | .exit id=>Q (.exit id) s'
   | .ret=>Q .ret s')->(Code.seq x y).wp P Q' a w:=by
   intro h;refine wp_seq (ihx s _ _ m a w h hc fun e s' m' a' w' he hc'=>?_);cases e with
   | normal=>exact ihy s' Q Q' m' a' w' he hc' hQ
   | exit i=>exact hQ (.exit i) s' m' a' w' he hc'
   | ret=>exact hQ .ret s' m' a' w' he hc'
  cases hb:ysm x with
  | false =>
   rw [hb] at h;exact hseq h
  | true =>
   rw [hb] at h;cases h with
   | go h=>exact hseq h
   | meet α I h k =>
    refine wp_seq (ihx s _ _ m a w h hc fun e s' m' a' w' he hc'=>?_);cases e with
    | normal =>
     obtain ⟨x',hle⟩:=he;obtain ⟨m2,hc2⟩:=hle.conc hc';exact ihy (I x') Q Q' m2 a' w' (k x') hc2 hQ
    | exit i=>exact hQ (.exit i) s' m' a' w' he hc'
    | ret=>exact hQ .ret s' m' a' w' he hc'
 | cond x t e iht ihe =>
  intro s Q Q' m a w h hc hQ;replace h:ysh x (hwp P C t) (hwp P C e) s Q:=h;simp only [ysh] at h;split at h
  . rename_i b hb
    have hv:=hc.eval x;rw [hb] at hv;have hbv:=zhh hv;rcases ziq h with ⟨rfl,h2⟩ | ⟨rfl,h2⟩
    . exact wp_cond_true hbv (iht s Q Q' m a w h2 hc hQ)
    . exact wp_cond_false hbv (ihe s Q Q' m a w h2 hc hQ)
  . exact h.elim
 | block id c ih =>
  intro s Q Q' m a w h hc hQ;replace h:yhu id (hwp P C c) s Q:=h;simp only [yhu] at h;refine wp_block (ih s _ _ m a w h hc fun e s' m' a' w' he hc'=>?_);cases e with
  | normal=>exact hQ .normal s' m' a' w' he hc'
  | exit i =>
   simp only [xbi,Exit.inBlock];simp only at he;cases hb:Nat.beq i id with
   | true =>
    rw [hb] at he;rw [zy1 (zy4 hb)];exact hQ .normal s' m' a' w' he hc'
   | false =>
    rw [hb] at he;rw [zy0 (fun e=>by subst e;simp at hb)];exact hQ (.exit i) s' m' a' w' he hc'
  | ret=>exact hQ .ret s' m' a' w' he hc'
 | loop c ih =>
  intro s Q Q' m a w h hc hQ;replace h:xge (hwp P C c) s Q:=h;obtain ⟨α,I,μ,x₀,h0,hr⟩:=h;obtain ⟨m0,hc0⟩:=h0.conc hc;refine ypy (fun x a w=>∃ m,zmb Γ P m (I x) a w) μ x₀ ⟨m0,hc0⟩ fun x a w ⟨m,hc⟩=>?_
  refine ih (I x) _ _ m a w (hr x) hc fun e s' m' a' w' he hc'=>?_
  cases e with
  | normal =>
   obtain ⟨x',hle,hlt⟩:=he;obtain ⟨m2,hc2⟩:=hle.conc hc';exact ⟨x',⟨m2,hc2⟩,hlt⟩
  | exit i=>exact hQ (.exit i) s' m' a' w' he hc'
  | ret=>exact hQ .ret s' m' a' w' he hc'
 | _=>intro s Q Q' m a w h;exact h.elim
end
end Go.HL
namespace Go.HL
mutual
def zgg (H:Nat->zad):HV->(HV->List (Nat×zad)->Prop)->Prop
 | .p x,K=>K (.p x) []
 | .rp c,K=>K (.rp c) []
 | .und,K=>K .und []
 | .any,K=>K .any []
 | .own id,K=>hpv H (.own id) fun v us=>K (.p v) us
 | .osl id n off len,K=>zcy (H id) fun b=>match b with
  | .row t n' rows=>bif Nat.beq n n' then zrk rows off len fun rs=>K (.p (.sl n rs)) [(id,.ro (.row t n' rows))] else False
  | _=>False
 | .ptr id off,K=>zcy (H id) fun b=>match b with
  | .cells t cs=>yhq H cs fun ps us=>K (.rp (ps.drop off)) ((id,.ro (.cells t cs))::us)
  | _=>False
 | .eptr id n i off,K=>zcy (H id) fun b=>match b with
  | .row t n' rows=>bif Nat.beq n n' then zvy rows i fun r=>K (.rp (r.drop off)) [(id,.ro (.row t n' rows))] else False
  | _=>False
 | .mp _,_=>False
 | .agg l,K=>zgh H l fun l us=>K (.agg l) us
 | .tup l,K=>zgh H l fun l us=>K (.tup l) us
 | .clo f l,K=>zgh H l fun l us=>K (.clo f l) us
def zgh (H:Nat->zad):List HV->(List HV->List (Nat×zad)->Prop)->Prop
 | [],K=>K [] []
 | x::xs,K=>zgg H x fun y u=>zgh H xs fun ys us=>K (y::ys) (u++us)
end
def ytc (o:Option Nat):HV->HV
 | .p x=>.p (yeh o x)
 | x=>x
def zun:List (Option Nat)->List HV->List HV
 | _,[]=>[]
 | [],xs=>xs
 | o::os,x::xs=>ytc o x::zun os xs
def yeg (P:Program) (t:TypeId) (x:HV):HV:=match x with
 | .p x=>match lay P t with
  | o::_=>.p (yeh o x)
  | []=>.p x
 | .agg l=>.agg (zun (lay P t) l)
 | x=>x
def normArgs (P:Program):List TypeId->List HV->List HV
 | _,[]=>[]
 | [],xs=>xs
 | t::ts,x::xs=>yeg P t x::normArgs P ts xs
def znp (P:Program) (ts:List TypeId) (x:HV):HV:=match ts with
 | [t]=>yeg P t x
 | ts=>match x with
  | .tup l=>.tup (normArgs P ts l)
  | x=>x
def yai (P:Program) (f:FuncId):List TypeId:=match P.funcs[f]? with
 | some fn=>fn.params.toList
 | none=>[]
mutual
def ztx:HV->(HV->Prop)->Prop
 | .p x,K=>match x with
  | .v a=>K (.p (.v a))
  | .sl n r=>K (.p (.sl n r))
 | .ptr i o,K=>K (.ptr i o)
 | .eptr i n j o,K=>K (.eptr i n j o)
 | .rp c,K=>K (.rp c)
 | .own i,K=>K (.own i)
 | .osl i n o l,K=>K (.osl i n o l)
 | .mp i,K=>K (.mp i)
 | .agg l,K=>zjb l fun l=>K (.agg l)
 | .tup l,K=>zjb l fun l=>K (.tup l)
 | .clo f l,K=>zjb l fun l=>K (.clo f l)
 | .und,K=>K .und
 | .any,K=>K .any
def zjb:List HV->(List HV->Prop)->Prop
 | [],K=>K []
 | x::xs,K=>ztx x fun y=>zjb xs fun ys=>K (y::ys)
end
mutual
theorem zty:(x:HV)->(K:HV->Prop)->ztx x K=K x
 | .p x,K=>by cases x<;>rfl
 | .ptr i o,K=>rfl
 | .eptr i n j o,K=>rfl
 | .rp c,K=>rfl
 | .own i,K=>rfl
 | .osl i n o l,K=>rfl
 | .mp i,K=>rfl
 | .agg l,K=>by simp only [ztx,zfx l]
 | .tup l,K=>by simp only [ztx,zfx l]
 | .clo f l,K=>by simp only [ztx,zfx l]
 | .und,K=>rfl
 | .any,K=>rfl
theorem zfx:(l:List HV)->(K:List HV->Prop)->zjb l K=K l
 | [],K=>rfl
 | x::xs,K=>by simp only [zjb,zty x,zfx xs]
end
section
variable {P:Program} {m:zfa} {w:World} {R:Nat->Prop}
theorem zax.ytc (o:Option Nat) {x:HV} {v:Value} (h:zax m w R x v):zax m w R (ytc o x) v:=by
 cases x<;>try exact h
 simp only [zax,Go.HL.ytc] at h ⊢;exact h.norm o
theorem zaz.zun:∀ (os:List (Option Nat)) {xs:List HV} {vs:List Value},zaz m w R xs vs->zaz m w R (zun os xs) vs
 | os,[],vs,h=>by cases os<;>exact h
 | [],x::xs,vs,h=>h
 | o::os,x::xs,vs,h=>by
  simp only [zaz,Go.HL.zun] at h ⊢;obtain ⟨v,r,h1,h2,h3⟩:=h;exact ⟨v,r,h1,h2.ytc o,zaz.zun os h3⟩
theorem zax.yeg (t:TypeId) {x:HV} {v:Value} (h:zax m w R x v):zax m w R (yeg P t x) v:=by
 cases x<;>try exact h
 . simp only [Go.HL.yeg]
   split
   . simp only [zax] at h ⊢
     exact h.norm _
   . exact h
 . simp only [Go.HL.yeg,zax] at h ⊢
   obtain ⟨arr,h1,h2⟩:=h;exact ⟨arr,h1,h2.zun _⟩
theorem zaz.normArgs:∀ (ts:List TypeId) {xs:List HV} {vs:List Value},zaz m w R xs vs->zaz m w R (normArgs P ts xs) vs
 | ts,[],vs,h=>by cases ts<;>exact h
 | [],x::xs,vs,h=>h
 | t::ts,x::xs,vs,h=>by
  simp only [zaz,Go.HL.normArgs] at h ⊢;obtain ⟨v,r,h1,h2,h3⟩:=h;exact ⟨v,r,h1,h2.yeg t,zaz.normArgs ts h3⟩
theorem zax.znp (ts:List TypeId) {x:HV} {v:Value} (h:zax m w R x v):zax m w R (znp P ts x) v:=by
 unfold Go.HL.znp;split
 . exact h.yeg _
 . split
   . simp only [zax] at h ⊢
     obtain ⟨arr,h1,h2⟩:=h;exact ⟨arr,h1,h2.normArgs _⟩
   . exact h
end
section
variable {Γ:Ctx} {P:Program} {C:zbg} {m:zfa} {H:Nat->zad} {w:World} {R:Nat->Prop}
theorem yyr {l:Loc} {t:TypeId} {n off len c:Nat} {a:Option Addr} {rows:List (List PV)} (hb:zmx m w R l (.row t n rows)) (hR:l.nil=false->R l.blk) (hle:off+len<=rows.length) (hc:len<=c) (hm:c<=maxLen)
 (ha:len≠0->l.nil=false/\a=some ⟨l.blk,off*n,none⟩):zhg w R (.sl n ((rows.drop off).take len)) (.slice a len c):=by
 have hlen:((rows.drop off).take len).length=len:=by simp;omega
 by_cases h0:len=0
 . subst h0;simp only [List.take_zero];exact .sl0 _ _ _ hm
 . obtain ⟨hn,rfl⟩:=ha h0
   have hlens:=hb.2.1;have zrk:∀ r∈(rows.drop off).take len,r.length=n:=fun r hr=>hlens r (zy81 (zy65 hr))
   have hcell:∀ k x,((rows.drop off).take len).flatten[k]?=some x->∃ cv,w.cell? ⟨l.blk,off*n+k,none⟩=some cv/\zhg w R x cv:=by
    intro k x hk;obtain ⟨i,j,r,e,hj,hr,hx⟩:=zfe zrk hk;have hr':rows[off+i]?=some r:=by
     rw [zy46] at hr;split at hr
     . rw [zy44] at hr;exact hr
     . cases hr
    obtain ⟨cv,h1,h2⟩:=zjr hb hn _ x (zdj hlens hr' hx);refine ⟨cv,?_,h2⟩;rw [<- h1];congr 2;subst e;rw [zy47];omega
   have h2:=zhg.sl (w:=w) (R:=R) n ((rows.drop off).take len) l.blk (off*n) c (fun k=>(w.cell? ⟨l.blk,off*n+k,none⟩).getD undef) zz0 hm zrk (hR hn)
    (fun k x hk=>by obtain ⟨cv,h1,_⟩:=hcell k x hk;simp only [h1];rfl) (fun k x hk=>by obtain ⟨cv,h1,h2⟩:=hcell k x hk;simp only [h1];exact h2)
   rw [hlen] at h2;exact h2
def Kept (m:zfa) (w:World) (R:Nat->Prop) (us:List (Nat×zad)):Prop:=∀ e∈us,∃ b l,e.2=.ro b/\m e.1=some l/\zmx m w R l b/\(l.nil=false->R l.blk)
theorem Kept.left {us vs:List (Nat×zad)} (h:Kept m w R (us++vs)):Kept m w R us:=fun e he=>h e zz94
theorem Kept.right {us vs:List (Nat×zad)} (h:Kept m w R (us++vs)):Kept m w R vs:=fun e he=>h e zz94
theorem zlg:Frz H []:=by intro e he;cases he
theorem zzg {id:Nat} {b:zia} (hb:H id=.live b\/H id=.ro b):Frz H [(id,.ro b)]:=by
 intro e he;simp at he;subst he;exact ⟨b,hb,rfl⟩
theorem znl {id:Nat} {b:zia} (hb:H id=.live b\/H id=.ro b) {H':Nat->zad} (he:H' id=H id) {K:zia->Prop} (hk:K b):zcy (H' id) K:=by
 unfold zcy;rw [he];rcases hb with hb | hb<;>rw [hb]<;>exact hk
theorem yld {x:HV} {K:PV->List (Nat×zad)->Prop} (h:hpv H x K):∃ y us,K y us/\Frz H us/\(∀ m w R v,Kept m w R us->zax m w R x v->zhg w R y v) /\
 ∀ H',(∀ id∈us.map (·.1),H' id=H id)->∀ K':PV->List (Nat×zad)->Prop,K' y us->hpv H' x K':=by
 unfold hpv at h;split at h
 . exact ⟨_,_,h,zlg,fun m w R v _ hx=>by simp only [zax] at hx;exact hx,fun H' _ K' hk=>hk⟩
 . rename_i id
   have key:∀ t n rows,(H id=.live (.row t n rows)\/H id=.ro (.row t n rows))->K (.sl n rows) [(id,.ro (.row t n rows))] ->
    ∃ y us,K y us/\Frz H us/\(∀ m w R v,Kept m w R us->zax m w R (.own id) v->zhg w R y v) /\
   ∀ H',(∀ id∈us.map (·.1),H' id=H id)->∀ K':PV->List (Nat×zad)->Prop,K' y us->hpv H' (.own id) K':=by
    intro t n rows hb hK;refine ⟨_,_,hK,zzg hb,fun m w R v hk hx=>?_,fun H' he K' hk=>?_⟩
    . obtain ⟨b,l,h1,h2,h3,h4⟩:=hk _ (zy23.2 rfl)
      cases h1;simp only [zax] at hx;obtain ⟨l',h5,rfl⟩:=hx;simp only at h2;rw [h2] at h5;cases h5;exact yma h3 h4
    . simp only [hpv]
      rw [he id (by simp)];rcases hb with hb | hb<;>rw [hb]<;>exact hk
   exact yy84
 . exact h.elim
theorem ydi:∀ {xs:List HV} {K:List PV->List (Nat×zad)->Prop},yhq H xs K->∃ ys us,K ys us/\Frz H us/\(∀ m w R vs,Kept m w R us->zaz m w R xs vs->zep w R ys vs) /\
 ∀ H',(∀ id∈us.map (·.1),H' id=H id)->∀ K':List PV->List (Nat×zad)->Prop,K' ys us->yhq H' xs K'
 | [],K,h=>⟨[],[],h,zlg,fun m w R vs _ hx=>by simp only [zaz] at hx;subst hx;exact .nil,fun H' _ K' hk=>hk⟩
 | x::xs,K,h=>by
  simp only [yhq] at h;obtain ⟨y,u,h1,h2,h3,h3'⟩:=yld h;obtain ⟨ys,us,h4,h5,h6,h6'⟩:=ydi h1;refine ⟨_,_,h4,h2.append h5,fun m w R vs hk hx=>?_,fun H' he K' hk=>?_⟩
  . simp only [zaz] at hx
    obtain ⟨v,r,rfl,h7,h8⟩:=hx;exact .cons (h3 m w R v hk.left h7) (h6 m w R r hk.right h8)
  . simp only [yhq]
    exact h3' H' (fun id hi=>he id zz76) _ (h6' H' (fun id hi=>he id zz65) _ hk)
abbrev zqg:Ren:=fun _=>none
structure View (H:Nat->zad) (x y:HV) (us:List (Nat×zad)):Prop where
 frz:Frz H us
 rep:∀ m w R v,Kept m w R us->zax m w R x v->zax m w R y v
 noid:zih zqg y=true
 loc:∀ H',(∀ id∈us.map (·.1),H' id=H id)->∀ K':HV->List (Nat×zad)->Prop,K' y us->zgg H' x K'
structure xhz (H:Nat->zad) (x y:List HV) (us:List (Nat×zad)):Prop where
 frz:Frz H us
 rep:∀ m w R v,Kept m w R us->zaz m w R x v->zaz m w R y v
 noid:zns zqg y=true
 loc:∀ H',(∀ id∈us.map (·.1),H' id=H id)->∀ K':List HV->List (Nat×zad)->Prop,K' y us->zgh H' x K'
mutual
theorem zjp:(x:HV)->{K:HV->List (Nat×zad)->Prop}->zgg H x K->∃ y us,K y us/\View H x y us
 | .p x,K,h=>by simp only [zgg] at h;exact ⟨_,_,h,zlg,fun _ _ _ _ _ h=>h,rfl,fun H' _ K' hk=>by simp only [zgg];exact hk⟩
 | .rp x,K,h=>by simp only [zgg] at h;exact ⟨_,_,h,zlg,fun _ _ _ _ _ h=>h,rfl,fun H' _ K' hk=>by simp only [zgg];exact hk⟩
 | .und,K,h=>by simp only [zgg] at h;exact ⟨_,_,h,zlg,fun _ _ _ _ _ h=>h,rfl,fun H' _ K' hk=>by simp only [zgg];exact hk⟩
 | .any,K,h=>by simp only [zgg] at h;exact ⟨_,_,h,zlg,fun _ _ _ _ _ h=>h,rfl,fun H' _ K' hk=>by simp only [zgg];exact hk⟩
 | .own id,K,h=>by
  simp only [zgg] at h;obtain ⟨y,us,h1,h2,h3,h4⟩:=yld h;exact ⟨_,_,h1,h2,fun m w R v hk hx=>by simp only [zax];exact h3 m w R v hk hx,rfl,fun H' he K' hk=>by simp only [zgg];exact h4 H' he _ hk⟩
 | .osl id n off len,K,h=>by
  simp only [zgg] at h;obtain ⟨b,hb,h⟩:=zck h;split at h
  . rename_i t n' rows
    have h2:=zav h;clear h;obtain ⟨hnb,rs,hrs,hle,hk⟩:=h2;have hnn:=zy4 hnb;subst hnn;subst hrs;refine ⟨_,_,hk,zzg hb,fun m w R v hkp hx=>?_,rfl,fun H' he K' hk=>?_⟩
    . obtain ⟨b',l,h1,h2,h3,h4⟩:=hkp _ (zy23.2 rfl)
      cases h1;obtain ⟨l',a,c,h5,h6,h7,h8,rfl,h9⟩:=zqk hx;simp only [zax];simp only at h2;rw [h2] at h5;cases h5;exact yyr h3 h4 hle h7 h8 h9
    . simp only [zgg]
      refine znl hb (he id zz4) ?_;simp only [hnb,cond_true];exact ⟨_,rfl,hle,hk⟩
  . exact h.elim
 | .ptr id off,K,h=>by
  simp only [zgg] at h;obtain ⟨b,hb,h⟩:=zck h;split at h
  . rename_i t cs
    obtain ⟨ys,us,h1,h2,h3,h3'⟩:=ydi h;refine ⟨_,_,h1,(zzg hb).append h2,fun m w R v hkp hx=>?_,rfl,fun H' he K' hk=>?_⟩
    . obtain ⟨b',l,h4,h5,h6,h7⟩:=hkp (id,.ro (.cells t cs)) zz4
      cases h4;simp only [zax] at hx ⊢;obtain ⟨l',h8,h9,rfl⟩:=hx;simp only at h5;rw [h5] at h8;cases h8;obtain ⟨-,arr,h10,h11⟩:=h6;have hpl:=h3 m w R _ (fun e he=>hkp e zz94) h11;refine ⟨l.blk,off,rfl,fun _=>h7 h9,fun k x hk=>?_⟩;rw [zy44] at hk;obtain ⟨v,hv,hp⟩:=hpl.get _ _ hk;exact ⟨v,by rw [cell_of_row w l.blk _ arr t (0,0) h10];simpa using hv,hp⟩
    . simp only [zgg]
      exact znl hb (he id zz4) (h3' H' (fun i hi=>he i zz65) _ hk)
  . exact h.elim
 | .eptr id n i off,K,h=>by
  simp only [zgg] at h;obtain ⟨b,hb,h⟩:=zck h;split at h
  . rename_i t n' rows
    have h2:=zav h;clear h;obtain ⟨hnb,r,h0,hr,hk⟩:=h2;have hnn:=zy4 hnb;subst hnn;refine ⟨_,_,hk,zzg hb,fun m w R v hkp hx=>?_,rfl,fun H' he K' hk=>?_⟩
    . obtain ⟨b',l,h1,h2,h3,h4⟩:=hkp _ (zy23.2 rfl)
      cases h1;simp only [zax] at hx ⊢;obtain ⟨l',h5,h6,rfl⟩:=hx;simp only at h2;rw [h2] at h5;cases h5;refine ⟨l.blk,i*n+off,rfl,fun _=>h4 h6,fun k x hk=>?_⟩;rw [zy44] at hk;obtain ⟨cv,h7,h8⟩:=zjr h3 h6 _ x (zdj h3.2.1 zz91 hk);exact ⟨cv,by rw [<- h7];congr 2;omega,h8⟩
    . simp only [zgg]
      refine znl hb (he id zz4) ?_;simp only [hnb,cond_true];exact ⟨r,h0,hr,hk⟩
  . exact h.elim
 | .mp id,K,h=>by simp only [zgg] at h
 | .agg l,K,h=>by
  exact yy17
 | .tup l,K,h=>by
  exact yy17
 | .clo f l,K,h=>by
  exact yy17
theorem zdz:(xs:List HV)->{K:List HV->List (Nat×zad)->Prop}->zgh H xs K->∃ ys us,K ys us/\xhz H xs ys us
 | [],K,h=>by simp only [zgh] at h;exact ⟨_,_,h,zlg,fun _ _ _ _ _ h=>h,rfl,fun H' _ K' hk=>by simp only [zgh];exact hk⟩
 | x::xs,K,h=>by
  simp only [zgh] at h;obtain ⟨y,u,h1,h2,h3,h3',h3''⟩:=zjp x h;obtain ⟨ys,us,h4,h5,h6,h6',h6''⟩:=zdz xs h1;refine ⟨_,_,h4,h2.append h5,fun m w R vs hk hx=>?_,by simp only [zns,h3',h6',Bool.and_self],fun H' he K' hk=>?_⟩
  . simp only [zaz] at hx ⊢
    obtain ⟨v,r,rfl,h7,h8⟩:=hx;exact ⟨v,r,rfl,h3 m w R v hk.left h7,h6 m w R r hk.right h8⟩
  . simp only [zgh]
    exact h3'' H' (fun i hi=>he i zz76) _ (h6'' H' (fun i hi=>he i zz65) _ hk)
end
theorem xga {us:List (Nat×zad)} (hf:Frz H us) {e:Nat×zad} (he:e∈us):zea H us e.1=e.2:=by
 induction us generalizing H with
 | nil=>cases he
 | cons q a ih =>
  obtain ⟨j,z⟩:=q;have hfu:=Frz.upd (e:=(j,z)) hf;by_cases hm:e∈a
  . exact ih hfu hm
  . rcases zy18.1 he with rfl | he
    . by_cases hj:∃ q∈a,q.1=j
      . obtain ⟨q,hq,hqj⟩:=hj
        obtain ⟨b,hb,hb2⟩:=hfu q hq;simp only at hb;rw [hqj,zba] at hb;obtain ⟨c,_,hc⟩:=hf (j,z) zz4;simp only at hc;subst hc;have hbc:c=b:=by rcases hb with hb | hb<;>cases hb;rfl
        subst hbc;have gen:∀ {us:List (Nat×zad)} {H:Nat->zad},Frz H us->H j=.ro c->zea H us j=.ro c:=by
         intro us
         induction us with
         | nil=>intro H _ h;exact h
         | cons p us ih2 =>
          intro H hf h;obtain ⟨k,y⟩:=p;refine ih2 (H:=upd H k y) (Frz.upd (e:=(k,y)) hf) ?_;by_cases hk:j=k
          . subst hk
            obtain ⟨d,hd,hd2⟩:=hf (j,y) zz4;simp only at hd hd2;rw [h] at hd;rcases hd with hd | hd<;>cases hd
            rw [zba];exact hd2
          . rw [zbd _ _ hk];exact h
        exact gen (us:=a) (H:=upd H j (.ro c)) hfu (zba _ _ _)
      . exact (zqw (H:=upd H j z) (us:=a) fun q hq h=>hj ⟨q,hq,h⟩).trans (zba _ _ _)
    . exact absurd he hm
theorem WS.kept {us:List (Nat×zad)} (hf:Frz H us) (hok:zbc Γ m (zea H us) w):Kept m w (RR Γ m (zea H us) w) us:=by
 intro e he;obtain ⟨b,_,hb⟩:=hf e he;obtain ⟨l,h1,h2,h3⟩:=hok.ro e.1 b (by rw [xga hf he,hb]);exact ⟨b,l,hb,h1,h2,h3⟩
def zxv (tmps:Array Value):ResultVar->Sem Value
 | .tmp t=>pure (tmps.getD t undef)
 | .cell a t=>do loadVar t (<- asAddr (tmps.getD a undef))
theorem yle {s:HS} {a:Act} (hc:zmb Γ P m s a w) {r:ResultVar} {K:HV->Prop} (h:yse P s r K):∃ x v,K x/\zax m w (RR Γ m s.heap w) x v/\(zxv a.tmps r).run P w=.ok v w:=by
 cases r with
 | tmp t =>
  simp only [yse,force_eq] at h;exact ⟨_,_,h,hc.slots t,by simp [zxv]⟩
 | cell x t =>
  simp only [yse] at h;obtain ⟨td,u,i,z,ht,h⟩:=zeo h;split at h
  . rename_i id off hx
    have hrep:=hc.slots x;rw [hx] at hrep;simp only [zax] at hrep;obtain ⟨l,hl,hn,hv⟩:=hrep;obtain ⟨b,hb,h⟩:=zck h;obtain ⟨l',hl',hbr⟩:=hc.heap.blk hb;rw [hl] at hl';cases hl';split at h
    . rename_i t' cs
      obtain ⟨_,arr,harr,hrl⟩:=hbr;obtain ⟨y,us,hk,hus,huc,hrep⟩:=zot hrl h;refine ⟨_,_,hk,hrep,?_⟩;have:=run_read (P:=P) ht (b:=l.blk) (o:=off) (cs:=us) (w:=w) (fun k v hkv=>by rw [cell_of_row w l.blk _ arr t' (0,0) harr];simpa using huc k v hkv) hus;simp only [Instr.loadAt,Instr.sureAddr] at this;simp only [zxv,hv,asAddr];exact this
    . exact h.elim
  . exact h.elim
theorem ylf {s:HS} {a:Act} (hc:zmb Γ P m s a w):∀ {rs:List ResultVar} {K:List HV->Prop},yxj P s rs K->∃ xs vs,K xs/\zaz m w (RR Γ m s.heap w) xs vs/\xs.length=rs.length/\(rs.mapM (zxv a.tmps)).run P w=.ok vs w
 | [],K,h=>⟨[],[],h,by simp only [zaz],rfl,by simp [Sem.run]⟩
 | r::rs,K,h=>by
  simp only [yxj] at h;obtain ⟨x,v,h1,h2,h3⟩:=yle hc h;obtain ⟨xs,vs,h4,h5,h6,h7⟩:=ylf hc h1;refine ⟨_,v::vs,h4,by simp only [zaz];exact ⟨v,vs,rfl,h2,h5⟩,by simp [h6],?_⟩;simp only [List.mapM_cons,Sem.run_bind,h3,Result.andThen_ok,h7,Sem.run_pure]
theorem xdi {s:HS} {a:Act} (hc:zmb Γ P m s a w) {fn:Func} {K:HV->Prop} (h:xaq P s fn.results.toList K):∃ x v,K x/\zax m w (RR Γ m s.heap w) x v/\(results fn a.tmps).run P w=.ok v w:=by
 have hre:results fn a.tmps=(do
  let vs <- fn.results.mapM (zxv a.tmps)
  pure (if h:vs.size=1 then vs[0] else .tuple vs)):=by
  unfold results;congr 1
 have zeb:∀ {vs:List Value},(fn.results.toList.mapM (zxv a.tmps)).run P w=.ok vs w->(results fn a.tmps).run P w=.ok (if h:vs.toArray.size=1 then vs.toArray[0] else .tuple vs.toArray) w:=by
  intro vs hv;rw [hre,Array.mapM_eq_mapM_toList];simp only [Sem.run_bind,Sem.run_map,hv,Result.andThen_ok,Sem.run_pure]
 unfold xaq at h;split at h
 . rename_i r hr
   obtain ⟨x,v,h1,h2,h3⟩:=yle hc h;refine ⟨x,v,h1,h2,?_⟩;have:=zeb (vs:=[v]) (by rw [hr];simp only [List.mapM_cons,List.mapM_nil,Sem.run_bind,h3,Result.andThen_ok,Sem.run_pure])
   simpa using this
 . rename_i rs hn
   obtain ⟨xs,vs,h1,h2,h3,h4⟩:=ylf hc h;refine ⟨_,.tuple vs.toArray,h1,by simp only [zax];exact ⟨_,rfl,by simpa using h2⟩,?_⟩;rw [zeb h4,dif_neg];have hl:=h2.length;intro h5;have h6:fn.results.toList.length=1:=by rw [<- h3,<- hl];simpa using h5
   match hr:fn.results.toList,h6 with
   | [r],_=>exact hn r hr
end
end Go.HL
namespace Go.HL
def zao (P:Program) (f:FuncId) (args:List HV) (H:Nat->zad) (r:HV) (H':Nat->zad):Prop :=
 ∀ (Γ:Ctx) m w vals,zbc Γ m H w->zaz m w (RR Γ m H w) args vals->Γ.m0=m ->
  (callFunc f vals.toArray).run P w=.ok (.enter f vals.toArray) w /\
  Calls P f vals.toArray w fun e w'=>∃ v m',e=.returned v/\zbc Γ m' H' w'/\zax m' w' (RR Γ m' H' w') r v/\∀ id l,pin<=id->m id=some l->m' id=some l
theorem zao.args {P:Program} {f:FuncId} {args args':List HV} {H:Nat->zad} {r:HV} {H':Nat->zad} (hw:∀ (m:zfa) w R vals,zaz m w R args vals->zaz m w R args' vals) (h:zao P f args' H r H'):zao P f args H r H' :=
 fun Γ m w vals hok hx h0=>h Γ m w vals hok (hw _ _ _ _ hx) h0
abbrev zae:Nat->zad:=fun _=>.free
mutual
def yff:HV->Bool
 | .p (.v _)=>true
 | .agg l=>yum l
 | .tup l=>yum l
 | .und=>true
 | _=>false
def yum:List HV->Bool
 | []=>true
 | x::r=>yff x&&yum r
end
def zkw (H:Nat->zad):List Bool->List HV->(List HV->List (Nat×zad)->Prop)->Prop
 | _,[],K=>K [] []
 | [],x::xs,K=>zkw H [] xs fun ys us=>K (x::ys) us
 | true::ms,x::xs,K=>zgg H x fun y u=>zkw H ms xs fun ys us=>K (y::ys) (u++us)
 | false::ms,x::xs,K=>zkw H ms xs fun ys us=>K (x::ys) us
def ren (L:List (Nat×Nat)):Ren:=lkN (L.map fun p=>(p.1,some p.2))
def rnS (σ:Ren):zad->zad
 | .live b=>.live (rnB σ b)
 | .ro b=>.ro (rnB σ b)
 | x=>x
def xej (σ:Ren):zad->Bool
 | .live b=>znr σ b
 | .ro b=>znr σ b
 | .dead=>true
 | .free=>false
structure xin (P:Program) (f:FuncId) (args:List HV) (H:Nat->zad) (r:Res) (args':List HV) (us:List (Nat×zad)):Prop where
 view:zgh H args fun a u=>a=args'/\u=us
 spec:zao P f args' zae r.val zae
 yff:yff r.val=true
 ups:r.ups=[]
 tch:r.tch=us.map (·.1)
structure xim (P:Program) (f:FuncId) (args:List HV) (H:Nat->zad) (r:Res) (us:List (Nat×zad)) (ms:List Bool) (args1:List HV) (B F:List (Nat×Nat)) (args':List HV) (H':Nat->zad) (r':HV) (H'':Nat->zad):Prop where
 mix:zkw H ms args fun a u=>a=args1/\u=us
 spec:zao P f args' H' r' H''
 argsOk:zns (ren B) args'=true
 args:rnL (ren B) args'=args1
 dom:∀ i,H' i=.free\/∃ p∈B,p.1=i
 has:∀ p∈B,pin<=p.1/\∃ b,znr (ren B) b=true/\((H' p.1=.live b/\zea H us p.2=.live (rnB (ren B) b))\/(H' p.1=.ro b/\zea H us p.2=.ro (rnB (ren B) b)))
 ndB:(B.map (·.1)).Nodup
 ndB2:(B.map (·.2)).Nodup
 new:∀ p∈F,p.1<pin/\H p.2=.free
 ndF:(F.map (·.1)).Nodup
 ndF2:(F.map (·.2)).Nodup
 after:∀ p∈B++F,xej (ren (B++F)) (H'' p.1)=true
 valOk:zih (ren (B++F)) r'=true
 val:r.val=rn (ren (B++F)) r'
 ups:r.ups=us++(B++F).map fun p=>(p.2,rnS (ren (B++F)) (H'' p.1))
structure Ov (P:Program) (f:FuncId) (args:List HV) (H:Nat->zad) (r:Res):Prop where
 out : ∃ fn e i x y i1 i2 b1 b2, P.funcs[f]? = some fn /\ fn.body = none /\ fn.name ≠ "runtime.NumGoroutine" /\ Extern.findNext fn = none /\
  Extern.find fn=some (Extern.SlicesOverlaps.overlaps fn.params fn.resultTypes)/\(∃ t,fn.params[0]?=some t/\P.underlying t=some (.slice e))/\P.info? e=some i/\0<i.size /\
  args=[x,y]/\(x=.own i1\/∃ n o l,x=.osl i1 n o l)/\(y=.own i2\/∃ n o l,y=.osl i2 n o l)/\i1≠i2/\H i1=.live b1/\H i2=.live b2/\((∀ t cs,b1≠.cells t cs)/\(∀ k a es,b1≠.map k a es)/\∀ k a es x,b1≠.iter k a es x)/\((∀ t cs,b2≠.cells t cs)/\(∀ k a es,b2≠.map k a es)/\∀ k a es x,b2≠.iter k a es x)/\r=⟨zbk false,[],[i1,i2]⟩
inductive CR (P:Program):zbg
 | lend {f:FuncId} {args:List HV} {H:Nat->zad} {d:Nat} {r:Res} {args':List HV} {us:List (Nat×zad)} (h:xin P f args H r args' us):CR P f args H d r
 | zie {f:FuncId} {args:List HV} {H:Nat->zad} {d:Nat} {r:Res} {us:List (Nat×zad)} {ms:List Bool} {args1:List HV} {B F:List (Nat×Nat)} {args':List HV} {H':Nat->zad} {r':HV} {H'':Nat->zad}
  (h:xim P f args H r us ms args1 B F args' H' r' H''):CR P f args H d r
 | ov {f:FuncId} {args:List HV} {H:Nat->zad} {d:Nat} {r:Res} (h:Ov P f args H r):CR P f args H d r
structure xia (H:Nat->zad) (ms:List Bool) (x y:List HV) (us:List (Nat×zad)):Prop where
 frz:Frz H us
 rep:∀ m w R v,Kept m w R us->zaz m w R x v->zaz m w R y v
 loc:∀ H',(∀ id∈us.map (·.1),H' id=H id)->∀ K':List HV->List (Nat×zad)->Prop,K' y us->zkw H' ms x K'
section
variable {Γ:Ctx} {P:Program} {m:zfa} {H:Nat->zad} {w:World} {R:Nat->Prop}
theorem zhk:∀ (ms:List Bool) (xs:List HV) {K:List HV->List (Nat×zad)->Prop},zkw H ms xs K->∃ ys us,K ys us/\xia H ms xs ys us
 | ms,[],K,h=>⟨[],[],by cases ms<;>simpa only [zkw] using h,zlg,fun _ _ _ _ _ h=>h,fun H' _ K' hk=>by cases ms<;>simpa only [zkw] using hk⟩
 | [],x::xs,K,h=>by
  simp only [zkw] at h;obtain ⟨ys,us,h4,h5,h6,h7⟩:=zhk [] xs h;exact yy60
 | false::ms,x::xs,K,h=>by
  simp only [zkw] at h;obtain ⟨ys,us,h4,h5,h6,h7⟩:=zhk ms xs h;exact yy60
 | true::ms,x::xs,K,h=>by
  simp only [zkw] at h;obtain ⟨y,u,h1,hv⟩:=zjp x h;obtain ⟨ys,us,h4,h5,h6,h7⟩:=zhk ms xs h1;refine ⟨_,_,h4,hv.frz.append h5,fun m w R vs hk hx=>?_,fun H' he K' hk=>?_⟩
  . simp only [zaz] at hx ⊢
    obtain ⟨v,r,rfl,h7,h8⟩:=hx;exact ⟨v,r,rfl,hv.rep m w R v hk.left h7,h6 m w R r hk.right h8⟩
  . simp only [zkw]
    exact hv.loc H' (fun i hi=>he i zz76) _ (h7 H' (fun i hi=>he i zz65) _ hk)
theorem ypw {H':Nat->zad}:∀ {us:List (Nat×zad)} {H:Nat->zad} {i:Nat},(H' i=H i\/i∈us.map (·.1))->zea H' us i=zea H us i
 | [],H,i,h=>(h.resolve_right zz4:H' i=H i)
 | (j,b)::us,H,i,h=>by
  simp only [zea];have gen:∀ {us:List (Nat×zad)} {A B:Nat->zad} {i:Nat},(A i=B i\/i∈us.map (·.1))->zea A us i=zea B us i:=by
   intro us
   induction us with
   | nil=>intro A B i h;exact (h.resolve_right zz4:A i=B i)
   | cons p us ih =>
    intro A B i h;obtain ⟨k,c⟩:=p;refine ih (A:=upd A k c) (B:=upd B k c) ?_;by_cases hk:i=k
    . subst hk;left;rw [zba,zba]
    . rcases h with h | h
      . left;rw [zbd _ _ hk,zbd _ _ hk];exact h
      . simp only [zy24,zy18] at h
        rcases h with h | h
        . exact absurd h hk
        . exact .inr h
  refine gen ?_;by_cases hk:i=j
  . subst hk;left;rw [zba,zba]
  . rcases h with h | h
    . left;rw [zbd _ _ hk,zbd _ _ hk];exact h
    . simp only [zy24,zy18] at h
      rcases h with h | h
      . exact absurd h hk
      . exact .inr h
theorem ywd:zgw (CR P):=by
 intro f args H H' d r h _ hd hu;cases h with
 | lend h =>
  rename_i args' us;obtain ⟨h1,h2,h3,h4,h5⟩:=h;obtain ⟨a,u,⟨rfl,rfl⟩,hv⟩:=zdz _ h1;exact .lend ⟨hv.loc H' (fun i hi=>hu i (by rw [h5];simp only [zy17];exact .inl hi)) _ ⟨rfl,rfl⟩,h2,h3,h4,h5⟩
 | zie h =>
  rename_i us ms args1 B F args' H1 r' H2;obtain ⟨a,u,⟨rfl,rfl⟩,hv⟩:=zhk _ _ h.mix;have hups:∀ i,i∈u.map (·.1)\/i∈(B++F).map (·.2)->H' i=H i:=by
   intro i hi;refine hu i ?_;rw [h.ups];simp only [zy36,zy17,zy95] at hi ⊢;rcases hi with hi | hi
   . exact .inr (.inl hi)
   . refine .inr (.inr ?_)
     rcases hi with hi | hi
     . exact .inl hi
     . exact .inr hi
  refine .zie ⟨hv.loc H' (fun i hi=>hups i (.inl hi)) _ ⟨rfl,rfl⟩,h.spec,h.argsOk,h.args,h.dom,fun p hp=>?_,h.ndB,h.ndB2,fun p hp=>⟨(h.new p hp).1,?_⟩,h.ndF,h.ndF2,h.after,h.valOk,h.val,h.ups⟩
  . rw [ypw (H:=H) (.inl (hups p.2 (.inr (by simp;exact .inl ⟨_,hp⟩))))]
    exact h.has p hp
  . rw [hups p.2 (.inr (by simp;exact .inr ⟨_,hp⟩))]
    exact (h.new p hp).2
 | ov h =>
  obtain ⟨fn,e,i,x,y,i1,i2,b1,b2,h1,h2,h3,h4,h5,h6,h7,h8,h9,h10,h11,h12,h13,h14,h15,h16,rfl⟩:=h.out;exact .ov ⟨fn,e,i,x,y,i1,i2,b1,b2,h1,h2,h3,h4,h5,h6,h7,h8,h9,h10,h11,h12,(hu i1 zz4).trans h13,(hu i2 zz4).trans h14,h15,h16,rfl⟩
theorem yue {L:List (Nat×Nat)} {i:Nat} {o:Option Nat} (h:ren L i=some o):∃ j,o=some j/\(i,j)∈L:=by
 unfold ren at h
 induction L with
 | nil=>cases h
 | cons p L ih =>
  obtain ⟨a,b⟩:=p;simp only [zy24,lkN] at h;cases hb:Nat.beq i a with
  | true =>
   rw [hb] at h;cases h;have:=zy4 hb;subst this;exact ⟨b,rfl,by simp⟩
  | false =>
   rw [hb] at h;obtain ⟨j,h1,h2⟩:=ih h;exact ⟨j,h1,by simp [h2]⟩
theorem xei {L:List (Nat×Nat)} {i j:Nat} (hn:(L.map (·.1)).Nodup) (h:(i,j)∈L):ren L i=some (some j):=by
 unfold ren
 induction L with
 | nil=>cases h
 | cons p L ih =>
  obtain ⟨a,b⟩:=p;simp only [zy24,zy126] at hn;simp only [zy24,lkN];rcases zy18.1 h with h | h
  . cases h
    simp
  . have:i≠a:=fun e=>hn.1 (zy28.2 ⟨(i,j),h,e⟩)
    have hb:Nat.beq i a=false:=by
     cases hb:Nat.beq i a with
     | false=>rfl
     | true=>exact absurd (zy4 hb) this
    rw [hb];exact ih hn.2 h
mutual
theorem xbe {m':zfa} {σ:Ren} {R':Nat->Prop} (hm:∀ i o,σ i=some o->∃ j,o=some j/\m' j=m i) (hR:∀ b,R b->R' b):(x:HV)->(v:Value)->zih σ x=true->zax m w R x v->zax m' w R' (rn σ x) v
 | .p x,v,_,h=>by simp only [rn,zax] at h ⊢;exact h.sub hR
 | .ptr i o,v,ho,h=>by
  exact yy22
 | .eptr i n k o,v,ho,h=>by
  exact yy22
 | .rp c,v,_,h=>by
  exact yy73
 | .own i,v,ho,h=>by
  simp only [zih] at ho;split at ho
  . rename_i o hj
    obtain ⟨j',rfl,hmj⟩:=hm i _ hj;simp only [rn,hj,zax] at h ⊢;obtain ⟨l,h1,h2⟩:=h;exact ⟨l,by rw [hmj];exact h1,h2⟩
  . cases ho
 | .osl i n o len,v,ho,h=>by
  simp only [zih] at ho;split at ho
  . rename_i j hj
    obtain ⟨j',hj',hmj⟩:=hm i _ hj;cases hj';simp only [rn,hj,zax] at h ⊢;obtain ⟨l,a,h1,h2⟩:=h;exact ⟨l,a,by rw [hmj];exact h1,h2⟩
  . cases ho
 | .mp i,v,ho,h=>by
  exact yy22
 | .agg l,v,ho,h=>by
  exact yy50
 | .tup l,v,ho,h=>by
  exact yy50
 | .clo f l,v,ho,h=>by
  exact yy50
 | .und,v,_,h=>by simp only [rn,zax] at h ⊢;exact h
 | .any,v,_,h=>by simp only [rn,zax]
theorem zuw {m':zfa} {σ:Ren} {R':Nat->Prop} (hm:∀ i o,σ i=some o->∃ j,o=some j/\m' j=m i) (hR:∀ b,R b->R' b):(x:List HV)->(v:List Value)->zns σ x=true->zaz m w R x v->zaz m' w R' (rnL σ x) v
 | [],v,_,h=>by simp only [rnL,zaz] at h ⊢;exact h
 | x::xs,v,ho,h=>by
  simp only [zns,zy13] at ho;simp only [rnL,zaz] at h ⊢;obtain ⟨a,r,h1,h2,h3⟩:=h;exact ⟨a,r,h1,xbe hm hR x a ho.1 h2,zuw hm hR xs r ho.2 h3⟩
end
theorem yug {m':zfa} {σ:Ren} {R':Nat->Prop} (hm:∀ i o,σ i=some o->∃ j,o=some j/\m' j=m i) (hR:∀ b,R b->R' b) {l:Loc} {b:zia} (ho:znr σ b=true) (h:zmx m w R l b):zmx m' w R' l (rnB σ b):=by
 cases b with
 | cells t cs =>
  obtain ⟨h1,arr,h2,h3⟩:=h;rw [<- zqq (σ:=σ) cs] at h1;exact ⟨h1,arr,h2,zuw hm hR _ _ ho h3⟩
 | map kc agg es =>
  obtain ⟨h1,arr,c,h2,h3,h4⟩:=h;exact ⟨h1,arr,c,h2,h3.mono fun b hb=>⟨rfl,hR b hb⟩,h4⟩
 | iter kc agg left cur =>
  obtain ⟨h1,bm,arr,c,seen,h2,h3⟩:=h;exact ⟨h1,bm,arr,c,seen,h2,h3.mono fun b hb=>⟨rfl,hR b hb⟩⟩
 | row t n rows =>
  exact yy55
 | buf t n rows c =>
  exact yy79
mutual
theorem yan:(x:HV)->zih zqg x=true->rn zqg x=x
 | .p _,_=>rfl
 | .rp _,_=>rfl
 | .und,_=>rfl
 | .any,_=>rfl
 | .ptr _ _,h=>by simp [zih] at h
 | .eptr _ _ _ _,h=>by simp [zih] at h
 | .own _,h=>by simp [zih] at h
 | .osl _ _ _ _,h=>by simp [zih] at h
 | .mp _,h=>by simp [zih] at h
 | .agg l,h=>by simp only [zih] at h;simp only [rn,ziv l h]
 | .tup l,h=>by simp only [zih] at h;simp only [rn,ziv l h]
 | .clo f l,h=>by simp only [zih] at h;simp only [rn,ziv l h]
theorem ziv:(x:List HV)->zns zqg x=true->rnL zqg x=x
 | [],_=>rfl
 | x::xs,h=>by
  simp only [zns,zy13] at h;simp only [rnL,yan x h.1,ziv xs h.2]
end
mutual
theorem ymp {m':zfa} {w':World} {R':Nat->Prop}:(x:HV)->(v:Value)->yff x=true->zax m w R x v->zax m' w' R' x v
 | .p (.v x),v,_,h=>by simp only [zax] at h ⊢;cases h with | v _ h=>exact .v _ h
 | .p (.sl _ _),v,hs,h=>by simp [yff] at hs
 | .rp _,v,hs,h=>by simp [yff] at hs
 | .und,v,hs,h=>by simp only [zax] at h ⊢;exact h
 | .any,v,hs,h=>by simp [yff] at hs
 | .ptr _ _,v,hs,h=>by simp [yff] at hs
 | .eptr _ _ _ _,v,hs,h=>by simp [yff] at hs
 | .own _,v,hs,h=>by simp [yff] at hs
 | .osl _ _ _ _,v,hs,h=>by simp [yff] at hs
 | .mp _,v,hs,h=>by simp [yff] at hs
 | .agg l,v,hs,h=>by
  exact yy100
 | .tup l,v,hs,h=>by
  exact yy100
 | .clo _ _,v,hs,h=>by simp [yff] at hs
theorem zuz {m':zfa} {w':World} {R':Nat->Prop}:(x:List HV)->(v:List Value)->yum x=true->zaz m w R x v->zaz m' w' R' x v
 | [],v,_,h=>by simp only [zaz] at h ⊢;exact h
 | x::xs,v,hs,h=>by
  simp only [yum,zy13] at hs;simp only [zaz] at h ⊢;obtain ⟨a,r,h1,h2,h3⟩:=h;exact ⟨a,r,h1,ymp x a hs.1 h2,zuz xs r hs.2 h3⟩
end
theorem zbc.grow (hok:zbc Γ m H w) {w':World} (hs:w.heap.size<=w'.heap.size) (hh:∀ b,b<w.heap.size->w'.heap[b]?=w.heap[b]?) (ho:w'.os=w.os) (ht:w'.tape=w.tape) (hp:w'.output=w.output) :
 WS Γ H m w H m w':=by
 have hR:∀ b,RR Γ m H w b->w'.heap[b]?=w.heap[b]?/\RR Γ m H w' b:=fun b hb=>⟨hh b hb.2.1,hb.1,zy97 hb.2.1 hs,hb.2.2⟩
 refine ⟨.refl m,⟨zy109 hok.size hs,ho.trans hok.os,ht.trans hok.tape,hp.trans hok.output,fun b hb hn=>(hh b (zy97 hb hok.size)).trans (hok.frame b hb hn),hok.free,fun id b hb=>?_,fun id b hb=>?_,hok.inj,hok.dom⟩,hR⟩
 . obtain ⟨l,h1,h2,h3⟩:=hok.live id b hb
   exact ⟨l,h1,h2.mono (.refl m) hR fun hn=>hh _ (h3 hn).2,fun hn=>⟨(h3 hn).1,zy97 (h3 hn).2 hs⟩⟩
 . obtain ⟨l,h1,h2,h3⟩:=hok.ro id b hb
   exact ⟨l,h1,h2.mono (.refl m) hR fun hn=>(hR _ (h3 hn)).1,fun hn=>(hR _ (h3 hn)).2⟩
theorem yac {m:zfa} {b:Nat}:¬ znz m zae b:=by rintro ⟨id,l,blk,h,_⟩;cases h
theorem yoh {f:FuncId} {args:List HV} {r:Res} {args':List HV} {us:List (Nat×zad)} (h:xin P f args H r args' us) {vals:List Value} (hok:zbc Γ m H w) (hargs:zaz m w (RR Γ m H w) args vals) :
 (callFunc f vals.toArray).run P w=.ok (.enter f vals.toArray) w /\
 Calls P f vals.toArray w fun e w'=>∃ v m',e=.returned v/\WS Γ H m w (zea H r.ups) m' w'/\zax m' w' (RR Γ m' (zea H r.ups) w') r.val v:=by
 obtain ⟨h1,h2,h3,h4,h5⟩:=h;obtain ⟨a,u,⟨rfl,rfl⟩,hv⟩:=zdz _ h1;have hRs:∀ b,RR Γ m H w b->w.heap[b]?=w.heap[b]?/\b<w.heap.size:=fun b hb=>⟨rfl,hb.2.1⟩
 have hkept:Kept m w (fun b=>b<w.heap.size) u:=by
  intro e he;obtain ⟨b,hb,hb2⟩:=hv.frz e he;rcases hb with hb | hb
  . obtain ⟨l,h1,h2,h3⟩:=hok.live _ _ hb
    exact ⟨b,l,hb2,h1,h2.mono (.refl m) hRs fun _=>rfl,fun hn=>(h3 hn).2⟩
  . obtain ⟨l,h1,h2,h3⟩:=hok.ro _ _ hb
    exact ⟨b,l,hb2,h1,h2.mono (.refl m) hRs fun _=>rfl,fun hn=>(h3 hn).2.1⟩
 have hargs':=hv.rep m w _ vals hkept (zaz.mono (.refl m) hRs _ _ hargs)
 let Γc:Ctx:=⟨fun _=>True,w,fun _=>False,fun _=>none⟩
 have hokc:zbc Γc (fun _=>none) zae w:=⟨zy22 _,rfl,rfl,rfl,fun _ _ _=>rfl,fun _ _=>rfl,(fun id b hb=>by cases hb),(fun id b hb=>by cases hb),(fun id id' b b' l l' hb=>by cases hb),fun b hb=>hb.elim⟩
 have hrep:zaz (fun _=>none) w (RR Γc (fun _=>none) zae w) a vals:=by
  refine znq (σ:=zqg) (m:=m) (R:=fun b=>b<w.heap.size) (fun i j hj=>by cases hj) (fun i hj=>by cases hj) (fun b hb=>⟨.inl trivial,hb,yac⟩) a vals hv.noid ?_;rw [ziv a hv.noid];exact hargs'
 obtain ⟨hcf,hcalls⟩:=h2 Γc _ w vals hokc hrep rfl;refine ⟨hcf,hcalls.mono fun e w' he=>?_⟩;obtain ⟨v,m',rfl,hok',hv',_⟩:=he;have hws:=hok.grow (w':=w') hok'.size (fun b hb=>hok'.frame b hb (fun h=>h)) hok'.os hok'.tape hok'.output;refine ⟨v,m,rfl,by rw [h4];exact hws,by rw [h4];exact ymp _ _ h3 hv'⟩
end
end Go.HL
namespace Go.HL
section
variable {Γ:Ctx} {P:Program} {m:zfa} {H:Nat->zad} {w:World} {R:Nat->Prop}
theorem zum {α β:Type} {f:α->β}:∀ {L:List α},(L.map f).Nodup->∀ {p q:α},p∈L->q∈L->f p=f q->p=q
 | [],_,_,_,hp,_,_=>by cases hp
 | z::L,hn,p,q,hp,hq,he=>by
  simp only [zy24,zy126] at hn;cases hp with
  | head=>cases hq with
   | head=>rfl
   | tail _ hq=>exact (hn.1 (zy28.2 ⟨q,hq,he.symm⟩)).elim
  | tail _ hp=>cases hq with
   | head=>exact (hn.1 (zy28.2 ⟨p,hp,he⟩)).elim
   | tail _ hq=>exact zum hn.2 hp hq he
theorem xfc {L:List (Nat×Nat)} {g:Nat->zad} {H:Nat->zad} (hn:(L.map (·.2)).Nodup) {p:Nat×Nat} (hp:p∈L):zea H (L.map fun p=>(p.2,g p.1)) p.2=g p.1:=by
 induction L generalizing H with
 | nil=>cases hp
 | cons q L ih =>
  simp only [zy24,zy126] at hn;simp only [zy24,zea];rcases zy18.1 hp with rfl | hp
  . rw [zpj,zba]
    intro h;simp only [zy95,zy28,Function.comp] at h;obtain ⟨q,hq,he⟩:=h;exact hn.1 (zy28.2 ⟨q,hq,he⟩)
  . exact ih hn.2 hp
theorem xfd {L:List (Nat×Nat)} {g:Nat->zad} {H:Nat->zad} {i:Nat} (hi:i∉L.map (·.2)):zea H (L.map fun p=>(p.2,g p.1)) i=H i:=by
 refine zpj fun h=>hi ?_
 simp only [zy95,zy28,Function.comp] at h ⊢;exact h
theorem ynt {f:FuncId} {args:List HV} {r:Res} {us:List (Nat×zad)} {ms:List Bool} {args1:List HV} {B F:List (Nat×Nat)} {args':List HV} {H':Nat->zad} {r':HV} {H'':Nat->zad}
 (h:xim P f args H r us ms args1 B F args' H' r' H'') {vals:List Value} (hok0:zbc Γ m H w) (hargs0:zaz m w (RR Γ m H w) args vals) :
 (callFunc f vals.toArray).run P w=.ok (.enter f vals.toArray) w /\
 Calls P f vals.toArray w fun e w'=>∃ v m',e=.returned v/\WS Γ H m w (zea H r.ups) m' w'/\zax m' w' (RR Γ m' (zea H r.ups) w') r.val v:=by
 obtain ⟨a,u,⟨rfl,rfl⟩,hv⟩:=zhk _ _ h.mix;have hws0:=WS.frz hok0 hv.frz;have hok:=hws0.ok;have hargs1:zaz m w (RR Γ m (zea H u) w) a vals:=hv.rep m w _ vals (WS.kept hv.frz hok) (hws0.repL hargs0);have hhas:=h.has;have hnewH:∀ p∈F,zea H u p.2=.free:=by
  intro p hp;rw [zpj]
  . exact (h.new p hp).2
  . intro hm
    obtain ⟨e,he,hee⟩:=zy28.1 hm;obtain ⟨b,hb,-⟩:=hv.frz e he;rw [hee,(h.new p hp).2] at hb;rcases hb with hb | hb<;>cases hb
 have hups:zea H r.ups=zea (zea H u) ((B++F).map fun p=>(p.2,rnS (ren (B++F)) (H'' p.1))):=by rw [h.ups,znx]
 generalize hH1:zea H u=H1 at hok hargs1 hws0 hhas hnewH hups
 let σ:=ren B
 let σ2:=ren (B++F)
 have hBF1:((B++F).map (·.1)).Nodup:=by
  rw [zy36];refine List.nodup_append.2 ⟨h.ndB,h.ndF,fun x hx y hy=>?_⟩;obtain ⟨p,hp,rfl⟩:=zy28.1 hx;obtain ⟨q,hq,rfl⟩:=zy28.1 hy;have:=(hhas p hp).1;have:=(h.new q hq).1;omega
 have hBne:∀ p∈B,H1 p.2≠.free/\H' p.1≠.free:=by
  intro p hp;obtain ⟨-,b,-,⟨h1,h2⟩ | ⟨h1,h2⟩⟩:=hhas p hp
  . rw [h1,h2];exact ⟨zad.noConfusion,zad.noConfusion⟩
  . rw [h1,h2];exact ⟨zad.noConfusion,zad.noConfusion⟩
 have hBF2:((B++F).map (·.2)).Nodup:=by
  rw [zy36];refine List.nodup_append.2 ⟨h.ndB2,h.ndF2,fun x hx y hy=>?_⟩;obtain ⟨p,hp,rfl⟩:=zy28.1 hx;obtain ⟨q,hq,rfl⟩:=zy28.1 hy;intro he;exact (hBne p hp).1 (by rw [he];exact hnewH q hq)
 have hσ:∀ i o,σ i=some o->∃ j,o=some j/\(i,j)∈B:=fun i o ho=>yue ho
 have hσget:∀ p∈B,σ p.1=some (some p.2):=fun p hp=>xei h.ndB hp
 have hσ2:∀ i o,σ2 i=some o->∃ j,o=some j/\(i,j)∈B++F:=fun i o ho=>yue ho
 -- the callee's own names
 let mc:zfa:=zha σ m
 have hmc:∀ p∈B,mc p.1=m p.2:=fun p hp=>by simp only [mc,zha,hσget p hp]
 let own:Nat->Prop:=fun b=>znz mc H' b
 let Γc:Ctx:=⟨fun b=>RR Γ m H1 w b\/own b,w,own,mc⟩
 have hownB:∀ b,own b->∃ p∈B,∃ blk l,H1 p.2=.live blk/\m p.2=some l/\l.nil=false/\l.blk=b:=by
  rintro b ⟨id,l,blk,h1,h2,h3,h4⟩;rcases h.dom id with hf | ⟨p,hp,rfl⟩
  . rw [hf] at h1;cases h1
  . obtain ⟨-,b',-,⟨h5,h6⟩ | ⟨h5,h6⟩⟩:=hhas p hp
    . exact ⟨p,hp,_,l,h6,by rw [<- hmc p hp];exact h2,h3,h4⟩
    . rw [h5] at h1;cases h1
 have hown1:∀ b,own b->znz m H1 b:=fun b hb=>let ⟨p,_,blk,l,h1,h2,h3,h4⟩:=hownB b hb;⟨p.2,l,blk,h1,h2,h3,h4⟩
 have hownd:∀ b,own b->(Γ.own0 b\/Γ.w0.heap.size<=b)/\b<w.heap.size:=by
  intro b hb;obtain ⟨p,_,blk,l,h1,h2,h3,h4⟩:=hownB b hb;obtain ⟨l',h5,_,h6⟩:=hok.live _ _ h1;rw [h2] at h5;cases h5;rw [<- h4];exact h6 h3
 have hRc:∀ b,RR Γ m H1 w b->RR Γc mc H' w b:=fun b hb=>⟨.inl (.inl hb),hb.2.1,fun ho=>hb.2.2 (hown1 b ho)⟩
 have hmσ:∀ i j,σ i=some (some j)->mc i=m j:=fun i j hj=>by simp only [mc,zha,hj]
 have hnσ:∀ i,σ i=some none->mc i=some ⟨0,0,0,true⟩:=fun i hj=>by simp only [mc,zha,hj]
 have hokc:zbc Γc mc H' w:=by
  refine ⟨zy22 _,rfl,rfl,rfl,fun _ _ _=>rfl,?_,?_,?_,?_,fun b hb=>.inr hb⟩
  . intro id hf
    cases hs:σ id with
    | none=>simp only [mc,zha,hs]
    | some o =>
     obtain ⟨j,rfl,hj⟩:=hσ id o hs;exact absurd hf (hBne _ hj).2
  . intro id b hb
    rcases h.dom id with hf | ⟨p,hp,rfl⟩
    . rw [hf] at hb;cases hb
    . obtain ⟨-,b',hbo,⟨h5,h6⟩ | ⟨h5,h6⟩⟩:=hhas p hp
      . rw [hb] at h5;cases h5
        obtain ⟨l,h7,h8,h9⟩:=hok.live _ _ h6;have hl:mc p.1=some l:=by rw [hmc p hp];exact h7
        exact ⟨l,hl,zuv hmσ hnσ hRc hbo h8,fun hn=>⟨.inl ⟨p.1,l,b,hb,hl,hn,rfl⟩,(h9 hn).2⟩⟩
      . rw [hb] at h5;cases h5
  . intro id b hb
    rcases h.dom id with hf | ⟨p,hp,rfl⟩
    . rw [hf] at hb;cases hb
    . obtain ⟨-,b',hbo,⟨h5,h6⟩ | ⟨h5,h6⟩⟩:=hhas p hp
      . rw [hb] at h5;cases h5
      . rw [hb] at h5;cases h5
        obtain ⟨l,h7,h8,h9⟩:=hok.ro _ _ h6;have hl:mc p.1=some l:=by rw [hmc p hp];exact h7
        exact ⟨l,hl,zuv hmσ hnσ hRc hbo h8,fun hn=>hRc _ (h9 hn)⟩
  . intro id id' b b' l l' h1 h2 h3 h4 h5 h6 h7
    rcases h.dom id with hf | ⟨p,hp,rfl⟩
    . rw [hf] at h1;cases h1
    rcases h.dom id' with hf | ⟨q,hq,rfl⟩
    . rw [hf] at h2;cases h2
    rw [hmc p hp] at h3;rw [hmc q hq] at h4;have hp1:∃ blk,H1 p.2=.live blk:=by
     obtain ⟨-,b',-,⟨h8,h9⟩ | ⟨h8,h9⟩⟩:=hhas p hp
     . exact ⟨_,h9⟩
     . rw [h1] at h8;cases h8
    have hq1:∃ blk,H1 q.2=.live blk:=by
     obtain ⟨-,b',-,⟨h8,h9⟩ | ⟨h8,h9⟩⟩:=hhas q hq
     . exact ⟨_,h9⟩
     . rw [h2] at h8;cases h8
    obtain ⟨bp,hp1⟩:=hp1;obtain ⟨bq,hq1⟩:=hq1;have heq:=hok.inj _ _ _ _ _ _ hp1 hq1 h3 h4 h5 h6 h7
    -- names are other ones as the caller's are
    exact congrArg Prod.fst (zum h.ndB2 hp hq heq)
 have hrepc:zaz mc w (RR Γc mc H' w) args' vals:=by
  refine znq hmσ hnσ hRc args' vals h.argsOk ?_;rw [h.args];exact hargs1
 obtain ⟨hcf,hcalls⟩:=h.spec Γc mc w vals hokc hrepc rfl;refine ⟨hcf,hcalls.mono fun e w' he=>?_⟩;obtain ⟨v,m2,rfl,hok2,hv2,hpin⟩:=he
 -- the caller's names behind the call
 let L:=B++F
 let m3:zfa:=fun i=>match L.find? fun p=>Nat.beq p.2 i with
  | some p=>m2 p.1
  | none=>m i
 have zpz:∀ p∈L,m3 p.2=m2 p.1:=by
  intro p hp;have:L.find? (fun q=>Nat.beq q.2 p.2)=some p:=by
   have gen:∀ {L:List (Nat×Nat)},(L.map (·.2)).Nodup->p∈L->L.find? (fun q=>Nat.beq q.2 p.2)=some p:=by
    intro L
    induction L with
    | nil=>intro _ hp;cases hp
    | cons z L ih =>
     intro hn hp;simp only [zy24,zy126] at hn;rcases zy18.1 hp with rfl | hp
     . simp
     . have hz:Nat.beq z.2 p.2=false:=by
        cases hb:Nat.beq z.2 p.2 with
        | false=>rfl
        | true=>exact absurd (zy28.2 ⟨p,hp,(zy4 hb).symm⟩) hn.1
       rw [List.find?_cons,hz];exact ih hn.2 hp
   exact gen hBF2 hp
  simp only [m3,this]
 have hoff:∀ i,i∉L.map (·.2)->m3 i=m i:=by
  intro i hi;have:L.find? (fun q=>Nat.beq q.2 i)=none:=by
   rw [List.find?_eq_none];intro q hq hb;exact hi (zy28.2 ⟨q,hq,zy4 hb⟩)
  simp only [m3,this]
 have hBm:∀ p∈B,∃ l,m p.2=some l:=by
  intro p hp;obtain ⟨-,b',-,⟨h8,h9⟩ | ⟨h8,h9⟩⟩:=hhas p hp
  . obtain ⟨l,h1,_⟩:=hok.live _ _ h9;exact ⟨l,h1⟩
  . obtain ⟨l,h1,_⟩:=hok.ro _ _ h9;exact ⟨l,h1⟩
 have hB2:∀ p∈B,m2 p.1=m p.2:=by
  intro p hp;obtain ⟨l,hl⟩:=hBm p hp;rw [hl];exact hpin p.1 l (hhas p hp).1 (by rw [hmc p hp];exact hl)
 have hext:ybr m m3:=by
  intro i l hl;by_cases hi:i∈L.map (·.2)
  . obtain ⟨p,hp,rfl⟩:=zy28.1 hi
    rw [zpz p hp];rcases zy17.1 hp with hp | hp
    . rw [hB2 p hp];exact hl
    . rw [hok.free _ (hnewH p hp)] at hl;cases hl
  . rw [hoff i hi];exact hl
 rw [hups]
 let H3:=zea H1 ((B++F).map fun p=>(p.2,rnS (ren (B++F)) (H'' p.1)))
 show ∃ v0 m',Ending.returned v=Ending.returned v0/\WS Γ H m w H3 m' w'/\zax m' w' (RR Γ m' H3 w') r.val v0;have hH3in:∀ p∈L,H3 p.2=rnS σ2 (H'' p.1):=fun p hp=>xfc (g:=fun c=>rnS (ren (B++F)) (H'' c)) hBF2 hp
 have hH3off:∀ i,i∉L.map (·.2)->H3 i=H1 i:=fun i hi=>xfd (g:=fun c=>rnS (ren (B++F)) (H'' c)) hi
 have hframe:∀ b,b<w.heap.size->¬ own b->w'.heap[b]?=w.heap[b]?:=fun b hb hn=>hok2.frame b hb hn
 -- who owns what behind it
 have hliveL:∀ p∈L,∀ b3,H3 p.2=.live b3->∃ b2,H'' p.1=.live b2/\b3=rnB σ2 b2:=by
  intro p hp b3 hb;rw [hH3in p hp] at hb;cases hh:H'' p.1<;>rw [hh] at hb<;>simp only [rnS] at hb<;>cases hb
  exact ⟨_,rfl,rfl⟩
 have hlocL:∀ p∈L,∀ b2 l,H'' p.1=.live b2->m2 p.1=some l->l.nil=false->(own l.blk\/w.heap.size<=l.blk)/\l.blk<w'.heap.size:=by
  intro p hp b2 l h1 h2 h3;obtain ⟨l',h4,_,h5⟩:=hok2.live _ _ h1;rw [h2] at h4;cases h4;exact h5 h3
 have hOw3:∀ b,znz m3 H3 b->(∃ i l blk,i∉L.map (·.2)/\H1 i=.live blk/\m i=some l/\l.nil=false/\l.blk=b)\/(znz m2 H'' b/\(own b\/w.heap.size<=b)):=by
  rintro b ⟨i,l,blk,h1,h2,h3,h4⟩;by_cases hi:i∈L.map (·.2)
  . obtain ⟨p,hp,rfl⟩:=zy28.1 hi
    obtain ⟨b2,h5,_⟩:=hliveL p hp _ h1;rw [zpz p hp] at h2
    right
    exact ⟨⟨p.1,l,b2,h5,h2,h3,h4⟩,h4 ▸ (hlocL p hp b2 l h5 h2 h3).1⟩
  . rw [hH3off i hi] at h1
    rw [hoff i hi] at h2;exact .inl ⟨i,l,blk,hi,h1,h2,h3,h4⟩
 have hunt:∀ b i l blk,i∉L.map (·.2)->H1 i=.live blk->m i=some l->l.nil=false->l.blk=b->¬ own b:=by
  intro b i l blk hi h1 h2 h3 h4 ho;obtain ⟨p,hp,bp,lp,h5,h6,h7,h8⟩:=hownB b ho;have:=hok.inj _ _ _ _ _ _ h1 h5 h2 h6 h3 h7 (h4.trans h8.symm);exact hi (this ▸ zy28.2 ⟨p,by simp [L,hp],rfl⟩)
 have hR3:∀ b,RR Γ m H1 w b->w'.heap[b]?=w.heap[b]?/\RR Γ m3 H3 w' b:=by
  intro b hb;have hno:¬ own b:=fun ho=>hb.2.2 (hown1 b ho)
  refine ⟨hframe b hb.2.1 hno,hb.1,zy97 hb.2.1 hok2.size,fun ho=>?_⟩;rcases hOw3 b ho with ⟨i,l,blk,_,h1,h2,h3,h4⟩ | ⟨_,h1 | h1⟩
  . exact hb.2.2 ⟨i,l,blk,h1,h2,h3,h4⟩
  . exact hno h1
  . have:=hb.2.1;omega
 have hR2:∀ b,RR Γc m2 H'' w' b->RR Γ m3 H3 w' b:=by
  intro b ⟨h1,h2,h3⟩;have h1':RR Γ m H1 w b\/own b\/w.heap.size<=b:=by
   rcases h1 with (h1 | h1) | h1
   . exact .inl h1
   . exact .inr (.inl h1)
   . exact .inr (.inr h1)
  rcases h1' with h1 | h1
  . exact (hR3 b h1).2
  . refine ⟨?_,h2,fun ho=>?_⟩
    . rcases h1 with h1 | h1
      . rcases (hownd b h1).1 with h4 | h4
        . exact .inl (hok.dom b h4)
        . exact .inr h4
      . exact .inr (zy109 hok.size h1)
    . rcases hOw3 b ho with ⟨i,l,blk,hi,h4,h5,h6,h7⟩ | ⟨h4,_⟩
      . rcases h1 with h1 | h1
        . exact hunt b i l blk hi h4 h5 h6 h7 h1
        . obtain ⟨l',h8,_,h9⟩:=hok.live _ _ h4
          rw [h5] at h8;cases h8;have:=(h9 h6).2;omega
      . exact h3 h4
 have hm32:∀ i o,σ2 i=some o->∃ j,o=some j/\m3 j=m2 i:=by
  intro i o ho;obtain ⟨j,rfl,hj⟩:=hσ2 i o ho;exact ⟨j,rfl,zpz _ hj⟩
 have hafter:=h.after;have hok3:zbc Γ m3 H3 w':=by
  refine ⟨zy109 hok.size hok2.size,hok2.os.trans hok.os,hok2.tape.trans hok.tape,hok2.output.trans hok.output,?_,?_,?_,?_,?_,hok.dom⟩
  . intro b hb hn
    have hlt:b<w.heap.size:=zy97 hb hok.size;refine (hframe b hlt fun ho=>?_).trans (hok.frame b hb hn);rcases (hownd b ho).1 with h1 | h1
    . exact hn h1
    . omega
  . intro i hf
    by_cases hi:i∈L.map (·.2)
    . obtain ⟨p,hp,rfl⟩:=zy28.1 hi
      rw [hH3in p hp] at hf;have:=hafter p hp;cases hh:H'' p.1<;>rw [hh] at hf this
      . cases this
      all_goals cases hf
    . rw [hH3off i hi] at hf
      rw [hoff i hi];exact hok.free i hf
  . intro i b hb
    by_cases hi:i∈L.map (·.2)
    . obtain ⟨p,hp,rfl⟩:=zy28.1 hi
      obtain ⟨b2,h5,rfl⟩:=hliveL p hp _ hb;obtain ⟨l,h6,h7,h8⟩:=hok2.live _ _ h5;have hb2:znr σ2 b2=true:=by have:=hafter p hp;rw [h5] at this;exact this
      refine ⟨l,by rw [zpz p hp];exact h6,yug hm32 hR2 hb2 h7,fun hn=>⟨?_,(h8 hn).2⟩⟩;rcases (hlocL p hp b2 l h5 h6 hn).1 with h9 | h9
      . exact (hownd _ h9).1
      . exact .inr (zy109 hok.size h9)
    . rw [hH3off i hi] at hb
      obtain ⟨l,h6,h7,h8⟩:=hok.live _ _ hb;refine ⟨l,by rw [hoff i hi];exact h6,h7.mono hext hR3 fun hn=>hframe _ (h8 hn).2 (hunt _ i l b hi hb h6 hn rfl),fun hn=>⟨(h8 hn).1,zy97 (h8 hn).2 hok2.size⟩⟩
  . intro i b hb
    by_cases hi:i∈L.map (·.2)
    . obtain ⟨p,hp,rfl⟩:=zy28.1 hi
      rw [hH3in p hp] at hb;have hok':=hafter p hp;cases hh:H'' p.1<;>rw [hh] at hb hok'<;>simp only [rnS] at hb<;>cases hb
      obtain ⟨l,h6,h7,h8⟩:=hok2.ro _ _ hh;exact ⟨l,by rw [zpz p hp];exact h6,yug hm32 hR2 hok' h7,fun hn=>hR2 _ (h8 hn)⟩
    . rw [hH3off i hi] at hb
      obtain ⟨l,h6,h7,h8⟩:=hok.ro _ _ hb;exact ⟨l,by rw [hoff i hi];exact h6,h7.mono hext hR3 fun hn=>(hR3 _ (h8 hn)).1,fun hn=>(hR3 _ (h8 hn)).2⟩
  . intro i i' b b' l l' h1 h2 h3 h4 h5 h6 h7
    by_cases hi:i∈L.map (·.2)<;>by_cases hi':i'∈L.map (·.2)
    . obtain ⟨p,hp,rfl⟩:=zy28.1 hi
      obtain ⟨q,hq,rfl⟩:=zy28.1 hi';obtain ⟨b2,h8,-⟩:=hliveL p hp _ h1;obtain ⟨b2',h9,-⟩:=hliveL q hq _ h2;rw [zpz p hp] at h3;rw [zpz q hq] at h4;have heq:=hok2.inj _ _ _ _ _ _ h8 h9 h3 h4 h5 h6 h7;exact congrArg Prod.snd (zum hBF1 hp hq heq)
    . obtain ⟨p,hp,rfl⟩:=zy28.1 hi
      obtain ⟨b2,h8,-⟩:=hliveL p hp _ h1;rw [zpz p hp] at h3;rw [hH3off i' hi'] at h2;rw [hoff i' hi'] at h4;exfalso;rcases (hlocL p hp b2 l h8 h3 h5).1 with h9 | h9
      . exact hunt _ i' l' b' hi' h2 h4 h6 h7.symm h9
      . obtain ⟨lx,h10,_,h11⟩:=hok.live _ _ h2
        rw [h4] at h10;cases h10;have:=(h11 h6).2;omega
    . obtain ⟨p,hp,rfl⟩:=zy28.1 hi'
      obtain ⟨b2,h8,-⟩:=hliveL p hp _ h2;rw [zpz p hp] at h4;rw [hH3off i hi] at h1;rw [hoff i hi] at h3;exfalso;rcases (hlocL p hp b2 l' h8 h4 h6).1 with h9 | h9
      . exact hunt _ i l b hi h1 h3 h5 h7 h9
      . obtain ⟨lx,h10,_,h11⟩:=hok.live _ _ h1
        rw [h3] at h10;cases h10;have:=(h11 h5).2;omega
    . rw [hH3off i hi] at h1
      rw [hoff i hi] at h3;rw [hH3off i' hi'] at h2;rw [hoff i' hi'] at h4;exact hok.inj _ _ _ _ _ _ h1 h2 h3 h4 h5 h6 h7
 have hws2:WS Γ H1 m w H3 m3 w':=⟨hext,hok3,hR3⟩
 refine ⟨v,m3,rfl,hws0.trans hws2,?_⟩;rw [h.val];exact xbe hm32 hR2 _ _ h.valOk hv2
theorem yfb {ps rs:Array TypeId} {t e:TypeId} {i:TypeInfo} (h0:ps[0]?=some t) (hu:P.underlying t=some (.slice e)) (hi:P.info? e=some i) (hs:0<i.size) {a b:Option Addr} {la ca lb cb:Nat}
 (h:la≠0->lb≠0->∃ x y p q arr arr' t1 t2,a=some ⟨x,p,none⟩/\b=some ⟨y,q,none⟩/\x≠y/\w.heap[x]?=some (.cells arr t1 (0,0))/\w.heap[y]?=some (.cells arr' t2 (0,0))) :
 (Extern.SlicesOverlaps.overlaps ps rs #[.slice a la ca,.slice b lb cb]).run P w=.ok (.bool false) w:=by
 have hsz:¬ i.size=0:=by omega
 conv=>lhs;arg 2;whnf
 rw [h0];by_cases h1:la=0
 . cases a<;>cases b<;>simp [run_underlying hu,sizeOf,typeInfo,hi,h1]
 by_cases h2:lb=0
 . cases a<;>cases b<;>simp [run_underlying hu,sizeOf,typeInfo,hi,h2]
 obtain ⟨x,y,p,q,arr,arr',t1,t2,rfl,rfl,hxy,hx,hy⟩:=h h1 h2;have hb:(x==y)=false:=by simpa using hxy
 have f1:∀ o,w.frozen? ⟨x,o,none⟩=false:=fun o=>by simp [World.frozen?,hx]
 have f2:∀ o,w.frozen? ⟨y,o,none⟩=false:=fun o=>by simp [World.frozen?,hy]
 have s1:w.shape? x=some (t1,arr.size):=by simp [World.shape?,hx]
 have s2:w.shape? y=some (t2,arr'.size):=by simp [World.shape?,hy]
 simp [run_underlying hu,sizeOf,typeInfo,hi,h1,h2,hsz,hxy,hb,f1,f2,s1,s2,noView,viewAt,mayBeOne,stringish]
theorem xaz {x:HV} {id:Nat} {v:Value} {blk:zia} (hok:zbc Γ m H w) (hx:x=.own id\/∃ n o l,x=.osl id n o l) (h:zax m w (RR Γ m H w) x v) (hb:H id=.live blk) (hc:(∀ t cs,blk≠.cells t cs)/\(∀ k a es,blk≠.map k a es)/\∀ k a es x,blk≠.iter k a es x) :
 ∃ a len c l,v=.slice a len c/\m id=some l/\(len≠0->l.nil=false/\(∃ o,a=some ⟨l.blk,o,none⟩)/\∃ arr t,w.heap[l.blk]?=some (.cells arr t (0,0))):=by
 obtain ⟨l,hl,hbr,_⟩:=hok.live id _ hb;have hheap:l.nil=false->∃ arr t,w.heap[l.blk]?=some (.cells arr t (0,0)):=by
  intro hn;cases blk with
  | cells t cs=>exact absurd rfl (hc.1 t cs)
  | map k a es=>exact absurd rfl (hc.2.1 k a es)
  | iter k a es x=>exact absurd rfl (hc.2.2 k a es x)
  | row t n rows =>
   obtain ⟨_,_,⟨h1,_⟩ | ⟨_,_,_,arr,h2,_⟩⟩:=hbr
   . rw [hn] at h1;cases h1
   . exact ⟨arr,t,h2⟩
  | buf t n rows c =>
   obtain ⟨_,_,_,_,_,arr,h2,_⟩:=hbr;exact ⟨arr,t,h2⟩
 rcases hx with rfl | ⟨n,o,len,rfl⟩
 . simp only [zax] at h
   obtain ⟨l',hl',rfl⟩:=h;rw [hl] at hl';cases hl';cases hn:l.nil with
   | true=>exact ⟨none,0,0,l,by simp [hdr,hn],hl,fun h=>absurd rfl h⟩
   | false=>exact ⟨_,_,_,l,by simp only [hdr,hn];rfl,hl,fun _=>⟨hn,⟨_,rfl⟩,hheap hn⟩⟩
 . obtain ⟨l',a,c,hl',h1,h2,h3,rfl,h5⟩:=zqk h
   rw [hl] at hl';cases hl';exact ⟨a,len,c,l,rfl,hl,fun h=>⟨(h5 h).1,⟨_,(h5 h).2⟩,hheap (h5 h).1⟩⟩
theorem yys {f:FuncId} {args:List HV} {r:Res} (h:Ov P f args H r) {vals:List Value} (hok:zbc Γ m H w) (hargs:zaz m w (RR Γ m H w) args vals) :
 ∃ v w' m',(callFunc f vals.toArray).run P w=.ok (.value v) w'/\WS Γ H m w (zea H r.ups) m' w'/\zax m' w' (RR Γ m' (zea H r.ups) w') r.val v:=by
 obtain ⟨fn,e,i,x,y,i1,i2,b1,b2,h1,h2,h3,h4,h5,⟨t,h6,h6'⟩,h7,h8,rfl,h10,h11,h12,h13,h14,h15,h16,rfl⟩:=h.out;simp only [zaz] at hargs;obtain ⟨vx,_,rfl,hx,vy,_,rfl,hy,rfl⟩:=hargs;obtain ⟨a,la,ca,l1,rfl,g1,g2⟩:=xaz hok h10 hx h13 h15;obtain ⟨b,lb,cb,l2,rfl,g3,g4⟩:=xaz hok h11 hy h14 h16;have zeb:=yfb (P:=P) (w:=w) (ps:=fn.params) (rs:=fn.resultTypes) h6 h6' h7 h8 (a:=a) (b:=b) (la:=la) (ca:=ca) (lb:=lb) (cb:=cb) (fun k1 k2=>by
  obtain ⟨n1,⟨o1,rfl⟩,arr1,t1,q1⟩:=g2 k1;obtain ⟨n2,⟨o2,rfl⟩,arr2,t2,q2⟩:=g4 k2;exact ⟨l1.blk,l2.blk,o1,o2,arr1,arr2,t1,t2,rfl,rfl,fun he=>h12 (hok.inj _ _ _ _ _ _ h13 h14 g1 g3 n1 n2 he),q1,q2⟩)
 refine ⟨.bool false,w,m,?_,.refl hok,zef _ rfl⟩;simp [callFunc,h1,h2,h3,h4,h5,zeb]
theorem ywe:zjf P (CR P):=by
 intro f args H d r h Γ m w vals hok hargs;cases h with
 | lend h=>exact .inl (yoh h hok hargs)
 | zie h=>exact .inl (ynt h hok hargs)
 | ov h=>exact .inr (yys h hok hargs)
def xbl (pins:List Nat) (v:HV) (H2:Nat->zad) (r:HV) (H':Nat->zad):Prop:=HLe (zrz [v] 1 H2 pins) (zrz [r] 1 H' pins)
theorem yfa {f : FuncId} {fn : Func} {c : Code} (hf : P.funcs[f]? = some fn) (hb : fn.body = some c) (hn : fn.name ≠ "runtime.NumGoroutine") (vals : Array Value) :
 (callFunc f vals).run P w=.ok (.enter f vals) w:=by
 simp [callFunc,hf,hb,hn]
theorem zxb (hm : P.follows .mixedOrders = true) {f : FuncId} {fn : Func} (hf : P.funcs[f]? = some fn) (hn : fn.name ≠ "runtime.NumGoroutine") {args : List HV} {pins : List Nat} (hpins : ∀ id, pin <= id -> H id = .free \/ id ∈ pins) {K : HV -> (Nat -> zad) -> Prop}
 (h:xhk P (CR P) fn args H pins K) {vals:List Value} (hok:zbc Γ m H w) (hargs:zaz m w (RR Γ m H w) args vals) (h0:Γ.m0=m) :
 (callFunc f vals.toArray).run P w=.ok (.enter f vals.toArray) w /\
 Calls P f vals.toArray w fun e w'=>∃ x H' v m',e=.returned v/\K x H'/\zbc Γ m' H' w'/\zax m' w' (RR Γ m' H' w') x v/\∀ id l,pin<=id->m id=some l->m' id=some l:=by
 unfold xhk at h;split at h
 . rename_i c hb
   refine ⟨yfa hf hb hn _,?_⟩;obtain ⟨hle,h⟩:=zav h;have hle:=zy11 hle;have hlen:=hargs.length;refine calls_of_wp hf hb ?_;have hc:zmb Γ P m (zrz args fn.ntmps H pins) {tmps:=vals.toArray++Array.replicate (fn.ntmps-vals.toArray.size) undef,defers:=[]} w:=by
    refine ⟨hok,fun t=>?_,by simp [zrz];omega,rfl,fun id l hp hl=>⟨?_,by rw [<- h0];exact hl⟩⟩
    rotate_left
    . rcases hpins id hp with hf | hf
      . rw [h0,hok.free id hf] at hl;cases hl
      . exact hf
    simp only [zrz,zgp];rw [zy75,Array.getElem?_append];by_cases ht:t<args.length
    . obtain ⟨v,hv,hrep⟩:=hargs.get t args[t] (zy3 ht)
      rw [zy1 (by simpa [hlen] using ht),zy3 ht];simp only [zy137,List.getElem?_toArray,hv];exact hrep
    . rw [zy0 (by simpa [hlen] using ht),zy51 (by omega)]
      simp only [Option.getD_none,zax];rw [Array.getElem?_replicate];split<;>rfl
   refine ysi hm ywe ywd c _ _ _ m _ w h hc fun e s' m' a' w' he hc'=>?_
   have fin:xaq P s' fn.results.toList (fun v=>K v s'.heap)->∃ v,(results fn a'.tmps).run P w'=.ok v w'/\∃ x H' v0 m',Ending.returned v=.returned v0/\K x H'/\zbc Γ m' H' w'/\zax m' w' (RR Γ m' H' w') x v0/\∀ id l,pin<=id->m id=some l->m' id=some l:=by
    intro hr;obtain ⟨x,v,h1,h2,h3⟩:=xdi hc' hr;exact ⟨v,h3,x,s'.heap,v,m',rfl,h1,hc'.heap,h2,fun id l hp hl=>(hc'.pin id l hp (by rw [h0];exact hl)).2⟩
   cases e with
   | exit i=>exact he.elim
   | normal=>exact ⟨hc'.defers,fin he⟩
   | ret=>exact ⟨hc'.defers,fin he⟩
 . exact h.elim
theorem xbl.rep (P:Program) {pins:List Nat} {x r:HV} {H2 H':Nat->zad} {v:Value} (h:xbl pins x H2 r H') (hok:zbc Γ m H2 w) (hv:zax m w (RR Γ m H2 w) x v) (hp:∀ id l,pin<=id->Γ.m0 id=some l->id∈pins/\m id=some l) :
 ∃ m',zbc Γ m' H' w/\zax m' w (RR Γ m' H' w) r v/\∀ id l,pin<=id->Γ.m0 id=some l->m' id=some l:=by
 have hc:zmb Γ P m (zrz [x] 1 H2 pins) {tmps:=#[v],defers:=[]} w:=by
  refine ⟨hok,fun t=>?_,rfl,rfl,hp⟩;cases t with
  | zero=>exact hv
  | succ t=>simp only [zrz,zgp,zy87,List.getElem?_nil,Option.getD_none,zax];simp
 obtain ⟨m',hc'⟩:=HLe.conc hc h;exact ⟨m',hc'.heap,hc'.slots 0,fun id l h1 h2=>(hc'.pin id l h1 h2).2⟩
theorem zan (hm : P.follows .mixedOrders = true) {f : FuncId} {fn : Func} (hf : P.funcs[f]? = some fn) (hn : fn.name ≠ "runtime.NumGoroutine") (pins : List Nat) (hpins : ∀ id, H id = .free \/ id ∈ pins) {args : List HV} {r : HV} {H' : Nat -> zad}
 (h:xhk P (CR P) fn args H pins fun x H2=>xbl pins x H2 r H'):zao P f args H r H':=by
 intro Γ m w vals hok hargs h0;obtain ⟨h1,h2⟩:=zxb hm hf hn (fun id _=>hpins id) h hok hargs h0;refine ⟨h1,h2.mono fun e w' he=>?_⟩;obtain ⟨x,H2,v,m',rfl,hk,hok',hv,hp⟩:=he;have hmem:∀ id l,m id=some l->id∈pins:=fun id l hl=>(hpins id).resolve_left fun hf=>by rw [hok.free id hf] at hl;cases hl
 obtain ⟨m2,h3,h4,h5⟩:=hk.rep P hok' hv fun id l hi hl=>⟨hmem id l (by rw [<- h0];exact hl),hp id l hi (by rw [<- h0];exact hl)⟩
 exact ⟨v,m2,rfl,h3,h4,fun id l hi hl=>h5 id l hi (by rw [h0];exact hl)⟩
theorem zap (hm : P.follows .mixedOrders = true) {f : FuncId} {fn : Func} (hf : P.funcs[f]? = some fn) (hn : fn.name ≠ "runtime.NumGoroutine") {args : List HV} {r : HV}
 (h:xhk P (CR P) fn args zae [] fun x H2=>zgg H2 x fun y _=>ztx (znp P fn.resultTypes.toList y) fun y=>y=r):zao P f args zae r zae:=by
 intro Γ m w vals hok hargs h0;obtain ⟨h1,h2⟩:=zxb hm hf hn (fun _ _=>.inl rfl) h hok hargs h0;refine ⟨h1,h2.mono fun e w' he=>?_⟩;obtain ⟨x,H2,v,m',rfl,hk,hok',hv,hp⟩:=he;obtain ⟨y,us,hy,hview⟩:=zjp _ hk;rw [zty] at hy;subst hy;have hws:=WS.frz hok' hview.frz;have hy:=hview.rep m' w' _ v (WS.kept hview.frz hws.ok) (hws.rep hv);have hRn:∀ b,RR Γ m' (zea H2 us) w' b->RR Γ (fun _=>none) zae w' b:=fun b hb=>⟨hb.1,hb.2.1,yac⟩
 refine ⟨v,fun _=>none,rfl,⟨hok'.size,hok'.os,hok'.tape,hok'.output,hok'.frame,fun _ _=>rfl,(fun id b hb=>by cases hb),(fun id b hb=>by cases hb),(fun id id' b b' l l' hb=>by cases hb),hok'.dom⟩,?_,fun id l _ hl=>?_⟩
 . refine zax.znp _ ?_
   refine ymk (σ:=zqg) (m:=m') (R:=RR Γ m' (zea H2 us) w') (fun i j hj=>by cases hj) (fun i hj=>by cases hj) hRn _ v hview.noid ?_;rw [yan _ hview.noid];exact hy
 . rw [hok.free id rfl] at hl;cases hl
end
end Go.HL
