/- Walks, contracts and laws of the law's functions: part 2. No condition. -/
import Derived.Test.YticmofoeecjnhaaGreatQGa
set_option maxHeartbeats 32000000
set_option maxRecDepth 100000
set_option linter.unusedSimpArgs false
theorem yy17 {P:Prop} (h:P:=by
 simp only [zgh] at h;obtain ⟨y,us,h1,h2,h3,h4,h5⟩:=zdx l h;refine ⟨_,_,h1,h2,fun m w R v hk hx=>?_,h4,fun H' he K' hk=>by simp only [zgh];exact h5 H' he _ hk⟩;simp only [zax] at hx ⊢;obtain ⟨arr,h4,h5⟩:=hx;exact ⟨arr,h4,h3 m w R _ hk h5⟩):P:=h
theorem yy22 {P:Prop} (h:P:=by
 simp only [zik] at ho;split at ho
 . rename_i j hj
   obtain ⟨j',hj',hmj⟩:=hm i _ hj;cases hj';simp only [rn,hj,zax] at h ⊢;obtain ⟨l,h1,h2⟩:=h;exact ⟨l,by rw [hmj];exact h1,h2⟩
 . cases ho):P:=h
theorem yy28 {P:Prop} (h:P:=by
 simp only [zik] at ho;split at ho
 . rename_i j hj
   simp only [rn,hj,zax] at h ⊢;obtain ⟨l,h1,h2⟩:=h;exact ⟨l,by rw [hm i j hj];exact h1,h2⟩
 . cases ho):P:=h
theorem yy45 {P:Prop} (h:P:=by
 simp only [zik] at ho;simp only [rn,zax] at h ⊢;obtain ⟨arr,h1,h2⟩:=h;exact ⟨arr,h1,znu hm hn hR l _ ho h2⟩):P:=h
theorem yy50 {P:Prop} (h:P:=by
 simp only [zik] at ho;simp only [rn,zax] at h ⊢;obtain ⟨arr,h1,h2⟩:=h;exact ⟨arr,h1,zvi hm hR l _ ho h2⟩):P:=h
theorem yy55 {P:Prop} (h:P:=by
 obtain ⟨h1,h2,h3⟩:=h;refine ⟨h1,h2,?_⟩;rcases h3 with h3 | ⟨h3,h4,h5,arr,h6,h7,h8⟩
 . exact .inl h3
 . exact .inr ⟨h3,h4,h5,arr,h6,h7,fun k x hk=>let ⟨cv,h9,h10⟩:=h8 k x hk;⟨cv,h9,h10.sub hR⟩⟩):P:=h
theorem yy60 {P:Prop} (h:P:=by
 refine ⟨_,_,h4,h5,fun m w R vs hk hx=>?_,fun H' he K' hk=>by simp only [zkz];exact h7 H' he _ hk⟩;simp only [zaz] at hx ⊢;obtain ⟨v,r,rfl,h7,h8⟩:=hx;exact ⟨v,r,rfl,h7,h6 m w R r hk h8⟩):P:=h
theorem yy73 {P:Prop} (h:P:=by
 simp only [rn,zax] at h ⊢;obtain ⟨b,o,h1,h2,h3⟩:=h;exact ⟨b,o,h1,fun hc=>hR b (h2 hc),fun k x hk=>let ⟨cv,h4,h5⟩:=h3 k x hk;⟨cv,h4,h5.sub hR⟩⟩):P:=h
theorem yy74 {P:Prop} (h:P:=by
 cases h;obtain ⟨l,h1,h2,h3⟩:=hok.live id _ hb;exact ⟨l,h1,hB _ _ h2,h3⟩):P:=h
theorem yy79 {P:Prop} (h:P:=by
 obtain ⟨h1,h2,h3,h4,h5,arr,h6,h7,h8⟩:=h;exact ⟨h1,h2,h3,h4,h5,arr,h6,h7,fun k x hk=>let ⟨cv,h9,h10⟩:=h8 k x hk;⟨cv,h9,h10.sub hR⟩⟩):P:=h
theorem yy92 {P:Prop} (h:P:=by
 simp only [execOp,resolve,hfv,Deferred.ofValue,Sem.run_bind,Sem.run_pure,Result.andThen_ok,invoke]
 simpa using hcf):P:=h
theorem yy95 {P:Prop} (h:P:=by
 split<;>first | rfl | skip
 . rename_i id;rw [h id (by simp [zdd])]
 . rename_i id _ _ _;rw [h id (by simp [zdd])]):P:=h
theorem yy99 {P:Prop} (h:P:=by
 split
 . split
   . split
     . exact zco zaw
     . exact False.elim
   . exact False.elim
 . exact False.elim):P:=h
theorem yy100 {P:Prop} (h:P:=by
 simp only [yfr] at hs;simp only [zax] at h ⊢;obtain ⟨arr,h1,h2⟩:=h;exact ⟨arr,h1,zvm l _ hs h2⟩):P:=h
namespace Go.HL
open Go.RowKit (Below)
section
variable {Γ:Ctx} {P:Program} {m:zez} {H:Nat->zad} {w:World} {ρ:Operand->Value} {ev:Operand->HV} {dst:Option Tmp} {ty:TypeId} {pos:String} {after:Array Edge} {guard:Option (Nat×Bool)}
theorem ygy.vals {R:Nat->Prop} {n:Nat} {rows:List (List PV)} {v:Value} (h:ygy w R n rows v) :
 ∃ a c vs,v=.slice a rows.length c/\rows.length<=c/\c<=maxLen/\zep w R rows.flatten vs/\(rows=[]\/∃ b o,a=some ⟨b,o,none⟩/\∀ (j:Nat) u,vs[j]?=some u->w.cell? ⟨b,o+j,none⟩=some u):=by
 obtain ⟨a,c,hv,hle,hm,hcell⟩:=h.out;by_cases hne:rows=[]
 . subst hne;exact ⟨a,c,[],hv,hle,hm,.nil,.inl rfl⟩
 . obtain ⟨b,o,ha,hpc⟩:=hcell hne
   have:∀ (l:List PV) (k:Nat),(∀ (j:Nat) x,l[j]?=some x->∃ cv,w.cell? ⟨b,o+(k+j),none⟩=some cv/\zhj w R x cv)->∃ vs,zep w R l vs/\∀ (j:Nat) u,vs[j]?=some u->w.cell? ⟨b,o+(k+j),none⟩=some u:=by
    intro l
    induction l with
    | nil=>intro k _;exact ⟨[],.nil,fun j u hu=>by simp at hu⟩
    | cons x l ih =>
     intro k hk;obtain ⟨cv,h1,h2⟩:=hk 0 x zz5;obtain ⟨vs,h3,h4⟩:=ih (k+1) (fun j y hy=>by
      have:=hk (j+1) y (by simpa using hy)
      rwa [show k+(j+1)=k+1+j by omega] at this)
     refine ⟨cv::vs,.cons h2 h3,fun j u hu=>?_⟩;cases j with
     | zero=>simp at hu;subst hu;exact h1
     | succ j=>have:=h4 j u (by simpa using hu);rwa [show k+1+j=k+(j+1) by omega] at this
   obtain ⟨vs,h1,h2⟩:=this rows.flatten 0 (fun j x hx=>by simpa using hpc j x hx);exact ⟨a,c,vs,hv,hle,hm,h1,.inr ⟨b,o,ha,fun j u hu=>by simpa using h2 j u hu⟩⟩
theorem ygy.src {R:Nat->Prop} {n:Nat} {rows:List (List PV)} {v:Value} (h:ygy w R n rows v) {t e:TypeId} (hu:P.underlying t=some (.slice e)) :
 ∃ vs,zep w R rows.flatten vs/\Src P n t v rows.length vs w:=by
 obtain ⟨a,c,vs,rfl,hle,hm,hp,hc⟩:=h.vals;have hl:vs.length=rows.length*n:=by rw [hp.length,zcb h.lens]
 refine ⟨vs,hp,?_⟩;rcases hc with rfl | ⟨b,o,rfl,hc⟩
 . have hv:vs=[]:=zy19 zz52
   subst hv;cases a with
   | none=>exact Src.ofNil w hu c
   | some ad=>exact Src.ofSlice w hu ad 0 c [] zz5 (fun j u hj=>by simp at hj) zz5
 . exact Src.ofSlice w hu _ _ c vs hl (fun j u hj=>by rw [Addr.add_mid];exact hc j u hj) hp.one
theorem OS.newRow' {w1:World} {H':Nat->zad} (hws:WS Γ H m w1 H' m w) {id:Nat} (hf:H' id=.free) {arr:Array Value} {t:TypeId} {n cap:Nat} {rows:List (List PV)} (hlens:∀ r∈rows,r.length=n)
 (hle:rows.length<=cap) (hm:cap<=maxLen) (hsz:arr.size=cap*n) (hr:∀ (k:Nat) x,rows.flatten[k]?=some x->∃ cv,arr[k]?=some cv/\zhj w (RR Γ m H' w) x cv) {x:Sem Next}
 {ups:List (Nat×zad)} (hups:zdy H ups=upd H' id (.live (.row t n rows)))
 (tch:List Nat) (hx:x.run P w1=.ok (.value (.slice (some ⟨w.heap.size,0,none⟩) rows.length cap)) (w.alloc (.cells arr t))):OS Γ P m H w1 x ⟨.own id,ups,tch⟩:=by
 obtain ⟨m',hws2,hm'⟩:=WS.new hws.ok hf (arr:=arr) (t:=t) (b:=.row t n rows) (cap:=cap) (len:=rows.length) (fun m' R' hext hk =>
  ⟨rfl,hlens,.inr ⟨rfl,hle,hm,arr,heap_alloc_new w _,hsz,fun k y hy=>by
   obtain ⟨cv,h1,h2⟩:=hr k y hy;exact ⟨cv,h1,h2.mono hk⟩⟩⟩)
 refine ⟨_,_,m',.inl hx,?_,?_⟩
 . simp only [hups];exact hws.trans hws2
 . simp only [zax]
   exact ⟨_,hm',by simp [hdr]⟩
theorem zgx (z:Array Value) (n:Nat):(Builtin.zeroCells z n).size=n*z.size:=by simp [Builtin.zeroCells]
theorem zlc {H':Nat->zad} (hws:WS Γ H m w H' m w) {d:Nat} (hf:H' d=.free) {t e:TypeId} {de:TyD} {u:TypeDesc} {i:TypeInfo} {z:Value} (hu:P.underlying t=some (.slice e)) (ht:zrf P e de u i z) (hzs:de.zero.length=de.size)
 (hb:0<de.bytes) {rows ys:List (List PV)} {base:Option Addr} {cap:Nat} {vy:Value} (hx:ygy w (RR Γ m H w) de.size rows (.slice base rows.length cap)) (hy:ygy w (RR Γ m H w) de.size ys vy)
 (hg:cap<rows.length+ys.length) (h47:(rows.length+ys.length)*de.bytes<=140737488355328) {ups:List (Nat×zad)} (hups:zdy H ups=upd H' d (.live (.row e de.size (rows++ys)))) (tch:List Nat) {x:Sem Next}
 (zdz:∀ {v:Value} {w':World},(Builtin.append_ #[t,t] ty #[.slice base rows.length cap,vy]).run P w=.ok v w'->x.run P w=.ok (.value v) w'):OS Γ P m H w x ⟨.own d,ups,tch⟩:=by
 obtain ⟨olds,ho,hso⟩:=hx.src hu;obtain ⟨news,hn,hsn⟩:=hy.src hu;have hN:rows.length+ys.length<=140737488355328:=by
  have:(rows.length+ys.length)*1<=(rows.length+ys.length)*de.bytes:=Nat.mul_le_mul_left _ hb;omega
 rw [ht.size] at hso hsn;have hr:=run_append_grow_src (P:=P) w t t ty e i z hu ht.info ht.zero base rows.length cap olds hso.cellsD vy ys.length news hsn hg zz0 (growslice_fits hg (by rw [<- ht.bytes];exact h47));have hcap:=grownCap_ge w (rows.length+ys.length) cap e;have hcm:=grownCap_le_maxLen w (rows.length+ys.length) cap e zz84;have hlr:(rows++ys).length=rows.length+ys.length:=by simp
 rw [<- hlr] at hr;have hws':WS Γ H m w H' m w.drew:=hws.trans (WS.drew hws.ok);have hzz:z.cells.size=de.size:=by rw [<- hzs,ht.zeros];simp
 have holds:olds.length=rows.length*de.size:=by rw [ho.length,zcb hx.lens]
 have hnews:news.length=ys.length*de.size:=by rw [hn.length,zcb hy.lens]
 have hall:=ho.append hn;refine OS.newRow' (w:=w.drew) hws' hf (arr:=(olds++news).toArray++Builtin.zeroCells z.cells (grownCap w (rows++ys).length cap e-(rows++ys).length)) (t:=e) (n:=de.size) (cap:=grownCap w (rows++ys).length cap e) (rows:=rows++ys) ?_ (by rw [hlr];exact hcap) (by rw [hlr];exact hcm) ?_ ?_ hups tch (zdz hr)
 . intro r hr
   rcases zy14.1 hr with hr | hr
   . exact hx.lens r hr
   . exact hy.lens r hr
 . rw [hlr]
   simp only [Array.size_append,zgx,hzz,List.size_toArray,zy5,holds,hnews];rw [<- zy48,<- zy48];congr 1;omega
 . intro k y hy
   rw [zy77] at hy;obtain ⟨cv,hcv,hp⟩:=hall.get k y hy;refine ⟨cv,?_,hp.mono hws'.keep⟩;have hlt:k<(olds++news).length:=(zy8.1 hcv).1;rw [zy141 (by simpa using hlt)]
   simpa using hcv
theorem zhe (b:Builtin) (args:Array Operand) (ats:Array TypeId) (f:Sem Value) (hb:∀ consts,builtin b ats ty consts (args.map ρ)=(do pure (Next.value (<- f)):Sem Next)) {v:Value} {w':World} (h:f.run P w=.ok v w') :
 (execOp ρ ⟨dst,.call ⟨.builtin b,args,ats⟩,ty,pos,after,guard⟩).run P w=.ok (.value v) w':=by
 simp only [execOp,resolve,Sem.run_bind,Sem.run_pure,Result.andThen_ok,invoke,hb,h]
theorem yjn {n o:Nat} {rows ys:List (List PV)} (h1:∀ r∈rows,r.length=n) (h2:∀ r∈ys,r.length=n):∀ r∈zcm rows o ys,r.length=n:=by
 intro r hr;simp only [zcm,zy14] at hr;rcases hr with (hr | hr) | hr
 . exact h1 r (zy62 hr)
 . exact h2 r hr
 . exact h1 r (zy73 hr)
theorem yqf {o:Nat} {rows ys:List (List PV)} (h:o<=rows.length):(zcm rows o ys).length=max rows.length (o+ys.length):=by
 simp [zcm];omega
theorem yqe {o n:Nat} {rows ys:List (List PV)} (h1:∀ r∈rows,r.length=n) (h2:∀ r∈ys,r.length=n) (ho:o<=rows.length) {k:Nat} {x:PV} (h:(zcm rows o ys).flatten[k]?=some x) :
 (o*n<=k/\k<o*n+ys.flatten.length/\ys.flatten[k-o*n]?=some x)\/(¬ (o*n<=k/\k<o*n+ys.flatten.length)/\rows.flatten[k]?=some x):=by
 have hl1:(rows.take o).flatten.length=o*n:=by
  rw [zcb (n:=n) fun r hr=>h1 r (zy62 hr),zy46];congr 1;omega
 have hl2:ys.flatten.length=ys.length*n:=zcb h2;simp only [zcm,zy77] at h;rcases zy84 k (o*n) with hk | hk
 . right
   refine ⟨by omega,?_⟩;rw [zy25,zy35 (by omega)] at h;have:rows.flatten=(rows.take o).flatten++(rows.drop o).flatten:=by rw [<- zy77,zy24]
   rw [this,zy35 (by omega)];exact h
 . rcases zy84 k (o*n+ys.flatten.length) with hk2 | hk2
   . left
     rw [zy25,zy51 (by omega),zy35 (by omega),hl1] at h;exact ⟨hk,hk2,h⟩
   . right
     refine ⟨by omega,?_⟩;rw [zy51 (by rw [zy5];omega)] at h;simp only [zy5,hl1] at h;by_cases hle:o+ys.length<=rows.length
     . have:rows.flatten=(rows.take (o+ys.length)).flatten++(rows.drop (o+ys.length)).flatten:=by rw [<- zy77,zy24]
       have hl3:(rows.take (o+ys.length)).flatten.length=o*n+ys.flatten.length:=by
        rw [zcb (n:=n) fun r hr=>h1 r (zy62 hr),zy46,hl2,<- zy48];congr 1;omega
       rw [this,zy51 (by omega),hl3];exact h
     . rw [zy31 (by omega)] at h
       simp at h
theorem zme (hok:zbc Γ m H w) {id:Nat} {b:zie} {l:Loc} (hH:H id=.live b) (hl:m id=some l) {t1:TypeId} {n:Nat} {rows:List (List PV)} {mk:List (List PV)->zie} {lim:Nat} (hw:Win m w (RR Γ m H w) l b t1 n rows mk lim)
 (hlim:lim=rows.length\/∃ c,b=.buf t1 n rows c/\lim=c/\l.cap=c) {ys:List (List PV)} {vs:List Value} (hys:∀ r∈ys,r.length=n) (hp:zep w (RR Γ m H w) ys.flatten vs) {o:Nat} (h1:o<=rows.length) (h2:o+ys.length<=lim) (hne:ys≠[]) :
 l.nil=false/\(∀ j,j<vs.length->(w.cell? ⟨l.blk,o*n+j,none⟩).isSome=true)/\(∀ j,j<vs.length->w.frozen? ⟨l.blk,o*n+j,none⟩=false) /\
  WS Γ H m w (upd H id (.live (mk (zcm rows o ys)))) m (w.setCells l.blk (o*n) vs):=by
 have hpos:0<ys.length:=Nat.pos_of_ne_zero fun h=>hne (zy19 h)
 have hroom:=hw.room;have hn:l.nil=false:=by
  cases h:l.nil with
  | false=>rfl
  | true=>simp [Loc.room,h] at hroom;omega
 have hvl:vs.length=ys.length*n:=by rw [hp.length,zcb hys]
 obtain ⟨arr,harr,hsz,hcell,hset⟩:=hw.arr hn;have hcap:lim<=l.cap:=by simpa [Loc.room,hn] using hroom
 have hfit:o*n+vs.length<=arr.size:=by
  rw [hvl,hsz,<- zy48];exact zy68 _ zz0
 refine ⟨hn,fun j hj=>?_,fun j hj=>by simp [World.frozen?,harr],?_⟩
 . rw [cell_of_row w l.blk _ arr _ (0,0) harr,zy91 (by omega)];rfl
 . refine WS.set hok hH hl hn (zbu _ _ _ _).1 (zbu _ _ _ _).2.1 (zbu _ _ _ _).2.2.1 (zbu _ _ _ _).2.2.2 (fun k hk=>zft _ _ _ _ _ hk) fun R' hk=>?_
   refine hset _ R' (putAt arr (o*n) vs) _ (zfs _ _ _ _ _ harr hfit) (zgw _ _ _) (yjn hw.lens hys) ?_ fun k x hx=>?_
   . rw [yqf h1]
     rcases hlim with rfl | ⟨c,hb,rfl,hc⟩
     . left;omega
     . right;exact ⟨hc.symm,by have:=hw.le;omega,lim,hb⟩
   . rw [zfp]
     rcases yqe hw.lens hys h1 hx with ⟨g1,g2,g3⟩ | ⟨g1,g3⟩
     . obtain ⟨cv,h4,h5⟩:=hp.get _ _ g3
       have hlt:=(zy8.1 h4).1;rw [zy1 (by omega)];exact ⟨cv,h4,h5.mono hk⟩
     . rw [zy0 (by rw [hp.length];omega)]
       obtain ⟨cv,h4,h5⟩:=hcell k x g3;exact ⟨cv,h4,h5.mono hk⟩
theorem zms {rows:List (List PV)} {o:Nat}:zcm rows o []=rows:=by simp [zcm]
theorem zzg (hok:zbc Γ m H w) {id:Nat} {b:zie} {l:Loc} (hH:H id=.live b) (hl:m id=some l) {e:TypeId} {de:TyD} {rows:List (List PV)} {mk:List (List PV)->zie} {lim:Nat} (hw:Win m w (RR Γ m H w) l b e de.size rows mk lim)
 (hlim:lim=rows.length\/∃ c,b=.buf e de.size rows c/\lim=c/\l.cap=c) {off len:Nat} {vx vy:Value} (hx:zax m w (RR Γ m H w) (.osl id de.size off len) vx) {t:TypeId} {u:TypeDesc} {i:TypeInfo} {z:Value} (hu:P.underlying t=some (.slice e)) (ht:zrf P e de u i z)
 {ys:List (List PV)} (hs:ygy w (RR Γ m H w) de.size ys vy) (h1:off+len<=rows.length) (h2:off+len+ys.length<=lim) {x:Sem Next}
 (zdz:∀ {v:Value} {w':World},(Builtin.append_ #[t,t] ty #[vx,vy]).run P w=.ok v w'->x.run P w=.ok (.value v) w') (tch:List Nat) :
 OS Γ P m H w x ⟨.osl id de.size off (len+ys.length),[(id,.live (mk (zcm rows (off+len) ys)))],tch⟩:=by
 have hx':=hx;simp only [zax] at hx;obtain ⟨l',a,hl',g1,g2,rfl,g5⟩:=hx;rw [hl] at hl';cases hl';have hroom:=hw.room;obtain ⟨news,hnw,hsn⟩:=hs.src hu;rw [ht.size] at hsn;by_cases hys:ys=[]
 . subst hys
   have hnn:news=[]:=zy19 zz87;subst hnn;have hr:=run_append_nothing (P:=P) w t t ty e i hu ht.info a len (l.room-off) zz0 vy hsn;refine ⟨_,_,m,.inl (zdz hr),?_,?_⟩
   . simp only [zdy,zms,hw.set,<- hH,zmu];exact .refl hok
   . simp only [zdy,zms,hw.set,<- hH,zmu];simpa using hx'
 . obtain ⟨hn,hc,hf,hws⟩:=zme hok hH hl hw hlim hs.lens hnw h1 h2 hys
   have hpos:0<ys.length:=Nat.pos_of_ne_zero fun h=>hys (zy19 h)
   have ha:a=some ⟨l.blk,off*de.size,none⟩:=(g5 (.inl zz0)).trans zz86;subst ha;have hr:=run_append_room_src (P:=P) w t t ty _ i hu ht.info l.blk (off*de.size) len (l.room-off) vy ys.length news hsn zz0
    (fun j hj=>by rw [<- ht.size,<- zy48];exact hc j hj) (fun j hj=>by rw [<- ht.size,<- zy48];exact hf j hj)
   rw [<- ht.size,<- zy48] at hr;refine ⟨_,_,m,.inl (zdz hr),hws,?_⟩;simp only [zax];exact ⟨l,_,hl,by omega,g2,rfl,fun _=>by simp [Loc.at,hn]⟩
theorem ygx (z:List Value):∀ k:Nat,(List.replicate k (z.map PV.v)).flatten=((List.replicate k z).flatten).map PV.v
 | 0=>rfl
 | k+1=>by rw [zy90,zy90,zy133,zy133,zy33,ygx z k]
theorem znj (z:Array Value) (k:Nat):(Builtin.zeroCells z k).toList=(List.replicate k z.toList).flatten:=by
 apply zy71;intro j;have hl:((List.replicate k z.toList).flatten).length=k*z.size:=by
  rw [zcb (n:=z.size) fun r hr=>by rw [zy69 hr];simp,zy93]
 rcases zy84 j (k*z.size) with h | h
 . have hzs:0<z.size:=by
    rcases zy116 z.size with h0 | h0
    . rw [h0] at h;simp at h
    . exact h0
   have e1:(Builtin.zeroCells z k).toList[j]?=some (z[j % z.size]!):=by
    rw [zy117,zy91 (by rw [zgx];exact h)];simp [Builtin.zeroCells]
   have hlt:=Nat.mod_lt j hzs;have hd:j / z.size<k:=Nat.div_lt_of_lt_mul (by rw [Nat.mul_comm];exact h);have e2:=zdj (rows:=List.replicate k z.toList) (n:=z.size) (i:=j / z.size) (j:=j % z.size) (r:=z.toList) (x:=z[j % z.size]) (fun r hr=>by rw [zy69 hr];simp)
    (by rw [zy66,zy1 hd]) zz62
   rw [show j / z.size*z.size+j % z.size=j by rw [Nat.mul_comm];exact Nat.div_add_mod j z.size] at e2;rw [e1,e2,getElem!_pos z _ hlt]
 . rw [zy52 (by rw [zy143,zgx];exact h),zy52 (by rw [hl];exact h)]
theorem zwi {R:Nat->Prop}:∀ {l:List Value},(∀ v∈l,v.oneCell'=true)->zep w R (l.map PV.v) l
 | [],_=>.nil
 | v::r,h=>.cons (.v v (h v zz5)) (zwi fun x hx=>h x zz35)
theorem zyy {R:Nat->Prop} {z:List Value} (h:z.all (·.oneCell')=true) (k:Nat):zep w R (List.replicate k (z.map PV.v)).flatten (List.replicate k z).flatten:=by
 rw [ygx];refine zwi fun v hv=>?_
 obtain ⟨l,hl,hv⟩:=List.mem_flatten.1 hv;rw [zy69 hl] at hv;exact zy26.1 h v hv
theorem zsi (t tx ty e:TypeId) (i:TypeInfo) (z:Value) (hu:P.underlying t=some (.slice e)) (hx:P.underlying tx=some (.int .i64)) (hi:P.info? e=some i) (hz:i.zero=some z) (base:Option Addr) (sLen sCap:Nat) (olds:List Value)
 (hold:(Builtin.firstCells i.size sLen (.slice base sLen sCap)).run P w.drew=.ok olds.toArray w.drew) (n:Int) (h0:0<=n) (h9:n<=9223372036854775807) (hs:0<i.size) (hb:n*i.bytes<=281474976710656)
 (hg:sCap<sLen+n.toNat) (h63:((sLen+n.toNat:Nat):Int)<=9223372036854775807) (hfit:Builtin.nextslicecap (sLen+n.toNat) sCap*i.bytes<=281474976710656) (hpos:0<n) :
 (Builtin.append_ #[t,tx] ty #[.slice base sLen sCap,.int .i64 n]).run P w =
  .ok (.slice (some ⟨w.heap.size,0,none⟩) (sLen+n.toNat) (grownCap w (sLen+n.toNat) sCap e))
   (w.drew.alloc (.cells ((olds++(Builtin.zeroCells z.cells n.toNat).toList).toArray++Builtin.zeroCells z.cells (grownCap w (sLen+n.toNat) sCap e-(sLen+n.toNat))) e)):=by
 have hn:¬ (sLen+n.toNat<=sCap):=by omega
 have h63':¬ (9223372036854775807<((sLen:Int)+(n.toNat:Int))):=by omega
 have h48':¬ (281474976710656<Builtin.nextslicecap (sLen+n.toNat) sCap*i.bytes):=by omega
 have hw:IntKind.i64.wrap n=n:=by
  unfold IntKind.wrap;simp [IntKind.bits,IntKind.signed];omega
 have hneg:¬ n<0:=by omega
 have hbig:¬ (281474976710656<n*(i.bytes:Int)):=by omega
 have hnz:¬ (n.toNat*i.size=0):=by
  have:0<n.toNat*i.size:=Nat.mul_pos zz0 hs;omega
 have hnz2:¬ (n<=0\/i.size=0):=by omega
 have h63'':¬ (9223372036854775807<((sLen:Int)+max n 0)):=by omega
 simp [Builtin.append_,run_underlying hu,run_underlying hx,sizeOf,typeInfo,zeroValue,hi,hz,hn,h63',h48',Question.forced,hold,newRow,grownCap,asInt,asIntOf,hw,hneg,hbig,hnz,hnz2,h63''];congr 2;apply Array.ext';simp [zy25]
theorem yoz {K:Res->Prop} {d:Nat} {x y:Operand} {t t':TypeId} (hok:zbc Γ m H w) (hx:zax m w (RR Γ m H w) (ev x) (ρ x)) (hy:zax m w (RR Γ m H w) (ev y) (ρ y))
 (h:tyK P t' fun td=>match td.k with | .int .i64=>(match ev y with | .p (.v (.int .i64 z))=>zhl P t (ev x) z d H K | _=>False) | _=>False) :
 ∃ r,K r/\OS Γ P m H w (execOp ρ ⟨dst,.call ⟨.builtin .append,#[x,y],#[t,t']⟩,ty,pos,after,guard⟩) r:=by
 obtain ⟨td,u',i',z',ht',h⟩:=zeo h;split at h
 case h_2=>exact h.elim
 rename_i hk;split at h
 case h_2=>exact h.elim
 rename_i n hyy;rw [hyy] at hy;have hyv:=zdl hy;unfold zhl at h;have hq:=zei h;clear h;obtain ⟨e,de,u,i,z,hu,ht,h⟩:=hq;have hx2:=zav h;clear h;obtain ⟨hc,h⟩:=hx2;simp only [zy12] at hc;obtain ⟨⟨⟨hpos,hby⟩,hzs⟩,hone⟩:=hc;have hpos:0<de.size:=zy9 hpos;have hby:0<de.bytes:=zy9 hby;have hzs:=zy4 hzs;have hrunx:∀ {v:Value} {w':World},(Builtin.append_ #[t,t'] ty #[ρ x,ρ y]).run P w=.ok v w'->(execOp ρ ⟨dst,.call ⟨.builtin .append,#[x,y],#[t,t']⟩,ty,pos,after,guard⟩).run P w=.ok (.value v) w' :=
  fun hr=>zic .append #[x,y] #[t,t'] (fun _ _=>rfl) zz90
 split at h
 case h_2=>exact h.elim
 rename_i id n1 off len hxx;rw [hxx] at hx;have hq:=zcj h;clear h;obtain ⟨b,hb,h⟩:=hq;obtain ⟨l,hl,hbr⟩:=hok.blk hb;split at h
 case h_2=>exact h.elim
 rename_i t1 n2 rows cap;have hx2:=zav h;clear h;obtain ⟨hee,⟨g0,g9,g1,g2,g3⟩,h⟩:=hx2;simp only [zy12] at hee;have he2:=zy4 hee.1;have he3:=zy4 hee.2;subst he2 he3;split at h
 case h_2=>exact h.elim
 rename_i hfree;refine ⟨_,h,?_⟩;have hbr':=hbr;obtain ⟨b1,b2,b3,b4,b5,_⟩:=hbr';have hsx:=ztf hl hx hbr.2.2.1 (fun _=>ztu hbr) g2;simp only [zax] at hx;obtain ⟨l',a,hl',k1,k2,hxv,k5⟩:=hx;rw [hl] at hl';cases hl';have hroom:l.room=cap:=by simp [Loc.room,b1,b2]
 rw [hxv] at hsx hrunx;obtain ⟨olds,ho,hso⟩:=hsx.src hu;have hwl:((rows.drop off).take len).length=len:=by rw [zy46,zy34];omega
 rw [hwl] at hso;rw [ht.size] at hso;rw [hyv] at hrunx;have hcast:(((len+n.toNat)*de.bytes:Nat):Int)=(len+n)*de.bytes:=by rw [Int.natCast_mul,zy127,Int.toNat_of_nonneg g0]
 have h47:(len+n.toNat)*de.bytes<=140737488355328:=by
  have h1:(((len+n.toNat)*de.bytes:Nat):Int)<=((140737488355328:Nat):Int):=by rw [hcast];exact g3
  exact Int.ofNat_le.1 h1
 have hN:len+n.toNat<=140737488355328:=by
  have:(len+n.toNat)*1<=(len+n.toNat)*de.bytes:=Nat.mul_le_mul_left _ hby;omega
 have hnb:n*(i.bytes:Int)<=281474976710656:=by
  rw [<- ht.bytes];have h1:n*(de.bytes:Int)<=(len+n)*de.bytes:=Int.mul_le_mul_of_nonneg_right zz0 zz0;omega
 have hr:=zsi (P:=P) (w:=w) t t' ty e i z hu (ht'.int hk) ht.info ht.zero a len (l.room-off) olds hso.cellsD n g0 g9 (by rw [<- ht.size];exact hpos) hnb zz0 zz0 (growslice_fits zz0 (by rw [<- ht.bytes];exact h47)) zz0;have hcap:=grownCap_ge w (len+n.toNat) (l.room-off) e;have hcm:=grownCap_le_maxLen w (len+n.toNat) (l.room-off) e zz84;have hzz:z.cells.size=de.size:=by rw [<- hzs,ht.zeros];simp
 have hzl:(Builtin.zeroCells z.cells n.toNat).toList=(List.replicate n.toNat de.zero).flatten:=by rw [znj,ht.zeros]
 have hlr:((rows.drop off).take len++List.replicate n.toNat (de.zero.map PV.v)).length=len+n.toNat:=by rw [zy5,hwl,zy93]
 rw [<- hlr] at hr;have hws':WS Γ H m w H m w.drew:=WS.drew hok;have holds:olds.length=len*de.size:=by rw [ho.length,zcb hsx.lens,hwl]
 have hall:=ho.append (zyy (w:=w) (R:=RR Γ m H w) hone n.toNat);rw [hzl] at hr;refine OS.newRow' (w:=w.drew) hws' hfree (arr:=(olds++(List.replicate n.toNat de.zero).flatten).toArray++Builtin.zeroCells z.cells (grownCap w ((rows.drop off).take len++List.replicate n.toNat (de.zero.map PV.v)).length (l.room-off) e-((rows.drop off).take len++List.replicate n.toNat (de.zero.map PV.v)).length)) (t:=e) (n:=de.size)
  (cap:=grownCap w ((rows.drop off).take len++List.replicate n.toNat (de.zero.map PV.v)).length (l.room-off) e) (rows:=(rows.drop off).take len++List.replicate n.toNat (de.zero.map PV.v)) ?_ (by rw [hlr];exact hcap) (by rw [hlr];exact hcm) ?_ ?_ rfl _ (hrunx hr)
 . intro r hr
   rcases zy14.1 hr with hr | hr
   . exact hsx.lens r hr
   . rw [zy69 hr,zy2,hzs]
 . have hfl:((List.replicate n.toNat de.zero).flatten).length=n.toNat*de.size:=by
    rw [zcb (n:=de.size) fun r hr=>by rw [zy69 hr];exact hzs,zy93]
   rw [hlr];simp only [Array.size_append,zgx,hzz,List.size_toArray,zy5,holds,hfl];rw [<- zy48,<- zy48];congr 1;omega
 . intro k y hy
   rw [zy77] at hy;obtain ⟨cv,hcv,hp⟩:=hall.get k y hy;refine ⟨cv,?_,hp.mono hws'.keep⟩;have hlt:k<(olds++(List.replicate n.toNat de.zero).flatten).length:=(zy8.1 hcv).1;rw [zy141 (by simpa using hlt)]
   simpa using hcv
theorem xdt (hok:zbc Γ m H w) {n0 most:Nat} {y:HV} {v:Value} {K:Nat->List (List PV)->List Nat->Prop} (hy:zax m w (RR Γ m H w) y v) (h:yqp H n0 y most K) :
 ∃ n ys ids a len c,K n ys ids/\v=.slice a len c/\ys.length=Nat.min len most/\ys.length<=c/\ygy w (RR Γ m H w) n ys (.slice a ys.length c):=by
 unfold yqp at h;split at h
 . rename_i id n1 off len
   have hq:=zcj h;clear h;obtain ⟨b,hb,h⟩:=hq;obtain ⟨l,hl,hbr⟩:=hok.blk hb;have hq:=zyw hbr h;clear h;obtain ⟨t1,n2,rows,mk,lim,h,hw,_⟩:=hq;have hq:=zav h;clear h;obtain ⟨hnn,rs,rfl,hle,h⟩:=hq;have hnn:=zy4 hnn;subst hnn;have hmin:Nat.min len most<=len:=Nat.min_le_left _ _;have hlen:((rows.drop off).take (Nat.min len most)).length=Nat.min len most:=by rw [zy46,zy34];omega
   have hy':=hy;simp only [zax] at hy;obtain ⟨l',a,hl',k1,k2,rfl,k5⟩:=hy;rw [hl] at hl';cases hl';have hy2:zax m w (RR Γ m H w) (.osl id n1 off (Nat.min len most)) (.slice a (Nat.min len most) (l.room-off)):=by
    simp only [zax];exact ⟨l,a,hl,by omega,k2,rfl,k5⟩
   have hs:=ztf hl hy2 hw.lens hw.cells hle;exact ⟨_,_,_,a,len,_,h,rfl,hlen,by omega,by rw [hlen];exact hs⟩
 . have hq:=zoq hok hy h;clear h;obtain ⟨n,rows,ids,h,hs⟩:=hq
   obtain ⟨a,c,hv,hle,hm,hcell⟩:=hs.out;have hlen:(rows.take most).length=Nat.min rows.length most:=by rw [zy46];exact Nat.min_comm _ _
   refine ⟨n,rows.take most,ids,a,rows.length,c,h,hv,hlen,by simp;omega,⟨a,c,rfl,by simp;omega,hm,fun hne=>?_⟩,fun r hr=>hs.lens r (zy62 hr)⟩;obtain ⟨b,o,ha,hpc⟩:=hcell (by rintro rfl;simp at hne);refine ⟨b,o,ha,fun k x hk=>hpc k x ?_⟩;have:rows.flatten=(rows.take most).flatten++(rows.drop most).flatten:=by rw [<- zy77,zy24]
   rw [this,zy35 ((zy8.1 hk).1)];exact hk
theorem xei {K:Res->Prop} {C:zbg} {d:Nat} {args:Array Operand} {ats:Array TypeId} (hok:zbc Γ m H w) (hxs:∀ x∈args.toList,zax m w (RR Γ m H w) (ev x) (ρ x)) (h:zcr P C (.call ⟨.builtin .copy,args,ats⟩) d ev H K) :
 ∃ r,K r/\OS Γ P m H w (execOp ρ ⟨dst,.call ⟨.builtin .copy,args,ats⟩,ty,pos,after,guard⟩) r:=by
 simp only [zcr] at h;split at h
 case h_2=>exact h.elim
 rename_i x y hargs;have hargs':args=#[x,y]:=by rw [<- zy60 (xs:=args),hargs]
 subst hargs';split at h
 case h_2=>exact h.elim
 rename_i t t' hats;have hats':ats=#[t,t']:=by rw [<- zy60 (xs:=ats),hats]
 subst hats';have hx:=hxs x zz5;have hy:=hxs y zz5;unfold ydp at h;have hq:=zei h;clear h;obtain ⟨e,de,u,i,z,hu,ht,h⟩:=hq;split at h
 case h_2=>exact h.elim
 rename_i id n1 off len hxx;rw [hxx] at hx;split at h
 case h_2=>exact h.elim
 rename_i b hH;obtain ⟨l,hl,hbr,_⟩:=hok.live id _ hH;have hq:=zyw hbr h;clear h;obtain ⟨t1,n2,rows,mk,lim,h,hw,hlim⟩:=hq;have hq:=xdt hok hy h;clear h;obtain ⟨n,ys,ids,a,ylen,c,h,hyv,hyl,hyc,hs⟩:=hq;have hx2:=zav h;clear h;obtain ⟨hee,⟨g1,g2⟩,h⟩:=hx2;simp only [zy12] at hee;have he1:=zy4 hee.1.1;have he2:=zy4 hee.1.2;have he3:=zy4 hee.2;subst he1 he2 he3;have hx':=hx;simp only [zax] at hx;obtain ⟨l',ad,hl',k1,k2,hxv,k5⟩:=hx;rw [hl] at hl';cases hl';have hroom:=hw.room;obtain ⟨vs,hp,yqp⟩:=hs.src hu;rw [ht.size] at yqp;have hcl:(Builtin.firstCells i.size ys.length (ρ y)).run P w=.ok vs.toArray w:=by
  have:=yqp.cells;rw [hyv];cases a<;>exact this
 refine ⟨_,h,?_⟩;have hlen:(Builtin.lenOf (ρ y)).run P w=.ok ylen w:=by rw [hyv];rfl
 by_cases hys:ys=[]
 . subst hys
   have hvs:vs=[]:=zy19 (by simpa using hp.length);subst hvs;have zdz:(Builtin.copy_ #[t,t'] ty #[ρ x,ρ y]).run P w=.ok (goInt 0) w:=by
    rw [hxv];simp only [zy13] at hyl hcl;cases ad<;>simp [Builtin.copy_,run_underlying hu,hlen,sizeOf,typeInfo,ht.info,<- hyl,hcl,storeCells]
   refine ⟨_,_,m,.inl (zhe .copy #[x,y] #[t,t'] _ (fun _=>rfl) zz89),?_,?_⟩
   . simp only [zdy,zms,hw.set,<- hH,zmu];exact .refl hok
   . exact zee _ rfl
 . obtain ⟨hn,hc,hf,hws⟩:=zme hok hH hl hw hlim hs.lens hp g1 g2 hys
   have hpos:0<ys.length:=Nat.pos_of_ne_zero fun h=>hys (zy19 h)
   have ha:ad=some ⟨l.blk,off*de.size,none⟩:=(k5 (.inl zz0)).trans zz86;subst ha;have hst:=run_storeCells_cells (P:=P) l.blk (off*de.size) vs 0 w (by simpa using hc) (by simpa using hf) hp.one;simp only [zy96] at hst;have zdz:(Builtin.copy_ #[t,t'] ty #[ρ x,ρ y]).run P w=.ok (goInt ys.length) (w.setCells l.blk (off*de.size) vs):=by
    rw [hxv];simp [Builtin.copy_,run_underlying hu,hlen,sizeOf,typeInfo,ht.info,<- hyl,hcl,hst]
   refine ⟨_,_,m,.inl (zhe .copy #[x,y] #[t,t'] _ (fun _=>rfl) zz89),hws,?_⟩;exact zee _ rfl
theorem yyw {K:Res->Prop} {C:zbg} {d:Nat} {args:Array Operand} {ats:Array TypeId} (hok:zbc Γ m H w) (hxs:∀ x∈args.toList,zax m w (RR Γ m H w) (ev x) (ρ x)) (h:zcr P C (.call ⟨.builtin .clear,args,ats⟩) d ev H K) :
 ∃ r,K r/\OS Γ P m H w (execOp ρ ⟨dst,.call ⟨.builtin .clear,args,ats⟩,ty,pos,after,guard⟩) r:=by
 simp only [zcr] at h;split at h
 case h_2=>exact h.elim
 rename_i x hargs;have hargs':args=#[x]:=by rw [<- zy60 (xs:=args),hargs]
 subst hargs';split at h
 case h_2=>exact h.elim
 rename_i t hats;have hats':ats=#[t]:=by rw [<- zy60 (xs:=ats),hats]
 subst hats';have hx:=hxs x zz5;unfold zrr at h;have hq:=zei h;clear h;obtain ⟨e,de,u,i,z,hu,ht,h⟩:=hq;have hx2:=zav h;clear h;obtain ⟨hc,h⟩:=hx2;simp only [zy12] at hc;obtain ⟨hzs,hone⟩:=hc;have hzs:=zy4 hzs;split at h
 case h_2=>exact h.elim
 rename_i id n1 off len hxx;rw [hxx] at hx;split at h
 case h_2=>exact h.elim
 rename_i b hH;obtain ⟨l,hl,hbr,_⟩:=hok.live id _ hH;have hq:=zyw hbr h;clear h;obtain ⟨t1,n2,rows,mk,lim,h,hw,hlim⟩:=hq;have hx2:=zav h;clear h;obtain ⟨hee,⟨g1,g2⟩,h⟩:=hx2;simp only [zy12] at hee;have he1:=zy4 hee.1;have he2:=zy4 hee.2;subst he1 he2;simp only [zax] at hx;obtain ⟨l',ad,hl',k1,k2,hxv,k5⟩:=hx;rw [hl] at hl';cases hl';have hroom:=hw.room;refine ⟨_,h,?_⟩;by_cases hl0:len=0
 . subst hl0
   have zdz:(Builtin.clear_ #[t] ty #[ρ x]).run P w=.ok (.tuple #[]) w:=by
    rw [hxv];cases ad<;>simp [Builtin.clear_,run_underlying hu]
   refine ⟨_,_,m,.inl (zhe .clear #[x] #[t] _ (fun _=>rfl) zz89),?_,?_⟩
   . simp only [zdy,zy145,zms,hw.set,<- hH,zmu];exact .refl hok
   . simp only [zax,zaz];exact ⟨#[],rfl,rfl⟩
 . have hp:=zyy (w:=w) (R:=RR Γ m H w) hone len
   obtain ⟨hn,hc,hf,hws⟩:=zme hok hH hl hw hlim (ys:=List.replicate len (de.zero.map PV.v)) (fun r hr=>by rw [zy69 hr,zy2,hzs]) hp g1 (by rw [zy93];exact g2) (fun h=>hl0 (by simpa using congrArg List.length h));have ha:ad=some ⟨l.blk,off*de.size,none⟩:=(k5 (.inl zz0)).trans zz86;subst ha;have hst:=run_storeCells_cells (P:=P) l.blk (off*de.size) _ 0 w (by simpa using hc) (by simpa using hf) hp.one;simp only [zy96] at hst;have hzl:(Builtin.zeroCells z.cells len).toList=(List.replicate len de.zero).flatten:=by rw [znj,ht.zeros]
   have zdz:(Builtin.clear_ #[t] ty #[ρ x]).run P w=.ok (.tuple #[]) (w.setCells l.blk (off*de.size) (List.replicate len de.zero).flatten):=by
    rw [hxv];obtain ⟨k,rfl⟩:∃ k,len=k+1:=⟨len-1,by omega⟩
    simp [Builtin.clear_,run_underlying hu,zeroValue,typeInfo,ht.info,ht.zero,hzl,hst]
   refine ⟨_,_,m,.inl (zhe .clear #[x] #[t] _ (fun _=>rfl) zz89),hws,?_⟩;simp only [zax,zaz];exact ⟨#[],rfl,rfl⟩
theorem xgz {K:Res->Prop} {C:zbg} {d:Nat} {args:Array Operand} {ats:Array TypeId} (hok:zbc Γ m H w) (hxs:∀ x∈args.toList,zax m w (RR Γ m H w) (ev x) (ρ x)) (h:zcr P C (.call ⟨.builtin .cap,args,ats⟩) d ev H K) :
 ∃ r,K r/\OS Γ P m H w (execOp ρ ⟨dst,.call ⟨.builtin .cap,args,ats⟩,ty,pos,after,guard⟩) r:=by
 simp only [zcr] at h;split at h
 case h_2=>exact h.elim
 rename_i x hargs;have hargs':args=#[x]:=by rw [<- zy60 (xs:=args),hargs]
 subst hargs';split at h
 case h_2=>exact h.elim
 rename_i t hats;have hats':ats=#[t]:=by rw [<- zy60 (xs:=ats),hats]
 subst hats';have hx:=hxs x zz5;have hq:=zei h;clear h;obtain ⟨e,de,u,i,z,hu,ht,h⟩:=hq;have he:P.elem t=e:=by simp [Program.elem,hu]
 have hu':P.underlying t=some (.slice (P.elem t)):=by rw [he];exact hu
 split at h
 case h_2=>exact h.elim
 rename_i id n1 off len hxx;rw [hxx] at hx;have hq:=zcj h;clear h;obtain ⟨b,hb,h⟩:=hq;obtain ⟨l,hl,hbr⟩:=hok.blk hb;split at h
 case h_2=>exact h.elim
 rename_i t1 n2 rows cap;obtain ⟨g,h⟩:=h;obtain ⟨b1,b2,_⟩:=hbr;simp only [zax] at hx;obtain ⟨l',ad,hl',k1,k2,hxv,k5⟩:=hx;rw [hl] at hl';cases hl';have hroom:l.room=cap:=by simp [Loc.room,b1,b2]
 have zdz:(Builtin.cap_ #[t] ty #[ρ x]).run P w=.ok (goInt ((cap-off:Nat))) w:=by rw [hxv,hroom];exact run_cap_slice w t ty ad len _ hu'
 exact ⟨_,h,.ret hok (zhe .cap #[x] #[t] _ (fun _=>rfl) (by simpa [goInt] using zdz)) (zee _ rfl) _⟩
theorem yua {K:Res->Prop} {C:zbg} {d:Nat} {args:Array Operand} {ats:Array TypeId} (hok:zbc Γ m H w) (hxs:∀ x∈args.toList,zax m w (RR Γ m H w) (ev x) (ρ x)) (h:zcr P C (.call ⟨.builtin .append,args,ats⟩) d ev H K) :
 ∃ r,K r/\OS Γ P m H w (execOp ρ ⟨dst,.call ⟨.builtin .append,args,ats⟩,ty,pos,after,guard⟩) r:=by
 simp only [zcr] at h;split at h
 . rename_i x y hargs
   have hargs':args=#[x,y]:=by rw [<- zy60 (xs:=args),hargs]
   subst hargs';split at h
   . rename_i t t' hats
     have hats':ats=#[t,t']:=by rw [<- zy60 (xs:=ats),hats]
     subst hats';have hx:=hxs x zz5;have hy:=hxs y zz5;split at h
     case h_2=>exact yoz hok hx hy h
     rename_i htt;have htt:=zy4 htt;subst htt;unfold zlk at h;obtain ⟨e,de,u,i,z,hu,ht,h⟩:=zei h;obtain ⟨n,ys,ids,hK,hs⟩:=zoq hok hy h;clear h;have hx2:=zav hK;clear hK;obtain ⟨hc,hK⟩:=hx2;simp only [zy12] at hc;obtain ⟨⟨⟨hn,hpos⟩,hby⟩,hzs⟩:=hc;have hn:=zy4 hn;subst hn;have hpos:0<de.size:=zy9 hpos;have hby:0<de.bytes:=zy9 hby;have hzs:=zy4 hzs;have hrunx:∀ {v:Value} {w':World},(Builtin.append_ #[t,t] ty #[ρ x,ρ y]).run P w=.ok v w'->(execOp ρ ⟨dst,.call ⟨.builtin .append,#[x,y],#[t,t]⟩,ty,pos,after,guard⟩).run P w=.ok (.value v) w' :=
      fun hr=>zic .append #[x,y] #[t,t] (fun _ _=>rfl) zz90
     split at hK
     . rename_i hxx
       rw [hxx] at hx;have hxv:=zql hx;rw [hxv] at hrunx;split at hK
       . rename_i hfree
         obtain ⟨h47,hK⟩:=hK;refine ⟨_,hK,?_⟩;have zgl:ygy w (RR Γ m H w) de.size [] (.slice none 0 0):=⟨⟨none,0,rfl,by simp,by simp [maxLen],fun h=>absurd rfl h⟩,by simp⟩
         by_cases hys:ys=[]
         . subst hys
           obtain ⟨news,hnw,hsn⟩:=hs.src hu;have hnn:news=[]:=zy19 zz87;subst hnn;rw [ht.size] at hsn;have hr:=run_append_nothing (P:=P) w t t ty e i hu ht.info none 0 0 (zy18 _) (ρ y) hsn;obtain ⟨m',hws,hm'⟩:=WS.newNil hok hfree e de.size;refine ⟨_,_,m',.inl (hrunx hr),hws,?_⟩;simp only [zax];exact ⟨_,hm',rfl⟩
         . exact zlc (.refl hok) hfree hu ht hzs hby zgl hs zz56 (by simpa using h47) rfl _ hrunx
       . exact hK.elim
     . rename_i id hxx
       rw [hxx] at hx;simp only [zax] at hx;obtain ⟨l,hl,hxv⟩:=hx;split at hK
       . rename_i e' n' rows hH
         have hx2:=zav hK;clear hK;obtain ⟨hee,hK⟩:=hx2;simp only [zy12] at hee;obtain ⟨he1,he2⟩:=hee;have he1:=zy4 he1;have he2:=zy4 he2;subst he1 he2;split at hK
         . rename_i hfree
           obtain ⟨h47,hK⟩:=hK;refine ⟨_,hK,?_⟩;obtain ⟨l',hl',hbr,_⟩:=hok.live id _ hH;rw [hl] at hl';cases hl';have hsx:=zta hbr;have hdrop:=WS.drop hok hH;have hdid:d≠id:=by rintro rfl;rw [hH] at hfree;cases hfree
           have hfree':upd H id .dead d=.free:=(zbd _ _ hdid).trans hfree;rw [hxv] at hrunx;have hbr':=hbr;obtain ⟨hlen,hlens,hb3⟩:=hbr;rcases hb3 with ⟨zgl,hr0⟩ | ⟨hnn,hc1,hc2,arr,harr,hsz,hcell⟩
           . subst hr0
             have hhd:hdr l=.slice none 0 0:=by simp [hdr,zgl]
             rw [hhd] at hrunx hsx;by_cases hys:ys=[]
             . subst hys
               obtain ⟨news,hnw,hsn⟩:=hs.src hu;have hnn:news=[]:=zy19 zz87;subst hnn;rw [ht.size] at hsn;have hr:=run_append_nothing (P:=P) w t t ty _ i hu ht.info none 0 0 (zy18 _) (ρ y) hsn;obtain ⟨m',hws,hm'⟩:=WS.newNil hdrop.ok hfree' e' de.size;refine ⟨_,_,m',.inl (hrunx hr),hdrop.trans hws,?_⟩;simp only [zax];exact ⟨_,hm',rfl⟩
             . exact zlc hdrop hfree' hu ht hzs hby hsx hs zz56 (by simpa using h47) rfl _ hrunx
           . have hhd:hdr l=.slice (some ⟨l.blk,0,none⟩) rows.length l.cap:=by simp [hdr,hnn,hlen]
             rw [hhd] at hrunx hsx;by_cases hroom:rows.length+ys.length<=l.cap
             . obtain ⟨news,hnw,hsn⟩:=hs.src hu
               have hnl:news.length=ys.length*de.size:=by rw [hnw.length,zcb hs.lens]
               have hfit:rows.length*de.size+news.length<=arr.size:=by
                rw [hnl,hsz,<- zy48];exact zy68 _ hroom
               rw [ht.size] at hsn;have hr:=run_append_room_src (P:=P) w t t ty _ i hu ht.info l.blk 0 rows.length l.cap (ρ y) ys.length news hsn hroom
                (fun j hj=>by rw [cell_of_row w l.blk _ arr _ (0,0) harr,zy91 (by rw [<- ht.size];omega)];rfl) (fun j hj=>by simp [World.frozen?,harr])
               rw [<- ht.size,zy59] at hr;obtain ⟨m',hws,hm'⟩:=WS.rename hok hH hl hnn hfree (b':=.row e' de.size (rows++ys)) (rows++ys).length (w':=w.setCells l.blk (rows.length*de.size) news)
                (zbu _ _ _ _).1 (zbu _ _ _ _).2.1 (zbu _ _ _ _).2.2.1 (zbu _ _ _ _).2.2.2 (fun k hk=>zft _ _ _ _ _ hk) (fun m' R' hext hk=>by
                 refine ⟨rfl,fun r hr=>?_,.inr ⟨rfl,by simpa using hroom,hc2,putAt arr (rows.length*de.size) news,zfs _ _ _ _ _ harr hfit,by rw [zgw,hsz],fun k y hy=>?_⟩⟩
                 . rcases zy14.1 hr with hr | hr
                   . exact hlens r hr
                   . exact hs.lens r hr
                 . rw [zy77] at hy
                   have hfl:=zcb hlens;rw [zfp];rcases zy84 k rows.flatten.length with hlt | hge
                   . rw [zy35 hlt] at hy
                     rw [zy0 (by omega)];obtain ⟨cv,h1,h2⟩:=hcell k y hy;exact ⟨cv,h1,h2.mono hk⟩
                   . rw [zy51 hge] at hy
                     obtain ⟨cv,h1,h2⟩:=hnw.get _ _ hy;have hklt:=(zy8.1 h1).1;refine ⟨cv,?_,h2.mono hk⟩;rw [zy1 (by omega),<- hfl];exact h1)
               refine ⟨_,_,m',.inl (hrunx hr),hws,?_⟩;simp only [zax];exact ⟨_,hm',by simp [hdr]⟩
             . exact zlc hdrop hfree' hu ht hzs hby hsx hs zz0 h47 rfl _ hrunx
         . exact hK.elim
       . exact hK.elim
     . rename_i id n1 off len hxx
       rw [hxx] at hx;split at hK
       . rename_i b hH
         obtain ⟨l,hl,hbr,_⟩:=hok.live id _ hH;have hq:=zyw hbr hK;clear hK;obtain ⟨t1,n2,rows,mk,lim,hK,hw,hlim⟩:=hq;have hx2:=zav hK;clear hK;obtain ⟨hee,hg,hK⟩:=hx2;simp only [zy12] at hee;obtain ⟨⟨he1,he2⟩,he3⟩:=hee;have he1:=zy4 he1;have he2:=zy4 he2;have he3:=zy4 he3;subst he1 he2 he3;obtain ⟨hg1,hg2⟩:=hg;refine ⟨_,hK,?_⟩;exact zzg hok hH hl hw hlim hx hu ht hs hg1 hg2 hrunx _
       . exact hK.elim
     . exact hK.elim
   . exact h.elim
 . exact h.elim
theorem yyi {u:TypeDesc} {v:Value} (h:yii (zou (zhx u)) v=true):yih (zou (zhx u))=u:=by
 cases u<;>simp only [zhx] at h ⊢<;>try rfl
 all_goals first | (rename_i k;cases k<;>rfl) | (exfalso;cases v<;>simp [zou,yii] at h;rename_i k n;cases k<;>simp [zou] at h)
theorem xgt {n:Nat} {v:Value} (h:yii n v=true):MapKept.IsKey (yih n) v:=by
 cases v<;>simp only [yii] at h<;>try cases h
 all_goals (have h:=zy4 h;subst h)
 . trivial
 . rename_i k z;cases k<;>rfl
 . trivial
theorem ytf {d:TypeDesc} {a b:Value} (ha:MapKept.IsKey d a) (hb:MapKept.IsKey d b):yot a b=true↔a=b:=by
 cases d<;>cases a<;>cases b<;>simp_all [MapKept.IsKey,yot,MapKept.bytes_beq]
theorem zhq.snoc {R:Nat->Prop} {agg:Bool} {xs:List (Value×List PV)} {es:List MapEntry} (h:zhq w R agg xs es) {x:Value×List PV} {e:MapEntry} (hx:ywn w R agg x e):zhq w R agg (xs++[x]) (es++[e]):=by
 induction h with
 | nil=>exact .cons hx .nil
 | cons h1 _ ih=>exact .cons h1 ih
theorem yhm {R:Nat->Prop} {agg:Bool} {d:TypeDesc} {k:Value} (hk:MapKept.IsKey d k):∀ {xs:List (Value×List PV)} {es:List MapEntry},zhq w R agg xs es->∀ (i:Nat),(∀ x∈es,MapKept.IsKey d x.key) ->
 (Instr.findNow d k es i=some none/\yhl xs k=none/\(∀ x∈es,x.key≠k)/\∀ v,xes xs k v=xs++[(k,v)]) \/
 ∃ j e cs,Instr.findNow d k es i=some (some (i+j,e.val))/\es[j]?=some e/\e.key=k/\yhl xs k=some cs/\ywn w R agg (k,cs) e /\
  ∀ v e',ywn w R agg (k,v) e'->zhq w R agg (xes xs k v) (es.set j e')
 | _,_,.nil,_,_=>.inl ⟨rfl,rfl,by simp,fun _=>rfl⟩
 | (k',cs)::xs,e::es,.cons hx hr,i,h=>by
  obtain ⟨r,hr1,hiff⟩:=MapKept.sameNow_of_keys hk (h e (.head _));have hke:e.key=k':=hx.1;have hq:yot k k'=r:=by
   have h1:=ytf hk (h e (.head _));rw [hke] at h1 hiff;cases r with
   | true=>exact h1.2 (hiff.1 rfl)
   | false=>cases hc:yot k k' with
    | false=>rfl
    | true=>have:=hiff.2 (h1.1 hc);cases this
  cases r with
  | true =>
   have hkk:=hiff.1 rfl;refine .inr ⟨0,e,cs,by simp [Instr.findNow,hr1],rfl,hkk.symm,by simp [yhl,hq],by rw [hkk,hke];exact hx,fun v e' he'=>?_⟩;simp only [xes,hq,if_true,zy129];exact .cons he' hr
  | false =>
   have hne:e.key≠k:=fun q=>by have:=hiff.2 q.symm;cases this
   rcases yhm hk hr (i+1) (fun x hx=>h x (.tail _ hx)) with ⟨h1,h2,h3,h4⟩ | ⟨j,e',cs',h1,h2,h3,h4,h5,h6⟩
   . refine .inl ⟨by simp [Instr.findNow,hr1,h1],by simp [yhl,hq,h2],fun x hx=>?_,fun v=>by simp [xes,hq,h4]⟩
     cases hx with
     | head=>exact hne
     | tail _ hx=>exact h3 x hx
   . refine .inr ⟨j+1,e',cs',by simp [Instr.findNow,hr1,h1];omega,by simpa using h2,h3,by simp [yhl,hq,h4],h5,fun v e'' he=>?_⟩
     simp only [xes,hq,zy115];exact .cons hx (h6 v e'' he)
theorem yei {k:TypeId} {dk:TyD} {uk:TypeDesc} {ik:TypeInfo} {zk:Value} (ht:zrf P k dk uk ik zk) {v:Value} (h:yii (zou dk.k) v=true):yih (zou dk.k)=uk/\MapKept.IsKey uk v:=by
 have hd:dk.k=zhx uk:=ht.kind;rw [hd] at h ⊢;have:=yyi h;exact ⟨this,this ▸ xgt h⟩
theorem ypd {K:Res->Prop} {C:zbg} {d:Nat} {t:TypeId} {r:Option Operand} (hok:zbc Γ m H w) (h:zcr P C (.makeMap t r) d ev H K) :
 ∃ r',K r'/\OS Γ P m H w (execOp ρ ⟨dst,.makeMap t r,ty,pos,after,guard⟩) r':=by
 simp only [zcr] at h;cases r with
 | some _=>exact h.elim
 | none =>
  obtain ⟨k,e,dk,uk,ik,zk,de,u,i,z,hu,htk,ht,h⟩:=zsz h;split at h
  . rename_i hfree
    obtain ⟨m',hws,hm'⟩:=WS.newObj hok hfree (o:=.map #[] 0) (b:=.map (zou dk.k) (zdt de.k) []) (cap:=0) (len:=0)
     (fun m' R' hext hk=>⟨rfl,#[],0,(MapKept.heap_alloc w _).1,.nil,MapKept.stamped_empty 0,by simp⟩)
    refine ⟨_,h,.map (some w.heap.size),_,m',.inl ?_,hws,?_⟩
    . simp only [execOp]
      exact zbo _ (by rfl)
    . simp only [zax]
      exact ⟨_,hm',rfl,rfl⟩
  . exact h.elim
theorem zhq.split {w:World} {R:Nat->Prop} {agg:Bool}:∀ {A':List MapEntry} {e:MapEntry} {B':List MapEntry} {xs:List (Value×List PV)},zhq w R agg xs (A'++e::B') ->
 ∃ A x B,xs=A++x::B/\zhq w R agg A A'/\ywn w R agg x e/\zhq w R agg B B'
 | [],e,B',xs,h=>by cases h with | cons h1 h2=>exact ⟨[],_,_,rfl,.nil,h1,h2⟩
 | a::A',e,B',xs,h=>by
  cases h with
  | cons h1 h2 =>
   obtain ⟨A,x,B,rfl,k1,k2,k3⟩:=zhq.split h2;exact ⟨_::A,x,B,rfl,.cons h1 k1,k2,k3⟩
theorem zhq.join {w:World} {R:Nat->Prop} {agg:Bool}:∀ {A':List MapEntry} {B':List MapEntry} {A B:List (Value×List PV)},zhq w R agg A A'->zhq w R agg B B'->zhq w R agg (A++B) (A'++B')
 | [],B',A,B,h,k=>by cases h;exact k
 | a::A',B',A,B,h,k=>by cases h with | cons h1 h2=>exact .cons h1 (h2.join k)
theorem yth {arr:Array MapEntry} {seen:Array Nat} {e:MapEntry} {A B:List MapEntry} (hn:(arr.toList.map (·.born)).Nodup) (h:(leftOf arr seen).toList=A++e::B):(leftOf arr (seen.push e.born)).toList=A++B:=by
 have h1:(leftOf arr (seen.push e.born)).toList=(leftOf arr seen).toList.filter fun x=>!(x.born==e.born):=by
  unfold leftOf;rw [Array.toList_filter,Array.toList_filter,List.filter_filter];refine List.filter_congr fun x _=>?_
  rw [contains_push];cases seen.contains x.born<;>cases x.born==e.born<;>rfl
 have hs:(leftOf arr seen).toList.Sublist arr.toList:=by unfold leftOf;rw [Array.toList_filter];exact List.filter_sublist
 have h2:((A++e::B).map (·.born)).Nodup:=by rw [<- h];exact (hs.map _).nodup hn
 rw [zy33,zy22,List.nodup_append] at h2;obtain ⟨_,h3,h4⟩:=h2;have h5:=(zy128.1 h3).1;rw [h1,h,zy44,zy126 (by simp),zy76.2 fun x hx=>?_,zy76.2 fun x hx=>?_]
 . have:x.born≠e.born:=fun q=>h5 (q ▸ List.mem_map_of_mem hx)
   simpa using this
 . have:x.born≠e.born:=h4 x.born (List.mem_map_of_mem hx) e.born zz5
   simpa using this
theorem xdv {kc:Nat} {v:Value} (h:MapKept.IsKey (yih kc) v):v.oneCell'=true:=by
 generalize yih kc=d at h;cases d<;>cases v<;>first | rfl | exact h.elim
theorem yza {K:Res->Prop} {C:zbg} {d:Nat} {t:TypeId} {x:Operand} (hok:zbc Γ m H w) (hx:zax m w (RR Γ m H w) (ev x) (ρ x)) (h:zcr P C (.range t x) d ev H K) :
 ∃ r',K r'/\OS Γ P m H w (execOp ρ ⟨dst,.range t x,ty,pos,after,guard⟩) r':=by
 simp only [zcr] at h;obtain ⟨k,e,dk,uk,ik,zk,de,u,i,z,hu,htk,ht,h⟩:=zsz h;split at h
 . rename_i id hxx
   rw [hxx] at hx;simp only [zax] at hx;obtain ⟨l,hl,hn,hv⟩:=hx;split at h
   . rename_i kc agg es hb
     split at h
     . rename_i hfree
       obtain ⟨l',hl',hbr,hlo⟩:=hok.live id _ hb;rw [hl] at hl';cases hl';obtain ⟨_,arr,clock,harr,her,hst,hks⟩:=hbr;obtain ⟨hws1,hrr⟩:=WS.kill hok hb hl hn (w':=w) rfl rfl rfl rfl (fun _ _=>rfl);have hne:d≠id:=by rintro rfl;rw [hb] at hfree;cases hfree
       obtain ⟨m',hws2,hm'⟩:=WS.newObj hws1.ok (id:=d) (by rw [zbd _ _ hne];exact hfree) (o:=.mapIter (some l.blk) clock #[] clock) (b:=.iter kc agg es none) (cap:=0) (len:=0)
        (fun m' R' hext hk=>⟨rfl,l.blk,arr,clock,#[],heap_alloc_new _ _,⟨(hk _ hrr).1.trans harr,(hk _ hrr).2,hst,hks,by
         have:(leftOf arr #[]).toList=arr.toList:=by unfold leftOf;simp
         rw [this];exact (her.mono hws1.keep).mono hk,by simp⟩⟩)
       refine ⟨_,h,.pointer (some ⟨w.heap.size,0,none⟩),_,m',.inl ?_,hws1.trans hws2,?_⟩
       . simp only [execOp]
         rw [hv];exact zbo _ (run_range_map w t k e l.blk arr clock hu harr)
       . simp only [zax]
         exact ⟨_,hm',rfl,rfl⟩
     . exact h.elim
   . exact h.elim
 . exact h.elim
theorem xel {K:Res->Prop} {C:zbg} {d:Nat} {x:Operand} {str:Bool} (hok:zbc Γ m H w) (hx:zax m w (RR Γ m H w) (ev x) (ρ x)) (h:zcr P C (.next x str) d ev H K) :
 ∃ r',K r'/\OS Γ P m H w (execOp ρ ⟨dst,.next x str,ty,pos,after,guard⟩) r':=by
 simp only [zcr] at h;split at h
 . exact h.elim
 split at h
 . rename_i id hxx
   rw [hxx] at hx;simp only [zax] at hx;obtain ⟨l,hl,hn,hv⟩:=hx;split at h
   . rename_i kc agg left cur hb
     obtain ⟨l',hl',hbr,hlo⟩:=hok.live id _ hb;rw [hl] at hl';cases hl';obtain ⟨_,bm,arr,clock,seen,hit,hI⟩:=hbr;have hst:=hI.stamped;rcases run_next_at (P:=P) w ty l.blk bm clock clock seen arr clock hit hI.map hst.1 (zy18 _) with ⟨h0,zdz⟩ | ⟨e,he,w1,hw1,zdz⟩
     . have hl0:left=[]:=by
        have:=hI.left;rw [Array.eq_empty_of_size_eq_zero h0] at this;cases this;rfl
       refine ⟨_,h.1 hl0,.ret hok (v:=.tuple #[.bool false]) ?_ ?_ _⟩
       . simp only [execOp]
         rw [hv];exact zbo _ zdz
       . simp only [zax,zaz]
         exact ⟨_,rfl,.bool false,[],rfl,.v _ rfl,rfl⟩
     . obtain ⟨A',B',hAB⟩:=List.append_of_mem he
       have hleft:=hI.left;rw [hAB] at hleft;obtain ⟨A,y,B,rfl,hA,hy,hB⟩:=zhq.split hleft;have hw0:WS Γ H m w H m w1:=by
        rcases hw1 with rfl | rfl
        . exact .refl hok
        . exact .drew hok
       have hheap:w1.heap=w.heap:=by rcases hw1 with rfl | rfl<;>rfl
       have hother:∀ k,k≠l.blk->(ChangeMaps.setBlock w1 l.blk (.mapIter (some bm) clock (seen.push e.born) clock)).heap[k]?=w1.heap[k]?:=fun k hk=>by
        show (w1.heap.setIfInBounds _ _)[k]?=_;rw [Array.getElem?_setIfInBounds_ne (fun q=>hk q.symm)]
       have hself:(ChangeMaps.setBlock w1 l.blk (.mapIter (some bm) clock (seen.push e.born) clock)).heap[l.blk]?=some (.mapIter (some bm) clock (seen.push e.born) clock):=by
        show (w1.heap.setIfInBounds _ _)[l.blk]?=_;rw [Array.getElem?_setIfInBounds_self_of_lt];rw [hheap];exact (zy80.1 hit).1
       have hws:WS Γ H m w1 (upd H id (.live (.iter kc agg (A++B) (some y)))) m (ChangeMaps.setBlock w1 l.blk (.mapIter (some bm) clock (seen.push e.born) clock)):=by
        refine WS.set hw0.ok hb hl hn (by show (w1.heap.setIfInBounds _ _).size=_;simp) rfl rfl rfl hother fun R' hR=>?_
        have hk:∀ b,RR Γ m H w b->(ChangeMaps.setBlock w1 l.blk (.mapIter (some bm) clock (seen.push e.born) clock)).heap[b]?=w.heap[b]?/\R' b:=fun b hb=>by
         have h1:=hw0.keep b hb;have h2:=hR b h1.2;exact ⟨h2.1.trans h1.1,h2.2⟩
        refine ⟨hn,bm,arr,clock,seen.push e.born,hself,⟨(hk _ hI.ok).1.trans hI.map,(hk _ hI.ok).2,hst,hI.keys,?_,fun z hz=>?_⟩⟩
        . rw [yth hst.2.1 hAB]
          exact (hA.join hB).mono hk
        . cases hz
          exact ⟨e,(mem_left he).1,⟨seen,rfl⟩,hy.mono hk⟩
       refine ⟨_,h.2 A y B rfl,.tuple #[.bool true,e.key,e.val],_,m,.inl ?_,hw0.trans hws,?_⟩
       . simp only [execOp]
         rw [hv];exact zbo _ zdz
       . simp only [zax,zaz]
         exact ⟨_,rfl,.bool true,[e.key,e.val],rfl,.v _ rfl,e.key,[e.val],rfl,trivial,e.val,[],rfl,trivial,rfl⟩
   . exact h.elim
 . exact h.elim
theorem yyx {K:Res->Prop} {C:zbg} {d:Nat} {x:Operand} (hok:zbc Γ m H w) (hx:zax m w (RR Γ m H w) (ev x) (ρ x)) (h:zcr P C (.entry x) d ev H K) :
 ∃ r',K r'/\OS Γ P m H w (execOp ρ ⟨dst,.entry x,ty,pos,after,guard⟩) r':=by
 simp only [zcr] at h;split at h
 . rename_i id hxx
   rw [hxx] at hx;simp only [zax] at hx;obtain ⟨l,hl,hn,hv⟩:=hx;obtain ⟨b,hb,h⟩:=zcj h;obtain ⟨l',hl',hbr⟩:=hok.blk hb;rw [hl] at hl';cases hl';split at h
   . rename_i kc agg left cur
     obtain ⟨k,v,rfl,hc,h⟩:=h;obtain ⟨_,bm,arr,clock,seen,hit,hI⟩:=hbr;obtain ⟨e,he,⟨s0,rfl⟩,hk,hone,hp⟩:=hI.cur _ hc;have hst:=hI.stamped;refine ⟨_,h,.ret hok (v:=.tuple #[e.key,e.val]) ?_ ?_ _⟩
     . simp only [execOp]
       rw [hv];exact zbo _ (run_entry_at (P:=P) w l.blk bm clock s0 arr clock e hit hI.map he hst.2.1)
     . have hk:e.key=k:=hk
       have h1:=xdv (hI.keys e he);rw [hk] at h1;cases hp with
       | cons h2 h3 =>
        simp only [zax,zaz];exact ⟨_,rfl,e.key,[e.val],rfl,by rw [hk];exact .v k h1,e.val,[],rfl,h2,rfl⟩
   . exact h.elim
 . exact h.elim
theorem yzs {e:TypeId} {de:TyD} {u:TypeDesc} {i:TypeInfo} {z:Value} (ht:zrf P e de u i z) {arr:Array Value} {off:Nat} {us:List Value}
 (hus:(zdt de.k=true/\us.length=de.size)\/(zdt de.k=false/\us.length=1)) (huc:∀ (k:Nat) v,us[k]?=some v->arr.toList[off+k]?=some v) :
 (part e arr off).run P w=.ok (if zdt de.k then .agg us.toArray else us.headD undef) w:=by
 unfold part;rw [Sem.run_bind,ht.isAgg w,Result.andThen_ok];rcases hus with ⟨ha,hl⟩ | ⟨ha,hl⟩
 . rw [ha]
   simp only [if_true];have hsz:(sizeOf e).run P w=.ok de.size w:=by simp [sizeOf,typeInfo,ht.info,ht.size]
   simp only [Sem.run_bind,hsz,Result.andThen_ok,Sem.run_pure];congr 2;apply Array.ext';apply zy71;intro k;simp only [Array.toList_extract,List.extract_eq_take_drop,Nat.add_sub_cancel_left];rw [zy47];by_cases hk:k<de.size
   . rw [zy1 hk,zy45]
     have h1:=huc k (us[k]'zz0) (zy3 zz0);rw [h1,zy3 (by omega)]
   . rw [zy0 hk,zy52 (by omega)]
 . rw [ha]
   simp only [zy81,if_false]
   match us,hl with
   | [c],_ =>
    have h1:=huc 0 c rfl;simp only [zy96,zy117] at h1;simp [h1]
theorem zyi {R:Nat->Prop} {td:TyD} {cs:List PV} {K:HV->Prop} {vs:List Value} (hr:zep w R cs vs) (h:ziw td cs 0 K) :
 ∃ x,K x/\(zdt td.k=true->td.size<=vs.length)/\(∀ v,(if zdt td.k then (∃ us,v=.agg (us:List Value).toArray/\us=vs.take td.size) else vs[0]?=some v)->zax m w R x v):=by
 unfold ziw at h;split at h
 . rename_i ha
   obtain ⟨hle,h⟩:=zav h;rw [zgt,zpn] at h;have hle:=zy9 hle;refine ⟨_,h,fun _=>by rw [hr.length];omega,fun v hv=>?_⟩;rw [ha] at hv;simp only [if_true] at hv;obtain ⟨us,rfl,rfl⟩:=hv;simp only [zax];refine ⟨_,rfl,zaz.of_get (by simp [hr.length]) fun k x v hx hv=>?_⟩;rw [zy10,zy154] at hx;obtain ⟨x',hx',rfl⟩:=zy29.1 hx;have hv:(vs.take td.size)[k]?=some v:=by simpa using hv
   rw [zy47] at hx' hv;by_cases hk:k<td.size
   . rw [zy1 hk] at hx' hv
     obtain ⟨v',hv',hp⟩:=hr.get _ _ hx';rw [hv'] at hv;cases hv;simp only [zax];exact hp
   . rw [zy0 hk] at hx';cases hx'
 . rename_i ha
   have hfin:∀ y,nth cs 0=some y->∀ v,vs[0]?=some v->zhj w R y v:=by
    intro y hy v hv;rw [zgq] at hy;obtain ⟨v',hv',hp⟩:=hr.get _ _ hy;rw [hv'] at hv;cases hv;exact hp
   split at h
   . rename_i x hx
     exact ⟨_,h,by simp [ha],fun v hv=>by rw [ha] at hv;simp only [zax];exact hfin _ hx v zz63⟩
   . rename_i n r hx
     exact ⟨_,h,by simp [ha],fun v hv=>by rw [ha] at hv;simp only [zax];exact hfin _ hx v zz63⟩
   . exact h.elim
theorem yxv {e:TypeId} {de:TyD} {ok agg:Bool} {o:Option (List PV)} {K:Res->Prop} {id:Nat} (h:yon P e de ok agg o K id) :
 agg=zdt de.k/\match o with
  | some cs=>cs.length=de.size/\ziw de cs 0 fun v=>okK ok v true id K
  | none=>de.zero.length=de.size/\(de.zero.all (·.oneCell'))=true/\de.zagg=zdt de.k/\ziw de (zya (lay P e) (de.zero.map .v)) 0 fun v=>okK ok v false id K:=by
 unfold yon at h;obtain ⟨h1,h⟩:=zav h;refine ⟨eq_of_beq h1,?_⟩;cases o with
 | some cs =>
  obtain ⟨h2,h⟩:=zav h;exact ⟨zy4 h2,h⟩
 | none =>
  obtain ⟨h2,h⟩:=zav h;simp only [zy12] at h2;exact ⟨zy4 h2.1.1,h2.1.2,eq_of_beq h2.2,h⟩
theorem yuc {K:Res->Prop} {C:zbg} {d:Nat} {t:TypeId} {x i:Operand} {ok:Bool} (hok:zbc Γ m H w) (hx:zax m w (RR Γ m H w) (ev x) (ρ x)) (hi:zax m w (RR Γ m H w) (ev i) (ρ i)) (h:zcr P C (.lookup t x i ok) d ev H K) :
 ∃ r,K r/\OS Γ P m H w (execOp ρ ⟨dst,.lookup t x i ok,ty,pos,after,guard⟩) r:=by
 simp only [zcr] at h;obtain ⟨k,e,dk,uk,ik,zk,de,u,inf,z,hu,htk,ht,h⟩:=zsz h;split at h
 . rename_i kv hii
   rw [hii] at hi;have hiv:ρ i=kv:=by simp only [zax] at hi;cases hi;rfl
   obtain ⟨hki,h⟩:=zav h;obtain ⟨hkd,hkey⟩:=yei htk hki;split at h
   . rename_i id hxx
     rw [hxx] at hx;simp only [zax] at hx;obtain ⟨l,hl,hn,hv⟩:=hx;obtain ⟨b,hb,h⟩:=zcj h;obtain ⟨l',hl',hbr⟩:=hok.blk hb;rw [hl] at hl';cases hl';split at h
     . rename_i kc agg es
       have hx2:=zav h;clear h;obtain ⟨hkc,o,ho,h⟩:=hx2;have hkc:=zy4 hkc;subst hkc;obtain ⟨_,arr,clock,harr,her,hst,hks⟩:=hbr;rw [hkd] at hks;obtain ⟨hag,h⟩:=yxv h;have hget:=MapKept.run_getObj_map (P:=P) harr;have hck:=fun em=>MapKept.run_checkKey (P:=P) (w:=w) htk.und hkey em 9999
       have fin:∀ (v:Value) (bb:Bool) (y:HV),(Instr.lookup t (ρ x) (ρ i) ok).run P w=.ok (if ok then .tuple #[v,.bool bb] else v) w->zax m w (RR Γ m H w) y v ->
        okK ok y bb id K->∃ r,K r/\OS Γ P m H w (execOp ρ ⟨dst,.lookup t x i ok,ty,pos,after,guard⟩) r:=by
        intro v bb y zdz hy hk;cases ok with
        | true =>
         refine ⟨_,hk,.ret hok (v:=.tuple #[v,.bool bb]) ?_ ?_ _⟩
         . simp only [execOp];exact zbo _ zdz
         . simp only [zax]
           refine ⟨_,rfl,?_⟩;simp only [zaz];exact ⟨v,[.bool bb],rfl,hy,.bool bb,[],rfl,zee _ rfl,rfl⟩
        | false =>
         refine ⟨_,hk,.ret hok (v:=v) ?_ hy _⟩;simp only [execOp];exact zbo _ zdz
       rcases yhm hkey her 0 (fun x hx=>hks x hx) with ⟨h1,h2,_,_⟩ | ⟨j,en,cs,h1,h2,h3,h4,h5,_⟩
       . rw [h2] at ho
         subst ho;obtain ⟨hz1,hz2,hz3,h⟩:=h;rw [ht.zagg] at hz3;have hzp:zep w (RR Γ m H w) (zya (lay P e) (de.zero.map .v)) z.cells.toList:=by
          refine zep.norm _ ?_;rw [<- ht.zeros];exact zwi fun v hv=>zy26.1 hz2 v hv
         obtain ⟨y,hk,hlen,hrep⟩:=zyi (m:=m) hzp h;refine fin z false y ?_ (hrep z ?_) hk
         . rw [hv,hiv]
           simp [Instr.lookup,run_underlying hu,hget,hck,MapKept.run_findKey htk.und h1,zeroValue,typeInfo,ht.info,ht.zero,Result.andThen]
         . rw [ht.zeros] at hz1
           cases hza:zdt de.k with
           | true =>
            rw [hza] at hz3;simp only [if_true];cases z with
            | agg arr =>
             refine ⟨arr.toList,by simp,?_⟩;rw [zy36 (by simp [Value.cells] at hz1 ⊢;omega)]
             rfl
            | _=>simp [ylx] at hz3
           | false =>
            rw [hza] at hz3;simp only [zy81,if_false];cases z<;>first | rfl | simp [ylx] at hz3
       . rw [h4] at ho
         subst ho;obtain ⟨hcl,h⟩:=h;have hvs:∃ vs,zep w (RR Γ m H w) cs vs/\(if zdt de.k then (∃ us,en.val=.agg (us:List Value).toArray/\us=vs.take de.size) else vs[0]?=some en.val):=by
          obtain ⟨_,h5⟩:=h5;rw [<- hag];cases agg with
          | true =>
           obtain ⟨arr',h6,h7⟩:=h5;refine ⟨arr'.toList,h7,?_⟩;simp only [if_true];exact ⟨arr'.toList,by simp [h6],by rw [zy36 (by have:=h7.length;dsimp only at this;omega)]⟩
          | false=>exact ⟨[en.val],h5.2,by simp⟩
         obtain ⟨vs,hp,hval⟩:=hvs;obtain ⟨y,hk,hlen,hrep⟩:=zyi (m:=m) hp h;refine fin en.val true y ?_ (hrep _ hval) hk;rw [hv,hiv];simp [Instr.lookup,run_underlying hu,hget,hck,MapKept.run_findKey htk.und h1,Result.andThen]
     . exact h.elim
   . exact h.elim
 . exact h.elim
theorem yyz {K:Res->Prop} {C:zbg} {d:Nat} {t:TypeId} {x i:Operand} (hok:zbc Γ m H w) (hx:zax m w (RR Γ m H w) (ev x) (ρ x)) (hi:zax m w (RR Γ m H w) (ev i) (ρ i)) (h:zcr P C (.index t x i) d ev H K) :
 ∃ r,K r/\OS Γ P m H w (execOp ρ ⟨dst,.index t x i,ty,pos,after,guard⟩) r:=by
 simp only [zcr] at h;obtain ⟨n,e,de,u,inf,z,hu,ht,h⟩:=yjw h;split at h
 . rename_i l hxx
   rw [hxx] at hx;split at h
   . rename_i k i' hii
     rw [hii] at hi;have hiv:=zdl hi;obtain ⟨j,rfl,hj,h⟩:=h;simp only [zax] at hx;obtain ⟨arr,hv,hrl⟩:=hx;obtain ⟨y,us,hk,hus,huc,hrep⟩:=zpa hrl h;have hsz:∀ W:World,(sizeOf e).run P W=.ok de.size W:=fun W=>by simp [sizeOf,typeInfo,ht.info,ht.size]
     have hpart:=yzs (w:=w) ht (arr:=arr) hus huc;refine ⟨_,hk,.ret hok ?_ hrep _⟩;simp only [execOp,hv,hiv];refine zbo _ ?_;simp only [Instr.index,asIntOf,Sem.run_bind,Sem.run_pure,Result.andThen_ok,run_underlying hu];rw [zy1 ⟨by omega,by omega⟩];simp only [Sem.run_bind,hsz,Result.andThen_ok,zy39];exact hpart
   . exact h.elim
 . exact h.elim
theorem yez {K:Res->Prop} {t:TypeId} {x i y:Operand} (hok:zbc Γ m H w) (hx:zax m w (RR Γ m H w) (ev x) (ρ x)) (hi:zax m w (RR Γ m H w) (ev i) (ρ i)) (hy:zax m w (RR Γ m H w) (ev y) (ρ y))
 (h:zje P t (ev x) (ev i) (ev y) H K):∃ r,K r/\∀ {xo:Sem Next},(xo=(do Instr.mapUpdate t (ρ x) (ρ i) (ρ y);pure Next.skip:Sem Next))->OS Γ P m H w xo r:=by
 unfold zje at h;obtain ⟨k,e,dk,uk,ik,zk,de,u,inf,z,hu,htk,ht,h⟩:=zsz h;split at h
 . rename_i kv hii
   rw [hii] at hi;have hiv:ρ i=kv:=by simp only [zax] at hi;cases hi;rfl
   obtain ⟨hki,h⟩:=zav h;obtain ⟨hkd,hkey⟩:=yei htk hki;split at h
   . rename_i id hxx
     rw [hxx] at hx;simp only [zax] at hx;obtain ⟨l,hl,hn,hv⟩:=hx;split at h
     . rename_i kc agg es hH
       obtain ⟨hb,h⟩:=zav h;simp only [zy12] at hb;obtain ⟨⟨h1,hag⟩,hkc⟩:=hb;have hag:agg=ylw (ev y):=eq_of_beq hag;have hkc:=zy4 hkc;subst hkc;obtain ⟨l',hl',hbr,_⟩:=hok.live id _ hH;rw [hl] at hl';cases hl';obtain ⟨_,arr,clock,harr,her,hst,hks⟩:=hbr;have hks':=hks;rw [hkd] at hks';obtain ⟨vs,us,h,hfz,hprep⟩:=yib hok (hy.cells h1) h;have hx2:=zav h;clear h;obtain ⟨hb,es',hes,h⟩:=hx2;simp only [zy12] at hb;have hlen:=zy4 hb.1;have hus:us=[]:=by simpa using hb.2
       subst hus;have hcl:(ρ y).cells.size=de.size:=by have:=hprep.length;simp at this;omega
       have her':∀ born,ywn w (RR Γ m H w) agg (kv,vs) ⟨kv,ρ y,born⟩:=by
        intro born;refine ⟨rfl,?_⟩;simp only [zdy] at hprep;rw [hag];cases hyy:ev y<;>rw [hyy] at hy h1
        case agg l2 =>
         simp only [zax] at hy;obtain ⟨arr2,hv2,_⟩:=hy;simp only [ylw];exact ⟨arr2,hv2,by rw [hv2] at hprep;exact hprep⟩
        all_goals (
         simp only [ylw];have hone:=hy.one h1;rw [zrk hone] at hprep;exact ⟨hone,hprep⟩)
       have hrunG:∀ (j:Option (Nat×Value)),(Instr.findKey k kv arr.toList).run P w=.ok j w->(∀ i v,j=some (i,v)->∃ e,arr[i]?=some e/\e.key=kv) ->
        (Instr.mapUpdate t (.map (some l.blk)) kv (ρ y)).run P w=(setObj l.blk (match j with
         | some (i,_)=>.map (arr.modify i fun e=>{e with key:=kv,val:=ρ y}) clock
         | none=>.map (arr.push {key:=kv,val:=ρ y,born:=clock}) (clock+1))).run P w:=by
        intro j hj hjk;simp only [Instr.mapUpdate,Sem.run_bind,run_underlying hu,Result.andThen_ok,MapKept.run_getObj_map harr,MapKept.run_checkKey htk.und hkey,hj];cases j with
        | none=>rfl
        | some q =>
         obtain ⟨i,v⟩:=q;obtain ⟨e1,he1,he2⟩:=hjk i v rfl;simp [he1,he2,MapKept.run_keyThatStays hkey,Result.andThen]
       have fin:∀ (o':Obj),(Instr.mapUpdate t (.map (some l.blk)) kv (ρ y)).run P w=(setObj l.blk o').run P w ->
        (∀ (w':World) (R':Nat->Prop),w'.heap[l.blk]?=some o'->(∀ b,RR Γ m H w b->w'.heap[b]?=w.heap[b]?/\R' b)->znb m w' R' l (.map (zou dk.k) agg es')) ->
        ∃ r,K r/\∀ {xo:Sem Next},(xo=(do Instr.mapUpdate t (ρ x) (ρ i) (ρ y);pure Next.skip:Sem Next))->OS Γ P m H w xo r:=by
        intro o' zdz hbr';refine ⟨_,h,fun {xo} hxo=>⟨undef,{w with heap:=w.heap.setIfInBounds l.blk o'},m,.inr ⟨?_,rfl⟩,WS.set hok hH hl hn ?_ rfl rfl rfl ?_ ?_,by simp only [zax]⟩⟩
        . rw [hxo,hv,hiv,Sem.run_bind,zdz,MapKept.run_setObj_map _ harr];rfl
        . simp
        . exact fun k hk=>(MapKept.heap_set harr).2 k hk
        . exact fun R' hk=>hbr' _ R' (MapKept.heap_set harr).1 hk
       rcases yhm hkey her 0 (fun x hx=>hks' x hx) with ⟨a1,a2,a3,a4⟩ | ⟨j,en,cs,a1,a2,a3,a4,a5,a6⟩
       . refine fin _ (hrunG none (MapKept.run_findKey htk.und a1) zz5) fun w' R' hw' hk=>?_
         rw [hes,a4];refine ⟨hn,_,_,hw',?_,MapKept.stamped_push hst a3,?_⟩
         . rw [Array.toList_push]
           exact ((her.mono hk).snoc ((her' clock).mono hk))
         . intro x hx
           simp only [Array.toList_push,zy14,zy20] at hx;rcases hx with hx | rfl
           . exact hks x hx
           . rw [hkd];exact hkey
       . have hj:arr[j]?=some en:=by simpa using a2
         rw [zy59] at a1;refine fin _ (hrunG (some (j,en.val)) (MapKept.run_findKey htk.und a1) (by intro i v hiv;cases hiv;exact ⟨en,hj,a3⟩)) fun w' R' hw' hk=>?_
         have hkey':∀ e',arr[j]?=some e'->({e' with key:=kv,val:=ρ y}:MapEntry).key=e'.key:=fun e' he'=>by rw [hj] at he';cases he';exact a3.symm
         refine ⟨hn,_,_,hw',?_,MapKept.stamped_modify hst _ _ (fun _ _=>rfl) (fun e' _ he'=>hkey' e' he'),MapKept.isKey_modify hks _ _ hkey'⟩;have:=(a6 vs {en with key:=kv,val:=ρ y} (her' en.born)).mono hk;rw [hes];have hl2:(arr.modify j fun e=>{e with key:=kv,val:=ρ y}).toList=arr.toList.set j {en with key:=kv,val:=ρ y}:=by
          apply zy71;intro q;simp only [zy117,zy135,zy134];by_cases hq:j=q
          . subst hq
            have:j<arr.size:=(zy80.1 hj).1;rw [zy1 rfl,zy1 rfl,zy1 (by simpa using this),hj];rfl
          . rw [zy0 hq,zy0 hq]
         rw [hl2];exact this
     . exact h.elim
   . exact h.elim
 . exact h.elim
end
end Go.HL
namespace Go.HL
section
variable {α:Type} {K:Res->Prop} {P:Program} {H:Nat->zad}
theorem zaw {r0:Res}:K r0->∃ r,K r/\r0=r:=fun h=>⟨r0,h,rfl⟩
theorem zco {c:Prop} {A:Prop} {B:Res->Prop} (h:A->∃ r,K r/\B r):znf c A->∃ r,K r/\znf c (B r):=fun ⟨hc,ha⟩=>let ⟨r,h1,h2⟩:=h ha;⟨r,h1,hc,h2⟩
theorem zln {k:IntKind} {z:Int} {A:Int->Prop} {B:Int->Res->Prop} (h:∀ y,A y->∃ r,K r/\B y r):zmx k z A->∃ r,K r/\zmx k z (fun y=>B y r) :=
 fun ⟨y,hy,ha⟩=>let ⟨r,h1,h2⟩:=h y ha;⟨r,h1,y,hy,h2⟩
theorem yah {rows:List (List PV)} {i:Int} {A:List PV->Prop} {B:List PV->Res->Prop} (h:∀ y,A y->∃ r,K r/\B y r):zwl rows i A->∃ r,K r/\zwl rows i (fun y=>B y r) :=
 fun ⟨y,h0,hy,ha⟩=>let ⟨r,h1,h2⟩:=h y ha;⟨r,h1,y,h0,hy,h2⟩
theorem yoj {rows:List (List PV)} {A:List UInt8->Prop} {B:List UInt8->Res->Prop} (h:∀ y,A y->∃ r,K r/\B y r):yle rows A->∃ r,K r/\yle rows (fun y=>B y r) :=
 fun ⟨y,hy,ha⟩=>let ⟨r,h1,h2⟩:=h y ha;⟨r,h1,y,hy,h2⟩
theorem zsy {rows:List (List PV)} {o n:Nat} {A:List (List PV)->Prop} {B:List (List PV)->Res->Prop} (h:∀ y,A y->∃ r,K r/\B y r):zrs rows o n A->∃ r,K r/\zrs rows o n (fun y=>B y r) :=
 fun ⟨y,h0,hy,ha⟩=>let ⟨r,h1,h2⟩:=h y ha;⟨r,h1,y,h0,hy,h2⟩
theorem zbn {b:Bool} {A:Prop} {B:Res->Prop} (h:A->∃ r,K r/\B r):(bif b then A else False)->∃ r,K r/\(bif b then B r else False):=by
 cases b
 . exact fun h=>h.elim
 . exact h
theorem zds {t:TypeId} {A:TyD->Prop} {B:TyD->Res->Prop} (h:∀ y,A y->∃ r,K r/\B y r):tyK P t A->∃ r,K r/\tyK P t (fun y=>B y r):=by
 unfold tyK;cases xia P t
 . exact False.elim
 . exact h _
theorem zea {t:TypeId} {A:TypeId->TyD->Prop} {B:TypeId->TyD->Res->Prop} (h:∀ e y,A e y->∃ r,K r/\B e y r):zgo P t A->∃ r,K r/\zgo P t (fun e y=>B e y r):=by
 unfold zgo;refine zds fun d=>?_
 cases d.k<;>first | exact False.elim | exact zds (h _)
theorem ysw {t:TypeId} {A:Prop} {B:Res->Prop} (h:A->∃ r,K r/\B r):ysv P t A->∃ r,K r/\ysv P t (B r):=by
 unfold ysv;cases (P.info? t).map (·.size) with
 | none=>exact False.elim
 | some n=>cases n with
  | zero=>exact False.elim
  | succ n=>exact h
theorem zhc {x:HV} {A:HV->Prop} {B:HV->Res->Prop} (h:∀ y,A y->∃ r,K r/\B y r):force x A->∃ r,K r/\force x (fun y=>B y r):=by
 rw [force_eq];intro ha;obtain ⟨r,h1,h2⟩:=h x ha;exact ⟨r,h1,by rw [force_eq];exact h2⟩
theorem zmi {x:List HV} {A:List HV->Prop} {B:List HV->Res->Prop} (h:∀ y,A y->∃ r,K r/\B y r):zfl x A->∃ r,K r/\zfl x (fun y=>B y r):=by
 rw [zhb];intro ha;obtain ⟨r,h1,h2⟩:=h x ha;exact ⟨r,h1,by rw [zhb];exact h2⟩
theorem znm {x:List PV} {A:List PV->Prop} {B:List PV->Res->Prop} (h:∀ y,A y->∃ r,K r/\B y r):zkd x A->∃ r,K r/\zkd x (fun y=>B y r):=by
 rw [zgt];intro ha;obtain ⟨r,h1,h2⟩:=h x ha;exact ⟨r,h1,by rw [zgt];exact h2⟩
theorem yrm {ev:Operand->HV} {x:List Operand} {A:List HV->Prop} {B:List HV->Res->Prop} (h:∀ y,A y->∃ r,K r/\B y r):evL ev x A->∃ r,K r/\evL ev x (fun y=>B y r):=by
 rw [zro];intro ha;obtain ⟨r,h1,h2⟩:=h _ ha;exact ⟨r,h1,by rw [zro];exact h2⟩
theorem zct {s:zad} {A:zie->Prop} {B:zie->Res->Prop} (h:∀ y,A y->∃ r,K r/\B y r):zcy s A->∃ r,K r/\zcy s (fun y=>B y r):=by
 unfold zcy;cases s<;>first | exact False.elim | exact h _
theorem ylk {s:zad} {id:Nat} {b:zie} {x:HV}:xdq s id b x K->∃ r,K r/\xdq s id b x (·=r):=by
 unfold xdq;cases s<;>first | exact False.elim | exact zaw
theorem zqv {d:TyD} {cs:List HV} {o:Nat} {A:HV->Prop} {B:HV->Res->Prop} (h:∀ y,A y->∃ r,K r/\B y r):zng d cs o A->∃ r,K r/\zng d cs o (fun y=>B y r):=by
 unfold zng;cases zdt d.k
 . simp only
   cases nth cs o
   . exact False.elim
   . exact zhc h
 . exact zbn (zmi fun y=>h _)
theorem zmn {d:TyD} {cs:List PV} {o:Nat} {A:HV->Prop} {B:HV->Res->Prop} (h:∀ y,A y->∃ r,K r/\B y r):ziw d cs o A->∃ r,K r/\ziw d cs o (fun y=>B y r):=by
 unfold ziw;cases zdt d.k
 . simp only
   cases nth cs o with
   | none=>exact False.elim
   | some x=>cases x<;>exact h _
 . exact zbn (znm fun y=>h _)
theorem xdr {x:HV} {A:PV->List (Nat×zad)->Prop} {B:PV->List (Nat×zad)->Res->Prop} (h:∀ y u,A y u->∃ r,K r/\B y u r):hpv H x A->∃ r,K r/\hpv H x (fun y u=>B y u r):=by
 unfold hpv;cases x<;>simp only<;>first | exact False.elim | exact h _ _ | skip
 rename_i id;cases H id with
 | live b=>cases b<;>first | exact False.elim | exact h _ _
 | ro b=>cases b<;>first | exact False.elim | exact h _ _
 | _=>exact False.elim
theorem ylm:∀ {xs:List HV} {A:List PV->List (Nat×zad)->Prop} {B:List PV->List (Nat×zad)->Res->Prop},(∀ y u,A y u->∃ r,K r/\B y u r)->yia H xs A->∃ r,K r/\yia H xs (fun y u=>B y u r)
 | [],A,B,h=>h _ _
 | x::xs,A,B,h=>by simp only [yia];exact xdr fun y u=>ylm fun ys us=>h _ _
theorem zll {n:Nat} {x:HV} {A:Nat->List (List PV)->List Nat->Prop} {B:Nat->List (List PV)->List Nat->Res->Prop} (h:∀ n y u,A n y u->∃ r,K r/\B n y u r):zjo H n x A->∃ r,K r/\zjo H n x (fun n y u=>B n y u r):=by
 unfold zjo;split
 . exact h _ _ _
 . exact h _ _ _
 . refine zct fun b=>?_
   cases b<;>first | exact False.elim | exact h _ _ _
 . refine zct fun b=>?_
   cases b<;>first | exact False.elim | exact zbn (zsy fun y=>h _ _ _)
 . exact False.elim
theorem zmw {b:zie} {A:TypeId->Nat->List (List PV)->(List (List PV)->zie)->Nat->Prop} {B:TypeId->Nat->List (List PV)->(List (List PV)->zie)->Nat->Res->Prop} (h:∀ t n r k l,A t n r k l->∃ r',K r'/\B t n r k l r'):xag b A->∃ r,K r/\xag b (fun t n r' k l=>B t n r' k l r):=by
 cases b<;>first | exact False.elim | exact h _ _ _ _ _
theorem yxz {id n off len sz:Nat} {lo hi:Option HV}:yxy H id n off len sz lo hi K->∃ r,K r/\yxy H id n off len sz lo hi (·=r):=by
 unfold yxy;refine zct fun b=>zmw fun t n r k l=>zbn ?_
 split
 . split<;>first | exact zco zaw | exact False.elim
 . split<;>first | exact zco zaw | exact False.elim
 . exact False.elim
theorem yid {x:HV} {sz:Nat} {l hh mx:Int}:zkg x H sz l hh mx K->∃ r,K r/\zkg x H sz l hh mx (·=r):=by
 unfold zkg;split
 . exact zco (zbn (zsy fun y=>zaw))
 . refine zct fun b=>?_
   cases b<;>first | exact False.elim | exact zco zaw
 . exact zct fun b=>zmw fun t n r k l=>zco zaw
 . exact False.elim
theorem ydl {t:TypeId} {x:HV} {z:Int} {d:Nat}:zhl P t x z d H K->∃ r,K r/\zhl P t x z d H (·=r):=by
 unfold zhl;refine zea fun e de=>zbn ?_
 split
 . refine zct fun b=>?_
   cases b<;>try exact False.elim
   refine zbn (zco ?_);cases H d<;>first | exact False.elim | exact zaw
 . exact False.elim
theorem yya {n most:Nat} {x:HV} {A:Nat->List (List PV)->List Nat->Prop} {B:Nat->List (List PV)->List Nat->Res->Prop} (h:∀ n y u,A n y u->∃ r,K r/\B n y u r):yqp H n x most A->∃ r,K r/\yqp H n x most (fun n y u=>B n y u r):=by
 unfold yqp;split
 . exact zct fun b=>zmw fun t n r k l=>zbn (zsy fun y=>h _ _ _)
 . exact zll fun n y u=>h _ _ _
theorem ysg {t:TypeId} {x y:HV}:ydp P t x y H K->∃ r,K r/\ydp P t x y H (·=r):=by
 unfold ydp;refine zea fun e de=>?_
 split
 . rename_i id n off len
   cases H id<;>first | exact False.elim | exact zmw fun t n r k l=>yya fun n y u=>zbn (zco zaw)
 . exact False.elim
theorem yol {t:TypeId} {x:HV}:zrr P t x H K->∃ r,K r/\zrr P t x H (·=r):=by
 unfold zrr;refine zea fun e de=>zbn ?_
 split
 . rename_i id n off len
   cases H id<;>first | exact False.elim | exact zmw fun t n r k l=>zbn (zco zaw)
 . exact False.elim
theorem zsx {n:Nat} {i:Int} {A:Nat->Prop} {B:Nat->Res->Prop} (h:∀ j,A j->∃ r,K r/\B j r):xft n i A->∃ r,K r/\xft n i (fun j=>B j r) :=
 fun ⟨j,h1,h2,h3⟩=>let ⟨r,h4,h5⟩:=h j h3;⟨r,h4,j,h1,h2,h5⟩
theorem ysm {es:List (Value×List PV)} {k:Value} {A:Option (List PV)->Prop} {B:Option (List PV)->Res->Prop} (h:∀ j,A j->∃ r,K r/\B j r):zqe es k A->∃ r,K r/\zqe es k (fun j=>B j r) :=
 fun ⟨j,h1,h3⟩=>let ⟨r,h4,h5⟩:=h j h3;⟨r,h4,j,h1,h5⟩
theorem yxw {es:List (Value×List PV)} {k:Value} {v:List PV} {A:List (Value×List PV)->Prop} {B:List (Value×List PV)->Res->Prop} (h:∀ j,A j->∃ r,K r/\B j r):xax es k v A->∃ r,K r/\xax es k v (fun j=>B j r) :=
 fun ⟨j,h1,h3⟩=>let ⟨r,h4,h5⟩:=h j h3;⟨r,h4,j,h1,h5⟩
theorem zov {t:TypeId} {A:TyD->TypeId->TyD->Prop} {B:TyD->TypeId->TyD->Res->Prop} (h:∀ a b c,A a b c->∃ r,K r/\B a b c r):yap P t A->∃ r,K r/\yap P t (fun a b c=>B a b c r):=by
 unfold yap;refine zds fun d=>?_
 split
 . exact zds fun dk=>zds fun de=>h _ _ _
 . exact False.elim
theorem ycm {t:TypeId} {A:Nat->TyD->Prop} {B:Nat->TyD->Res->Prop} (h:∀ a b,A a b->∃ r,K r/\B a b r):yha P t A->∃ r,K r/\yha P t (fun a b=>B a b r):=by
 unfold yha;refine zds fun d=>?_
 split
 . exact zds fun de=>h _ _
 . exact False.elim
theorem yty {ok b:Bool} {v:HV} {id:Nat}:okK ok v b id K->∃ r,K r/\okK ok v b id (·=r):=by
 cases ok<;>exact zaw
theorem ysq {e:TypeId} {de:TyD} {ok agg:Bool} {o:Option (List PV)} {id:Nat}:yon P e de ok agg o K id->∃ r,K r/\yon P e de ok agg o (·=r) id:=by
 unfold yon;refine zbn ?_;cases o with
 | some cs=>exact zbn (zmn fun v=>yty)
 | none=>exact zbn (zmn fun v=>yty)
theorem ztm:∀ {xs ys:List HV} {A:Bool->Prop} {B:Bool->Res->Prop},(∀ y,A y->∃ r,K r/\B y r)->ztl xs ys A->∃ r,K r/\ztl xs ys (fun y=>B y r)
 | [],[],A,B,h=>h _
 | [],y::ys,A,B,h=>False.elim
 | x::xs,[],A,B,h=>False.elim
 | x::xs,y::ys,A,B,h=>by
  simp only [ztl];split
  . split
    . exact zbn (ztm fun z=>h _)
    . exact False.elim
  . split
    . exact ztm fun z=>h _
    . exact False.elim
  . exact False.elim
theorem zqr {fs:List (Nat×Nat)}:∀ {ps:List (Nat×HV)} {cs:List HV} {A:List HV->Prop} {B:List HV->Res->Prop},(∀ y,A y->∃ r,K r/\B y r)->zrz P fs ps cs A->∃ r,K r/\zrz P fs ps cs (fun y=>B y r)
 | [],cs,A,B,h=>h _
 | (i,x)::ps,cs,A,B,h=>by
  simp only [zrz];cases nth fs i with
  | none=>exact False.elim
  | some q=>exact zbn (zqr h)
theorem yag {os:List (Option Nat)} {xs:List HV} {A:List PV->List (Nat×zad)->Prop} {B:List PV->List (Nat×zad)->Res->Prop} (h:∀ y u,A y u->∃ r,K r/\B y u r):xay H os xs A->∃ r,K r/\xay H os xs (fun y u=>B y u r) :=
 ylm fun _ u=>znm fun z=>h z u
theorem yfk {os:List (Option Nat)} {n:Nat}:∀ {xs:List HV} {A:List (List PV)->List (Nat×zad)->Prop} {B:List (List PV)->List (Nat×zad)->Res->Prop},(∀ y u,A y u->∃ r,K r/\B y u r)->zws H os n xs A->∃ r,K r/\zws H os n xs (fun y u=>B y u r)
 | [],A,B,h=>h _ _
 | x::xs,A,B,h=>by
  simp only [zws];exact zbn (yag fun y u=>zbn (yfk fun ys us=>h _ _))
theorem ydw {x:HV} {sz n:Nat} {l h:Int}:zup x H sz K n l h->∃ r,K r/\zup x H sz (·=r) n l h:=by
 unfold zup;refine zco ?_;split
 . exact zbn (zsy fun y=>zaw)
 . rename_i id
   cases H id with
   | live b=>cases b<;>first | exact False.elim | exact zbn zaw
   | ro b=>cases b<;>first | exact False.elim | exact zbn zaw
   | _=>exact False.elim
 . exact False.elim
theorem yoo {t:TypeId} {s:ByteArray} {lo hi:Option HV}:zxr P t s lo hi K->∃ r,K r/\zxr P t s lo hi (·=r):=by
 unfold zxr;refine zds fun td=>?_
 exact yy99
theorem yoq {x:HV} {sz:Nat} {lo hi:Option HV}:zor x H sz lo hi K->∃ r,K r/\zor x H sz lo hi (·=r):=by
 unfold zor;refine zll fun n rows u=>?_
 split
 . split<;>first | exact ydw | exact False.elim
 . split<;>first | exact ydw | exact False.elim
 . exact False.elim
theorem yhv {t:TypeId} {x y:HV} {d:Nat}:zlk P t x y d H K->∃ r,K r/\zlk P t x y d H (·=r):=by
 unfold zlk;refine zea fun e de=>zll fun n ys u=>zbn ?_
 split
 . cases H d<;>first | exact False.elim | exact zco zaw
 . rename_i id
   cases H id with
   | live b=>cases b with
    | cells=>exact False.elim
    | map=>exact False.elim
    | iter=>exact False.elim
    | row=>refine zbn ?_;cases H d<;>first | exact False.elim | exact zco zaw
    | buf=>exact False.elim
   | _=>exact False.elim
 . rename_i id n off len
   cases H id<;>first | exact False.elim | exact zmw fun t n r k l=>zbn (zco zaw)
 . exact False.elim
theorem yxr {t:TypeId} {op:BinOp} {x y:HV}:xfs P false t op x y K->∃ r,K r/\xfs P false t op x y (·=r):=by
 unfold xfs;split
 . split
   . split<;>first | exact False.elim | exact zco zaw | exact zco (zln fun y=>zaw) | exact zbn (zln fun y=>zaw) | exact zbn (zco (zln fun y=>zaw)) | exact zbn (zco zaw) | exact zbn zaw
   . exact False.elim
 . split
   . refine zds fun td=>?_
     split
     . split<;>first | exact False.elim | exact zaw
     . exact False.elim
   . exact False.elim
 . split
   . split<;>first | exact False.elim | exact zaw | exact zco zaw
   . exact False.elim
 . split
   . refine zco ?_
     split<;>first | exact False.elim | exact ztm fun y=>zaw
   . exact False.elim
 . split
   . refine zea fun e de=>?_
     split<;>exact False.elim
   . exact False.elim
 . split
   . refine zea fun e de=>?_
     split<;>first | exact False.elim | exact zaw
   . exact False.elim
 . exact False.elim
theorem yds {t:TypeId} {x i:HV}:zhm P t x i H K->∃ r,K r/\zhm P t x i H (·=r):=by
 unfold zhm;refine zea fun e de=>?_
 split
 . split
   . exact zbn (yah fun r=>zaw)
   . refine zct fun b=>?_
     cases b<;>first | exact False.elim | exact zbn (zco zaw) | exact zbn (zsx fun j=>zaw)
   . exact zbn (zco zaw)
   . exact False.elim
 . exact False.elim
theorem zun {t:TypeId} {x i y:HV}:zje P t x i y H K->∃ r,K r/\zje P t x i y H (·=r):=by
 unfold zje;refine zov fun a b c=>?_
 split
 . refine zbn ?_
   split
   . rename_i id
     cases H id with
     | live b=>cases b with
      | map=>exact zbn (yag fun vs us=>zbn (yxw fun es=>zaw))
      | _=>exact False.elim
     | _=>exact False.elim
   . exact False.elim
 . exact False.elim
theorem yld {C:zbg} {op:Op} {d:Nat} {ev:Operand->HV} (hd:zwo op=true) :
 zcr P C op d ev H K->∃ r,K r/\zcr P C op d ev H (·=r):=by
 cases op<;>simp only [zcr]<;>try exact False.elim
 case move x=>exact zhc fun v=>zaw
 case assign x=>exact zhc fun v=>zaw
 case pick c a b =>
  split
  . rename_i b _
    cases b<;>simp only [hif]
    . exact zhc fun v=>zaw
    . exact zhc fun v=>zaw
  . exact False.elim
 case alloc t=>exact zds fun td=>zbn ylk
 case box t x=>exact zhc fun v=>zbn ylk
 case build t ps =>
  refine zds fun td=>?_
  split
  . exact zbn (zqr fun l=>zmi fun l=>zbn zaw)
  . exact zds fun de=>zbn (zqr fun l=>zmi fun l=>zbn zaw)
  . exact False.elim
 case buildSlice t n ps =>
  refine zea fun e de=>zbn (yfk fun rows us=>?_)
  cases H d<;>first | exact False.elim | exact zaw
 case load t a =>
  refine zds fun td=>?_
  split
  . refine zct fun b=>?_
    cases b<;>first | exact False.elim | exact zqv fun v=>zaw
  . exact zmn fun v=>zaw
  . refine zct fun b=>?_
    cases b<;>first | exact False.elim | exact zbn (yah fun r=>zmn fun v=>zaw)
  . exact False.elim
 case store t a x =>
  refine zds fun td=>?_
  split
  . rename_i id off _
    cases H id with
    | live b=>cases b with
     | cells=>exact zhc fun v=>zbn (zmi fun cs=>zaw)
     | row=>exact False.elim
     | map=>exact False.elim
     | iter=>exact False.elim
     | buf=>exact False.elim
    | _=>exact False.elim
  . rename_i id n i off _
    cases H id with
    | live b=>cases b with
     | cells=>exact False.elim
     | map=>exact False.elim
     | iter=>exact False.elim
     | buf=>exact False.elim
     | row=>exact zbn (yag fun vs us=>yah fun r=>zbn (znm fun r'=>zaw))
    | _=>exact False.elim
  . exact False.elim
 case nilCheck x =>
  split<;>first | exact False.elim | exact zaw
 case binOp b t x y yt =>
  have hcs:zzm y=false:=by simpa [zwo] using hd
  rw [hcs];cases yig (ev x) with
  | some id=>exact False.elim
  | none=>exact yxr
 case unOp o t x =>
  split
  . split<;>first | exact False.elim | exact zaw
  . split
    . exact zln fun y=>zaw
    . exact False.elim
  . exact False.elim
 case convert src dt x =>
  refine zds fun ts=>zds fun td=>?_
  split
  . split
    . exact zln fun y=>zaw
    . exact False.elim
  . split
    . refine zds fun de=>?_
      split
      . split
        . exact zco zaw
        . exact False.elim
      . exact False.elim
    . exact False.elim
  . split
    . split
      . refine zds fun de=>?_
        split
        . exact zll fun n rows u=>zbn (yoj fun bs=>zaw)
        . exact False.elim
      . exact False.elim
    . refine zbn (zds fun de=>?_)
      exact yy99
    . exact False.elim
 case makeFunc fn first caps =>
  split
  . exact zbn (yrm fun l=>zaw)
  . exact False.elim
 case makeSlice t l c =>
  refine zea fun e de=>zbn ?_
  split
  . split
    . refine zco ?_
      cases H d<;>try exact False.elim
      dsimp only;split
      . split
        . exact zsx fun j=>zaw
        . exact False.elim
      . exact zaw
    . exact False.elim
  . exact False.elim
 case slice t x lo hi mx =>
  cases mx
  . cases isStr (ev x) with
    | some s=>exact yoo
    | none =>
     refine zea fun e de=>?_
     split
     . exact yxz
     . exact yoq
  . refine zea fun e de=>?_
    split
    . split
      . split
        . exact yid
        . exact False.elim
      . exact False.elim
    . exact False.elim
 case fieldAddr t x f =>
  refine zds fun td=>?_
  split
  . split
    . refine ysw ?_
      split<;>first | exact False.elim | exact zaw
    . exact False.elim
  . exact False.elim
 case field t x f =>
  refine zds fun td=>?_
  split
  . split
    . split
      . exact zds fun tdf=>zqv fun y=>zaw
      . exact False.elim
    . exact False.elim
  . exact False.elim
 case indexAddr t x i =>
  split
  . refine ycm fun n de=>?_
    split
    . exact zsx fun j=>zaw
    . exact False.elim
  . exact yds
 case index t x i =>
  refine ycm fun n de=>?_
  split
  . split
    . exact zsx fun j=>zqv fun v=>zaw
    . exact False.elim
  . exact False.elim
 case makeMap t r =>
  cases r
  . refine zov fun a b c=>?_
    cases H d<;>first | exact False.elim | exact zaw
  . exact False.elim
 case lookup t x i ok =>
  refine zov fun a b c=>?_
  split
  . refine zbn ?_
    split
    . refine zct fun b=>?_
      cases b<;>first | exact False.elim | exact zbn (ysm fun o=>ysq)
    . exact False.elim
  . exact False.elim
 case range t x =>
  refine zov fun a b c=>?_
  split
  . rename_i id _
    cases H id with
    | live b=>cases b with
     | map=>cases H d<;>first | exact False.elim | exact zaw
     | _=>exact False.elim
    | _=>exact False.elim
  . exact False.elim
 case next x s=>cases hd
 case entry x =>
  split
  . refine zct fun b=>?_
    cases b with
    | iter=>exact fun ⟨k,v,h1,h2,h3⟩=>⟨_,h3,k,v,h1,h2,rfl⟩
    | _=>exact False.elim
  . exact False.elim
 case mapUpdate t x i y=>exact zun
 case insert t x i y=>exact zun
 case extract t i =>
  split
  . split
    . exact zhc fun v=>zaw
    . exact False.elim
  . exact False.elim
 case call c =>
  split
  . split
    . split
      . refine zds fun td=>?_
        split
        . split<;>first | exact False.elim | exact zaw
        . split
          . exact zaw
          . refine zct fun b=>?_
            cases b<;>first | exact False.elim | exact zaw
          . exact zll fun n rows u=>zaw
        . exact False.elim
      . exact False.elim
    . exact False.elim
  . split
    . split
      . split<;>first | exact False.elim | exact zaw
      . exact False.elim
    . exact False.elim
  . split
    . split
      . split<;>first | exact False.elim | exact zaw
      . exact False.elim
    . exact False.elim
  . split
    . split
      . split
        . exact yhv
        . refine zds fun td=>?_
          split
          . split
            . exact ydl
            . exact False.elim
          . exact False.elim
      . exact False.elim
    . exact False.elim
  . split
    . split
      . exact ysg
      . exact False.elim
    . exact False.elim
  . split
    . split
      . exact yol
      . exact False.elim
    . exact False.elim
  . split
    . split
      . refine zea fun e de=>?_
        split
        . refine zct fun b=>?_
          cases b<;>first | exact False.elim | exact zco zaw
        . exact False.elim
      . exact False.elim
    . exact False.elim
  . split
    . exact yrm fun l=>fun ⟨r,h1,h2⟩=>⟨r,h2,r,h1,rfl⟩
    . exact False.elim
  . exact False.elim
end
end Go.HL
namespace Go.HL
section
variable {P:Program} {H H':Nat->zad}
theorem zxs:∀ {l:List HV} {x:HV} {id:Nat},x∈l->id∈zdd x->id∈zhu l
 | y::l,x,id,hx,hi=>by
  simp only [zhu,zy14];rcases zy15.1 hx with rfl | hx
  . exact .inl hi
  . exact .inr (zxs hx hi)
theorem yak (a b:List HV):zhu (a++b)=zhu a++zhu b:=by
 induction a with
 | nil=>simp [zhu]
 | cons x a ih=>simp [zhu,ih]
theorem zqs {x y:HV} (h:y∈zey x) {id:Nat} (hi:id∈zdd y):id∈zdd x:=by
 cases x<;>simp only [zey,zy20] at h<;>first | (subst h;exact hi) | (simp only [zdd];exact zxs h hi)
theorem zyd {ev:Operand->HV}:∀ {l:List Operand} {x:Operand} {id:Nat},x∈l->id∈zdd (ev x)->id∈yev ev l
 | y::l,x,id,hx,hi=>by
  simp only [yev,zy14];rcases zy15.1 hx with rfl | hx
  . exact .inl hi
  . exact .inr (zyd hx hi)
theorem yst {x:HV} (h:∀ id∈zdd x,H' id=H id) (K:PV->List (Nat×zad)->Prop):hpv H' x K=hpv H x K:=by
 unfold hpv;cases x<;>try rfl
 rename_i id;simp only [h id zz67]
theorem zxq:∀ {xs:List HV} (_:∀ x∈xs,∀ id∈zdd x,H' id=H id) (K:List PV->List (Nat×zad)->Prop),yia H' xs K=yia H xs K
 | [],_,K=>rfl
 | x::xs,h,K=>by
  simp only [yia];rw [yst (h x (by simp))];congr 1;funext v u;rw [zxq fun y hy=>h y (by simp [hy])]
theorem zht {n:Nat} {x:HV} (h:∀ id∈zdd x,H' id=H id) (K:Nat->List (List PV)->List Nat->Prop):zjo H' n x K=zjo H n x K:=by
 unfold zjo;exact yy95
theorem yop {id:Nat} (h:H' id=H id) (n off len sz:Nat) (lo hi:Option HV) (K:Res->Prop):yxy H' id n off len sz lo hi K=yxy H id n off len sz lo hi K:=by
 unfold yxy;rw [h]
theorem yaj {x:HV} (h:∀ id∈zdd x,H' id=H id) (sz:Nat) (l hh mx:Int) (K:Res->Prop):zkg x H' sz l hh mx K=zkg x H sz l hh mx K:=by
 unfold zkg;exact yy95
theorem yor {n most:Nat} {x:HV} (h:∀ id∈zdd x,H' id=H id) (K:Nat->List (List PV)->List Nat->Prop):yqp H' n x most K=yqp H n x most K:=by
 unfold yqp;split
 . rename_i id _ _ _;rw [h id (by simp [zdd])]
 . exact zht h _
theorem yhx {t:TypeId} {x y:HV} (hx:∀ id∈zdd x,H' id=H id) (hy:∀ id∈zdd y,H' id=H id) (K:Res->Prop):ydp P t x y H' K=ydp P t x y H K:=by
 unfold ydp;congr 1;funext e de;split
 . rename_i id _ _ _
   simp only [hx id zz67,yor hy]
 . rfl
theorem ydo {t:TypeId} {x:HV} (hx:∀ id∈zdd x,H' id=H id) (K:Res->Prop):zrr P t x H' K=zrr P t x H K:=by
 unfold zrr;congr 1;funext e de;congr 1;split
 . rename_i id _ _ _
   simp only [hx id zz67]
 . rfl
theorem zwp {t:TypeId} {x:HV} {z:Int} {d:Nat} (hx:∀ id∈zdd x,H' id=H id) (hd:H' d=H d) (K:Res->Prop):zhl P t x z d H' K=zhl P t x z d H K:=by
 unfold zhl;congr 1;funext e de;congr 1;split
 . rename_i id _ _ _
   simp only [hx id zz67,hd]
 . rfl
theorem zqg {os:List (Option Nat)} {xs:List HV} (h:∀ x∈xs,∀ id∈zdd x,H' id=H id) (K:List PV->List (Nat×zad)->Prop):xay H' os xs K=xay H os xs K:=zxq h _
theorem zvk {os:List (Option Nat)} {n:Nat}:∀ {xs:List HV} (_:∀ x∈xs,∀ id∈zdd x,H' id=H id) (K:List (List PV)->List (Nat×zad)->Prop),zws H' os n xs K=zws H os n xs K
 | [],_,K=>rfl
 | x::xs,h,K=>by
  simp only [zws];rw [zqg fun y hy id hi=>h x (by simp) id (zqs hy hi)];congr 2;funext r u;rw [zvk fun y hy=>h y (by simp [hy])]
theorem yic {x:HV} (h:∀ id∈zdd x,H' id=H id) (sz:Nat) (K:Res->Prop) (n:Nat) (l hh:Int):zup x H' sz K n l hh=zup x H sz K n l hh:=by
 unfold zup;congr 1;split
 . rfl
 . rename_i id;simp only [h id zz67]
 . rfl
theorem ydx {x:HV} (h:∀ id∈zdd x,H' id=H id) (sz:Nat) (lo hi:Option HV) (K:Res->Prop):zor x H' sz lo hi K=zor x H sz lo hi K:=by
 unfold zor;rw [zht h];simp only [yic h]
theorem yac {t:TypeId} {x y:HV} {d:Nat} (hx:∀ id∈zdd x,H' id=H id) (hy:∀ id∈zdd y,H' id=H id) (hd:H' d=H d) (K:Res->Prop):zlk P t x y d H' K=zlk P t x y d H K:=by
 unfold zlk;congr 1;funext e de;rw [zht hy];congr 1;funext n ys u;congr 1;split
 . simp only [hd]
 . rename_i id
   simp only [hx id zz67,hd]
 . rename_i id _ _ _
   simp only [hx id zz67]
 . rfl
theorem zwq {t:TypeId} {x i:HV} (hx:∀ id∈zdd x,H' id=H id) (K:Res->Prop):zhm P t x i H' K=zhm P t x i H K:=by
 unfold zhm;congr 1;funext e de;split
 . split
   . rfl
   . rename_i id
     rw [hx id (by simp [zdd])]
   . rfl
   . rfl
 . rfl
theorem zoo {t:TypeId} {x i y:HV} (hx:∀ id∈zdd x,H' id=H id) (hy:∀ id∈zdd y,H' id=H id) (K:Res->Prop):zje P t x i y H' K=zje P t x i y H K:=by
 unfold zje;congr 1;funext a b c;split
 . congr 1
   split
   . rename_i id
     rw [hx id (by simp [zdd])];simp only [zqg fun z hz id hi=>hy id (zqs hz hi)]
   . rfl
 . rfl
def zgy (C:zbg):Prop:=∀ f args H H' d r,C f args H d r->(∀ id∈zhu args,H' id=H id)->H' d=H d->(∀ id∈r.tch++r.ups.map (·.1),H' id=H id)->C f args H' d r
theorem yoi {C:zbg} (hC:zgy C) {op:Op} {d:Nat} {ev ev':Operand->HV} {r:Res} (h:zcr P C op d ev H (·=r)) (hev:∀ x∈op.operands.toList,ev' x=ev x)
 (hH:∀ id∈zqo op ev d++(r.tch++r.ups.map (·.1)),H' id=H id):zcr P C op d ev' H' (·=r):=by
 have hd:looks op=true->H' d=H d:=fun hlk=>hH d (by simp [zqo,hlk])
 have hids:looks op=true->∀ x∈op.operands.toList,∀ id∈zdd (ev x),H' id=H id:=fun hlk x hx id hi=>hH id (by simp only [zqo,hlk,zy37,zy15,zy14];exact .inr (.inl (zyd hx hi)))
 have key:∀ {A B:Prop},A->B=A->B:=fun a e=>e ▸ a
 cases op<;>simp only [Op.operands,Array.toList_empty] at hev hids<;>try exact False.elim h
 all_goals try (replace hd:=hd rfl;replace hids:=hids rfl)
 case move x=>refine key h ?_;simp only [zcr];rw [hev x (by simp)]
 case assign x=>refine key h ?_;simp only [zcr];rw [hev x (by simp)]
 case pick c a b=>refine key h ?_;simp only [zcr];rw [hev c (by simp),hev a (by simp),hev b (by simp)]
 case alloc t=>refine key h ?_;simp only [zcr,hd]
 case box t x=>refine key h ?_;simp only [zcr,hd];rw [hev x (by simp)]
 case build t ps =>
  refine key h ?_;simp only [zcr];have:(ps.toList.map fun x=>(x.1,ev' x.2))=(ps.toList.map fun x=>(x.1,ev x.2)):=zy86 fun x hx=>by rw [hev x.2 (by simpa using ⟨x.1,by simpa using hx⟩)]
  rw [this]
 case buildSlice t n ps =>
  refine key h ?_;simp only [zcr,hd];have:(ps.toList.map fun x=>ev' x.2)=(ps.toList.map fun x=>ev x.2):=zy86 fun x hx=>by rw [hev x.2 (by simpa using ⟨x.1,by simpa using hx⟩)]
  rw [this];congr 1;funext e de;rw [zvk fun y hy id hi=>?_];obtain ⟨x,hx,rfl⟩:=zy28.1 hy;exact hids x.2 (by simpa using ⟨x.1,by simpa using hx⟩) id hi
 case load t a =>
  refine key h ?_;simp only [zcr];rw [hev a (by simp)];congr 1;funext td;have hi:=hids a zz5;cases hx:ev a<;>rw [hx] at hi<;>simp only
  . rename_i id off;rw [hi id (by simp [zdd])]
  . rename_i id n i off;rw [hi id (by simp [zdd])]
 case store t a x =>
  refine key h ?_;simp only [zcr];rw [hev a (by simp),hev x (by simp)];congr 1;funext td;have hi:=hids a zz5;have hi2:=hids x zz5;cases hx:ev a<;>rw [hx] at hi<;>simp only
  . rename_i id off;rw [hi id (by simp [zdd])]
  . rename_i id n i off
    rw [hi id (by simp [zdd])];simp only [zqg fun y hy id hi'=>hi2 id (zqs hy hi')]
 case nilCheck x=>refine key h ?_;simp only [zcr];rw [hev x (by simp)]
 case binOp b t x y yt =>
  refine key h ?_;simp only [zcr];rw [hev x (by simp),hev y (by simp)];have hi:=hids x zz5;cases hq:yig (ev x) with
  | none=>rfl
  | some id =>
   have he:ev x=.own id:=by
    unfold yig at hq;split at hq
    . rename_i i hx;cases hq;exact hx
    . cases hq
   simp only [yaf,hi id (by rw [he];simp [zdd])]
 case unOp o t x=>refine key h ?_;simp only [zcr];rw [hev x (by simp)]
 case convert src dt x =>
  refine key h ?_;simp only [zcr];rw [hev x (by simp)];have hi:=hids x zz5;congr 1;funext ts;congr 1;funext td;split
  . rfl
  . rfl
  . simp only [zht hi]
    cases hxx:ev x with
    | own id =>
     have e:=hi id (by rw [hxx];simp [zdd]);simp only [e]
    | _=>rfl
 case makeFunc fn first caps =>
  refine key h ?_;simp only [zcr];congr 1;funext f;rw [zro,zro];have:caps.toList.map ev'=caps.toList.map ev:=zy86 fun x hx=>hev x (by simp;exact .inr (by simpa using hx))
  rw [this]
 case makeSlice t l c=>refine key h ?_;simp only [zcr,hd];rw [hev l (by simp),hev c (by simp)]
 case slice t x lo hi mx =>
  refine key h ?_;simp only [zcr];rw [hev x (by simp)];have hlo:lo.map ev'=lo.map ev:=by cases lo<;>simp only [Option.map_none,zy70,Option.some.injEq];exact hev _ zz5
  have hhi:hi.map ev'=hi.map ev:=by cases hi<;>simp only [Option.map_none,zy70,Option.some.injEq];exact hev _ zz5
  rw [hlo,hhi];have hi':=hids x zz5;cases mx with
  | none =>
   simp only;cases isStr (ev x) with
   | some s=>rfl
   | none =>
   simp only;congr 1;funext e de;cases hxx:ev x<;>rw [hxx] at hi'<;>simp only [ydx hi']
   rename_i id n off len;exact yop (hi' id zz67) _ _ _ _ _ _ _
  | some m =>
   simp only;rw [hev m (by simp)];simp only [yaj hi']
 case fieldAddr t x f=>refine key h ?_;simp only [zcr];rw [hev x (by simp)]
 case field t x f=>refine key h ?_;simp only [zcr];rw [hev x (by simp)]
 case indexAddr t x i =>
  refine key h ?_;simp only [zcr];rw [hev x (by simp),hev i (by simp)];have hi:=hids x zz5;split
  . rfl
  . exact zwq hi _
 case index t x i=>refine key h ?_;simp only [zcr];rw [hev x (by simp),hev i (by simp)]
 case makeMap t r=>refine key h ?_;simp only [zcr,hd]
 case lookup t x i ok =>
  refine key h ?_;simp only [zcr];rw [hev x (by simp),hev i (by simp)];have hi:=hids x zz5;congr 1;funext a b c;split
  . congr 1
    split
    . rename_i id hx
      rw [hi id (by rw [hx];simp [zdd])]
    . rfl
  . rfl
 case range t x =>
  refine key h ?_;simp only [zcr];rw [hev x (by simp)];have hi:=hids x zz5;congr 1;funext a b c;split
  . rename_i id hx
    rw [hi id (by rw [hx];simp [zdd]),hd]
  . rfl
 case next x str =>
  refine key h ?_;simp only [zcr];rw [hev x (by simp)];have hi:=hids x zz5;cases str with
  | true=>rfl
  | false =>
   simp only;split
   . rename_i id hx
     rw [hi id (by rw [hx];simp [zdd])]
   . rfl
 case entry x =>
  refine key h ?_;simp only [zcr];rw [hev x (by simp)];have hi:=hids x zz5;split
  . rename_i id hx
    rw [hi id (by rw [hx];simp [zdd])]
  . rfl
 case mapUpdate t x i y=>refine key h ?_;simp only [zcr];rw [hev x (by simp),hev i (by simp),hev y (by simp)];exact zoo (hids x zz5) (hids y zz5) _
 case insert t x i y=>refine key h ?_;simp only [zcr];rw [hev x (by simp),hev i (by simp),hev y (by simp)];exact zoo (hids x zz5) (hids y zz5) _
 case extract t i=>refine key h ?_;simp only [zcr];rw [hev t (by simp)]
 case call c =>
  obtain ⟨callee,args,ats⟩:=c;simp only [Call.operands] at hev hids;cases callee with
  | builtin b =>
   have hev2:∀ x∈args.toList,ev' x=ev x:=fun x hx=>hev x zz47
   have hids2:∀ x∈args.toList,∀ id∈zdd (ev x),H' id=H id:=fun x hx=>hids x zz47
   refine key h ?_;cases b<;>simp only [zcr]
   . -- append
     cases hl:args.toList with
     | nil=>rfl
     | cons x l=>cases l with
      | nil=>rfl
      | cons y l=>cases l with
       | cons=>rfl
       | nil =>
        rw [hl] at hev2 hids2;simp only;rw [hev2 x (by simp),hev2 y (by simp)];cases ats.toList with
        | nil=>rfl
        | cons t l=>cases l with
         | nil=>rfl
         | cons t' l=>cases l with
          | cons=>rfl
          | nil=>simp only [yac (P:=P) (hids2 x zz5) (hids2 y zz5) hd,zwp (P:=P) (hids2 x zz5) hd]
   . -- cap
     cases hl:args.toList with
     | nil=>rfl
     | cons x l=>cases l with
      | cons=>rfl
      | nil =>
       rw [hl] at hev2 hids2;simp only;rw [hev2 x (by simp)];split
       . congr 1;funext e de
         have hi:=hids2 x zz5;split
         . rename_i id _ _ _ hx
           rw [hi id (by rw [hx];simp [zdd])]
         . rfl
       . rfl
   . -- clear
     cases hl:args.toList with
     | nil=>rfl
     | cons x l=>cases l with
      | cons=>rfl
      | nil =>
       rw [hl] at hev2 hids2;simp only;rw [hev2 x (by simp)];split
       . exact ydo (hids2 x zz5) _
       . rfl
   . -- copy
     cases hl:args.toList with
     | nil=>rfl
     | cons x l=>cases l with
      | nil=>rfl
      | cons y l=>cases l with
       | cons=>rfl
       | nil =>
        rw [hl] at hev2 hids2;simp only;rw [hev2 x (by simp),hev2 y (by simp)];split
        . exact yhx (hids2 x zz5) (hids2 y zz5) _
        . rfl
   . -- len
     cases hl:args.toList with
     | nil=>rfl
     | cons x l=>cases l with
      | cons=>rfl
      | nil =>
       rw [hl] at hev2 hids2;simp only;rw [hev2 x (by simp)];split
       . congr 1;funext td
         split
         . rfl
         . have hi:=hids2 x zz5
           split
           . rfl
           . rename_i id hxx
             rw [hi id (by rw [hxx];simp [zdd])]
           . rw [zht hi]
         . rfl
       . rfl
   . -- max
     cases hl:args.toList with
     | nil=>rfl
     | cons x l=>cases l with
      | nil=>rfl
      | cons y l=>cases l with
       | cons=>rfl
       | nil =>
        rw [hl] at hev2;simp only;rw [hev2 x (by simp),hev2 y (by simp)]
   . cases hl:args.toList with
     | nil=>rfl
     | cons x l=>cases l with
      | nil=>rfl
      | cons y l=>cases l with
       | cons=>rfl
       | nil =>
        rw [hl] at hev2;simp only;rw [hev2 x (by simp),hev2 y (by simp)]
  | invoke r mth=>exact False.elim h
  | value f =>
   simp only [zcr] at h ⊢;rw [hev f (by simp)];cases hx:ev f<;>rw [hx] at h<;>try exact False.elim h
   rename_i g caps;simp only at h ⊢;rw [zro] at h ⊢;have hargs:args.toList.map ev'=args.toList.map ev:=zy86 fun x hx=>hev x (by simp;exact .inr (by simpa using hx))
   rw [hargs];obtain ⟨r',hc,rfl⟩:=h;refine ⟨r',hC _ _ _ _ _ _ hc (fun id hi=>?_) hd (fun id hi=>hH id (zy14.2 (.inr hi))),rfl⟩;rw [yak,zy14] at hi;rcases hi with hi | hi
   . have:∀ l:List Operand,id∈zhu (l.map ev)->∃ x∈l,id∈zdd (ev x):=by
      intro l
      induction l with
      | nil=>simp [zhu]
      | cons y l ih =>
       intro h;simp only [zy22,zhu,zy14] at h;rcases h with h | h
       . exact ⟨y,by simp,h⟩
       . obtain ⟨x,hx,h⟩:=ih h;exact ⟨x,by simp [hx],h⟩
     obtain ⟨x,hx2,h2⟩:=this _ hi;exact hids x (by simp;exact .inr (by simpa using hx2)) id h2
   . exact hids f zz5 id (by rw [hx];simpa only [zdd] using hi)
end
end Go.HL
namespace Go.HL
structure zmf (Γ:Ctx) (P:Program) (m:zez) (s:HS) (a:Act) (w:World):Prop where
 heap:zbc Γ m s.heap w
 slots:∀ t,zax m w (RR Γ m s.heap w) (s.slot t) (a.tmps.getD t undef)
 size:a.tmps.size=s.n
 defers:a.defers=[]
 pin:∀ id l,pin<=id->Γ.m0 id=some l->id∈s.pins/\m id=some l
def zjg (P:Program) (C:zbg):Prop:=∀ f args H d r,C f args H d r->∀ (Γ:Ctx) m w vals,zbc Γ m H w->zaz m w (RR Γ m H w) args vals ->
 ((callFunc f vals.toArray).run P w=.ok (.enter f vals.toArray) w /\
 Calls P f vals.toArray w fun e w'=>∃ v m',e=.returned v/\WS Γ H m w (zdy H r.ups) m' w'/\zax m' w' (RR Γ m' (zdy H r.ups) w') r.val v) \/
 ∃ v w' m',(callFunc f vals.toArray).run P w=.ok (.value v) w'/\WS Γ H m w (zdy H r.ups) m' w'/\zax m' w' (RR Γ m' (zdy H r.ups) w') r.val v
section
variable {Γ:Ctx} {P:Program} {m m':zez} {s:HS} {a:Act} {w w':World} {C:zbg}
theorem zmf.eval (h:zmf Γ P m s a w) (x:Operand):zax m w (RR Γ m s.heap w) (evalOp s.slot x) (a.eval x):=by
 cases x with
 | tmp t=>exact h.slots t
 | const v=>exact ynu v
 | global g=>simp only [evalOp,zax]
 | func f=>simp only [evalOp,zax,Act.eval];exact ⟨#[],rfl,by simp only [zaz]⟩
theorem ylb (a:Act) (d t:Nat) (v:Value) (hd:d<a.tmps.size):(a.put (some d) v).tmps.getD t undef=if t=d then v else a.tmps.getD t undef:=by
 simp only [Act.put,zy78,Array.getElem?_setIfInBounds];by_cases h:t=d
 . subst h;simp [hd]
 . rw [zy0 (fun e=>h e.symm),zy0 h]
theorem zmf.step (h:zmf Γ P m s a w) {dst:Option Nat} {r:Res} {v:Value} (hws:WS Γ s.heap m w (zdy s.heap r.ups) m' w') (hv:zax m' w' (RR Γ m' (zdy s.heap r.ups) w') r.val v) (hd:∀ d,dst=some d->d<s.n) :
 zmf Γ P m' (s.app dst r) (a.put dst v) w':=by
 cases dst with
 | none=>exact ⟨hws.ok,fun t=>hws.rep (h.slots t),h.size,h.defers,fun id l hp hl=>⟨(h.pin id l hp hl).1,hws.ext _ _ (h.pin id l hp hl).2⟩⟩
 | some d =>
  have hlt:d<a.tmps.size:=by rw [h.size];exact hd d rfl
  refine ⟨hws.ok,fun t=>?_,by simp [Act.put,HS.app,h.size],h.defers,fun id l hp hl=>⟨(h.pin id l hp hl).1,hws.ext _ _ (h.pin id l hp hl).2⟩⟩;rw [ylb a d t v hlt];by_cases ht:t=d
  . subst ht;rw [zy1 rfl];simp only [HS.app,zba];exact hv
  . rw [zy0 ht];simp only [HS.app,zbd _ _ ht];exact hws.rep (h.slots t)
theorem zmf.skip (h:zmf Γ P m s a w) {dst:Option Nat} (hd:∀ d,dst=some d->d<s.n):zmf Γ P m (s.put dst .und) (a.put dst undef) w:=by
 cases dst with
 | none=>exact h
 | some d =>
  have hlt:d<a.tmps.size:=by rw [h.size];exact hd d rfl
  refine ⟨h.heap,fun t=>?_,by simp [Act.put,HS.put,h.size],h.defers,h.pin⟩;rw [ylb a d t undef hlt];by_cases ht:t=d
  . subst ht;rw [zy1 rfl];simp only [HS.put,zba,zax]
  . rw [zy0 ht];simp only [HS.put,zbd _ _ ht];exact h.slots t
def zxu:Op->Bool
 | .call ⟨.value _,_,_⟩=>true
 | _=>false
theorem xdk {K:Res->Prop} {d:Nat} {ev:Operand->HV} {ρ:Operand->Value} {H:Nat->zad} {o:Oper} (hok:zbc Γ m H w) (hev:∀ x,zax m w (RR Γ m H w) (ev x) (ρ x)) (h:zcr P C o.op d ev H K) (hf:zxu o.op=false) :
 ∃ r,K r/\OS Γ P m H w (execOp ρ o) r:=by
 obtain ⟨dst,op,ty,pos,after,guard⟩:=o;simp only at h hf;cases op<;>try exact False.elim h
 case move x=>exact xek hok (hev x) h
 case assign x=>exact yub hok (hev x) h
 case pick c x y=>exact xem hok (fun z _=>hev z) h
 case alloc t=>exact yyu hok h
 case box t x=>exact xgy hok (hev x) h
 case build t ps=>exact yyv hok (fun x _=>hev x.2) h
 case buildSlice t n ps=>exact yau hok (fun x _=>hev x.2) h
 case load t x=>exact xej hok (hev x) h
 case store t x y=>exact yzc hok (hev x) (hev y) h
 case nilCheck x=>exact yiv hok (hev x) h
 case binOp b t x y yt =>
  simp only [zcr] at h;cases hq:yig (ev x) with
  | none=>rw [hq] at h;exact xgx hok (hev x) (hev y) h
  | some id =>
   rw [hq] at h;simp only at h;split at h
   . exact yud hok (by rw [<- yyf hq];exact hev x) (hev y) h
   . exact h.elim
 case unOp u t x=>exact xen hok (hev x) h
 case convert src dt x=>exact ypa hok (hev x) h
 case makeFunc fn first caps=>exact yiu hok (fun x _=>hev x) h
 case makeSlice t x y=>exact yey hok (hev x) (hev y) h
 case slice t x lo hi mx=>exact yzb hok hev h
 case fieldAddr t x f=>exact yew hok (hev x) h
 case field t x f=>exact yyy hok (hev x) h
 case indexAddr t x i=>exact yex hok (hev x) (hev i) h
 case extract t i=>exact ypb hok (hev t) h
 case index t x i=>exact yyz hok (hev x) (hev i) h
 case makeMap t r=>exact ypd hok h
 case lookup t x i b=>exact yuc hok (hev x) (hev i) h
 case range t x=>exact yza hok (hev x) h
 case next x b=>exact xel hok (hev x) h
 case entry x=>exact yyx hok (hev x) h
 case mapUpdate t x i y=>obtain ⟨r,h1,h2⟩:=yez hok (hev x) (hev i) (hev y) h;exact ⟨r,h1,h2 (by rfl)⟩
 case insert t x i y=>obtain ⟨r,h1,h2⟩:=yez hok (hev x) (hev i) (hev y) h;exact ⟨r,h1,h2 (by rfl)⟩
 case call c =>
  obtain ⟨callee,args,ats⟩:=c;cases callee with
  | value f=>cases hf
  | invoke r mth=>exact False.elim h
  | builtin b =>
   cases b<;>try exact False.elim h
   . exact yua hok (fun x _=>hev x) h
   . exact xgz hok (fun x _=>hev x) h
   . exact yyw hok (fun x _=>hev x) h
   . exact xei hok (fun x _=>hev x) h
   . exact xha hok (fun x _=>hev x) h
   . exact xhb hok (fun x _=>hev x) h
   . exact xhc hok (fun x _=>hev x) h
theorem xeh (hC:zjg P C) (hc:zmf Γ P m s a w) {o:Oper} {K:Res->Prop} {next:Act->World->Prop} {Q:Exit->Act->World->Prop} (h:zcr P C o.op (o.dst.getD 0) (evalOp s.slot) s.heap K)
 (hn:∀ r v m' w',K r->WS Γ s.heap m w (zdy s.heap r.ups) m' w'->zax m' w' (RR Γ m' (zdy s.heap r.ups) w') r.val v->next (a.put o.dst v) w'):o.wp P a w next Q:=by
 unfold Oper.wp;cases hf:zxu o.op with
 | false =>
  obtain ⟨r,hk,v,w',m',zdz,hws,hrep⟩:=xdk hc.heap hc.eval h hf;rcases zdz with zdz | ⟨zdz,rfl⟩
  . rw [zdz];exact hn r v m' w' hk hws hrep
  . rw [zdz];exact hn r undef m' w' hk hws hrep
 | true =>
  obtain ⟨dst,op,ty,pos,after,guard⟩:=o;simp only at hf h;cases op<;>try cases hf
  rename_i c;obtain ⟨callee,args,ats⟩:=c;cases callee with
  | invoke r mth=>cases hf
  | builtin b=>cases hf
  | value f =>
   simp only [zcr] at h;split at h
   . rename_i g caps hg
     rw [zro] at h;obtain ⟨r,hCr,hk⟩:=h;have hfv:=hc.eval f;rw [hg] at hfv;simp only [zax] at hfv;obtain ⟨arr,hfv,hcaps⟩:=hfv;have hargs:=zaz.map (ρ:=a.eval) (ev:=evalOp s.slot) args.toList fun x _=>hc.eval x
     have happ:∀ {xs ys:List HV} {vs us:List Value} {R:Nat->Prop},zaz m w R xs vs->zaz m w R ys us->zaz m w R (xs++ys) (vs++us):=by
      intro xs
      induction xs with
      | nil=>intro ys vs us R h1 h2;simp only [zaz] at h1;subst h1;exact h2
      | cons x xs ih =>
       intro ys vs us R h1 h2;simp only [zaz,zy37] at h1 ⊢;obtain ⟨v,r,rfl,h3,h4⟩:=h1;exact ⟨v,r++us,rfl,h3,ih h4 h2⟩
     have hvals:(args.toList.map a.eval++arr.toList).toArray=args.map a.eval++arr:=by apply Array.ext';simp
     have hboth:=hC g _ _ _ r hCr Γ m w _ hc.heap (happ hargs hcaps);rw [hvals] at hboth;rcases hboth with ⟨hcf,hcalls⟩ | ⟨v,w',m',hcf,hws,hrep⟩
     case inr =>
      have zdz:(execOp a.eval ⟨dst,.call ⟨.value f,args,ats⟩,ty,pos,after,guard⟩).run P w=.ok (.value v) w':=by
       exact yy92
      rw [zdz];exact hn r v m' w' hk hws hrep
     have zdz:(execOp a.eval ⟨dst,.call ⟨.value f,args,ats⟩,ty,pos,after,guard⟩).run P w=.ok (.enter g (args.map a.eval++arr)) w:=by
      exact yy92
     rw [zdz];refine hcalls.mono fun e w' he=>?_
     obtain ⟨v,m',rfl,hws,hrep⟩:=he;exact hn r v m' w' hk hws hrep
   . exact h.elim
end
end Go.HL
namespace Go.HL
def zdg (all:List Oper) (o:Oper) (slot:Nat->HV):Option Bool :=
 match o.guard with
 | none=>some true
 | some (j,want)=>match (nth all j).bind (·.dst) with
  | some g=>match slot g with
   | .p (.v (.bool b))=>some (b==want)
   | .und=>some false
   | _=>none
  | none=>none
def zky (P:Program) (C:zbg) (all:List Oper) (o:Oper) (l:Lab) (s s':HS):Prop :=
 (∀ d,o.dst=some d->d<s.n)/\match l with
 | some (r,ids)=>zdg all o s.slot=some true/\zcr P C o.op (o.dst.getD 0) (evalOp s.slot) s.heap (·=r)/\ids=zqo o.op (evalOp s.slot) (o.dst.getD 0)/\s'=s.app o.dst r
 | none=>zdg all o s.slot=some false/\s'=s.put o.dst .und
inductive Ev (P:Program) (C:zbg) (all:List Oper):List (Oper×Lab)->HS->HS->Prop where
 | nil (s:HS):Ev P C all [] s s
 | cons {o:Oper} {l:Lab} {r:List (Oper×Lab)} {s s1 s2:HS} (h:zky P C all o l s s1) (k:Ev P C all r s1 s2):Ev P C all ((o,l)::r) s s2
section
variable {Γ:Ctx} {P:Program} {C:zbg} {all:List Oper}
theorem ztc (s:HS) {g:Nat} {x:HV} (h:s.slot g=x):s.put (some g) x=s:=by
 subst h;simp only [HS.put,zmu]
theorem zqf:∀ (os:List Oper) (s:HS) (acc:List Lab) (K:List Lab->HS->Prop),(∀ o∈os,zwo o.op=true)->ycd P C all os s acc K ->
 ∃ labs s',labs.length=os.length/\Ev P C all (os.zip labs) s s'/\K (labs.reverse++acc) s'
 | [],s,acc,K,hd,h=>⟨[],s,rfl,.nil s,h⟩
 | ⟨dst,op,ty,pos,after,guard⟩::os,s,acc,K,hd,h=>by
  have hdo:zwo op=true:=hd ⟨dst,op,ty,pos,after,guard⟩ zz5;have hrest:∀ o∈os,zwo o.op=true:=fun o ho=>hd o (by simp [ho])
  have run:∀ (K':Res->HS->Prop),zdz P C dst op s K'->∃ r,(∀ d,dst=some d->d<s.n)/\zcr P C op (dst.getD 0) (evalOp s.slot) s.heap (·=r)/\K' r (s.app dst r):=by
   intro K' hr;unfold zdz at hr;cases dst with
   | none =>
    obtain ⟨r,h1,h2⟩:=yld hdo hr;exact ⟨r,by simp,h2,h1⟩
   | some d =>
    obtain ⟨hlt,hr⟩:=zav hr;obtain ⟨r,h1,h2⟩:=yld hdo hr;refine ⟨r,fun d' hd'=>?_,h2,h1⟩;cases hd';exact zy9 hlt
  have skip:∀ (K':HS->Prop),zwr dst s K'->(∀ d,dst=some d->d<s.n)/\K' (s.put dst .und):=by
   intro K' hr;unfold zwr at hr;cases dst with
   | none=>exact ⟨by simp,hr⟩
   | some d =>
    obtain ⟨hlt,hr⟩:=zav hr;refine ⟨fun d' hd'=>?_,hr⟩;cases hd';exact zy9 hlt
  have ran:∀ (hw:zdg all ⟨dst,op,ty,pos,after,guard⟩ s.slot=some true),zdz P C dst op s (fun r s'=>ycd P C all os s' (some (r,zqo op (evalOp s.slot) (dst.getD 0))::acc) K) ->
   ∃ labs s',labs.length=(⟨dst,op,ty,pos,after,guard⟩::os).length/\Ev P C all ((⟨dst,op,ty,pos,after,guard⟩::os).zip labs) s s'/\K (labs.reverse++acc) s':=by
   intro hw hr;obtain ⟨r,h1,h2,h3⟩:=run _ hr;obtain ⟨labs,s',hl,hev,hk⟩:=zqf os _ _ K hrest h3;refine ⟨some (r,zqo op (evalOp s.slot) (dst.getD 0))::labs,s',by simp [hl],.cons ⟨h1,hw,h2,rfl,rfl⟩ hev,?_⟩
   simpa using hk
  have skipped:∀ (hw:zdg all ⟨dst,op,ty,pos,after,guard⟩ s.slot=some false),zwr dst s (fun s'=>ycd P C all os s' (none::acc) K) ->
   ∃ labs s',labs.length=(⟨dst,op,ty,pos,after,guard⟩::os).length/\Ev P C all ((⟨dst,op,ty,pos,after,guard⟩::os).zip labs) s s'/\K (labs.reverse++acc) s':=by
   intro hw hr;obtain ⟨h1,h3⟩:=skip _ hr;obtain ⟨labs,s',hl,hev,hk⟩:=zqf os _ _ K hrest h3;refine ⟨none::labs,s',by simp [hl],.cons ⟨h1,hw,rfl⟩ hev,?_⟩
   simpa using hk
  rw [ydt] at h;simp only [yae] at h;split at h
  . exact ran rfl h
  . rename_i j want
    split at h
    . rename_i g hg
      split at h
      . rename_i b hb
        have h2:=zis h;clear h;rcases h2 with ⟨rfl,h⟩ | ⟨rfl,h⟩
        . rw [ztc s hb] at h
          have h2:=zis h;clear h;rcases h2 with ⟨rfl,h⟩ | ⟨rfl,h⟩
          . exact ran zz50 h
          . exact skipped zz50 h
        . rw [ztc s hb] at h
          have h2:=zis h;clear h;rcases h2 with ⟨rfl,h⟩ | ⟨rfl,h⟩
          . exact skipped zz50 h
          . exact ran zz50 h
      . rename_i hb
        exact skipped zz50 h
      . exact h.elim
    . exact h.elim
theorem zpq {m:zez} {s:HS} {a:Act} {w:World} {ops:Array Oper} {o:Oper} {b:Bool} (hc:zmf Γ P m s a w) (h:zdg ops.toList o s.slot=some b):Region.wanted o (yielded ops a.tmps)=b:=by
 unfold zdg at h;unfold Region.wanted;cases hg:o.guard with
 | none=>rw [hg] at h;cases h;rfl
 | some jw =>
  obtain ⟨j,want⟩:=jw;rw [hg] at h;simp only at h ⊢;rw [zgq] at h;have hj:ops.toList[j]?=ops[j]?:=by simp
  rw [hj] at h;unfold yielded;cases hd:(ops[j]?).bind (·.dst) with
  | none=>rw [hd] at h;cases h
  | some g =>
   rw [hd] at h;simp only at h;have hs:=hc.slots g;rw [zy160];split at h
   . rename_i c hcg
     rw [hcg] at hs;have hv:=zhk hs;have:a.tmps[g]?=some (.bool c):=by
      rw [zy78] at hv;cases ht:a.tmps[g]? with
      | none=>rw [ht] at hv;cases hv
      | some v=>rw [ht] at hv;simp at hv;rw [hv]
     rw [this];cases h;simp only;cases c<;>cases want<;>rfl
   . rename_i hcg
     rw [hcg] at hs;simp only [zax] at hs;cases h;cases ht:a.tmps[g]? with
     | none=>simp only;rfl
     | some v =>
      have:v=undef:=by rw [zy78,ht] at hs;simpa using hs
      subst this
      rfl
   . cases h
theorem xfb (hC:zjg P C) {m:zez} {s s':HS} {a:Act} {w:World} {ops:Array Oper} {o:Oper} {l:Lab} (hc:zmf Γ P m s a w) (h:zky P C ops.toList o l s s') {K:Act->World->Prop} {Q:Exit->Act->World->Prop}
 (hK:∀ m' a' w',zmf Γ P m' s' a' w'->K a' w'):if Region.wanted o (yielded ops a.tmps) then o.wp P a w K Q else K (a.put o.dst undef) w:=by
 obtain ⟨hd,h⟩:=h;cases l with
 | none =>
  obtain ⟨hw,rfl⟩:=h;rw [zpq hc hw];simp only [zy81,if_false];exact hK m _ w (hc.skip hd)
 | some ri =>
  obtain ⟨r,ids⟩:=ri;obtain ⟨hw,ha,_,rfl⟩:=h;rw [zpq hc hw];simp only [if_true];refine xeh hC hc ha fun r' v m' w' hr hws hrep=>?_
  subst hr;exact hK m' _ w' (hc.step hws hrep hd)
theorem zuo (hC:zjg P C) {ops:Array Oper} {Q:Exit->Act->World->Prop}:∀ (os:List Oper) (s:HS) (acc:List Lab) (K:List Lab->HS->Prop) (m:zez) (a:Act) (w:World),ycd P C ops.toList os s acc K->zmf Γ P m s a w ->
 (∀ labs s' m' a' w',K labs s'->zmf Γ P m' s' a' w'->Q .normal a' w')->wpList P ops Q os a w
 | [],s,acc,K,m,a,w,h,hc,hK=>wpList_nil (hK acc s m a w h hc)
 | ⟨dst,op,ty,pos,after,guard⟩::os,s,acc,K,m,a,w,h,hc,hK=>by
  refine wpList_step fun K' hK'=>?_
  have ran:∀ (hw:zdg ops.toList ⟨dst,op,ty,pos,after,guard⟩ s.slot=some true) (L:Res->Lab),zdz P C dst op s (fun r s'=>ycd P C ops.toList os s' (L r::acc) K) ->
   if Region.wanted ⟨dst,op,ty,pos,after,guard⟩ (yielded ops a.tmps) then Oper.wp P ⟨dst,op,ty,pos,after,guard⟩ a w K' Q else K' (a.put dst undef) w:=by
   intro hw L hr;rw [zpq hc hw];simp only [if_true];unfold zdz at hr;cases dst with
   | none =>
    refine xeh hC hc (o:=⟨none,op,ty,pos,after,guard⟩) hr fun r v m' w' hk hws hrep=>?_
    exact hK' _ _ (zuo hC os _ _ K m' _ w' hk (hc.step hws hrep zz5) hK)
   | some d =>
    obtain ⟨hlt,hr⟩:=zav hr;refine xeh hC hc (o:=⟨some d,op,ty,pos,after,guard⟩) hr fun r v m' w' hk hws hrep=>?_
    exact hK' _ _ (zuo hC os _ _ K m' _ w' hk (hc.step hws hrep (fun d' hd'=>by cases hd';exact zy9 hlt)) hK)
  have skipped:∀ (hw:zdg ops.toList ⟨dst,op,ty,pos,after,guard⟩ s.slot=some false),zwr dst s (fun s'=>ycd P C ops.toList os s' (none::acc) K) ->
   if Region.wanted ⟨dst,op,ty,pos,after,guard⟩ (yielded ops a.tmps) then Oper.wp P ⟨dst,op,ty,pos,after,guard⟩ a w K' Q else K' (a.put dst undef) w:=by
   intro hw hr;rw [zpq hc hw];simp only [zy81,if_false];unfold zwr at hr;cases dst with
   | none=>exact hK' _ _ (zuo hC os _ _ K m _ w hr (hc.skip (dst:=none) zz5) hK)
   | some d =>
    obtain ⟨hlt,hr⟩:=zav hr;exact hK' _ _ (zuo hC os _ _ K m _ w hr (hc.skip (dst:=some d) (fun d' hd'=>by cases hd';exact zy9 hlt)) hK)
  rw [ydt] at h;simp only [yae] at h;split at h
  . exact ran rfl _ h
  . rename_i j want
    split at h
    . rename_i g hg
      split at h
      . rename_i b hb
        have h2:=zis h;clear h;rcases h2 with ⟨rfl,h⟩ | ⟨rfl,h⟩
        . rw [ztc s hb] at h
          have h2:=zis h;clear h;rcases h2 with ⟨rfl,h⟩ | ⟨rfl,h⟩
          . exact ran zz50 _ h
          . exact skipped zz50 h
        . rw [ztc s hb] at h
          have h2:=zis h;clear h;rcases h2 with ⟨rfl,h⟩ | ⟨rfl,h⟩
          . exact skipped zz50 h
          . exact ran zz50 _ h
      . rename_i hb
        exact skipped zz50 h
      . exact h.elim
    . exact h.elim
end
end Go.HL
namespace Go.HL
def zqh:Lab->Res
 | some (r,_)=>r
 | none=>⟨.und,[],[]⟩
section
variable {Γ:Ctx} {P:Program} {C:zbg} {all:List Oper}
theorem zpp {α:List (Nat×zad)} {H:Nat->zad} {id:Nat} (h:id∉α.map (·.1)):zdy H α id=H id :=
 zrd (us:=α) fun _ he hi=>h (hi ▸ List.mem_map_of_mem he)
theorem yca {α:Type} (f:Nat->α) {i j:Nat} (x y:α) (h:i≠j):upd (upd f i x) j y=upd (upd f j y) i x:=by
 funext k
 by_cases h1:k=i
 . subst h1;rw [zba,zbd _ _ h,zba]
 . by_cases h2:k=j
   . subst h2;rw [zba,zbd _ _ h1,zba]
   . rw [zbd _ _ h2,zbd _ _ h1,zbd _ _ h1,zbd _ _ h2]
theorem ynr (H:Nat->zad):∀ (α:List (Nat×zad)) {i:Nat} (b:zad),i∉α.map (·.1)->zdy (upd H i b) α=upd (zdy H α) i b
 | [],i,b,h=>rfl
 | (j,c)::α,i,b,h=>by
  simp only [zy22,zy15,not_or] at h;simp only [zdy];rw [yca _ _ _ h.1,ynr _ α b h.2]
theorem ygu:∀ (α β:List (Nat×zad)) (H:Nat->zad),(∀ i∈α.map (·.1),i∉β.map (·.1))->zdy (zdy H α) β=zdy (zdy H β) α
 | [],β,H,h=>rfl
 | (i,b)::α,β,H,h=>by
  simp only [zdy];rw [ygu α β _ fun j hj=>h j (by simp at hj ⊢;exact .inr hj),ynr _ β b (h i (by simp))]
theorem zku {o:Oper} {l:Lab} {s s':HS}:zky P C all o l s s'↔(∀ d,o.dst=some d->d<s.n)/\zdg all o s.slot=some l.isSome /\
 (∀ r ids,l=some (r,ids)->zcr P C o.op (o.dst.getD 0) (evalOp s.slot) s.heap (·=r)/\ids=zqo o.op (evalOp s.slot) (o.dst.getD 0))/\s'=s.app o.dst (zqh l):=by
 unfold zky;refine and_congr Iff.rfl ?_;cases l with
 | none =>
  simp only [Option.isSome_none,reduceCtorEq,false_implies,implies_true,true_and,zqh];refine and_congr Iff.rfl ?_;obtain ⟨dst,op,ty,pos,after,guard⟩:=o;cases dst<;>exact Iff.rfl
 | some ri =>
  obtain ⟨r,ids⟩:=ri;simp only [Option.isSome_some,zqh]
  constructor
  . rintro ⟨h1,h2,h3,h4⟩
    exact ⟨h1,fun r' ids' he=>by cases he;exact ⟨h2,h3⟩,h4⟩
  . rintro ⟨h1,h2,h4⟩
    exact ⟨h1,(h2 r ids rfl).1,(h2 r ids rfl).2,h4⟩
theorem zzf {s:HS} {dst:Option Nat} {r:Res} {t:Nat} (h:dst≠some t):(s.app dst r).slot t=s.slot t:=by
 cases dst with
 | none=>rfl
 | some d=>exact zbd _ _ fun e=>h (by rw [e])
theorem zoh {s:HS} {dst:Option Nat} {r:Res}:(s.app dst r).heap=zdy s.heap r.ups:=by
 cases dst<;>rfl
theorem ynz {s:HS} {dst:Option Nat} {r:Res}:(s.app dst r).n=s.n:=by
 cases dst<;>rfl
theorem zze {s:HS} {x y:Option Nat} {r q:Res} (h:∀ d,x=some d->y≠some d) (hu:∀ i∈r.ups.map (·.1),i∉q.ups.map (·.1)) :
 (s.app x r).app y q=(s.app y q).app x r:=by
 have hh:=ygu r.ups q.ups s.heap hu;cases x with
 | none=>cases y<;>simp only [HS.app,hh]
 | some d=>cases y with
  | none=>simp only [HS.app,hh]
  | some e =>
   simp only [HS.app,hh];rw [yca _ _ _ fun e'=>h d rfl (by rw [e'])]
theorem zst {s:HS} {dst:Option Nat} {r:Res} {x:Operand} (h:∀ d,dst=some d->x≠.tmp d):evalOp (s.app dst r).slot x=evalOp s.slot x:=by
 cases x<;>try rfl
 rename_i t;simp only [evalOp];exact zzf fun e=>h t e rfl
theorem zmv {ops:Array Oper} {o:Oper} {s:HS} {dst:Option Nat} {r:Res} (h:∀ d,dst=some d->d∉o.looksAt ops):zdg ops.toList o (s.app dst r).slot=zdg ops.toList o s.slot:=by
 unfold zdg;cases hg:o.guard with
 | none=>rfl
 | some jw =>
  obtain ⟨j,want⟩:=jw;simp only;cases hd:(nth ops.toList j).bind (·.dst) with
  | none=>rfl
  | some g =>
   simp only;rw [zzf fun e=>?_];refine h g e ?_;simp only [Oper.looksAt,hg,zy14]
   right
   rw [zgq] at hd;have hj:ops.toList[j]?=ops[j]?:=by simp
   rw [hj] at hd;rw [hd];simp
theorem zuz {op:Op} {ev ev':Operand->HV} {d:Nat} (h:∀ x∈op.operands.toList,ev' x=ev x):zqo op ev' d=zqo op ev d:=by
 unfold zqo;cases looks op<;>dsimp only
 congr 1
 revert h
 generalize op.operands.toList=l
 induction l with
 | nil=>intro _;rfl
 | cons y l ih=>intro h;simp only [yev];rw [h y (by simp),ih fun x hx=>h x (by simp [hx])]
theorem zub:∀ {a b:List Nat},yxi a b=true->∀ i∈a,i∉b
 | [],b,h,i,hi=>by simp at hi
 | x::a,b,h,i,hi=>by
  simp only [yxi,zy12,zy54] at h;rcases zy15.1 hi with rfl | hi
  . intro hb
    have:=zy121.1 h.1 i hb;simp at this
  . exact zub h.2 i hi
def Ind (ops:Array Oper) (x:Oper×Lab) (y:Oper×Lab):Prop:=x.1.apart ops y.1=true/\yxi (yjq x.2) (zwb y.2)=true/\yxi (yjq y.2) (zwb x.2)=true
theorem yns (l:Lab):yjq l=(zqh l).ups.map (·.1):=by cases l<;>rfl
theorem zpm (hC:zgy C) {ops:Array Oper} {o:Oper} {l:Lab} {s s' t:HS} (h:zky P C ops.toList o l s s') (hn:t.n=s.n)
 (hw:zdg ops.toList o t.slot=zdg ops.toList o s.slot) (he:∀ x∈o.op.operands.toList,evalOp t.slot x=evalOp s.slot x)
 (hH:∀ i∈zwb l,t.heap i=s.heap i):zky P C ops.toList o l t (t.app o.dst (zqh l)):=by
 rw [zku] at h ⊢;obtain ⟨h1,h2,h3,-⟩:=h;refine ⟨fun d hd=>by rw [hn];exact h1 d hd,by rw [hw];exact h2,fun r ids hl=>?_,rfl⟩;subst hl;obtain ⟨h4,h5⟩:=h3 r ids rfl;refine ⟨yoi hC h4 he fun i hi=>hH i ?_,by rw [zuz he];exact h5⟩;subst h5;exact hi
theorem swap (hC:zgy C) {ops:Array Oper} {x y:Oper} {lx ly:Lab} {s s1 s2:HS} (hx:zky P C ops.toList x lx s s1) (hy:zky P C ops.toList y ly s1 s2) (hi:Ind ops (x,lx) (y,ly)) :
 ∃ s1',zky P C ops.toList y ly s s1'/\zky P C ops.toList x lx s1' s2:=by
 obtain ⟨hap,hd1,hd2⟩:=hi;obtain ⟨a1,a2,a3⟩:=Oper.apart_spec hap;have e1:s1=s.app x.dst (zqh lx):=(zku.1 hx).2.2.2;have e2:s2=s1.app y.dst (zqh ly):=(zku.1 hy).2.2.2;subst e1;have ycd:∀ {o:Oper} {z:Operand} {d:Nat},z∈o.op.operands.toList->d∉o.looksAt ops->z≠.tmp d:=by
  rintro o z d hz hd rfl;apply hd;simp only [Oper.looksAt,zy14,List.mem_filterMap];exact .inl ⟨_,hz,rfl⟩
 have hu1:∀ i∈(zqh lx).ups.map (·.1),i∉zwb ly:=fun i hi=>zub hd1 i (by rw [yns];exact hi)
 have hu2:∀ i∈(zqh ly).ups.map (·.1),i∉zwb lx:=fun i hi=>zub hd2 i (by rw [yns];exact hi)
 have zrs:∀ {l:Lab} {i:Nat},i∈(zqh l).ups.map (·.1)->i∈zwb l:=by
  intro l i hi;cases l with
  | none=>simp [zqh] at hi
  | some ri=>simp only [zwb,zy14];exact .inr (.inr hi)
 refine ⟨s.app y.dst (zqh ly),zpm hC hy ynz.symm (zmv a1).symm (fun z hz=>(zst fun d hd=>ycd hz (a1 d hd)).symm) fun i hi=>?_,?_⟩
 . rw [zoh,zpp fun h=>hu1 i h hi]
 . have:=zpm hC (t:=s.app y.dst (zqh ly)) hx ynz (zmv a3) (fun z hz=>zst fun d hd=>ycd hz (a3 d hd)) fun i hi=>by
    rw [zoh,zpp fun h=>hu2 i h hi]
   rw [e2,zze a2 fun i hi h=>hu1 i hi (zrs h)];exact this
structure xan (P:Program) (C:zbg) (ops:Array Oper) (M:Oper->Lab->Prop) where
 Z:HS->Prop
 S:Oper->Lab->Prop
 keep:∀ {o l s s'},M o l->zky P C ops.toList o l s s'->Z s->Z s'
 same:∀ {o l s s' t},M o l->S o l->Z s->Z t->zky P C ops.toList o l s s'->t.n=s.n->zdg ops.toList o t.slot=zdg ops.toList o s.slot->(∀ x∈o.op.operands.toList,evalOp t.slot x=evalOp s.slot x)->zky P C ops.toList o l t (t.app o.dst (zqh l))
 quiet:∀ {o l},M o l->S o l->(zqh l).ups=[]
def xhp {P:Program} {C:zbg} {ops:Array Oper} {M:Oper->Lab->Prop} (z:xan P C ops M) (x y:Oper×Lab):Prop:=Ind ops x y\/(x.1.apart ops y.1=true/\(z.S x.1 x.2\/z.S y.1 y.2))
theorem xis (hC:zgy C) {ops:Array Oper} {M:Oper->Lab->Prop} (z:xan P C ops M) {x y:Oper} {lx ly:Lab} {s s1 s2:HS} (mx:M x lx) (my:M y ly) (hz:z.Z s) (hx:zky P C ops.toList x lx s s1) (hy:zky P C ops.toList y ly s1 s2) (hi:xhp z (x,lx) (y,ly)) :
 ∃ s1',zky P C ops.toList y ly s s1'/\zky P C ops.toList x lx s1' s2:=by
 rcases hi with hi | ⟨hap,hs⟩
 . exact swap hC hx hy hi
 obtain ⟨a1,a2,a3⟩:=Oper.apart_spec hap;have hz1:=z.keep mx hx hz;have e1:s1=s.app x.dst (zqh lx):=(zku.1 hx).2.2.2;have e2:s2=s1.app y.dst (zqh ly):=(zku.1 hy).2.2.2;subst e1;have ycd:∀ {o:Oper} {z:Operand} {d:Nat},z∈o.op.operands.toList->d∉o.looksAt ops->z≠.tmp d:=by
  rintro o z d hz hd rfl;apply hd;simp only [Oper.looksAt,zy14,List.mem_filterMap];exact .inl ⟨_,hz,rfl⟩
 have wy:=(zmv (ops:=ops) (o:=y) (s:=s) (dst:=x.dst) (r:=zqh lx) a1).symm;have ey:∀ q∈y.op.operands.toList,evalOp s.slot q=evalOp (s.app x.dst (zqh lx)).slot q:=fun q hq=>(zst fun d hd=>ycd hq (a1 d hd)).symm
 have wx:=zmv (ops:=ops) (o:=x) (s:=s) (dst:=y.dst) (r:=zqh ly) a3;have ex:∀ q∈x.op.operands.toList,evalOp (s.app y.dst (zqh ly)).slot q=evalOp s.slot q:=fun q hq=>zst fun d hd=>ycd hq (a3 d hd)
 rcases hs with hs | hs
 . have hq:=z.quiet mx hs
   have hy':zky P C ops.toList y ly s (s.app y.dst (zqh ly)):=zpm hC hy ynz.symm wy ey fun i _=>by rw [zoh,hq];rfl
   have hz2:=z.keep my hy' hz;have:=z.same mx hs hz hz2 hx ynz wx ex;rw [e2,zze a2 fun i hi=>by rw [hq] at hi;cases hi];exact ⟨_,hy',this⟩
 . have hq:=z.quiet my hs
   have hy':=z.same my hs hz1 hz hy ynz.symm wy ey;have:=zpm hC (t:=s.app y.dst (zqh ly)) hx ynz wx ex fun i _=>by rw [zoh,hq];rfl
   rw [e2,zze a2 fun i hi h=>by rw [hq] at h;cases h];exact ⟨_,hy',this⟩
theorem ykr (hC:zgy C) {ops:Array Oper} {M:Oper->Lab->Prop} (z:xan P C ops M) {e:Oper×Lab} (me:M e.1 e.2):∀ {pre post:List (Oper×Lab)} {s t:HS},Ev P C ops.toList (pre++e::post) s t->z.Z s->(∀ x∈pre,M x.1 x.2)->(∀ x∈pre,xhp z x e)->Ev P C ops.toList (e::(pre++post)) s t
 | [],post,s,t,h,_,_,_=>h
 | x::pre,post,s,t,h,hz,hm,hi=>by
  cases h with
  | cons h k =>
   rename_i o l s1;have mx:M o l:=hm (o,l) zz5;have h2:=ykr hC z me k (z.keep mx h hz) (fun y hy=>hm y zz42) fun y hy=>hi y zz42
   cases h2 with
   | cons h3 k2 =>
    obtain ⟨s1',h4,h5⟩:=xis hC z mx me hz h h3 (hi _ zz5);exact .cons h4 (.cons h5 k2)
theorem zuw:∀ (os:List Oper) (ms:List Nat),∃ tl,zqj os ms=ms++tl/\tl.length=os.length
 | [],ms=>⟨[],by simp [zqj],rfl⟩
 | o::os,ms=>by
  obtain ⟨tl,h1,h2⟩:=zuw os (ms++[zqi ms o.after.toList]);exact ⟨zqi ms o.after.toList::tl,by simp [zqj,h1],by simp [h2]⟩
theorem yej:∀ (os:List Oper) (ms:List Nat) (k:Nat),k<os.length->∃ o,os[k]?=some o/\(zqj os ms)[ms.length+k]?=some (zqi ((zqj os ms).take (ms.length+k)) o.after.toList)
 | [],ms,k,h=>by simp at h
 | o::os,ms,k,h=>by
  cases k with
  | zero =>
   obtain ⟨tl,h1,h2⟩:=zuw os (ms++[zqi ms o.after.toList]);refine ⟨o,rfl,?_⟩;simp [zqj,h1]
  | succ k =>
   obtain ⟨o',h1,h2⟩:=yej os (ms++[zqi ms o.after.toList]) k zz83;refine ⟨o',by simpa using h1,?_⟩;simp only [zqj];have:(ms++[zqi ms o.after.toList]).length+k=ms.length+(k+1):=by simp;omega
   rw [this] at h2;exact h2
theorem zuv {ms:List Nat} {b:Nat}:∀ {l:List Edge},Nat.testBit (zqi ms l) b=true->∃ e∈l,Region.binds .any e=true/\(e.on=b\/∃ m,ms[e.on]?=some m/\m.testBit b=true)
 | [],h=>by simp [zqi] at h
 | e::l,h=>by
  simp only [zqi] at h;cases hb:Region.binds .any e with
  | false =>
   rw [hb] at h;obtain ⟨e',h1,h2⟩:=zuv h;exact ⟨e',by simp [h1],h2⟩
  | true =>
   rw [hb] at h;have h':Nat.testBit ((xch e.on ||| (nth ms e.on).getD 0) ||| zqi ms l) b=true:=h;rw [Nat.testBit_or,Nat.testBit_or,zy109,zy109] at h';rcases h' with (h' | h') | h'
   . have:xch e.on=2 ^ e.on:=Nat.one_shiftLeft _
     rw [this,Nat.testBit_two_pow] at h';exact ⟨e,by simp,hb,.inl (by simpa using h')⟩
   . refine ⟨e,by simp,hb,.inr ?_⟩
     rw [zgq] at h';cases hm:ms[e.on]? with
     | none=>rw [hm] at h';simp at h'
     | some m=>rw [hm] at h';exact ⟨m,rfl,by simpa using h'⟩
   . obtain ⟨e',h1,h2⟩:=zuv h'
     exact ⟨e',by simp [h1],h2⟩
theorem yil {ops:Array Oper} {listed:Array Bool} (hcl:∀ k o,ops[k]?=some o->listed.getD k true=true->∀ e∈o.after,Region.binds .any e=true->listed.getD e.on false=true) :
 ∀ (k m b:Nat),(zqj ops.toList [])[k]?=some m->m.testBit b=true->(∀ o,ops[k]?=some o->∀ e∈o.after,Region.binds .any e=true->listed.getD e.on false=true)->listed.getD b false=true:=by
 intro k
 induction k using Nat.strongRecOn with
 | ind k ih =>
  intro m b hm hb hk;have hlen:k<ops.toList.length:=by
   obtain ⟨tl,h1,h2⟩:=zuw ops.toList [];rw [h1] at hm;have:=(zy8.1 hm).1
   simpa [h2] using this
  obtain ⟨o,ho,hmo⟩:=yej ops.toList [] k hlen;simp only [zy13,zy59] at hmo;rw [hm] at hmo;cases hmo;have ho':ops[k]?=some o:=by simpa using ho
  obtain ⟨e,he,hbd,h⟩:=zuv hb;have hel:=hk o ho' e (by simpa using he) hbd;rcases h with rfl | ⟨m',hm',hb'⟩
  . exact hel
  . rw [zy47] at hm'
    split at hm'
    . rename_i hlt
      refine ih e.on hlt m' b hm' hb' fun o' ho''=>hcl e.on o' ho'' ?_
      have:e.on<listed.size:=by
       rcases zy84 e.on listed.size with h' | h'
       . exact h'
       . simp [Array.getElem?_eq_none h'] at hel
      rw [zy78] at hel ⊢;rw [zy91 this] at hel ⊢;exact hel
    . cases hm'
theorem ztp {ops:Array Oper} {o:Oper} {l:Lab} {m:Nat}:∀ {xs:List Oper} {ls:List Lab} {k:Nat},ycl ops o l m k xs ls=true->∀ (i:Nat) x lx,xs[i]?=some x->ls[i]?=some lx->m.testBit (k+i)=true\/Ind ops (x,lx) (o,l)
 | [],ls,k,h,i,x,lx,hx,hl=>by simp at hx
 | y::xs,[],k,h,i,x,lx,hx,hl=>by simp at hl
 | y::xs,ly::ls,k,h,i,x,lx,hx,hl=>by
  simp only [ycl,zy12,zy109] at h;obtain ⟨h1,h2⟩:=h;cases i with
  | zero =>
   simp at hx hl;subst hx;subst hl;rcases h1 with h1 | ⟨⟨h1,h3⟩,h4⟩
   . exact .inl h1
   . exact .inr ⟨h1,h3,h4⟩
  | succ i =>
   have:=ztp h2 i x lx zz47 zz52;rw [show k+1+i=k+(i+1) by omega] at this;exact this
theorem zxt {ops:Array Oper} {labs:List Lab} {ms:List Nat}:∀ {os:List Oper} {ls:List Lab} {k:Nat},indep ops labs ms k os ls=true->∀ (i:Nat) o l,os[i]?=some o->ls[i]?=some l->ycl ops o l ((nth ms (k+i)).getD 0) 0 (ops.toList.take (k+i)) (labs.take (k+i))=true
 | [],ls,k,h,i,x,lx,hx,hl=>by simp at hx
 | y::os,[],k,h,i,x,lx,hx,hl=>by simp at hl
 | y::os,ly::ls,k,h,i,o,l,hx,hl=>by
  simp only [indep,zy12] at h;cases i with
  | zero=>simp at hx hl;subst hx;subst hl;exact h.1
  | succ i =>
   have:=zxt h.2 i o l zz47 zz52;rw [show k+1+i=k+(i+1) by omega] at this;exact this
theorem zrn:∀ {os:List Oper} {k:Nat},zkc k os=true->∀ (i:Nat) o,os[i]?=some o->∀ e∈o.after,Region.binds .any e=true->e.on<k+i
 | [],k,h,i,o,ho,e,he,hb=>by simp at ho
 | y::os,k,h,i,o,ho,e,he,hb=>by
  simp only [zkc,zy12] at h;cases i with
  | zero =>
   simp at ho;subst ho;have:=zy26.1 h.1 e (by simpa using he);simp only [hb,Bool.not_true,Bool.false_or] at this;exact zy9 this
  | succ i =>
   have:=zrn h.2 i o zz69 e he hb;omega
def yfe:Nat->List Oper->List Lab->List (Nat×Oper×Lab)
 | k,o::os,l::ls=>(k,o,l)::yfe (k+1) os ls
 | _,_,_=>[]
theorem yaz:∀ (k:Nat) (os:List Oper) (ls:List Lab),(yfe k os ls).map (·.2)=os.zip ls
 | _,[],_=>by simp [yfe]
 | _,_::_,[]=>by simp [yfe]
 | k,o::os,l::ls=>by simp [yfe,yaz (k+1) os ls]
theorem ztb:∀ {k:Nat} {os:List Oper} {ls:List Lab} {i:Nat} {o:Oper} {l:Lab},(i,o,l)∈yfe k os ls->k<=i/\os[i-k]?=some o/\ls[i-k]?=some l
 | _,[],_,_,_,_,h=>by simp [yfe] at h
 | _,_::_,[],_,_,_,h=>by simp [yfe] at h
 | k,o'::os,l'::ls,i,o,l,h=>by
  simp only [yfe,zy15] at h;rcases h with h | h
  . cases h;simp
  . obtain ⟨h1,h2,h3⟩:=ztb h
    obtain ⟨j,rfl⟩:∃ j,i=k+1+j:=⟨i-(k+1),by omega⟩
    rw [show k+1+j-(k+1)=j by omega] at h2 h3;rw [show k+1+j-k=j+1 by omega];exact ⟨by omega,by simpa using h2,by simpa using h3⟩
theorem ymo:∀ {k:Nat} {os:List Oper} {ls:List Lab} {i:Nat},ls.length=os.length->i<os.length->k+i∈(yfe k os ls).map (·.1)
 | _,[],_,_,_,h=>by simp at h
 | _,_::_,[],_,h,_=>by simp at h
 | k,o::os,l::ls,i,hl,h=>by
  simp only [yfe,zy22,zy15];cases i with
  | zero=>exact .inl rfl
  | succ i =>
   right
   have:=ymo (k:=k+1) (os:=os) (ls:=ls) (i:=i) zz52 zz83;rw [show k+1+i=k+(i+1) by omega] at this;exact this
theorem zvd:∀ (k:Nat) (os:List Oper) (ls:List Lab),(yfe k os ls).Pairwise (fun x y=>x.1<y.1)
 | _,[],_=>by simp [yfe]
 | _,_::_,[]=>by simp [yfe]
 | k,o::os,l::ls=>by
  simp only [yfe,List.pairwise_cons];refine ⟨fun y hy=>?_,zvd (k+1) os ls⟩;obtain ⟨i,o',l'⟩:=y;have:=(ztb hy).1;simp only;omega
structure xih (ops:Array Oper) (labs:List Lab) (listed:Array Bool) (L:List (Nat×Oper×Lab)):Prop where
 mem:∀ i o l,(i,o,l)∈L->ops[i]?=some o/\labs[i]?=some l
 has:∀ j,listed.getD j true=false↔j∈L.map (·.1)
 sorted:L.Pairwise (fun x y=>x.1<y.1)
 closed:∀ k o,ops[k]?=some o->listed.getD k true=true->∀ e∈o.after,Region.binds .any e=true->listed.getD e.on false=true
 size:listed.size=ops.size
theorem yrz {listed:Array Bool} {k:Nat} (hk:k<listed.size):listed.getD k false=listed.getD k true:=by
 rw [zy78,zy78,zy91 hk];rfl
def Mem (ops:Array Oper) (labs:List Lab) (o:Oper) (l:Lab):Prop:=∃ i:Nat,ops[i]?=some o/\labs[i]?=some l
def xhq {ops:Array Oper} {labs:List Lab} (z:xan P C ops (Mem ops labs)):Prop:=∀ (j i:Nat) xo xl o l,j<i->ops[j]?=some xo->labs[j]?=some xl->ops[i]?=some o->labs[i]?=some l ->
 Nat.testBit ((nth (zqj ops.toList []) i).getD 0) j=true\/xhp z (xo,xl) (o,l)
theorem xgb (hC:zjg P C) (hL:zgy C) {ops:Array Oper} {labs:List Lab} {Q:Exit->Act->World->Prop} {sEnd:HS} (hup:zkc 0 ops.toList=true) (z:xan P C ops (Mem ops labs)) (hmay:xhq z)
 (hQ:∀ m a w,zmf Γ P m sEnd a w->Q .normal a w):∀ (fuel:Nat) (listed:Array Bool) (L:List (Nat×Oper×Lab)) (s:HS) (m:zez) (a:Act) (w:World),xih ops labs listed L->L.length<=fuel ->
  Ev P C ops.toList (L.map (·.2)) s sEnd->z.Z s->zmf Γ P m s a w->wpAny P .any ops Q fuel listed a w:=by
 have none_ready:∀ {listed:Array Bool} {L:List (Nat×Oper×Lab)},xih ops labs listed L->Region.ready .any ops listed=[]->L=[]:=by
  intro listed L hp hr;cases L with
  | nil=>rfl
  | cons x L =>
   exfalso;obtain ⟨i,o,l⟩:=x;obtain ⟨ho,-⟩:=hp.mem i o l zz5;have hun:listed.getD i true=false:=(hp.has i).2 zz5;have:i∈Region.ready .any ops listed:=by
    refine mem_ready.2 ⟨hun,o,ho,fun e he hb=>?_⟩;have hlt:=zrn hup i o zz69 e he hb;have hi:i<ops.size:=(zy80.1 ho).1;rw [yrz (by rw [hp.size];omega)];cases hf:listed.getD e.on true with
    | true=>rfl
    | false =>
     exfalso;have hm:=(hp.has e.on).1 hf;simp only [zy22,zy15] at hm;rcases hm with hm | hm
     . omega
     . obtain ⟨⟨j,o',l'⟩,hj,hje⟩:=zy28.1 hm
       have:=(List.pairwise_cons.1 hp.sorted).1 _ hj;simp only at hje this;omega
   rw [hr] at this;simp at this
 intro fuel
 induction fuel with
 | zero =>
  intro listed L s m a w hp hf hev _ hc;have zgl:L=[]:=zy19 zz0;subst zgl;cases hev;refine ⟨?_,hQ m a w hc⟩;cases hr:Region.ready .any ops listed with
  | nil=>rfl
  | cons j r =>
   exfalso;have hj:j∈Region.ready .any ops listed:=by rw [hr];simp
   have:=(hp.has j).1 (mem_ready.1 hj).1;simp at this
 | succ fuel ih =>
  intro listed L s m a w hp hf hev hz hc;refine ⟨fun hr=>?_,fun i hi=>?_⟩
  . have zgl:=none_ready hp hr
    subst zgl;cases hev;exact hQ m a w hc
  . obtain ⟨hun,o,ho,hedge⟩:=mem_ready.1 hi
    obtain ⟨⟨i',o',l⟩,hmem,rfl⟩:=zy28.1 ((hp.has i).1 hun);simp only at hun ho hi hedge;obtain ⟨pre,post,rfl⟩:=List.append_of_mem hmem;obtain ⟨ho2,hl⟩:=hp.mem i' o' l hmem;rw [ho2] at ho;cases ho;have hsp:=List.pairwise_append.1 hp.sorted;have hsc:=List.pairwise_cons.1 hsp.2.1;have hlen:i'<ops.size:=(zy80.1 ho2).1;have hpre:∀ x∈pre.map (·.2),xhp z x (o,l):=by
     intro x hx;obtain ⟨⟨j,xo,xl⟩,hj,rfl⟩:=zy28.1 hx;have hlt:j<i':=hsp.2.2 _ hj (i',o,l) zz5;obtain ⟨hjo,hjl⟩:=hp.mem j xo xl (by simp [hj]);have h2:=hmay j i' xo xl o l hlt hjo hjl ho2 hl;rcases h2 with h2 | h2
     . exfalso
       simp only [zgq] at h2;cases hm:(zqj ops.toList [])[i']? with
       | none=>rw [hm] at h2;simp at h2
       | some mk =>
        rw [hm] at h2;have:=yil hp.closed i' mk j hm (by simpa using h2) fun o'' ho''=>by rw [ho2] at ho'';cases ho'';exact hedge
        have hjs:j<listed.size:=by rw [hp.size];omega
        rw [yrz hjs] at this;have h3:listed.getD j true=false:=(hp.has j).2 (by simp;exact .inl ⟨_,_,hj⟩);rw [this] at h3;cases h3
     . exact h2
    have mo:Mem ops labs o l:=⟨i',ho2,hl⟩
    have hmp:∀ x∈pre.map (·.2),Mem ops labs x.1 x.2:=by
     intro x hx;obtain ⟨⟨j,xo,xl⟩,hj,rfl⟩:=zy28.1 hx;exact ⟨j,hp.mem j xo xl (by simp [hj])⟩
    have hev':=ykr hL z (e:=(o,l)) mo (pre:=pre.map (·.2)) (post:=post.map (·.2)) (by simpa using hev) hz hmp hpre;cases hev' with
    | cons hstep hrest =>
     have hz':=z.keep mo hstep hz;have hp':xih ops labs (listed.setIfInBounds i' true) (pre++post):=by
      refine ⟨fun j x xl hj=>hp.mem j x xl ?_,fun j=>?_,?_,fun k x hk hkl e he hb=>?_,by simp [hp.size]⟩
      . rcases zy14.1 hj with hj | hj<;>simp [hj]
      . by_cases hj:j=i'
        . subst hj
          have h1:(listed.setIfInBounds j true).getD j true=true:=by simp [hp.size,hlen]
          rw [h1];simp only [Bool.true_eq_false,false_iff,zy33,zy14,not_or]
          constructor
          . intro h
            obtain ⟨⟨j',xo,xl⟩,hj',he⟩:=zy28.1 h;have:=hsp.2.2 _ hj' (j,o,l) zz5;simp only at he this;omega
          . intro h
            obtain ⟨⟨j',xo,xl⟩,hj',he⟩:=zy28.1 h;have:=hsc.1 _ hj';simp only at he this;omega
        . rw [getD_set_ne true (Ne.symm hj),hp.has j]
          simp [hj]
      . exact List.pairwise_append.2 ⟨hsp.1,hsc.2,fun x hx y hy=>hsp.2.2 x hx y zz42⟩
      . apply getD_set_true
        by_cases hki:k=i'
        . subst hki
          rw [ho2] at hk;cases hk;exact hedge e he hb
        . rw [getD_set_ne true (Ne.symm hki)] at hkl
          exact hp.closed k x hk hkl e he hb
     unfold wpOp;rw [ho2];simp only;have hs:=xfb (Γ:=Γ) hC hc hstep (K:=wpAny P .any ops Q fuel (listed.setIfInBounds i' true)) (Q:=Q) fun m' a' w' hc' =>
      ih _ (pre++post) _ m' a' w' hp' (by simp at hf ⊢;omega) (by simpa using hrest) hz' hc'
     split at hs
     . rename_i hw;rw [zy1 hw];exact .inl hs
     . rename_i hw;rw [zy0 hw];exact hs
def yff (P:Program) (C:zbg) (ops:Array Oper) (M:Oper->Lab->Prop):xan P C ops M:=⟨fun _=>True,fun _ _=>False,fun _ _ _=>trivial,fun _ h=>h.elim,fun _ h=>h.elim⟩
theorem yum {ops:Array Oper} {labs:List Lab} (hall:zkh ops labs=true):xhq (yff P C ops (Mem ops labs)):=by
 simp only [zkh,zy12] at hall;obtain ⟨⟨-,-⟩,hind⟩:=hall;intro j i xo xl o l hlt hjo hjl ho hl;have h1:=zxt hind i o l zz69 hl;simp only [zy59] at h1;have h2:=ztp h1 j xo xl (by rw [zy47];simp [hlt,hjo]) (by rw [zy47];simp [hlt,hjl]);rw [zy59] at h2;exact h2.imp id .inl
theorem yzi {ops:Array Oper} {labs:List Lab} (hall:zkh ops labs=true):zkc 0 ops.toList=true:=by
 simp only [zkh,zy12] at hall;exact hall.1.2
theorem zwf {id:Nat} {b:zad}:∀ {us:List (Nat×zad)},b∈yqk id us↔(id,b)∈us
 | []=>by simp [yqk]
 | (i,c)::r=>by
  simp only [yqk];by_cases h:i=id
  . subst h;simp [zwf (us:=r)]
  . have:Nat.beq i id=false:=by
     cases hb:Nat.beq i id with
     | false=>rfl
     | true=>exact (h (zy4 hb)).elim
    rw [this];simp only [cond_false,zy15,Prod.mk.injEq];rw [zwf (us:=r)]
    constructor
    . exact .inr
    . rintro (⟨rfl,_⟩ | h2)
      . exact (h rfl).elim
      . exact h2
theorem xfl (us:List (Nat×zad)):∀ (H:Nat->zad) (id:Nat),zdy H us id=H id\/(id,zdy H us id)∈us:=by
 induction us with
 | nil=>intro H id;exact .inl rfl
 | cons e r ih =>
  obtain ⟨i,b⟩:=e;intro H id;simp only [zdy];rcases ih (upd H i b) id with h | h
  . by_cases hi:id=i
    . subst hi
      right
      rw [h,zba];simp
    . left;rw [h,zbd _ _ hi]
  . exact .inr (by simp [h])
theorem zre {id:Nat} {b:zad}:∀ {labs:List Lab} {r:Res} {ids:List Nat},some (r,ids)∈labs->(id,b)∈r.ups->b∈zwe id labs
 | [],_,_,h,_=>by cases h
 | none::ls,r,ids,h,hb=>by
  simp only [zwe];rcases zy15.1 h with h | h
  . cases h
  . exact zre h hb
 | some (q,k)::ls,r,ids,h,hb=>by
  simp only [zwe,zy14];rcases zy15.1 h with h | h
  . cases h;exact .inl (zwf.2 hb)
  . exact .inr (zre h hb)
theorem zyv {a:Nat}:∀ {os:List Oper} {ls:List Lab} {i:Nat} {o:Oper} {r:Res} {ids:List Nat},os[i]?=some o->ls[i]?=some (some (r,ids))->o.dst=some a->r.val∈zmd a os ls
 | [],ls,i,o,r,ids,ho,_,_=>by simp at ho
 | _::os,[],i,o,r,ids,_,hl,_=>by simp at hl
 | x::os,l::ls,i,o,r,ids,ho,hl,hd=>by
  cases i with
  | zero =>
   simp at ho hl;subst ho;subst hl;simp only [zmd,isDst,hd,Nat.beq_refl,cond_true];exact List.mem_cons_self ..
  | succ i =>
   have ih:=zyv (os:=os) (ls:=ls) (i:=i) zz69 zz52 hd;cases l with
   | none=>simpa only [zmd] using ih
   | some q =>
    simp only [zmd];cases isDst a x.dst
    . exact ih
    . exact zy139 _ ih
theorem zmh {α:Type} {p:α->Prop}:∀ {l:List α} {x:α},xcb p l->x∈l->p x
 | y::l,x,h,hx=>by
  rcases zy15.1 hx with rfl | hx
  . exact h.1
  . exact zmh h.2 hx
theorem xdy {K:Res->Prop} {t:TypeId} {x:Operand} {d:Nat} {ev:Operand->HV} {H:Nat->zad} (h:zcr P C (.load t x) d ev H K):(∃ id,placeOf (ev x)=some id/\ysp P t (ev x) (H id) K)\/∃ cs,ev x=.rp cs:=by
 simp only [zcr] at h;cases hx:ev x with
 | ptr i o=>rw [hx] at h;exact .inl ⟨i,rfl,h⟩
 | eptr i n j o=>rw [hx] at h;exact .inl ⟨i,rfl,h⟩
 | rp cs=>exact .inr ⟨cs,rfl⟩
 | _=>rw [hx] at h;obtain ⟨d,u,i,z,ht,h⟩:=zeo h;exact h.elim
theorem xdz {K:Res->Prop} {t:TypeId} {x:Operand} {d:Nat} {ev:Operand->HV} {H:Nat->zad} {id:Nat} (hp:placeOf (ev x)=some id) (h:ysp P t (ev x) (H id) K):zcr P C (.load t x) d ev H K:=by
 simp only [zcr];cases hx:ev x with
 | ptr i o=>rw [hx] at h hp;cases hp;exact h
 | eptr i n j o=>rw [hx] at h hp;cases hp;exact h
 | _=>rw [hx] at hp;cases hp
def xam (s0:HS) (ops:Array Oper) (labs:List Lab) (s:HS):Prop :=
 (∀ a,s.slot a=.und\/s.slot a∈s0.slot a::zmd a ops.toList labs)/\∀ id,s.heap id∈s0.heap id::zwe id labs
theorem yeb (s0:HS) (ops:Array Oper) (labs:List Lab):xam s0 ops labs s0:=⟨fun _=>.inr (List.mem_cons_self ..),fun _=>List.mem_cons_self ..⟩
def ykk (P:Program) (C:zbg) (s0:HS) (ops:Array Oper) (labs:List Lab):xan P C ops (Mem ops labs) where
 Z:=xam s0 ops labs
 S:=fun o l=>∃ i,ops[i]?=some o/\labs[i]?=some l/\zyu P s0 ops.toList labs i
 keep:=by
  rintro o l s s' ⟨i,ho,hl⟩ h ⟨h1,h2⟩;obtain ⟨-,-,-,rfl⟩:=zku.1 h;refine ⟨fun a=>?_,fun id=>?_⟩
  . by_cases hd:o.dst=some a
    . have e:(s.app o.dst (zqh l)).slot a=(zqh l).val:=by rw [hd];exact zba _ _ _
      rw [e];cases l with
      | none=>exact .inl rfl
      | some q =>
       obtain ⟨r,ids⟩:=q;exact .inr (zy139 _ (zyv zz69 hl hd))
    . rw [zzf hd];exact h1 a
  . rw [zoh]
    rcases xfl (zqh l).ups s.heap id with e | e
    . rw [e];exact h2 id
    . cases l with
      | none=>simp [zqh] at e
      | some q =>
       obtain ⟨r,ids⟩:=q;exact zy139 _ (zre (zy11 hl) e)
 same:=by
  rintro o l s s' t - ⟨i,ho,hl,hs⟩ ⟨z1,z2⟩ ⟨y1,y2⟩ h hn hw he;rw [zku] at h ⊢;obtain ⟨h1,h2,h3,-⟩:=h;refine ⟨fun d hd=>by rw [hn];exact h1 d hd,by rw [hw];exact h2,fun r ids hr=>?_,rfl⟩;subst hr;obtain ⟨h4,h5⟩:=h3 r ids rfl;refine ⟨?_,by rw [zuz he];exact h5⟩;have ho':nth ops.toList i=some o:=by rw [zgq];simpa using ho
  have hl':nth labs i=some (some (r,ids)):=by rw [zgq];exact hl
  unfold zyu at hs;rw [ho'] at hs;simp only at hs;split at hs
  . rename_i ty a hop
    rw [hl'] at hs;simp only at hs;obtain ⟨-,hs⟩:=hs;rw [hop] at h4 he ⊢;have hea:t.slot a=s.slot a:=he (.tmp a) (by simp [Op.operands]);have hv:evalOp s.slot (.tmp a)=s.slot a:=rfl;have hvt:evalOp t.slot (.tmp a)=s.slot a:=hea;have hmem:=z1 a;rcases xdy h4 with ⟨id,hp,hld⟩ | ⟨cs,hcs⟩
    . rw [hv] at hp
      have hin:s.slot a∈s0.slot a::zmd a ops.toList labs:=hmem.resolve_left fun e=>by rw [e] at hp;cases hp
      have hst:=zmh hs hin;simp only [hp] at hst;have:=zmh hst (y2 id);exact xdz (id:=id) (by rw [hvt];exact hp) (by rw [hvt];exact this)
    . rw [hv] at hcs
      have hin:s.slot a∈s0.slot a::zmd a ops.toList labs:=hmem.resolve_left fun e=>by rw [e] at hcs;cases hcs
      have hst:=zmh hs hin;rw [hcs] at hst;exact hst.elim
  . exact hs.elim
 quiet:=by
  rintro o l - ⟨i,ho,hl,hs⟩;have ho':nth ops.toList i=some o:=by rw [zgq];simpa using ho
  have hl':nth labs i=some l:=by rw [zgq];exact hl
  unfold zyu at hs;rw [ho'] at hs;simp only at hs;split at hs
  . rw [hl'] at hs
    cases l with
    | none=>exact hs.elim
    | some q =>
     obtain ⟨r,ids⟩:=q;simp only at hs;show r.ups=[];cases hu:r.ups with
     | nil=>rfl
     | cons x y=>rw [hu] at hs;exact hs.1.elim
  . exact hs.elim
theorem zrh {ex:List Nat} {q:Nat} {ops:Array Oper} {o:Oper} {l:Lab} {m:Nat}:∀ {xs:List Oper} {ls:List Lab} {k:Nat},zto ex q ops o l m k xs ls=true->∀ (i:Nat) x lx,xs[i]?=some x->ls[i]?=some lx->m.testBit (k+i)=true\/Ind ops (x,lx) (o,l)\/(x.apart ops o=true/\(k+i∈ex\/q∈ex))
 | [],ls,k,h,i,x,lx,hx,hl=>by simp at hx
 | y::xs,[],k,h,i,x,lx,hx,hl=>by simp at hl
 | y::xs,ly::ls,k,h,i,x,lx,hx,hl=>by
  simp only [zto,zy12,zy109] at h;obtain ⟨h1,h2⟩:=h;cases i with
  | zero =>
   simp at hx hl;subst hx;subst hl;rcases h1 with h1 | ⟨h1,(h3 | h3) | h3⟩
   . exact .inl h1
   . obtain ⟨z,hz,e⟩:=zy107.1 h3
     have:=zy4 e;subst this;exact .inr (.inr ⟨h1,.inl hz⟩)
   . obtain ⟨z,hz,e⟩:=zy107.1 h3
     have:=zy4 e;subst this;exact .inr (.inr ⟨h1,.inr hz⟩)
   . exact .inr (.inl ⟨h1,h3.1,h3.2⟩)
  | succ i =>
   have:=zrh h2 i x lx zz47 zz52;rw [show k+1+i=k+(i+1) by omega] at this;exact this
theorem zuq {ex:List Nat} {ops:Array Oper} {labs:List Lab} {ms:List Nat}:∀ {os:List Oper} {ls:List Lab} {k:Nat},ylu ex ops labs ms k os ls=true->∀ (i:Nat) o l,os[i]?=some o->ls[i]?=some l->zto ex (k+i) ops o l ((nth ms (k+i)).getD 0) 0 (ops.toList.take (k+i)) (labs.take (k+i))=true
 | [],ls,k,h,i,x,lx,hx,hl=>by simp at hx
 | y::os,[],k,h,i,x,lx,hx,hl=>by simp at hl
 | y::os,ly::ls,k,h,i,o,l,hx,hl=>by
  simp only [ylu,zy12] at h;cases i with
  | zero=>simp at hx hl;subst hx;subst hl;exact h.1
  | succ i =>
   have:=zuq h.2 i o l zz47 zz52;rw [show k+1+i=k+(i+1) by omega] at this;exact this
theorem yxj {s0:HS} {ex:List Nat} {ops:Array Oper} {labs:List Lab} (hall:zjp ex ops labs=true) (hst:xcb (zyu P s0 ops.toList labs) ex):xhq (ykk P C s0 ops labs):=by
 simp only [zjp,zy12] at hall;obtain ⟨-,hind⟩:=hall;intro j i xo xl o l hlt hjo hjl ho hl;have h1:=zuq hind i o l zz69 hl;simp only [zy59] at h1;have h2:=zrh h1 j xo xl (by rw [zy47];simp [hlt,hjo]) (by rw [zy47];simp [hlt,hjl]);rw [zy59] at h2;rcases h2 with h2 | h2 | ⟨h2,h3⟩
 . exact .inl h2
 . exact .inr (.inl h2)
 . refine .inr (.inr ⟨h2,?_⟩)
   rcases h3 with h3 | h3
   . exact .inl ⟨j,hjo,hjl,zmh hst h3⟩
   . exact .inr ⟨i,ho,hl,zmh hst h3⟩
theorem xcs {ex:List Nat} {ops:Array Oper} {labs:List Lab} (hall:zjp ex ops labs=true):zkc 0 ops.toList=true:=by
 simp only [zjp,zy12] at hall;exact hall.1
end
end Go.HL
namespace Go.HL
section
variable {Γ:Ctx} {P:Program} {C:zbg}
section
variable {m m':zez} {σ:Ren} {w:World} {R R':Nat->Prop}
theorem zhj.sub (hR:∀ b,R b->R' b) {x:PV} {v:Value} (h:zhj w R x v):zhj w R' x v:=h.mono fun b hb=>⟨rfl,hR b hb⟩
mutual
theorem ymv (hm:∀ i j,σ i=some (some j)->m' i=m j) (hn:∀ i,σ i=some none->m' i=some ⟨0,0,0,true⟩) (hR:∀ b,R b->R' b) :
 (x:HV)->(v:Value)->zik σ x=true->zax m w R (rn σ x) v->zax m' w R' x v
 | .p x,v,_,h=>by simp only [rn,zax] at h ⊢;exact h.sub hR
 | .ptr i o,v,ho,h=>by
  exact yy28
 | .eptr i n k o,v,ho,h=>by
  exact yy28
 | .rp c,v,_,h=>by
  exact yy73
 | .own i,v,ho,h=>by
  simp only [zik] at ho;split at ho
  . rename_i o hj
    cases o with
    | some j =>
     simp only [rn,hj,zax] at h ⊢;obtain ⟨l,h1,h2⟩:=h;exact ⟨l,by rw [hm i j hj];exact h1,h2⟩
    | none =>
     simp only [rn,hj,zax] at h ⊢;cases h;exact ⟨_,hn i hj,rfl⟩
  . cases ho
 | .osl i n o len,v,ho,h=>by
  simp only [zik] at ho;split at ho
  . rename_i j hj
    simp only [rn,hj,zax] at h ⊢;obtain ⟨l,a,h1,h2⟩:=h;exact ⟨l,a,by rw [hm i j hj];exact h1,h2⟩
  . cases ho
 | .mp i,v,ho,h=>by
  exact yy28
 | .agg l,v,ho,h=>by
  exact yy45
 | .tup l,v,ho,h=>by
  exact yy45
 | .clo f l,v,ho,h=>by
  exact yy45
 | .und,v,_,h=>by simp only [rn,zax] at h ⊢;exact h
 | .any,v,_,h=>by simp only [zax]
theorem znu (hm:∀ i j,σ i=some (some j)->m' i=m j) (hn:∀ i,σ i=some none->m' i=some ⟨0,0,0,true⟩) (hR:∀ b,R b->R' b) :
 (x:List HV)->(v:List Value)->znw σ x=true->zaz m w R (rnL σ x) v->zaz m' w R' x v
 | [],v,_,h=>by simp only [rnL,zaz] at h ⊢;exact h
 | x::xs,v,ho,h=>by
  simp only [znw,zy12] at ho;simp only [rnL,zaz] at h ⊢;obtain ⟨a,r,h1,h2,h3⟩:=h;exact ⟨a,r,h1,ymv hm hn hR x a ho.1 h2,znu hm hn hR xs r ho.2 h3⟩
end
theorem zqx:∀ (l:List HV),(rnL σ l).length=l.length
 | []=>rfl
 | x::l=>by simp only [rnL,zy6,zqx l]
theorem zvh (hm:∀ i j,σ i=some (some j)->m' i=m j) (hn:∀ i,σ i=some none->m' i=some ⟨0,0,0,true⟩) (hR:∀ b,R b->R' b) {l:Loc} {b:zie}
 (ho:znv σ b=true) (h:znb m w R l (rnB σ b)):znb m' w R' l b:=by
 cases b with
 | cells t cs =>
  obtain ⟨h1,arr,h2,h3⟩:=h;rw [zqx] at h1;exact ⟨h1,arr,h2,znu hm hn hR _ _ ho h3⟩
 | map kc agg es =>
  obtain ⟨h1,arr,c,h2,h3,h4⟩:=h;exact ⟨h1,arr,c,h2,h3.mono fun b hb=>⟨rfl,hR b hb⟩,h4⟩
 | iter kc agg left cur =>
  obtain ⟨h1,bm,arr,c,seen,h2,h3⟩:=h;exact ⟨h1,bm,arr,c,seen,h2,h3.mono fun b hb=>⟨rfl,hR b hb⟩⟩
 | row t n rows =>
  exact yy55
 | buf t n rows c =>
  exact yy79
end
def zhd (σ:Ren) (m:zez):zez:=fun i=>match σ i with
 | none=>none
 | some none=>some ⟨0,0,0,true⟩
 | some (some j)=>m j
theorem xhn.conc {m:zez} {s t:HS} {a:Act} {w:World} (hc:zmf Γ P m s a w) (h:xhn s t):∃ m',zmf Γ P m' t a w:=by
 obtain ⟨hn,hpp,σ,hs,hh,hi,hpin⟩:=h;have hm:∀ i j,σ i=some (some j)->zhd σ m i=m j:=fun i j hj=>by simp only [zhd,hj]
 have hnn:∀ i,σ i=some none->zhd σ m i=some ⟨0,0,0,true⟩:=fun i hj=>by simp only [zhd,hj]
 have zgl:znb (zhd σ m) w (RR Γ (zhd σ m) t.heap w) ⟨0,0,0,true⟩=fun b=>znb (zhd σ m) w (RR Γ (zhd σ m) t.heap w) ⟨0,0,0,true⟩ b:=rfl
 have hlive:∀ id b,t.heap id=.live b->znv σ b=true/\((∃ j,σ id=some (some j)/\s.heap j=.live (rnB σ b))\/(σ id=some none/\xgv b)):=fun id b hb=>by
  have:=hh id;rw [hb] at this;exact this
 have hown:∀ b,zod (zhd σ m) t.heap b->zod m s.heap b:=by
  rintro b ⟨id,l,blk,h1,h2,h3,h4⟩;obtain ⟨-,⟨j,hj,hsj⟩ | ⟨hj,-⟩⟩:=hlive id blk h1
  . rw [hm id j hj] at h2
    exact ⟨j,l,_,hsj,h2,h3,h4⟩
  . rw [hnn id hj] at h2;cases h2;cases h3
 have hR:∀ b,RR Γ m s.heap w b->RR Γ (zhd σ m) t.heap w b:=fun b hb=>⟨hb.1,hb.2.1,fun ho=>hb.2.2 (hown b ho)⟩
 have hok:=hc.heap;refine ⟨zhd σ m,⟨hok.size,hok.os,hok.tape,hok.output,hok.frame,?_,?_,?_,?_,hok.dom⟩,?_,by rw [hc.size,hn],hc.defers,fun id l hp hl=>?_⟩
 . intro id hf
   have:=hh id;rw [hf] at this;simp only at this;simp only [zhd,this]
 . intro id b hb
   obtain ⟨hob,⟨j,hj,hsj⟩ | ⟨hj,hnb⟩⟩:=hlive id b hb
   . obtain ⟨l,h1,h2,h3⟩:=hok.live j _ hsj
     exact ⟨l,by rw [hm id j hj];exact h1,zvh hm hnn hR hob h2,h3⟩
   . refine ⟨_,hnn id hj,?_,fun h=>by cases h⟩
     cases b with
     | cells=>exact hnb.elim
     | map=>exact hnb.elim
     | iter=>exact hnb.elim
     | buf=>exact hnb.elim
     | row ty n rows =>
      simp only [xgv] at hnb;subst hnb;exact ⟨rfl,by simp,.inl ⟨rfl,rfl⟩⟩
 . intro id b hb
   have:=hh id;rw [hb] at this;obtain ⟨hob,j,hj,hsj⟩:=this;rcases hsj with hsj | hsj
   . obtain ⟨l,h1,h2,h3⟩:=hok.live j _ hsj
     refine ⟨l,by rw [hm id j hj];exact h1,zvh hm hnn hR hob h2,fun hl=>?_⟩;obtain ⟨h4,h5⟩:=h3 hl;refine ⟨?_,h5,?_⟩
     . rcases h4 with h4 | h4
       . exact .inl (hok.dom _ h4)
       . exact .inr h4
     . rintro ⟨id',l',blk,h6,h7,h8,h9⟩
       obtain ⟨-,⟨j',hj',hsj'⟩ | ⟨hj',-⟩⟩:=hlive id' blk h6
       . rw [hm id' j' hj'] at h7
         have:=hok.inj j j' _ _ l l' hsj hsj' h1 h7 hl h8 h9.symm;subst this;have:=hi id' id blk j h6 (by rw [hb];exact zad.noConfusion) hj' hj;subst this;rw [hb] at h6;cases h6
       . rw [hnn id' hj'] at h7;cases h7;cases h8
   . obtain ⟨l,h1,h2,h3⟩:=hok.ro j _ hsj
     exact ⟨l,by rw [hm id j hj];exact h1,zvh hm hnn hR hob h2,fun hl=>hR _ (h3 hl)⟩
 . intro id id' b b' l l' h1 h2 h3 h4 h5 h6 h7
   obtain ⟨-,⟨j,hj,hsj⟩ | ⟨hj,-⟩⟩:=hlive id b h1
   . obtain ⟨-,⟨j',hj',hsj'⟩ | ⟨hj',-⟩⟩:=hlive id' b' h2
     . rw [hm id j hj] at h3
       rw [hm id' j' hj'] at h4;have:=hok.inj j j' _ _ l l' hsj hsj' h3 h4 h5 h6 h7;subst this;exact hi id id' b j h1 (by rw [h2];exact zad.noConfusion) hj hj'
     . rw [hnn id' hj'] at h4;cases h4;cases h6
   . rw [hnn id hj] at h3;cases h3;cases h5
 . intro i
   rcases hs i with h1 | ⟨h1,h2⟩
   . rw [h1];simp only [zax]
   . refine ymv hm hnn hR _ _ h1 ?_
     rw [h2];exact hc.slots i
 . obtain ⟨hmp,hml⟩:=hc.pin id l hp hl
   exact ⟨by rw [hpp];exact hmp,by rw [hm id id (hpin id hmp)];exact hml⟩
section
variable {m:zez} {w:World} {R R':Nat->Prop}
theorem yml {l:Loc} {t:TypeId} {n:Nat} {rows:List (List PV)} (hb:znb m w R l (.row t n rows)) (hR:l.nil=false->R l.blk):zhj w R (.sl n rows) (hdr l):=by
 obtain ⟨h1,h2,h3⟩:=hb;rcases h3 with ⟨hn,h4⟩ | ⟨hn,h4,h5,arr,h6,h7,h8⟩
 . subst h4;rw [show hdr l=.slice none 0 0 by simp [hdr,hn]];exact .sl0 _ _ _ (by simp [maxLen])
 . rw [show hdr l=.slice (some ⟨l.blk,0,none⟩) rows.length l.cap by simp [hdr,hn,h1]]
   refine .sl n rows l.blk 0 l.cap (fun k=>(arr[k]?).getD undef) h4 h5 h2 (hR hn) (fun k x hk=>?_) (fun k x hk=>?_)
   . obtain ⟨cv,h9,_⟩:=h8 k x hk
     rw [zy59,cell_of_row w l.blk k arr t (0,0) h6,h9];rfl
   . obtain ⟨cv,h9,h10⟩:=h8 k x hk
     rw [h9];exact h10
mutual
theorem xaw {fz:List Nat} {H:Nat->zad} (hR:∀ b,R b->R' b)
 (hf:∀ id t n rows,id∈fz->(H id=.live (.row t n rows)\/H id=.ro (.row t n rows))->∃ l,m id=some l/\znb m w R l (.row t n rows)/\(l.nil=false->R' l.blk)) :
 (x:HV)->(v:Value)->zax m w R x v->zax m w R' (fzV fz H x) v
 | .own id,v,h=>by
  have hold:zax m w R' (.own id) v:=by simp only [zax] at h ⊢;exact h
  simp only [zax] at h;obtain ⟨l,h1,rfl⟩:=h;simp only [fzV];cases hm:fz.any (Nat.beq id) with
  | false=>exact hold
  | true =>
   have hin:id∈fz:=by
    obtain ⟨y,hy,he⟩:=zy107.1 hm;rw [zy4 he];exact hy
   have key:∀ t n rows,(H id=.live (.row t n rows)\/H id=.ro (.row t n rows))->zax m w R' (.p (.sl n rows)) (hdr l):=by
    intro t n rows hb;obtain ⟨l',h2,h3,h4⟩:=hf id t n rows hin hb;rw [h1] at h2;cases h2;simp only [zax];refine yml (t:=t) (h3.mono (fun _ _ h=>h) (fun b hb=>⟨rfl,hR b hb⟩) fun _=>rfl) h4
   simp only [cond_true];split
   . rename_i hb;exact key _ _ _ (.inl hb)
   . rename_i hb;exact key _ _ _ (.inr hb)
   . exact hold
 | .agg l,v,h=>by
  simp only [fzV,zax] at h ⊢;obtain ⟨arr,h1,h2⟩:=h;exact ⟨arr,h1,zzy hR hf l _ h2⟩
 | .tup l,v,h=>by
  simp only [fzV,zax] at h ⊢;obtain ⟨arr,h1,h2⟩:=h;exact ⟨arr,h1,zzy hR hf l _ h2⟩
 | .p x,v,h=>zax.mono (fun _ _ h=>h) (fun b hb=>⟨rfl,hR b hb⟩) (.p x) v h
 | .ptr i o,v,h=>zax.mono (fun _ _ h=>h) (fun b hb=>⟨rfl,hR b hb⟩) (.ptr i o) v h
 | .eptr i n k o,v,h=>zax.mono (fun _ _ h=>h) (fun b hb=>⟨rfl,hR b hb⟩) (.eptr i n k o) v h
 | .rp c,v,h=>zax.mono (fun _ _ h=>h) (fun b hb=>⟨rfl,hR b hb⟩) (.rp c) v h
 | .osl i n o l,v,h=>zax.mono (fun _ _ h=>h) (fun b hb=>⟨rfl,hR b hb⟩) (.osl i n o l) v h
 | .mp i,v,h=>zax.mono (fun _ _ h=>h) (fun b hb=>⟨rfl,hR b hb⟩) (.mp i) v h
 | .clo f c,v,h=>zax.mono (fun _ _ h=>h) (fun b hb=>⟨rfl,hR b hb⟩) (.clo f c) v h
 | .und,v,h=>zax.mono (fun _ _ h=>h) (fun b hb=>⟨rfl,hR b hb⟩) .und v h
 | .any,v,h=>zax.mono (fun _ _ h=>h) (fun b hb=>⟨rfl,hR b hb⟩) .any v h
theorem zzy {fz:List Nat} {H:Nat->zad} (hR:∀ b,R b->R' b)
 (hf:∀ id t n rows,id∈fz->(H id=.live (.row t n rows)\/H id=.ro (.row t n rows))->∃ l,m id=some l/\znb m w R l (.row t n rows)/\(l.nil=false->R' l.blk)) :
 (x:List HV)->(v:List Value)->zaz m w R x v->zaz m w R' (fzL fz H x) v
 | [],v,h=>by simp only [fzL,zaz] at h ⊢;exact h
 | x::xs,v,h=>by
  simp only [fzL,zaz] at h ⊢;obtain ⟨a,r,h1,h2,h3⟩:=h;exact ⟨a,r,h1,xaw hR hf x a h2,zzy hR hf xs r h3⟩
end
theorem zxo {fz:List Nat} {H:Nat->zad}:∀ (l:List HV),(fzL fz H l).length=l.length
 | []=>rfl
 | x::l=>by simp only [fzL,zy6,zxo l]
end
mutual
theorem yht {H:Nat->zad}:(x:HV)->fzV [] H x=x
 | .own id=>rfl
 | .agg l=>by simp only [fzV,zzx l]
 | .tup l=>by simp only [fzV,zzx l]
 | .p x=>rfl
 | .ptr i o=>rfl
 | .eptr i n k o=>rfl
 | .rp c=>rfl
 | .osl i n o l=>rfl
 | .mp i=>rfl
 | .clo f c=>rfl
 | .und=>rfl
 | .any=>rfl
theorem zzx {H:Nat->zad}:(x:List HV)->fzL [] H x=x
 | []=>rfl
 | x::r=>by simp only [fzL,yht x,zzx r]
end
theorem yry (s:HS):fzS [] s=s:=by
 have h1:(fun i=>fzV [] s.heap (s.slot i))=s.slot:=funext fun i=>yht _
 have h2:fzH [] s.heap=s.heap:=by
  funext id
  unfold fzH;split<;>rename_i h<;>rw [h]<;>first | rfl | (rw [zzx])
 unfold fzS;rw [h1,h2]
theorem zsu {fz:List Nat} {H:Nat->zad} {id:Nat} {b:zie} (h:fzH fz H id=.live b):∃ c,H id=.live c:=by
 unfold fzH at h;split at h<;>first | (rename_i h1;exact ⟨_,h1⟩) | cases h
theorem zmf.fz {m:zez} {s:HS} {a:Act} {w:World} (fz:List Nat) (hc:zmf Γ P m s a w):zmf Γ P m (fzS fz s) a w:=by
 have hok:=hc.heap;have hown:∀ b,zod m (fzH fz s.heap) b->zod m s.heap b:=by
  rintro b ⟨id,l,blk,h1,h2,h3,h4⟩;obtain ⟨c,hcc⟩:=zsu h1;exact ⟨id,l,c,hcc,h2,h3,h4⟩
 have hR:∀ b,RR Γ m s.heap w b->RR Γ m (fzH fz s.heap) w b:=fun b hb=>⟨hb.1,hb.2.1,fun ho=>hb.2.2 (hown b ho)⟩
 have hfz:∀ id t n rows l,id∈fz->s.heap id=.live (.row t n rows)->m id=some l->l.nil=false->RR Γ m (fzH fz s.heap) w l.blk:=by
  intro id t n rows l hi hb hm hl;obtain ⟨l',h1,h2,h3⟩:=hok.live id _ hb;rw [hm] at h1;cases h1;obtain ⟨h4,h5⟩:=h3 hl;refine ⟨?_,h5,?_⟩
  . rcases h4 with h4 | h4
    . exact .inl (hok.dom _ h4)
    . exact .inr h4
  . rintro ⟨id',l',blk,h6,h7,h8,h9⟩
    obtain ⟨c,hcc⟩:=zsu h6;have:=hok.inj id id' _ _ l l' hb hcc hm h7 hl h8 h9.symm;subst this;unfold fzH at h6;rw [hb] at h6;have hin:fz.any (Nat.beq id)=true:=zy107.2 ⟨id,hi,Nat.beq_refl id⟩;simp only [hin,cond_true] at h6;cases h6
 have hf:∀ id t n rows,id∈fz->(s.heap id=.live (.row t n rows)\/s.heap id=.ro (.row t n rows))->∃ l,m id=some l/\znb m w (RR Γ m s.heap w) l (.row t n rows)/\(l.nil=false->RR Γ m (fzH fz s.heap) w l.blk):=by
  intro id t n rows hi hb;rcases hb with hb | hb
  . obtain ⟨l,h1,h2,h3⟩:=hok.live id _ hb
    exact ⟨l,h1,h2,fun hl=>hfz id t n rows l hi hb h1 hl⟩
  . obtain ⟨l,h1,h2,h3⟩:=hok.ro id _ hb
    exact ⟨l,h1,h2,fun hl=>hR _ (h3 hl)⟩
 have hB:∀ l b,znb m w (RR Γ m s.heap w) l b->znb m w (RR Γ m (fzH fz s.heap) w) l b:=fun l b h=>h.mono (fun _ _ h=>h) (fun b hb=>⟨rfl,hR b hb⟩) fun _=>rfl
 refine ⟨⟨hok.size,hok.os,hok.tape,hok.output,hok.frame,?_,?_,?_,?_,hok.dom⟩,fun t=>xaw hR hf _ _ (hc.slots t),hc.size,hc.defers,hc.pin⟩
 . intro id h
   refine hok.free id ?_;have h:fzH fz s.heap id=.free:=h;unfold fzH at h;split at h<;>first | assumption | cases h | skip
   rename_i t n rows hb;cases hx:fz.any (Nat.beq id)<;>simp only [hx,cond_true,cond_false] at h<;>cases h
 . intro id b h
   have h:fzH fz s.heap id=.live b:=h;unfold fzH at h;split at h
   . cases h
   . cases h
   . cases h
   . rename_i t n rows hb
     cases hx:fz.any (Nat.beq id)<;>simp only [hx,cond_true,cond_false] at h<;>cases h
     obtain ⟨l,h1,h2,h3⟩:=hok.live id _ hb;exact ⟨l,h1,hB _ _ h2,h3⟩
   . rename_i t cs hb
     cases h;obtain ⟨l,h1,h2,h3⟩:=hok.live id _ hb;obtain ⟨h4,arr,h5,h6⟩:=h2;exact ⟨l,h1,⟨by rw [zxo];exact h4,arr,h5,zzy hR hf _ _ h6⟩,h3⟩
   . rename_i hb
     exact yy74
   . rename_i hb
     exact yy74
   . rename_i hb
     exact yy74
 . intro id b h
   have h:fzH fz s.heap id=.ro b:=h;unfold fzH at h;split at h
   . cases h
   . cases h
   . rename_i hb
     cases h;obtain ⟨l,h1,h2,h3⟩:=hok.ro id _ hb;exact ⟨l,h1,hB _ _ h2,fun hl=>hR _ (h3 hl)⟩
   . rename_i t n rows hb
     cases hx:fz.any (Nat.beq id)<;>simp only [hx,cond_true,cond_false] at h<;>cases h
     have hin:id∈fz:=by
      obtain ⟨y,hy,he⟩:=zy107.1 hx;rw [zy4 he];exact hy
     obtain ⟨l,h1,h2,h3⟩:=hok.live id _ hb;exact ⟨l,h1,hB _ _ h2,fun hl=>hfz id t n rows l hin hb h1 hl⟩
   . cases h
   . cases h
   . cases h
   . cases h
 . intro id id' b b' l l' h1 h2
   obtain ⟨c,hc1⟩:=zsu h1;obtain ⟨c',hc2⟩:=zsu h2;exact hok.inj id id' c c' l l' hc1 hc2
theorem HLe.conc {m:zez} {s t:HS} {a:Act} {w:World} (hc:zmf Γ P m s a w) (h:HLe s t):∃ m',zmf Γ P m' t a w:=by
 obtain ⟨fz,h⟩:=h;exact h.conc (hc.fz fz)
theorem zmf.drew {m:zez} {s:HS} {a:Act} {w:World} (hc:zmf Γ P m s a w):zmf Γ P m s a {w with drawn:=w.drawn+1} :=
 ⟨hc.heap.drew,fun t=>(WS.drew hc.heap).rep (hc.slots t),hc.size,hc.defers,hc.pin⟩
theorem least {p:Nat->Prop} (h:∃ n,p n):∃ n,p n/\∀ k,p k->n<=k:=by
 obtain ⟨n,hn⟩:=h
 induction n using Nat.strongRecOn with
 | ind n ih =>
  by_cases hk:∃ k,k<n/\p k
  . obtain ⟨k,h1,h2⟩:=hk;exact ih k h1 h2
  . exact ⟨n,hn,fun k hp=>Nat.le_of_not_lt fun hlt=>hk ⟨k,hlt,hp⟩⟩
theorem yql {c:Code} {Q:Exit->Act->World->Prop} {a:Act} {w:World} {β:Type} (J:β->Act->World->Prop) (μ:β->Nat) (x₀:β) (h₀:J x₀ a w)
 (round:∀ x a w,J x a w->c.wp P (Exit.then (fun a' w'=>∃ x',J x' a' w'/\μ x'<μ x) Q) a w):(Code.loop c).wp P Q a w:=by
 have hex:∀ a w,(∃ x,J x a w)->∃ n,(∃ x,J x a w/\μ x=n)/\∀ k,(∃ x,J x a w/\μ x=k)->n<=k:=fun a w ⟨x,hx⟩=>least ⟨μ x,x,hx,rfl⟩
 let ν:Act->World->Nat:=fun a w=>open Classical in if h:∃ x,J x a w then Classical.choose (hex a w h) else 0
 refine wp_loop (fun a w=>∃ x,J x a w) ν ⟨x₀,h₀⟩ fun a w hI=>?_
 have hν:∀ a w (h:∃ x,J x a w),(∃ x,J x a w/\μ x=ν a w)/\∀ k,(∃ x,J x a w/\μ x=k)->ν a w<=k:=by
  intro a w h;have:=Classical.choose_spec (hex a w h);simp only [ν,dif_pos h];exact this
 obtain ⟨⟨x,hx,hxe⟩,-⟩:=hν a w hI;refine wp_mono (round x a w hx) fun e a' w' he=>?_
 cases e<;>simp only [Exit.then] at he ⊢<;>try exact he
 obtain ⟨x',hx',hlt⟩:=he;refine ⟨⟨x',hx'⟩,?_⟩;have:=(hν a' w' ⟨x',hx'⟩).2 _ ⟨x',hx',rfl⟩;omega
def xbu:HX->Exit
 | .normal=>.normal
 | .exit i=>.exit i
 | .ret=>.ret
theorem ysy (hm:P.follows .mixedOrders=true) (hC:zjg P C) (hL:zgy C):∀ (c:Code) (s:HS) (Q:HX->HS->Prop) (Q':Exit->Act->World->Prop) (m:zez) (a:Act) (w:World),
 hwp P C c s Q->zmf Γ P m s a w->(∀ e s' m' a' w',Q e s'->zmf Γ P m' s' a' w'->Q' (xbu e) a' w')->c.wp P Q' a w:=by
 intro c
 induction c with
 | skip=>intro s Q Q' m a w h hc hQ;exact wp_skip (hQ .normal s m a w h hc)
 | exit id=>intro s Q Q' m a w h hc hQ;exact wp_exit (hQ (.exit id) s m a w h hc)
 | ret=>intro s Q Q' m a w h hc hQ;exact wp_ret (hQ .ret s m a w h hc)
 | region id ops draw =>
  intro s Q Q' m a w h hc hQ;cases draw with
  | false =>
   replace h:ycd P C ops.toList ops.toList s [] (fun _ s=>Q .normal s):=h;exact wp_region_list (zuo hC ops.toList s [] _ m a w h hc fun labs s' m' a' w' hq hc'=>hQ .normal s' m' a' w' hq hc')
  | true =>
   replace h:(bif ops.toList.all fun o=>zwo o.op then ycd P C ops.toList ops.toList s [] fun labs s'=>ysh P s ops labs.reverse (Q .normal s') else False):=h;have hdet:(ops.toList.all fun o=>zwo o.op)=true:=by
    cases hb:(ops.toList.all fun o=>zwo o.op) with
    | true=>rfl
    | false=>rw [hb] at h;exact h.elim
   rw [hdet] at h;simp only [cond_true] at h;obtain ⟨labs,sEnd,hl,hev,hall,hq⟩:=zqf ops.toList s [] _ (fun o ho=>zy26.1 hdet o ho) h;simp only [zy7,List.reverse_reverse] at hall;obtain ⟨z,hup,hmay,hz⟩:∃ z:xan P C ops (Mem ops labs),zkc 0 ops.toList=true/\xhq z/\z.Z s:=by
    rcases hall with hall | ⟨ex,hall,hst⟩
    . exact ⟨yff P C ops _,yzi hall,yum hall,trivial⟩
    . exact ⟨ykk P C s ops labs,xcs hall,yxj hall hst,yeb s ops labs⟩
   refine wp_region_any hm (xgb hC hL hup z hmay (fun m' a' w' hc'=>hQ .normal sEnd m' a' w' hq hc') ops.size _ (yfe 0 ops.toList labs) s m a _ ?_ ?_ (by rw [yaz];exact hev) hz hc.drew)
   . refine ⟨fun i o l hi=>?_,fun j=>?_,zvd _ _ _,fun k o ho hk=>?_,by simp⟩
     . obtain ⟨-,h1,h2⟩:=ztb hi
       exact ⟨by simpa using h1,by simpa using h2⟩
     . constructor
       . intro hj
         have hlt:j<ops.size:=by
          rcases zy84 j ops.size with h' | h'
          . exact h'
          . simp [h'] at hj
         have:=ymo (k:=0) (os:=ops.toList) (ls:=labs) (i:=j) hl (by simpa using hlt)
         simpa using this
       . intro hj
         obtain ⟨⟨i,o,l⟩,hi,rfl⟩:=zy28.1 hj;obtain ⟨-,h1,-⟩:=ztb hi;have:i<ops.size:=by
          have:=(zy8.1 h1).1
          simpa using this
         simp [this]
     . exfalso
       have:k<ops.size:=(zy80.1 ho).1;simp [this] at hk
   . have:((yfe 0 ops.toList labs).map (·.2)).length=ops.size:=by rw [yaz];simp [hl]
     simp only [zy2] at this;omega
 | seq x y ihx ihy =>
  intro s Q Q' m a w h hc hQ;replace h:(bif ytc x then xba (hwp P C x) (hwp P C y) else xgs (hwp P C x) (hwp P C y)) s Q:=h;have hseq:(hwp P C x) s (fun e s'=>match e with
   | .normal=>hwp P C y s' Q
   | .exit id=>Q (.exit id) s'
   | .ret=>Q .ret s')->(Code.seq x y).wp P Q' a w:=by
   intro h;refine wp_seq (ihx s _ _ m a w h hc fun e s' m' a' w' he hc'=>?_);cases e with
   | normal=>exact ihy s' Q Q' m' a' w' he hc' hQ
   | exit i=>exact hQ (.exit i) s' m' a' w' he hc'
   | ret=>exact hQ .ret s' m' a' w' he hc'
  cases hb:ytc x with
  | false =>
   rw [hb] at h;exact hseq h
  | true =>
   rw [hb] at h;cases h with
   | go h=>exact hseq h
   | meet α I h k =>
    refine wp_seq (ihx s _ _ m a w h hc fun e s' m' a' w' he hc'=>?_);cases e with
    | normal =>
     obtain ⟨x',hle⟩:=he;obtain ⟨m2,hc2⟩:=hle.conc hc';exact ihy (I x') Q Q' m2 a' w' (k x') hc2 hQ
    | exit i=>exact hQ (.exit i) s' m' a' w' he hc'
    | ret=>exact hQ .ret s' m' a' w' he hc'
 | cond x t e iht ihe =>
  intro s Q Q' m a w h hc hQ;replace h:ysx x (hwp P C t) (hwp P C e) s Q:=h;simp only [ysx] at h;split at h
  . rename_i b hb
    have hv:=hc.eval x;rw [hb] at hv;have hbv:=zhk hv;rcases zis h with ⟨rfl,h2⟩ | ⟨rfl,h2⟩
    . exact wp_cond_true hbv (iht s Q Q' m a w h2 hc hQ)
    . exact wp_cond_false hbv (ihe s Q Q' m a w h2 hc hQ)
  . exact h.elim
 | block id c ih =>
  intro s Q Q' m a w h hc hQ;replace h:yie id (hwp P C c) s Q:=h;simp only [yie] at h;refine wp_block (ih s _ _ m a w h hc fun e s' m' a' w' he hc'=>?_);cases e with
  | normal=>exact hQ .normal s' m' a' w' he hc'
  | exit i =>
   simp only [xbu,Exit.inBlock];simp only at he;cases hb:Nat.beq i id with
   | true =>
    rw [hb] at he;rw [zy1 (zy4 hb)];exact hQ .normal s' m' a' w' he hc'
   | false =>
    rw [hb] at he;rw [zy0 (fun e=>by subst e;simp at hb)];exact hQ (.exit i) s' m' a' w' he hc'
  | ret=>exact hQ .ret s' m' a' w' he hc'
 | loop c ih =>
  intro s Q Q' m a w h hc hQ;replace h:xgp (hwp P C c) s Q:=h;obtain ⟨α,I,μ,x₀,h0,hr⟩:=h;obtain ⟨m0,hc0⟩:=h0.conc hc;refine yql (fun x a w=>∃ m,zmf Γ P m (I x) a w) μ x₀ ⟨m0,hc0⟩ fun x a w ⟨m,hc⟩=>?_
  refine ih (I x) _ _ m a w (hr x) hc fun e s' m' a' w' he hc'=>?_
  cases e with
  | normal =>
   obtain ⟨x',hle,hlt⟩:=he;obtain ⟨m2,hc2⟩:=hle.conc hc';exact ⟨x',⟨m2,hc2⟩,hlt⟩
  | exit i=>exact hQ (.exit i) s' m' a' w' he hc'
  | ret=>exact hQ .ret s' m' a' w' he hc'
 | _=>intro s Q Q' m a w h;exact h.elim
end
end Go.HL
namespace Go.HL
mutual
def zgh (H:Nat->zad):HV->(HV->List (Nat×zad)->Prop)->Prop
 | .p x,K=>K (.p x) []
 | .rp c,K=>K (.rp c) []
 | .und,K=>K .und []
 | .any,K=>K .any []
 | .own id,K=>hpv H (.own id) fun v us=>K (.p v) us
 | .osl id n off len,K=>zcy (H id) fun b=>match b with
  | .row t n' rows=>bif Nat.beq n n' then zrs rows off len fun rs=>K (.p (.sl n rs)) [(id,.ro (.row t n' rows))] else False
  | _=>False
 | .ptr id off,K=>zcy (H id) fun b=>match b with
  | .cells t cs=>yia H cs fun ps us=>K (.rp (ps.drop off)) ((id,.ro (.cells t cs))::us)
  | _=>False
 | .eptr id n i off,K=>zcy (H id) fun b=>match b with
  | .row t n' rows=>bif Nat.beq n n' then zwl rows i fun r=>K (.rp (r.drop off)) [(id,.ro (.row t n' rows))] else False
  | _=>False
 | .mp _,_=>False
 | .agg l,K=>zgi H l fun l us=>K (.agg l) us
 | .tup l,K=>zgi H l fun l us=>K (.tup l) us
 | .clo f l,K=>zgi H l fun l us=>K (.clo f l) us
def zgi (H:Nat->zad):List HV->(List HV->List (Nat×zad)->Prop)->Prop
 | [],K=>K [] []
 | x::xs,K=>zgh H x fun y u=>zgi H xs fun ys us=>K (y::ys) (u++us)
end
def ytt (o:Option Nat):HV->HV
 | .p x=>.p (yet o x)
 | x=>x
def zuy:List (Option Nat)->List HV->List HV
 | _,[]=>[]
 | [],xs=>xs
 | o::os,x::xs=>ytt o x::zuy os xs
def yer (P:Program) (t:TypeId) (x:HV):HV:=match x with
 | .p x=>match lay P t with
  | o::_=>.p (yet o x)
  | []=>.p x
 | .agg l=>.agg (zuy (lay P t) l)
 | x=>x
def normArgs (P:Program):List TypeId->List HV->List HV
 | _,[]=>[]
 | [],xs=>xs
 | t::ts,x::xs=>yer P t x::normArgs P ts xs
def znt (P:Program) (ts:List TypeId) (x:HV):HV:=match ts with
 | [t]=>yer P t x
 | ts=>match x with
  | .tup l=>.tup (normArgs P ts l)
  | x=>x
def yay (P:Program) (f:FuncId):List TypeId:=match P.funcs[f]? with
 | some fn=>fn.params.toList
 | none=>[]
mutual
def zuh:HV->(HV->Prop)->Prop
 | .p x,K=>match x with
  | .v a=>K (.p (.v a))
  | .sl n r=>K (.p (.sl n r))
 | .ptr i o,K=>K (.ptr i o)
 | .eptr i n j o,K=>K (.eptr i n j o)
 | .rp c,K=>K (.rp c)
 | .own i,K=>K (.own i)
 | .osl i n o l,K=>K (.osl i n o l)
 | .mp i,K=>K (.mp i)
 | .agg l,K=>zjd l fun l=>K (.agg l)
 | .tup l,K=>zjd l fun l=>K (.tup l)
 | .clo f l,K=>zjd l fun l=>K (.clo f l)
 | .und,K=>K .und
 | .any,K=>K .any
def zjd:List HV->(List HV->Prop)->Prop
 | [],K=>K []
 | x::xs,K=>zuh x fun y=>zjd xs fun ys=>K (y::ys)
end
mutual
theorem zui:(x:HV)->(K:HV->Prop)->zuh x K=K x
 | .p x,K=>by cases x<;>rfl
 | .ptr i o,K=>rfl
 | .eptr i n j o,K=>rfl
 | .rp c,K=>rfl
 | .own i,K=>rfl
 | .osl i n o l,K=>rfl
 | .mp i,K=>rfl
 | .agg l,K=>by simp only [zuh,zfz l]
 | .tup l,K=>by simp only [zuh,zfz l]
 | .clo f l,K=>by simp only [zuh,zfz l]
 | .und,K=>rfl
 | .any,K=>rfl
theorem zfz:(l:List HV)->(K:List HV->Prop)->zjd l K=K l
 | [],K=>rfl
 | x::xs,K=>by simp only [zjd,zui x,zfz xs]
end
section
variable {P:Program} {m:zez} {w:World} {R:Nat->Prop}
theorem zax.ytt (o:Option Nat) {x:HV} {v:Value} (h:zax m w R x v):zax m w R (ytt o x) v:=by
 cases x<;>try exact h
 simp only [zax,Go.HL.ytt] at h ⊢;exact h.norm o
theorem zaz.zuy:∀ (os:List (Option Nat)) {xs:List HV} {vs:List Value},zaz m w R xs vs->zaz m w R (zuy os xs) vs
 | os,[],vs,h=>by cases os<;>exact h
 | [],x::xs,vs,h=>h
 | o::os,x::xs,vs,h=>by
  simp only [zaz,Go.HL.zuy] at h ⊢;obtain ⟨v,r,h1,h2,h3⟩:=h;exact ⟨v,r,h1,h2.ytt o,zaz.zuy os h3⟩
theorem zax.yer (t:TypeId) {x:HV} {v:Value} (h:zax m w R x v):zax m w R (yer P t x) v:=by
 cases x<;>try exact h
 . simp only [Go.HL.yer]
   split
   . simp only [zax] at h ⊢
     exact h.norm _
   . exact h
 . simp only [Go.HL.yer,zax] at h ⊢
   obtain ⟨arr,h1,h2⟩:=h;exact ⟨arr,h1,h2.zuy _⟩
theorem zaz.normArgs:∀ (ts:List TypeId) {xs:List HV} {vs:List Value},zaz m w R xs vs->zaz m w R (normArgs P ts xs) vs
 | ts,[],vs,h=>by cases ts<;>exact h
 | [],x::xs,vs,h=>h
 | t::ts,x::xs,vs,h=>by
  simp only [zaz,Go.HL.normArgs] at h ⊢;obtain ⟨v,r,h1,h2,h3⟩:=h;exact ⟨v,r,h1,h2.yer t,zaz.normArgs ts h3⟩
theorem zax.znt (ts:List TypeId) {x:HV} {v:Value} (h:zax m w R x v):zax m w R (znt P ts x) v:=by
 unfold Go.HL.znt;split
 . exact h.yer _
 . split
   . simp only [zax] at h ⊢
     obtain ⟨arr,h1,h2⟩:=h;exact ⟨arr,h1,h2.normArgs _⟩
   . exact h
end
section
variable {Γ:Ctx} {P:Program} {C:zbg} {m:zez} {H:Nat->zad} {w:World} {R:Nat->Prop}
theorem yzd {l:Loc} {t:TypeId} {n off len c:Nat} {a:Option Addr} {rows:List (List PV)} (hb:znb m w R l (.row t n rows)) (hR:l.nil=false->R l.blk) (hle:off+len<=rows.length) (hc:len<=c) (hm:c<=maxLen)
 (ha:len≠0->l.nil=false/\a=some ⟨l.blk,off*n,none⟩):zhj w R (.sl n ((rows.drop off).take len)) (.slice a len c):=by
 have hlen:((rows.drop off).take len).length=len:=by simp;omega
 by_cases h0:len=0
 . subst h0;simp only [List.take_zero];exact .sl0 _ _ _ hm
 . obtain ⟨hn,rfl⟩:=ha h0
   have hlens:=hb.2.1;have zrs:∀ r∈(rows.drop off).take len,r.length=n:=fun r hr=>hlens r (zy73 (zy62 hr))
   have hcell:∀ k x,((rows.drop off).take len).flatten[k]?=some x->∃ cv,w.cell? ⟨l.blk,off*n+k,none⟩=some cv/\zhj w R x cv:=by
    intro k x hk;obtain ⟨i,j,r,e,hj,hr,hx⟩:=zfd zrs hk;have hr':rows[off+i]?=some r:=by
     rw [zy47] at hr;split at hr
     . rw [zy45] at hr;exact hr
     . cases hr
    obtain ⟨cv,h1,h2⟩:=zjs hb hn _ x (zdj hlens hr' hx);refine ⟨cv,?_,h2⟩;rw [<- h1];congr 2;subst e;rw [zy48];omega
   have h2:=zhj.sl (w:=w) (R:=R) n ((rows.drop off).take len) l.blk (off*n) c (fun k=>(w.cell? ⟨l.blk,off*n+k,none⟩).getD undef) zz0 hm zrs (hR hn)
    (fun k x hk=>by obtain ⟨cv,h1,_⟩:=hcell k x hk;simp only [h1];rfl) (fun k x hk=>by obtain ⟨cv,h1,h2⟩:=hcell k x hk;simp only [h1];exact h2)
   rw [hlen] at h2;exact h2
def Kept (m:zez) (w:World) (R:Nat->Prop) (us:List (Nat×zad)):Prop:=∀ e∈us,∃ b l,e.2=.ro b/\m e.1=some l/\znb m w R l b/\(l.nil=false->R l.blk)
theorem Kept.left {us vs:List (Nat×zad)} (h:Kept m w R (us++vs)):Kept m w R us:=fun e he=>h e zz93
theorem Kept.right {us vs:List (Nat×zad)} (h:Kept m w R (us++vs)):Kept m w R vs:=fun e he=>h e zz93
theorem zlj:Frz H []:=by intro e he;cases he
theorem zzv {id:Nat} {b:zie} (hb:H id=.live b\/H id=.ro b):Frz H [(id,.ro b)]:=by
 intro e he;simp at he;subst he;exact ⟨b,hb,rfl⟩
theorem zno {id:Nat} {b:zie} (hb:H id=.live b\/H id=.ro b) {H':Nat->zad} (he:H' id=H id) {K:zie->Prop} (hk:K b):zcy (H' id) K:=by
 unfold zcy;rw [he];rcases hb with hb | hb<;>rw [hb]<;>exact hk
theorem yln {x:HV} {K:PV->List (Nat×zad)->Prop} (h:hpv H x K):∃ y us,K y us/\Frz H us/\(∀ m w R v,Kept m w R us->zax m w R x v->zhj w R y v) /\
 ∀ H',(∀ id∈us.map (·.1),H' id=H id)->∀ K':PV->List (Nat×zad)->Prop,K' y us->hpv H' x K':=by
 unfold hpv at h;split at h
 . exact ⟨_,_,h,zlj,fun m w R v _ hx=>by simp only [zax] at hx;exact hx,fun H' _ K' hk=>hk⟩
 . rename_i id
   have key:∀ t n rows,(H id=.live (.row t n rows)\/H id=.ro (.row t n rows))->K (.sl n rows) [(id,.ro (.row t n rows))] ->
    ∃ y us,K y us/\Frz H us/\(∀ m w R v,Kept m w R us->zax m w R (.own id) v->zhj w R y v) /\
   ∀ H',(∀ id∈us.map (·.1),H' id=H id)->∀ K':PV->List (Nat×zad)->Prop,K' y us->hpv H' (.own id) K':=by
    intro t n rows hb hK;refine ⟨_,_,hK,zzv hb,fun m w R v hk hx=>?_,fun H' he K' hk=>?_⟩
    . obtain ⟨b,l,h1,h2,h3,h4⟩:=hk _ (zy20.2 rfl)
      cases h1;simp only [zax] at hx;obtain ⟨l',h5,rfl⟩:=hx;simp only at h2;rw [h2] at h5;cases h5;exact yml h3 h4
    . simp only [hpv]
      rw [he id (by simp)];rcases hb with hb | hb<;>rw [hb]<;>exact hk
   exact yy85
 . exact h.elim
theorem ydv:∀ {xs:List HV} {K:List PV->List (Nat×zad)->Prop},yia H xs K->∃ ys us,K ys us/\Frz H us/\(∀ m w R vs,Kept m w R us->zaz m w R xs vs->zep w R ys vs) /\
 ∀ H',(∀ id∈us.map (·.1),H' id=H id)->∀ K':List PV->List (Nat×zad)->Prop,K' ys us->yia H' xs K'
 | [],K,h=>⟨[],[],h,zlj,fun m w R vs _ hx=>by simp only [zaz] at hx;subst hx;exact .nil,fun H' _ K' hk=>hk⟩
 | x::xs,K,h=>by
  simp only [yia] at h;obtain ⟨y,u,h1,h2,h3,h3'⟩:=yln h;obtain ⟨ys,us,h4,h5,h6,h6'⟩:=ydv h1;refine ⟨_,_,h4,h2.append h5,fun m w R vs hk hx=>?_,fun H' he K' hk=>?_⟩
  . simp only [zaz] at hx
    obtain ⟨v,r,rfl,h7,h8⟩:=hx;exact .cons (h3 m w R v hk.left h7) (h6 m w R r hk.right h8)
  . simp only [yia]
    exact h3' H' (fun id hi=>he id zz75) _ (h6' H' (fun id hi=>he id zz64) _ hk)
abbrev zqm:Ren:=fun _=>none
structure View (H:Nat->zad) (x y:HV) (us:List (Nat×zad)):Prop where
 frz:Frz H us
 rep:∀ m w R v,Kept m w R us->zax m w R x v->zax m w R y v
 noid:zik zqm y=true
 loc:∀ H',(∀ id∈us.map (·.1),H' id=H id)->∀ K':HV->List (Nat×zad)->Prop,K' y us->zgh H' x K'
structure xii (H:Nat->zad) (x y:List HV) (us:List (Nat×zad)):Prop where
 frz:Frz H us
 rep:∀ m w R v,Kept m w R us->zaz m w R x v->zaz m w R y v
 noid:znw zqm y=true
 loc:∀ H',(∀ id∈us.map (·.1),H' id=H id)->∀ K':List HV->List (Nat×zad)->Prop,K' y us->zgi H' x K'
mutual
theorem zjq:(x:HV)->{K:HV->List (Nat×zad)->Prop}->zgh H x K->∃ y us,K y us/\View H x y us
 | .p x,K,h=>by simp only [zgh] at h;exact ⟨_,_,h,zlj,fun _ _ _ _ _ h=>h,rfl,fun H' _ K' hk=>by simp only [zgh];exact hk⟩
 | .rp x,K,h=>by simp only [zgh] at h;exact ⟨_,_,h,zlj,fun _ _ _ _ _ h=>h,rfl,fun H' _ K' hk=>by simp only [zgh];exact hk⟩
 | .und,K,h=>by simp only [zgh] at h;exact ⟨_,_,h,zlj,fun _ _ _ _ _ h=>h,rfl,fun H' _ K' hk=>by simp only [zgh];exact hk⟩
 | .any,K,h=>by simp only [zgh] at h;exact ⟨_,_,h,zlj,fun _ _ _ _ _ h=>h,rfl,fun H' _ K' hk=>by simp only [zgh];exact hk⟩
 | .own id,K,h=>by
  simp only [zgh] at h;obtain ⟨y,us,h1,h2,h3,h4⟩:=yln h;exact ⟨_,_,h1,h2,fun m w R v hk hx=>by simp only [zax];exact h3 m w R v hk hx,rfl,fun H' he K' hk=>by simp only [zgh];exact h4 H' he _ hk⟩
 | .osl id n off len,K,h=>by
  simp only [zgh] at h;obtain ⟨b,hb,h⟩:=zcj h;split at h
  . rename_i t n' rows
    have h2:=zav h;clear h;obtain ⟨hnb,rs,hrs,hle,hk⟩:=h2;have hnn:=zy4 hnb;subst hnn;subst hrs;refine ⟨_,_,hk,zzv hb,fun m w R v hkp hx=>?_,rfl,fun H' he K' hk=>?_⟩
    . obtain ⟨b',l,h1,h2,h3,h4⟩:=hkp _ (zy20.2 rfl)
      cases h1;obtain ⟨l',a,c,h5,h6,h7,h8,rfl,h9⟩:=zqq hx;simp only [zax];simp only at h2;rw [h2] at h5;cases h5;exact yzd h3 h4 hle h7 h8 h9
    . simp only [zgh]
      refine zno hb (he id zz5) ?_;simp only [hnb,cond_true];exact ⟨_,rfl,hle,hk⟩
  . exact h.elim
 | .ptr id off,K,h=>by
  simp only [zgh] at h;obtain ⟨b,hb,h⟩:=zcj h;split at h
  . rename_i t cs
    obtain ⟨ys,us,h1,h2,h3,h3'⟩:=ydv h;refine ⟨_,_,h1,(zzv hb).append h2,fun m w R v hkp hx=>?_,rfl,fun H' he K' hk=>?_⟩
    . obtain ⟨b',l,h4,h5,h6,h7⟩:=hkp (id,.ro (.cells t cs)) zz5
      cases h4;simp only [zax] at hx ⊢;obtain ⟨l',h8,h9,rfl⟩:=hx;simp only at h5;rw [h5] at h8;cases h8;obtain ⟨-,arr,h10,h11⟩:=h6;have hpl:=h3 m w R _ (fun e he=>hkp e zz93) h11;refine ⟨l.blk,off,rfl,fun _=>h7 h9,fun k x hk=>?_⟩;rw [zy45] at hk;obtain ⟨v,hv,hp⟩:=hpl.get _ _ hk;exact ⟨v,by rw [cell_of_row w l.blk _ arr t (0,0) h10];simpa using hv,hp⟩
    . simp only [zgh]
      exact zno hb (he id zz5) (h3' H' (fun i hi=>he i zz64) _ hk)
  . exact h.elim
 | .eptr id n i off,K,h=>by
  simp only [zgh] at h;obtain ⟨b,hb,h⟩:=zcj h;split at h
  . rename_i t n' rows
    have h2:=zav h;clear h;obtain ⟨hnb,r,h0,hr,hk⟩:=h2;have hnn:=zy4 hnb;subst hnn;refine ⟨_,_,hk,zzv hb,fun m w R v hkp hx=>?_,rfl,fun H' he K' hk=>?_⟩
    . obtain ⟨b',l,h1,h2,h3,h4⟩:=hkp _ (zy20.2 rfl)
      cases h1;simp only [zax] at hx ⊢;obtain ⟨l',h5,h6,rfl⟩:=hx;simp only at h2;rw [h2] at h5;cases h5;refine ⟨l.blk,i*n+off,rfl,fun _=>h4 h6,fun k x hk=>?_⟩;rw [zy45] at hk;obtain ⟨cv,h7,h8⟩:=zjs h3 h6 _ x (zdj h3.2.1 zz90 hk);exact ⟨cv,by rw [<- h7];congr 2;omega,h8⟩
    . simp only [zgh]
      refine zno hb (he id zz5) ?_;simp only [hnb,cond_true];exact ⟨r,h0,hr,hk⟩
  . exact h.elim
 | .mp id,K,h=>by simp only [zgh] at h
 | .agg l,K,h=>by
  exact yy17
 | .tup l,K,h=>by
  exact yy17
 | .clo f l,K,h=>by
  exact yy17
theorem zdx:(xs:List HV)->{K:List HV->List (Nat×zad)->Prop}->zgi H xs K->∃ ys us,K ys us/\xii H xs ys us
 | [],K,h=>by simp only [zgi] at h;exact ⟨_,_,h,zlj,fun _ _ _ _ _ h=>h,rfl,fun H' _ K' hk=>by simp only [zgi];exact hk⟩
 | x::xs,K,h=>by
  simp only [zgi] at h;obtain ⟨y,u,h1,h2,h3,h3',h3''⟩:=zjq x h;obtain ⟨ys,us,h4,h5,h6,h6',h6''⟩:=zdx xs h1;refine ⟨_,_,h4,h2.append h5,fun m w R vs hk hx=>?_,by simp only [znw,h3',h6',Bool.and_self],fun H' he K' hk=>?_⟩
  . simp only [zaz] at hx ⊢
    obtain ⟨v,r,rfl,h7,h8⟩:=hx;exact ⟨v,r,rfl,h3 m w R v hk.left h7,h6 m w R r hk.right h8⟩
  . simp only [zgi]
    exact h3'' H' (fun i hi=>he i zz75) _ (h6'' H' (fun i hi=>he i zz64) _ hk)
end
theorem xgl {us:List (Nat×zad)} (hf:Frz H us) {e:Nat×zad} (he:e∈us):zdy H us e.1=e.2:=by
 induction us generalizing H with
 | nil=>cases he
 | cons q a ih =>
  obtain ⟨j,z⟩:=q;have hfu:=Frz.upd (e:=(j,z)) hf;by_cases hm:e∈a
  . exact ih hfu hm
  . rcases zy15.1 he with rfl | he
    . by_cases hj:∃ q∈a,q.1=j
      . obtain ⟨q,hq,hqj⟩:=hj
        obtain ⟨b,hb,hb2⟩:=hfu q hq;simp only at hb;rw [hqj,zba] at hb;obtain ⟨c,_,hc⟩:=hf (j,z) zz5;simp only at hc;subst hc;have hbc:c=b:=by rcases hb with hb | hb<;>cases hb;rfl
        subst hbc;have gen:∀ {us:List (Nat×zad)} {H:Nat->zad},Frz H us->H j=.ro c->zdy H us j=.ro c:=by
         intro us
         induction us with
         | nil=>intro H _ h;exact h
         | cons p us ih2 =>
          intro H hf h;obtain ⟨k,y⟩:=p;refine ih2 (H:=upd H k y) (Frz.upd (e:=(k,y)) hf) ?_;by_cases hk:j=k
          . subst hk
            obtain ⟨d,hd,hd2⟩:=hf (j,y) zz5;simp only at hd hd2;rw [h] at hd;rcases hd with hd | hd<;>cases hd
            rw [zba];exact hd2
          . rw [zbd _ _ hk];exact h
        exact gen (us:=a) (H:=upd H j (.ro c)) hfu (zba _ _ _)
      . exact (zrd (H:=upd H j z) (us:=a) fun q hq h=>hj ⟨q,hq,h⟩).trans (zba _ _ _)
    . exact absurd he hm
theorem WS.kept {us:List (Nat×zad)} (hf:Frz H us) (hok:zbc Γ m (zdy H us) w):Kept m w (RR Γ m (zdy H us) w) us:=by
 intro e he;obtain ⟨b,_,hb⟩:=hf e he;obtain ⟨l,h1,h2,h3⟩:=hok.ro e.1 b (by rw [xgl hf he,hb]);exact ⟨b,l,hb,h1,h2,h3⟩
def zyj (tmps:Array Value):ResultVar->Sem Value
 | .tmp t=>pure (tmps.getD t undef)
 | .cell a t=>do loadVar t (<- asAddr (tmps.getD a undef))
theorem ylo {s:HS} {a:Act} (hc:zmf Γ P m s a w) {r:ResultVar} {K:HV->Prop} (h:ysu P s r K):∃ x v,K x/\zax m w (RR Γ m s.heap w) x v/\(zyj a.tmps r).run P w=.ok v w:=by
 cases r with
 | tmp t =>
  simp only [ysu,force_eq] at h;exact ⟨_,_,h,hc.slots t,by simp [zyj]⟩
 | cell x t =>
  simp only [ysu] at h;obtain ⟨td,u,i,z,ht,h⟩:=zeo h;split at h
  . rename_i id off hx
    have hrep:=hc.slots x;rw [hx] at hrep;simp only [zax] at hrep;obtain ⟨l,hl,hn,hv⟩:=hrep;obtain ⟨b,hb,h⟩:=zcj h;obtain ⟨l',hl',hbr⟩:=hc.heap.blk hb;rw [hl] at hl';cases hl';split at h
    . rename_i t' cs
      obtain ⟨_,arr,harr,hrl⟩:=hbr;obtain ⟨y,us,hk,hus,huc,hrep⟩:=zpa hrl h;refine ⟨_,_,hk,hrep,?_⟩;have:=run_read (P:=P) ht (b:=l.blk) (o:=off) (cs:=us) (w:=w) (fun k v hkv=>by rw [cell_of_row w l.blk _ arr t' (0,0) harr];simpa using huc k v hkv) hus;simp only [Instr.loadAt,Instr.sureAddr] at this;simp only [zyj,hv,asAddr];exact this
    . exact h.elim
  . exact h.elim
theorem ylp {s:HS} {a:Act} (hc:zmf Γ P m s a w):∀ {rs:List ResultVar} {K:List HV->Prop},yxx P s rs K->∃ xs vs,K xs/\zaz m w (RR Γ m s.heap w) xs vs/\xs.length=rs.length/\(rs.mapM (zyj a.tmps)).run P w=.ok vs w
 | [],K,h=>⟨[],[],h,by simp only [zaz],rfl,by simp [Sem.run]⟩
 | r::rs,K,h=>by
  simp only [yxx] at h;obtain ⟨x,v,h1,h2,h3⟩:=ylo hc h;obtain ⟨xs,vs,h4,h5,h6,h7⟩:=ylp hc h1;refine ⟨_,v::vs,h4,by simp only [zaz];exact ⟨v,vs,rfl,h2,h5⟩,by simp [h6],?_⟩;simp only [List.mapM_cons,Sem.run_bind,h3,Result.andThen_ok,h7,Sem.run_pure]
theorem xds {s:HS} {a:Act} (hc:zmf Γ P m s a w) {fn:Func} {K:HV->Prop} (h:xaz P s fn.results.toList K):∃ x v,K x/\zax m w (RR Γ m s.heap w) x v/\(results fn a.tmps).run P w=.ok v w:=by
 have hre:results fn a.tmps=(do
  let vs <- fn.results.mapM (zyj a.tmps)
  pure (if h:vs.size=1 then vs[0] else .tuple vs)):=by
  unfold results;congr 1
 have zdz:∀ {vs:List Value},(fn.results.toList.mapM (zyj a.tmps)).run P w=.ok vs w->(results fn a.tmps).run P w=.ok (if h:vs.toArray.size=1 then vs.toArray[0] else .tuple vs.toArray) w:=by
  intro vs hv;rw [hre,Array.mapM_eq_mapM_toList];simp only [Sem.run_bind,Sem.run_map,hv,Result.andThen_ok,Sem.run_pure]
 unfold xaz at h;split at h
 . rename_i r hr
   obtain ⟨x,v,h1,h2,h3⟩:=ylo hc h;refine ⟨x,v,h1,h2,?_⟩;have:=zdz (vs:=[v]) (by rw [hr];simp only [List.mapM_cons,List.mapM_nil,Sem.run_bind,h3,Result.andThen_ok,Sem.run_pure])
   simpa using this
 . rename_i rs hn
   obtain ⟨xs,vs,h1,h2,h3,h4⟩:=ylp hc h;refine ⟨_,.tuple vs.toArray,h1,by simp only [zax];exact ⟨_,rfl,by simpa using h2⟩,?_⟩;rw [zdz h4,dif_neg];have hl:=h2.length;intro h5;have h6:fn.results.toList.length=1:=by rw [<- h3,<- hl];simpa using h5
   match hr:fn.results.toList,h6 with
   | [r],_=>exact hn r hr
end
end Go.HL
namespace Go.HL
def zao (P:Program) (f:FuncId) (args:List HV) (H:Nat->zad) (r:HV) (H':Nat->zad):Prop :=
 ∀ (Γ:Ctx) m w vals,zbc Γ m H w->zaz m w (RR Γ m H w) args vals->Γ.m0=m ->
  (callFunc f vals.toArray).run P w=.ok (.enter f vals.toArray) w /\
  Calls P f vals.toArray w fun e w'=>∃ v m',e=.returned v/\zbc Γ m' H' w'/\zax m' w' (RR Γ m' H' w') r v/\∀ id l,pin<=id->m id=some l->m' id=some l
theorem zao.args {P:Program} {f:FuncId} {args args':List HV} {H:Nat->zad} {r:HV} {H':Nat->zad} (hw:∀ (m:zez) w R vals,zaz m w R args vals->zaz m w R args' vals) (h:zao P f args' H r H'):zao P f args H r H' :=
 fun Γ m w vals hok hx h0=>h Γ m w vals hok (hw _ _ _ _ hx) h0
abbrev zae:Nat->zad:=fun _=>.free
mutual
def yfr:HV->Bool
 | .p (.v _)=>true
 | .agg l=>yvb l
 | .tup l=>yvb l
 | .und=>true
 | _=>false
def yvb:List HV->Bool
 | []=>true
 | x::r=>yfr x&&yvb r
end
def zkz (H:Nat->zad):List Bool->List HV->(List HV->List (Nat×zad)->Prop)->Prop
 | _,[],K=>K [] []
 | [],x::xs,K=>zkz H [] xs fun ys us=>K (x::ys) us
 | true::ms,x::xs,K=>zgh H x fun y u=>zkz H ms xs fun ys us=>K (y::ys) (u++us)
 | false::ms,x::xs,K=>zkz H ms xs fun ys us=>K (x::ys) us
def ren (L:List (Nat×Nat)):Ren:=lkN (L.map fun p=>(p.1,some p.2))
def rnS (σ:Ren):zad->zad
 | .live b=>.live (rnB σ b)
 | .ro b=>.ro (rnB σ b)
 | x=>x
def xew (σ:Ren):zad->Bool
 | .live b=>znv σ b
 | .ro b=>znv σ b
 | .dead=>true
 | .free=>false
structure xiv (P:Program) (f:FuncId) (args:List HV) (H:Nat->zad) (r:Res) (args':List HV) (us:List (Nat×zad)):Prop where
 view:zgi H args fun a u=>a=args'/\u=us
 spec:zao P f args' zae r.val zae
 yfr:yfr r.val=true
 ups:r.ups=[]
 tch:r.tch=us.map (·.1)
structure xiu (P:Program) (f:FuncId) (args:List HV) (H:Nat->zad) (r:Res) (us:List (Nat×zad)) (ms:List Bool) (args1:List HV) (B F:List (Nat×Nat)) (args':List HV) (H':Nat->zad) (r':HV) (H'':Nat->zad):Prop where
 mix:zkz H ms args fun a u=>a=args1/\u=us
 spec:zao P f args' H' r' H''
 argsOk:znw (ren B) args'=true
 args:rnL (ren B) args'=args1
 dom:∀ i,H' i=.free\/∃ p∈B,p.1=i
 has:∀ p∈B,pin<=p.1/\∃ b,znv (ren B) b=true/\((H' p.1=.live b/\zdy H us p.2=.live (rnB (ren B) b))\/(H' p.1=.ro b/\zdy H us p.2=.ro (rnB (ren B) b)))
 ndB:(B.map (·.1)).Nodup
 ndB2:(B.map (·.2)).Nodup
 new:∀ p∈F,p.1<pin/\H p.2=.free
 ndF:(F.map (·.1)).Nodup
 ndF2:(F.map (·.2)).Nodup
 after:∀ p∈B++F,xew (ren (B++F)) (H'' p.1)=true
 valOk:zik (ren (B++F)) r'=true
 val:r.val=rn (ren (B++F)) r'
 ups:r.ups=us++(B++F).map fun p=>(p.2,rnS (ren (B++F)) (H'' p.1))
structure Ov (P:Program) (f:FuncId) (args:List HV) (H:Nat->zad) (r:Res):Prop where
 out : ∃ fn e i x y i1 i2 b1 b2, P.funcs[f]? = some fn /\ fn.body = none /\ fn.name ≠ "runtime.NumGoroutine" /\ Extern.findNext fn = none /\
  Extern.find fn=some (Extern.SlicesOverlaps.overlaps fn.params fn.resultTypes)/\(∃ t,fn.params[0]?=some t/\P.underlying t=some (.slice e))/\P.info? e=some i/\0<i.size /\
  args=[x,y]/\(x=.own i1\/∃ n o l,x=.osl i1 n o l)/\(y=.own i2\/∃ n o l,y=.osl i2 n o l)/\i1≠i2/\H i1=.live b1/\H i2=.live b2/\((∀ t cs,b1≠.cells t cs)/\(∀ k a es,b1≠.map k a es)/\∀ k a es x,b1≠.iter k a es x)/\((∀ t cs,b2≠.cells t cs)/\(∀ k a es,b2≠.map k a es)/\∀ k a es x,b2≠.iter k a es x)/\r=⟨zbl false,[],[i1,i2]⟩
inductive CR (P:Program):zbg
 | lend {f:FuncId} {args:List HV} {H:Nat->zad} {d:Nat} {r:Res} {args':List HV} {us:List (Nat×zad)} (h:xiv P f args H r args' us):CR P f args H d r
 | zii {f:FuncId} {args:List HV} {H:Nat->zad} {d:Nat} {r:Res} {us:List (Nat×zad)} {ms:List Bool} {args1:List HV} {B F:List (Nat×Nat)} {args':List HV} {H':Nat->zad} {r':HV} {H'':Nat->zad}
  (h:xiu P f args H r us ms args1 B F args' H' r' H''):CR P f args H d r
 | ov {f:FuncId} {args:List HV} {H:Nat->zad} {d:Nat} {r:Res} (h:Ov P f args H r):CR P f args H d r
structure xij (H:Nat->zad) (ms:List Bool) (x y:List HV) (us:List (Nat×zad)):Prop where
 frz:Frz H us
 rep:∀ m w R v,Kept m w R us->zaz m w R x v->zaz m w R y v
 loc:∀ H',(∀ id∈us.map (·.1),H' id=H id)->∀ K':List HV->List (Nat×zad)->Prop,K' y us->zkz H' ms x K'
section
variable {Γ:Ctx} {P:Program} {m:zez} {H:Nat->zad} {w:World} {R:Nat->Prop}
theorem zhn:∀ (ms:List Bool) (xs:List HV) {K:List HV->List (Nat×zad)->Prop},zkz H ms xs K->∃ ys us,K ys us/\xij H ms xs ys us
 | ms,[],K,h=>⟨[],[],by cases ms<;>simpa only [zkz] using h,zlj,fun _ _ _ _ _ h=>h,fun H' _ K' hk=>by cases ms<;>simpa only [zkz] using hk⟩
 | [],x::xs,K,h=>by
  simp only [zkz] at h;obtain ⟨ys,us,h4,h5,h6,h7⟩:=zhn [] xs h;exact yy60
 | false::ms,x::xs,K,h=>by
  simp only [zkz] at h;obtain ⟨ys,us,h4,h5,h6,h7⟩:=zhn ms xs h;exact yy60
 | true::ms,x::xs,K,h=>by
  simp only [zkz] at h;obtain ⟨y,u,h1,hv⟩:=zjq x h;obtain ⟨ys,us,h4,h5,h6,h7⟩:=zhn ms xs h1;refine ⟨_,_,h4,hv.frz.append h5,fun m w R vs hk hx=>?_,fun H' he K' hk=>?_⟩
  . simp only [zaz] at hx ⊢
    obtain ⟨v,r,rfl,h7,h8⟩:=hx;exact ⟨v,r,rfl,hv.rep m w R v hk.left h7,h6 m w R r hk.right h8⟩
  . simp only [zkz]
    exact hv.loc H' (fun i hi=>he i zz75) _ (h7 H' (fun i hi=>he i zz64) _ hk)
theorem yqj {H':Nat->zad}:∀ {us:List (Nat×zad)} {H:Nat->zad} {i:Nat},(H' i=H i\/i∈us.map (·.1))->zdy H' us i=zdy H us i
 | [],H,i,h=>(h.resolve_right zz5:H' i=H i)
 | (j,b)::us,H,i,h=>by
  simp only [zdy];have gen:∀ {us:List (Nat×zad)} {A B:Nat->zad} {i:Nat},(A i=B i\/i∈us.map (·.1))->zdy A us i=zdy B us i:=by
   intro us
   induction us with
   | nil=>intro A B i h;exact (h.resolve_right zz5:A i=B i)
   | cons p us ih =>
    intro A B i h;obtain ⟨k,c⟩:=p;refine ih (A:=upd A k c) (B:=upd B k c) ?_;by_cases hk:i=k
    . subst hk;left;rw [zba,zba]
    . rcases h with h | h
      . left;rw [zbd _ _ hk,zbd _ _ hk];exact h
      . simp only [zy22,zy15] at h
        rcases h with h | h
        . exact absurd h hk
        . exact .inr h
  refine gen ?_;by_cases hk:i=j
  . subst hk;left;rw [zba,zba]
  . rcases h with h | h
    . left;rw [zbd _ _ hk,zbd _ _ hk];exact h
    . simp only [zy22,zy15] at h
      rcases h with h | h
      . exact absurd h hk
      . exact .inr h
theorem yws:zgy (CR P):=by
 intro f args H H' d r h _ hd hu;cases h with
 | lend h =>
  rename_i args' us;obtain ⟨h1,h2,h3,h4,h5⟩:=h;obtain ⟨a,u,⟨rfl,rfl⟩,hv⟩:=zdx _ h1;exact .lend ⟨hv.loc H' (fun i hi=>hu i (by rw [h5];simp only [zy14];exact .inl hi)) _ ⟨rfl,rfl⟩,h2,h3,h4,h5⟩
 | zii h =>
  rename_i us ms args1 B F args' H1 r' H2;obtain ⟨a,u,⟨rfl,rfl⟩,hv⟩:=zhn _ _ h.mix;have hups:∀ i,i∈u.map (·.1)\/i∈(B++F).map (·.2)->H' i=H i:=by
   intro i hi;refine hu i ?_;rw [h.ups];simp only [zy33,zy14,zy95] at hi ⊢;rcases hi with hi | hi
   . exact .inr (.inl hi)
   . refine .inr (.inr ?_)
     rcases hi with hi | hi
     . exact .inl hi
     . exact .inr hi
  refine .zii ⟨hv.loc H' (fun i hi=>hups i (.inl hi)) _ ⟨rfl,rfl⟩,h.spec,h.argsOk,h.args,h.dom,fun p hp=>?_,h.ndB,h.ndB2,fun p hp=>⟨(h.new p hp).1,?_⟩,h.ndF,h.ndF2,h.after,h.valOk,h.val,h.ups⟩
  . rw [yqj (H:=H) (.inl (hups p.2 (.inr (by simp;exact .inl ⟨_,hp⟩))))]
    exact h.has p hp
  . rw [hups p.2 (.inr (by simp;exact .inr ⟨_,hp⟩))]
    exact (h.new p hp).2
 | ov h =>
  obtain ⟨fn,e,i,x,y,i1,i2,b1,b2,h1,h2,h3,h4,h5,h6,h7,h8,h9,h10,h11,h12,h13,h14,h15,h16,rfl⟩:=h.out;exact .ov ⟨fn,e,i,x,y,i1,i2,b1,b2,h1,h2,h3,h4,h5,h6,h7,h8,h9,h10,h11,h12,(hu i1 zz5).trans h13,(hu i2 zz5).trans h14,h15,h16,rfl⟩
theorem yuv {L:List (Nat×Nat)} {i:Nat} {o:Option Nat} (h:ren L i=some o):∃ j,o=some j/\(i,j)∈L:=by
 unfold ren at h
 induction L with
 | nil=>cases h
 | cons p L ih =>
  obtain ⟨a,b⟩:=p;simp only [zy22,lkN] at h;cases hb:Nat.beq i a with
  | true =>
   rw [hb] at h;cases h;have:=zy4 hb;subst this;exact ⟨b,rfl,by simp⟩
  | false =>
   rw [hb] at h;obtain ⟨j,h1,h2⟩:=ih h;exact ⟨j,h1,by simp [h2]⟩
theorem xev {L:List (Nat×Nat)} {i j:Nat} (hn:(L.map (·.1)).Nodup) (h:(i,j)∈L):ren L i=some (some j):=by
 unfold ren
 induction L with
 | nil=>cases h
 | cons p L ih =>
  obtain ⟨a,b⟩:=p;simp only [zy22,zy128] at hn;simp only [zy22,lkN];rcases zy15.1 h with h | h
  . cases h
    simp
  . have:i≠a:=fun e=>hn.1 (zy28.2 ⟨(i,j),h,e⟩)
    have hb:Nat.beq i a=false:=by
     cases hb:Nat.beq i a with
     | false=>rfl
     | true=>exact absurd (zy4 hb) this
    rw [hb];exact ih hn.2 h
mutual
theorem xbo {m':zez} {σ:Ren} {R':Nat->Prop} (hm:∀ i o,σ i=some o->∃ j,o=some j/\m' j=m i) (hR:∀ b,R b->R' b):(x:HV)->(v:Value)->zik σ x=true->zax m w R x v->zax m' w R' (rn σ x) v
 | .p x,v,_,h=>by simp only [rn,zax] at h ⊢;exact h.sub hR
 | .ptr i o,v,ho,h=>by
  exact yy22
 | .eptr i n k o,v,ho,h=>by
  exact yy22
 | .rp c,v,_,h=>by
  exact yy73
 | .own i,v,ho,h=>by
  simp only [zik] at ho;split at ho
  . rename_i o hj
    obtain ⟨j',rfl,hmj⟩:=hm i _ hj;simp only [rn,hj,zax] at h ⊢;obtain ⟨l,h1,h2⟩:=h;exact ⟨l,by rw [hmj];exact h1,h2⟩
  . cases ho
 | .osl i n o len,v,ho,h=>by
  simp only [zik] at ho;split at ho
  . rename_i j hj
    obtain ⟨j',hj',hmj⟩:=hm i _ hj;cases hj';simp only [rn,hj,zax] at h ⊢;obtain ⟨l,a,h1,h2⟩:=h;exact ⟨l,a,by rw [hmj];exact h1,h2⟩
  . cases ho
 | .mp i,v,ho,h=>by
  exact yy22
 | .agg l,v,ho,h=>by
  exact yy50
 | .tup l,v,ho,h=>by
  exact yy50
 | .clo f l,v,ho,h=>by
  exact yy50
 | .und,v,_,h=>by simp only [rn,zax] at h ⊢;exact h
 | .any,v,_,h=>by simp only [rn,zax]
theorem zvi {m':zez} {σ:Ren} {R':Nat->Prop} (hm:∀ i o,σ i=some o->∃ j,o=some j/\m' j=m i) (hR:∀ b,R b->R' b):(x:List HV)->(v:List Value)->znw σ x=true->zaz m w R x v->zaz m' w R' (rnL σ x) v
 | [],v,_,h=>by simp only [rnL,zaz] at h ⊢;exact h
 | x::xs,v,ho,h=>by
  simp only [znw,zy12] at ho;simp only [rnL,zaz] at h ⊢;obtain ⟨a,r,h1,h2,h3⟩:=h;exact ⟨a,r,h1,xbo hm hR x a ho.1 h2,zvi hm hR xs r ho.2 h3⟩
end
theorem yux {m':zez} {σ:Ren} {R':Nat->Prop} (hm:∀ i o,σ i=some o->∃ j,o=some j/\m' j=m i) (hR:∀ b,R b->R' b) {l:Loc} {b:zie} (ho:znv σ b=true) (h:znb m w R l b):znb m' w R' l (rnB σ b):=by
 cases b with
 | cells t cs =>
  obtain ⟨h1,arr,h2,h3⟩:=h;rw [<- zqx (σ:=σ) cs] at h1;exact ⟨h1,arr,h2,zvi hm hR _ _ ho h3⟩
 | map kc agg es =>
  obtain ⟨h1,arr,c,h2,h3,h4⟩:=h;exact ⟨h1,arr,c,h2,h3.mono fun b hb=>⟨rfl,hR b hb⟩,h4⟩
 | iter kc agg left cur =>
  obtain ⟨h1,bm,arr,c,seen,h2,h3⟩:=h;exact ⟨h1,bm,arr,c,seen,h2,h3.mono fun b hb=>⟨rfl,hR b hb⟩⟩
 | row t n rows =>
  exact yy55
 | buf t n rows c =>
  exact yy79
mutual
theorem ybc:(x:HV)->zik zqm x=true->rn zqm x=x
 | .p _,_=>rfl
 | .rp _,_=>rfl
 | .und,_=>rfl
 | .any,_=>rfl
 | .ptr _ _,h=>by simp [zik] at h
 | .eptr _ _ _ _,h=>by simp [zik] at h
 | .own _,h=>by simp [zik] at h
 | .osl _ _ _ _,h=>by simp [zik] at h
 | .mp _,h=>by simp [zik] at h
 | .agg l,h=>by simp only [zik] at h;simp only [rn,ziy l h]
 | .tup l,h=>by simp only [zik] at h;simp only [rn,ziy l h]
 | .clo f l,h=>by simp only [zik] at h;simp only [rn,ziy l h]
theorem ziy:(x:List HV)->znw zqm x=true->rnL zqm x=x
 | [],_=>rfl
 | x::xs,h=>by
  simp only [znw,zy12] at h;simp only [rnL,ybc x h.1,ziy xs h.2]
end
mutual
theorem ync {m':zez} {w':World} {R':Nat->Prop}:(x:HV)->(v:Value)->yfr x=true->zax m w R x v->zax m' w' R' x v
 | .p (.v x),v,_,h=>by simp only [zax] at h ⊢;cases h with | v _ h=>exact .v _ h
 | .p (.sl _ _),v,hs,h=>by simp [yfr] at hs
 | .rp _,v,hs,h=>by simp [yfr] at hs
 | .und,v,hs,h=>by simp only [zax] at h ⊢;exact h
 | .any,v,hs,h=>by simp [yfr] at hs
 | .ptr _ _,v,hs,h=>by simp [yfr] at hs
 | .eptr _ _ _ _,v,hs,h=>by simp [yfr] at hs
 | .own _,v,hs,h=>by simp [yfr] at hs
 | .osl _ _ _ _,v,hs,h=>by simp [yfr] at hs
 | .mp _,v,hs,h=>by simp [yfr] at hs
 | .agg l,v,hs,h=>by
  exact yy100
 | .tup l,v,hs,h=>by
  exact yy100
 | .clo _ _,v,hs,h=>by simp [yfr] at hs
theorem zvm {m':zez} {w':World} {R':Nat->Prop}:(x:List HV)->(v:List Value)->yvb x=true->zaz m w R x v->zaz m' w' R' x v
 | [],v,_,h=>by simp only [zaz] at h ⊢;exact h
 | x::xs,v,hs,h=>by
  simp only [yvb,zy12] at hs;simp only [zaz] at h ⊢;obtain ⟨a,r,h1,h2,h3⟩:=h;exact ⟨a,r,h1,ync x a hs.1 h2,zvm xs r hs.2 h3⟩
end
theorem zbc.grow (hok:zbc Γ m H w) {w':World} (hs:w.heap.size<=w'.heap.size) (hh:∀ b,b<w.heap.size->w'.heap[b]?=w.heap[b]?) (ho:w'.os=w.os) (ht:w'.tape=w.tape) (hp:w'.output=w.output) :
 WS Γ H m w H m w':=by
 have hR:∀ b,RR Γ m H w b->w'.heap[b]?=w.heap[b]?/\RR Γ m H w' b:=fun b hb=>⟨hh b hb.2.1,hb.1,zy97 hb.2.1 hs,hb.2.2⟩
 refine ⟨.refl m,⟨zy113 hok.size hs,ho.trans hok.os,ht.trans hok.tape,hp.trans hok.output,fun b hb hn=>(hh b (zy97 hb hok.size)).trans (hok.frame b hb hn),hok.free,fun id b hb=>?_,fun id b hb=>?_,hok.inj,hok.dom⟩,hR⟩
 . obtain ⟨l,h1,h2,h3⟩:=hok.live id b hb
   exact ⟨l,h1,h2.mono (.refl m) hR fun hn=>hh _ (h3 hn).2,fun hn=>⟨(h3 hn).1,zy97 (h3 hn).2 hs⟩⟩
 . obtain ⟨l,h1,h2,h3⟩:=hok.ro id b hb
   exact ⟨l,h1,h2.mono (.refl m) hR fun hn=>(hR _ (h3 hn)).1,fun hn=>(hR _ (h3 hn)).2⟩
theorem yas {m:zez} {b:Nat}:¬ zod m zae b:=by rintro ⟨id,l,blk,h,_⟩;cases h
theorem yov {f:FuncId} {args:List HV} {r:Res} {args':List HV} {us:List (Nat×zad)} (h:xiv P f args H r args' us) {vals:List Value} (hok:zbc Γ m H w) (hargs:zaz m w (RR Γ m H w) args vals) :
 (callFunc f vals.toArray).run P w=.ok (.enter f vals.toArray) w /\
 Calls P f vals.toArray w fun e w'=>∃ v m',e=.returned v/\WS Γ H m w (zdy H r.ups) m' w'/\zax m' w' (RR Γ m' (zdy H r.ups) w') r.val v:=by
 obtain ⟨h1,h2,h3,h4,h5⟩:=h;obtain ⟨a,u,⟨rfl,rfl⟩,hv⟩:=zdx _ h1;have hRs:∀ b,RR Γ m H w b->w.heap[b]?=w.heap[b]?/\b<w.heap.size:=fun b hb=>⟨rfl,hb.2.1⟩
 have hkept:Kept m w (fun b=>b<w.heap.size) u:=by
  intro e he;obtain ⟨b,hb,hb2⟩:=hv.frz e he;rcases hb with hb | hb
  . obtain ⟨l,h1,h2,h3⟩:=hok.live _ _ hb
    exact ⟨b,l,hb2,h1,h2.mono (.refl m) hRs fun _=>rfl,fun hn=>(h3 hn).2⟩
  . obtain ⟨l,h1,h2,h3⟩:=hok.ro _ _ hb
    exact ⟨b,l,hb2,h1,h2.mono (.refl m) hRs fun _=>rfl,fun hn=>(h3 hn).2.1⟩
 have hargs':=hv.rep m w _ vals hkept (zaz.mono (.refl m) hRs _ _ hargs)
 let Γc:Ctx:=⟨fun _=>True,w,fun _=>False,fun _=>none⟩
 have hokc:zbc Γc (fun _=>none) zae w:=⟨zy18 _,rfl,rfl,rfl,fun _ _ _=>rfl,fun _ _=>rfl,(fun id b hb=>by cases hb),(fun id b hb=>by cases hb),(fun id id' b b' l l' hb=>by cases hb),fun b hb=>hb.elim⟩
 have hrep:zaz (fun _=>none) w (RR Γc (fun _=>none) zae w) a vals:=by
  refine znu (σ:=zqm) (m:=m) (R:=fun b=>b<w.heap.size) (fun i j hj=>by cases hj) (fun i hj=>by cases hj) (fun b hb=>⟨.inl trivial,hb,yas⟩) a vals hv.noid ?_;rw [ziy a hv.noid];exact hargs'
 obtain ⟨hcf,hcalls⟩:=h2 Γc _ w vals hokc hrep rfl;refine ⟨hcf,hcalls.mono fun e w' he=>?_⟩;obtain ⟨v,m',rfl,hok',hv',_⟩:=he;have hws:=hok.grow (w':=w') hok'.size (fun b hb=>hok'.frame b hb (fun h=>h)) hok'.os hok'.tape hok'.output;refine ⟨v,m,rfl,by rw [h4];exact hws,by rw [h4];exact ync _ _ h3 hv'⟩
end
end Go.HL
namespace Go.HL
section
variable {Γ:Ctx} {P:Program} {m:zez} {H:Nat->zad} {w:World} {R:Nat->Prop}
theorem zux {α β:Type} {f:α->β}:∀ {L:List α},(L.map f).Nodup->∀ {p q:α},p∈L->q∈L->f p=f q->p=q
 | [],_,_,_,hp,_,_=>by cases hp
 | z::L,hn,p,q,hp,hq,he=>by
  simp only [zy22,zy128] at hn;cases hp with
  | head=>cases hq with
   | head=>rfl
   | tail _ hq=>exact (hn.1 (zy28.2 ⟨q,hq,he.symm⟩)).elim
  | tail _ hp=>cases hq with
   | head=>exact (hn.1 (zy28.2 ⟨p,hp,he⟩)).elim
   | tail _ hq=>exact zux hn.2 hp hq he
theorem xfm {L:List (Nat×Nat)} {g:Nat->zad} {H:Nat->zad} (hn:(L.map (·.2)).Nodup) {p:Nat×Nat} (hp:p∈L):zdy H (L.map fun p=>(p.2,g p.1)) p.2=g p.1:=by
 induction L generalizing H with
 | nil=>cases hp
 | cons q L ih =>
  simp only [zy22,zy128] at hn;simp only [zy22,zdy];rcases zy15.1 hp with rfl | hp
  . rw [zpp,zba]
    intro h;simp only [zy95,zy28,Function.comp] at h;obtain ⟨q,hq,he⟩:=h;exact hn.1 (zy28.2 ⟨q,hq,he⟩)
  . exact ih hn.2 hp
theorem xfn {L:List (Nat×Nat)} {g:Nat->zad} {H:Nat->zad} {i:Nat} (hi:i∉L.map (·.2)):zdy H (L.map fun p=>(p.2,g p.1)) i=H i:=by
 refine zpp fun h=>hi ?_
 simp only [zy95,zy28,Function.comp] at h ⊢;exact h
theorem yoh {f:FuncId} {args:List HV} {r:Res} {us:List (Nat×zad)} {ms:List Bool} {args1:List HV} {B F:List (Nat×Nat)} {args':List HV} {H':Nat->zad} {r':HV} {H'':Nat->zad}
 (h:xiu P f args H r us ms args1 B F args' H' r' H'') {vals:List Value} (hok0:zbc Γ m H w) (hargs0:zaz m w (RR Γ m H w) args vals) :
 (callFunc f vals.toArray).run P w=.ok (.enter f vals.toArray) w /\
 Calls P f vals.toArray w fun e w'=>∃ v m',e=.returned v/\WS Γ H m w (zdy H r.ups) m' w'/\zax m' w' (RR Γ m' (zdy H r.ups) w') r.val v:=by
 obtain ⟨a,u,⟨rfl,rfl⟩,hv⟩:=zhn _ _ h.mix;have hws0:=WS.frz hok0 hv.frz;have hok:=hws0.ok;have hargs1:zaz m w (RR Γ m (zdy H u) w) a vals:=hv.rep m w _ vals (WS.kept hv.frz hok) (hws0.repL hargs0);have hhas:=h.has;have hnewH:∀ p∈F,zdy H u p.2=.free:=by
  intro p hp;rw [zpp]
  . exact (h.new p hp).2
  . intro hm
    obtain ⟨e,he,hee⟩:=zy28.1 hm;obtain ⟨b,hb,-⟩:=hv.frz e he;rw [hee,(h.new p hp).2] at hb;rcases hb with hb | hb<;>cases hb
 have hups:zdy H r.ups=zdy (zdy H u) ((B++F).map fun p=>(p.2,rnS (ren (B++F)) (H'' p.1))):=by rw [h.ups,zob]
 generalize hH1:zdy H u=H1 at hok hargs1 hws0 hhas hnewH hups
 let σ:=ren B
 let σ2:=ren (B++F)
 have hBF1:((B++F).map (·.1)).Nodup:=by
  rw [zy33];refine List.nodup_append.2 ⟨h.ndB,h.ndF,fun x hx y hy=>?_⟩;obtain ⟨p,hp,rfl⟩:=zy28.1 hx;obtain ⟨q,hq,rfl⟩:=zy28.1 hy;have:=(hhas p hp).1;have:=(h.new q hq).1;omega
 have hBne:∀ p∈B,H1 p.2≠.free/\H' p.1≠.free:=by
  intro p hp;obtain ⟨-,b,-,⟨h1,h2⟩ | ⟨h1,h2⟩⟩:=hhas p hp
  . rw [h1,h2];exact ⟨zad.noConfusion,zad.noConfusion⟩
  . rw [h1,h2];exact ⟨zad.noConfusion,zad.noConfusion⟩
 have hBF2:((B++F).map (·.2)).Nodup:=by
  rw [zy33];refine List.nodup_append.2 ⟨h.ndB2,h.ndF2,fun x hx y hy=>?_⟩;obtain ⟨p,hp,rfl⟩:=zy28.1 hx;obtain ⟨q,hq,rfl⟩:=zy28.1 hy;intro he;exact (hBne p hp).1 (by rw [he];exact hnewH q hq)
 have hσ:∀ i o,σ i=some o->∃ j,o=some j/\(i,j)∈B:=fun i o ho=>yuv ho
 have hσget:∀ p∈B,σ p.1=some (some p.2):=fun p hp=>xev h.ndB hp
 have hσ2:∀ i o,σ2 i=some o->∃ j,o=some j/\(i,j)∈B++F:=fun i o ho=>yuv ho
 -- the callee's own names
 let mc:zez:=zhd σ m
 have hmc:∀ p∈B,mc p.1=m p.2:=fun p hp=>by simp only [mc,zhd,hσget p hp]
 let own:Nat->Prop:=fun b=>zod mc H' b
 let Γc:Ctx:=⟨fun b=>RR Γ m H1 w b\/own b,w,own,mc⟩
 have hownB:∀ b,own b->∃ p∈B,∃ blk l,H1 p.2=.live blk/\m p.2=some l/\l.nil=false/\l.blk=b:=by
  rintro b ⟨id,l,blk,h1,h2,h3,h4⟩;rcases h.dom id with hf | ⟨p,hp,rfl⟩
  . rw [hf] at h1;cases h1
  . obtain ⟨-,b',-,⟨h5,h6⟩ | ⟨h5,h6⟩⟩:=hhas p hp
    . exact ⟨p,hp,_,l,h6,by rw [<- hmc p hp];exact h2,h3,h4⟩
    . rw [h5] at h1;cases h1
 have hown1:∀ b,own b->zod m H1 b:=fun b hb=>let ⟨p,_,blk,l,h1,h2,h3,h4⟩:=hownB b hb;⟨p.2,l,blk,h1,h2,h3,h4⟩
 have hownd:∀ b,own b->(Γ.own0 b\/Γ.w0.heap.size<=b)/\b<w.heap.size:=by
  intro b hb;obtain ⟨p,_,blk,l,h1,h2,h3,h4⟩:=hownB b hb;obtain ⟨l',h5,_,h6⟩:=hok.live _ _ h1;rw [h2] at h5;cases h5;rw [<- h4];exact h6 h3
 have hRc:∀ b,RR Γ m H1 w b->RR Γc mc H' w b:=fun b hb=>⟨.inl (.inl hb),hb.2.1,fun ho=>hb.2.2 (hown1 b ho)⟩
 have hmσ:∀ i j,σ i=some (some j)->mc i=m j:=fun i j hj=>by simp only [mc,zhd,hj]
 have hnσ:∀ i,σ i=some none->mc i=some ⟨0,0,0,true⟩:=fun i hj=>by simp only [mc,zhd,hj]
 have hokc:zbc Γc mc H' w:=by
  refine ⟨zy18 _,rfl,rfl,rfl,fun _ _ _=>rfl,?_,?_,?_,?_,fun b hb=>.inr hb⟩
  . intro id hf
    cases hs:σ id with
    | none=>simp only [mc,zhd,hs]
    | some o =>
     obtain ⟨j,rfl,hj⟩:=hσ id o hs;exact absurd hf (hBne _ hj).2
  . intro id b hb
    rcases h.dom id with hf | ⟨p,hp,rfl⟩
    . rw [hf] at hb;cases hb
    . obtain ⟨-,b',hbo,⟨h5,h6⟩ | ⟨h5,h6⟩⟩:=hhas p hp
      . rw [hb] at h5;cases h5
        obtain ⟨l,h7,h8,h9⟩:=hok.live _ _ h6;have hl:mc p.1=some l:=by rw [hmc p hp];exact h7
        exact ⟨l,hl,zvh hmσ hnσ hRc hbo h8,fun hn=>⟨.inl ⟨p.1,l,b,hb,hl,hn,rfl⟩,(h9 hn).2⟩⟩
      . rw [hb] at h5;cases h5
  . intro id b hb
    rcases h.dom id with hf | ⟨p,hp,rfl⟩
    . rw [hf] at hb;cases hb
    . obtain ⟨-,b',hbo,⟨h5,h6⟩ | ⟨h5,h6⟩⟩:=hhas p hp
      . rw [hb] at h5;cases h5
      . rw [hb] at h5;cases h5
        obtain ⟨l,h7,h8,h9⟩:=hok.ro _ _ h6;have hl:mc p.1=some l:=by rw [hmc p hp];exact h7
        exact ⟨l,hl,zvh hmσ hnσ hRc hbo h8,fun hn=>hRc _ (h9 hn)⟩
  . intro id id' b b' l l' h1 h2 h3 h4 h5 h6 h7
    rcases h.dom id with hf | ⟨p,hp,rfl⟩
    . rw [hf] at h1;cases h1
    rcases h.dom id' with hf | ⟨q,hq,rfl⟩
    . rw [hf] at h2;cases h2
    rw [hmc p hp] at h3;rw [hmc q hq] at h4;have hp1:∃ blk,H1 p.2=.live blk:=by
     obtain ⟨-,b',-,⟨h8,h9⟩ | ⟨h8,h9⟩⟩:=hhas p hp
     . exact ⟨_,h9⟩
     . rw [h1] at h8;cases h8
    have hq1:∃ blk,H1 q.2=.live blk:=by
     obtain ⟨-,b',-,⟨h8,h9⟩ | ⟨h8,h9⟩⟩:=hhas q hq
     . exact ⟨_,h9⟩
     . rw [h2] at h8;cases h8
    obtain ⟨bp,hp1⟩:=hp1;obtain ⟨bq,hq1⟩:=hq1;have heq:=hok.inj _ _ _ _ _ _ hp1 hq1 h3 h4 h5 h6 h7
    -- names are other ones as the caller's are
    exact congrArg Prod.fst (zux h.ndB2 hp hq heq)
 have hrepc:zaz mc w (RR Γc mc H' w) args' vals:=by
  refine znu hmσ hnσ hRc args' vals h.argsOk ?_;rw [h.args];exact hargs1
 obtain ⟨hcf,hcalls⟩:=h.spec Γc mc w vals hokc hrepc rfl;refine ⟨hcf,hcalls.mono fun e w' he=>?_⟩;obtain ⟨v,m2,rfl,hok2,hv2,hpin⟩:=he
 -- the caller's names behind the call
 let L:=B++F
 let m3:zez:=fun i=>match L.find? fun p=>Nat.beq p.2 i with
  | some p=>m2 p.1
  | none=>m i
 have zqe:∀ p∈L,m3 p.2=m2 p.1:=by
  intro p hp;have:L.find? (fun q=>Nat.beq q.2 p.2)=some p:=by
   have gen:∀ {L:List (Nat×Nat)},(L.map (·.2)).Nodup->p∈L->L.find? (fun q=>Nat.beq q.2 p.2)=some p:=by
    intro L
    induction L with
    | nil=>intro _ hp;cases hp
    | cons z L ih =>
     intro hn hp;simp only [zy22,zy128] at hn;rcases zy15.1 hp with rfl | hp
     . simp
     . have hz:Nat.beq z.2 p.2=false:=by
        cases hb:Nat.beq z.2 p.2 with
        | false=>rfl
        | true=>exact absurd (zy28.2 ⟨p,hp,(zy4 hb).symm⟩) hn.1
       rw [List.find?_cons,hz];exact ih hn.2 hp
   exact gen hBF2 hp
  simp only [m3,this]
 have hoff:∀ i,i∉L.map (·.2)->m3 i=m i:=by
  intro i hi;have:L.find? (fun q=>Nat.beq q.2 i)=none:=by
   rw [List.find?_eq_none];intro q hq hb;exact hi (zy28.2 ⟨q,hq,zy4 hb⟩)
  simp only [m3,this]
 have hBm:∀ p∈B,∃ l,m p.2=some l:=by
  intro p hp;obtain ⟨-,b',-,⟨h8,h9⟩ | ⟨h8,h9⟩⟩:=hhas p hp
  . obtain ⟨l,h1,_⟩:=hok.live _ _ h9;exact ⟨l,h1⟩
  . obtain ⟨l,h1,_⟩:=hok.ro _ _ h9;exact ⟨l,h1⟩
 have hB2:∀ p∈B,m2 p.1=m p.2:=by
  intro p hp;obtain ⟨l,hl⟩:=hBm p hp;rw [hl];exact hpin p.1 l (hhas p hp).1 (by rw [hmc p hp];exact hl)
 have hext:ycg m m3:=by
  intro i l hl;by_cases hi:i∈L.map (·.2)
  . obtain ⟨p,hp,rfl⟩:=zy28.1 hi
    rw [zqe p hp];rcases zy14.1 hp with hp | hp
    . rw [hB2 p hp];exact hl
    . rw [hok.free _ (hnewH p hp)] at hl;cases hl
  . rw [hoff i hi];exact hl
 rw [hups]
 let H3:=zdy H1 ((B++F).map fun p=>(p.2,rnS (ren (B++F)) (H'' p.1)))
 show ∃ v0 m',Ending.returned v=Ending.returned v0/\WS Γ H m w H3 m' w'/\zax m' w' (RR Γ m' H3 w') r.val v0;have hH3in:∀ p∈L,H3 p.2=rnS σ2 (H'' p.1):=fun p hp=>xfm (g:=fun c=>rnS (ren (B++F)) (H'' c)) hBF2 hp
 have hH3off:∀ i,i∉L.map (·.2)->H3 i=H1 i:=fun i hi=>xfn (g:=fun c=>rnS (ren (B++F)) (H'' c)) hi
 have hframe:∀ b,b<w.heap.size->¬ own b->w'.heap[b]?=w.heap[b]?:=fun b hb hn=>hok2.frame b hb hn
 -- who owns what behind it
 have hliveL:∀ p∈L,∀ b3,H3 p.2=.live b3->∃ b2,H'' p.1=.live b2/\b3=rnB σ2 b2:=by
  intro p hp b3 hb;rw [hH3in p hp] at hb;cases hh:H'' p.1<;>rw [hh] at hb<;>simp only [rnS] at hb<;>cases hb
  exact ⟨_,rfl,rfl⟩
 have hlocL:∀ p∈L,∀ b2 l,H'' p.1=.live b2->m2 p.1=some l->l.nil=false->(own l.blk\/w.heap.size<=l.blk)/\l.blk<w'.heap.size:=by
  intro p hp b2 l h1 h2 h3;obtain ⟨l',h4,_,h5⟩:=hok2.live _ _ h1;rw [h2] at h4;cases h4;exact h5 h3
 have hOw3:∀ b,zod m3 H3 b->(∃ i l blk,i∉L.map (·.2)/\H1 i=.live blk/\m i=some l/\l.nil=false/\l.blk=b)\/(zod m2 H'' b/\(own b\/w.heap.size<=b)):=by
  rintro b ⟨i,l,blk,h1,h2,h3,h4⟩;by_cases hi:i∈L.map (·.2)
  . obtain ⟨p,hp,rfl⟩:=zy28.1 hi
    obtain ⟨b2,h5,_⟩:=hliveL p hp _ h1;rw [zqe p hp] at h2
    right
    exact ⟨⟨p.1,l,b2,h5,h2,h3,h4⟩,h4 ▸ (hlocL p hp b2 l h5 h2 h3).1⟩
  . rw [hH3off i hi] at h1
    rw [hoff i hi] at h2;exact .inl ⟨i,l,blk,hi,h1,h2,h3,h4⟩
 have hunt:∀ b i l blk,i∉L.map (·.2)->H1 i=.live blk->m i=some l->l.nil=false->l.blk=b->¬ own b:=by
  intro b i l blk hi h1 h2 h3 h4 ho;obtain ⟨p,hp,bp,lp,h5,h6,h7,h8⟩:=hownB b ho;have:=hok.inj _ _ _ _ _ _ h1 h5 h2 h6 h3 h7 (h4.trans h8.symm);exact hi (this ▸ zy28.2 ⟨p,by simp [L,hp],rfl⟩)
 have hR3:∀ b,RR Γ m H1 w b->w'.heap[b]?=w.heap[b]?/\RR Γ m3 H3 w' b:=by
  intro b hb;have hno:¬ own b:=fun ho=>hb.2.2 (hown1 b ho)
  refine ⟨hframe b hb.2.1 hno,hb.1,zy97 hb.2.1 hok2.size,fun ho=>?_⟩;rcases hOw3 b ho with ⟨i,l,blk,_,h1,h2,h3,h4⟩ | ⟨_,h1 | h1⟩
  . exact hb.2.2 ⟨i,l,blk,h1,h2,h3,h4⟩
  . exact hno h1
  . have:=hb.2.1;omega
 have hR2:∀ b,RR Γc m2 H'' w' b->RR Γ m3 H3 w' b:=by
  intro b ⟨h1,h2,h3⟩;have h1':RR Γ m H1 w b\/own b\/w.heap.size<=b:=by
   rcases h1 with (h1 | h1) | h1
   . exact .inl h1
   . exact .inr (.inl h1)
   . exact .inr (.inr h1)
  rcases h1' with h1 | h1
  . exact (hR3 b h1).2
  . refine ⟨?_,h2,fun ho=>?_⟩
    . rcases h1 with h1 | h1
      . rcases (hownd b h1).1 with h4 | h4
        . exact .inl (hok.dom b h4)
        . exact .inr h4
      . exact .inr (zy113 hok.size h1)
    . rcases hOw3 b ho with ⟨i,l,blk,hi,h4,h5,h6,h7⟩ | ⟨h4,_⟩
      . rcases h1 with h1 | h1
        . exact hunt b i l blk hi h4 h5 h6 h7 h1
        . obtain ⟨l',h8,_,h9⟩:=hok.live _ _ h4
          rw [h5] at h8;cases h8;have:=(h9 h6).2;omega
      . exact h3 h4
 have hm32:∀ i o,σ2 i=some o->∃ j,o=some j/\m3 j=m2 i:=by
  intro i o ho;obtain ⟨j,rfl,hj⟩:=hσ2 i o ho;exact ⟨j,rfl,zqe _ hj⟩
 have hafter:=h.after;have hok3:zbc Γ m3 H3 w':=by
  refine ⟨zy113 hok.size hok2.size,hok2.os.trans hok.os,hok2.tape.trans hok.tape,hok2.output.trans hok.output,?_,?_,?_,?_,?_,hok.dom⟩
  . intro b hb hn
    have hlt:b<w.heap.size:=zy97 hb hok.size;refine (hframe b hlt fun ho=>?_).trans (hok.frame b hb hn);rcases (hownd b ho).1 with h1 | h1
    . exact hn h1
    . omega
  . intro i hf
    by_cases hi:i∈L.map (·.2)
    . obtain ⟨p,hp,rfl⟩:=zy28.1 hi
      rw [hH3in p hp] at hf;have:=hafter p hp;cases hh:H'' p.1<;>rw [hh] at hf this
      . cases this
      all_goals cases hf
    . rw [hH3off i hi] at hf
      rw [hoff i hi];exact hok.free i hf
  . intro i b hb
    by_cases hi:i∈L.map (·.2)
    . obtain ⟨p,hp,rfl⟩:=zy28.1 hi
      obtain ⟨b2,h5,rfl⟩:=hliveL p hp _ hb;obtain ⟨l,h6,h7,h8⟩:=hok2.live _ _ h5;have hb2:znv σ2 b2=true:=by have:=hafter p hp;rw [h5] at this;exact this
      refine ⟨l,by rw [zqe p hp];exact h6,yux hm32 hR2 hb2 h7,fun hn=>⟨?_,(h8 hn).2⟩⟩;rcases (hlocL p hp b2 l h5 h6 hn).1 with h9 | h9
      . exact (hownd _ h9).1
      . exact .inr (zy113 hok.size h9)
    . rw [hH3off i hi] at hb
      obtain ⟨l,h6,h7,h8⟩:=hok.live _ _ hb;refine ⟨l,by rw [hoff i hi];exact h6,h7.mono hext hR3 fun hn=>hframe _ (h8 hn).2 (hunt _ i l b hi hb h6 hn rfl),fun hn=>⟨(h8 hn).1,zy97 (h8 hn).2 hok2.size⟩⟩
  . intro i b hb
    by_cases hi:i∈L.map (·.2)
    . obtain ⟨p,hp,rfl⟩:=zy28.1 hi
      rw [hH3in p hp] at hb;have hok':=hafter p hp;cases hh:H'' p.1<;>rw [hh] at hb hok'<;>simp only [rnS] at hb<;>cases hb
      obtain ⟨l,h6,h7,h8⟩:=hok2.ro _ _ hh;exact ⟨l,by rw [zqe p hp];exact h6,yux hm32 hR2 hok' h7,fun hn=>hR2 _ (h8 hn)⟩
    . rw [hH3off i hi] at hb
      obtain ⟨l,h6,h7,h8⟩:=hok.ro _ _ hb;exact ⟨l,by rw [hoff i hi];exact h6,h7.mono hext hR3 fun hn=>(hR3 _ (h8 hn)).1,fun hn=>(hR3 _ (h8 hn)).2⟩
  . intro i i' b b' l l' h1 h2 h3 h4 h5 h6 h7
    by_cases hi:i∈L.map (·.2)<;>by_cases hi':i'∈L.map (·.2)
    . obtain ⟨p,hp,rfl⟩:=zy28.1 hi
      obtain ⟨q,hq,rfl⟩:=zy28.1 hi';obtain ⟨b2,h8,-⟩:=hliveL p hp _ h1;obtain ⟨b2',h9,-⟩:=hliveL q hq _ h2;rw [zqe p hp] at h3;rw [zqe q hq] at h4;have heq:=hok2.inj _ _ _ _ _ _ h8 h9 h3 h4 h5 h6 h7;exact congrArg Prod.snd (zux hBF1 hp hq heq)
    . obtain ⟨p,hp,rfl⟩:=zy28.1 hi
      obtain ⟨b2,h8,-⟩:=hliveL p hp _ h1;rw [zqe p hp] at h3;rw [hH3off i' hi'] at h2;rw [hoff i' hi'] at h4;exfalso;rcases (hlocL p hp b2 l h8 h3 h5).1 with h9 | h9
      . exact hunt _ i' l' b' hi' h2 h4 h6 h7.symm h9
      . obtain ⟨lx,h10,_,h11⟩:=hok.live _ _ h2
        rw [h4] at h10;cases h10;have:=(h11 h6).2;omega
    . obtain ⟨p,hp,rfl⟩:=zy28.1 hi'
      obtain ⟨b2,h8,-⟩:=hliveL p hp _ h2;rw [zqe p hp] at h4;rw [hH3off i hi] at h1;rw [hoff i hi] at h3;exfalso;rcases (hlocL p hp b2 l' h8 h4 h6).1 with h9 | h9
      . exact hunt _ i l b hi h1 h3 h5 h7 h9
      . obtain ⟨lx,h10,_,h11⟩:=hok.live _ _ h1
        rw [h3] at h10;cases h10;have:=(h11 h5).2;omega
    . rw [hH3off i hi] at h1
      rw [hoff i hi] at h3;rw [hH3off i' hi'] at h2;rw [hoff i' hi'] at h4;exact hok.inj _ _ _ _ _ _ h1 h2 h3 h4 h5 h6 h7
 have hws2:WS Γ H1 m w H3 m3 w':=⟨hext,hok3,hR3⟩
 refine ⟨v,m3,rfl,hws0.trans hws2,?_⟩;rw [h.val];exact xbo hm32 hR2 _ _ h.valOk hv2
theorem yfn {ps rs:Array TypeId} {t e:TypeId} {i:TypeInfo} (h0:ps[0]?=some t) (hu:P.underlying t=some (.slice e)) (hi:P.info? e=some i) (hs:0<i.size) {a b:Option Addr} {la ca lb cb:Nat}
 (h:la≠0->lb≠0->∃ x y p q arr arr' t1 t2,a=some ⟨x,p,none⟩/\b=some ⟨y,q,none⟩/\x≠y/\w.heap[x]?=some (.cells arr t1 (0,0))/\w.heap[y]?=some (.cells arr' t2 (0,0))) :
 (Extern.SlicesOverlaps.overlaps ps rs #[.slice a la ca,.slice b lb cb]).run P w=.ok (.bool false) w:=by
 have hsz:¬ i.size=0:=by omega
 conv=>lhs;arg 2;whnf
 rw [h0];by_cases h1:la=0
 . cases a<;>cases b<;>simp [run_underlying hu,sizeOf,typeInfo,hi,h1]
 by_cases h2:lb=0
 . cases a<;>cases b<;>simp [run_underlying hu,sizeOf,typeInfo,hi,h2]
 obtain ⟨x,y,p,q,arr,arr',t1,t2,rfl,rfl,hxy,hx,hy⟩:=h h1 h2;have hb:(x==y)=false:=by simpa using hxy
 have f1:∀ o,w.frozen? ⟨x,o,none⟩=false:=fun o=>by simp [World.frozen?,hx]
 have f2:∀ o,w.frozen? ⟨y,o,none⟩=false:=fun o=>by simp [World.frozen?,hy]
 have s1:w.shape? x=some (t1,arr.size):=by simp [World.shape?,hx]
 have s2:w.shape? y=some (t2,arr'.size):=by simp [World.shape?,hy]
 simp [run_underlying hu,sizeOf,typeInfo,hi,h1,h2,hsz,hxy,hb,f1,f2,s1,s2,noView,viewAt,mayBeOne,stringish]
theorem xbj {x:HV} {id:Nat} {v:Value} {blk:zie} (hok:zbc Γ m H w) (hx:x=.own id\/∃ n o l,x=.osl id n o l) (h:zax m w (RR Γ m H w) x v) (hb:H id=.live blk) (hc:(∀ t cs,blk≠.cells t cs)/\(∀ k a es,blk≠.map k a es)/\∀ k a es x,blk≠.iter k a es x) :
 ∃ a len c l,v=.slice a len c/\m id=some l/\(len≠0->l.nil=false/\(∃ o,a=some ⟨l.blk,o,none⟩)/\∃ arr t,w.heap[l.blk]?=some (.cells arr t (0,0))):=by
 obtain ⟨l,hl,hbr,_⟩:=hok.live id _ hb;have hheap:l.nil=false->∃ arr t,w.heap[l.blk]?=some (.cells arr t (0,0)):=by
  intro hn;cases blk with
  | cells t cs=>exact absurd rfl (hc.1 t cs)
  | map k a es=>exact absurd rfl (hc.2.1 k a es)
  | iter k a es x=>exact absurd rfl (hc.2.2 k a es x)
  | row t n rows =>
   obtain ⟨_,_,⟨h1,_⟩ | ⟨_,_,_,arr,h2,_⟩⟩:=hbr
   . rw [hn] at h1;cases h1
   . exact ⟨arr,t,h2⟩
  | buf t n rows c =>
   obtain ⟨_,_,_,_,_,arr,h2,_⟩:=hbr;exact ⟨arr,t,h2⟩
 rcases hx with rfl | ⟨n,o,len,rfl⟩
 . simp only [zax] at h
   obtain ⟨l',hl',rfl⟩:=h;rw [hl] at hl';cases hl';cases hn:l.nil with
   | true=>exact ⟨none,0,0,l,by simp [hdr,hn],hl,fun h=>absurd rfl h⟩
   | false=>exact ⟨_,_,_,l,by simp only [hdr,hn];rfl,hl,fun _=>⟨hn,⟨_,rfl⟩,hheap hn⟩⟩
 . obtain ⟨l',a,c,hl',h1,h2,h3,rfl,h5⟩:=zqq h
   rw [hl] at hl';cases hl';exact ⟨a,len,c,l,rfl,hl,fun h=>⟨(h5 h).1,⟨_,(h5 h).2⟩,hheap (h5 h).1⟩⟩
theorem yze {f:FuncId} {args:List HV} {r:Res} (h:Ov P f args H r) {vals:List Value} (hok:zbc Γ m H w) (hargs:zaz m w (RR Γ m H w) args vals) :
 ∃ v w' m',(callFunc f vals.toArray).run P w=.ok (.value v) w'/\WS Γ H m w (zdy H r.ups) m' w'/\zax m' w' (RR Γ m' (zdy H r.ups) w') r.val v:=by
 obtain ⟨fn,e,i,x,y,i1,i2,b1,b2,h1,h2,h3,h4,h5,⟨t,h6,h6'⟩,h7,h8,rfl,h10,h11,h12,h13,h14,h15,h16,rfl⟩:=h.out;simp only [zaz] at hargs;obtain ⟨vx,_,rfl,hx,vy,_,rfl,hy,rfl⟩:=hargs;obtain ⟨a,la,ca,l1,rfl,g1,g2⟩:=xbj hok h10 hx h13 h15;obtain ⟨b,lb,cb,l2,rfl,g3,g4⟩:=xbj hok h11 hy h14 h16;have zdz:=yfn (P:=P) (w:=w) (ps:=fn.params) (rs:=fn.resultTypes) h6 h6' h7 h8 (a:=a) (b:=b) (la:=la) (ca:=ca) (lb:=lb) (cb:=cb) (fun k1 k2=>by
  obtain ⟨n1,⟨o1,rfl⟩,arr1,t1,q1⟩:=g2 k1;obtain ⟨n2,⟨o2,rfl⟩,arr2,t2,q2⟩:=g4 k2;exact ⟨l1.blk,l2.blk,o1,o2,arr1,arr2,t1,t2,rfl,rfl,fun he=>h12 (hok.inj _ _ _ _ _ _ h13 h14 g1 g3 n1 n2 he),q1,q2⟩)
 refine ⟨.bool false,w,m,?_,.refl hok,zee _ rfl⟩;simp [callFunc,h1,h2,h3,h4,h5,zdz]
theorem ywt:zjg P (CR P):=by
 intro f args H d r h Γ m w vals hok hargs;cases h with
 | lend h=>exact .inl (yov h hok hargs)
 | zii h=>exact .inl (yoh h hok hargs)
 | ov h=>exact .inr (yze h hok hargs)
def xbx (pins:List Nat) (v:HV) (H2:Nat->zad) (r:HV) (H':Nat->zad):Prop:=HLe (zsh [v] 1 H2 pins) (zsh [r] 1 H' pins)
theorem yfl {f : FuncId} {fn : Func} {c : Code} (hf : P.funcs[f]? = some fn) (hb : fn.body = some c) (hn : fn.name ≠ "runtime.NumGoroutine") (vals : Array Value) :
 (callFunc f vals).run P w=.ok (.enter f vals) w:=by
 simp [callFunc,hf,hb,hn]
theorem zxp (hm : P.follows .mixedOrders = true) {f : FuncId} {fn : Func} (hf : P.funcs[f]? = some fn) (hn : fn.name ≠ "runtime.NumGoroutine") {args : List HV} {pins : List Nat} (hpins : ∀ id, pin <= id -> H id = .free \/ id ∈ pins) {K : HV -> (Nat -> zad) -> Prop}
 (h:xhs P (CR P) fn args H pins K) {vals:List Value} (hok:zbc Γ m H w) (hargs:zaz m w (RR Γ m H w) args vals) (h0:Γ.m0=m) :
 (callFunc f vals.toArray).run P w=.ok (.enter f vals.toArray) w /\
 Calls P f vals.toArray w fun e w'=>∃ x H' v m',e=.returned v/\K x H'/\zbc Γ m' H' w'/\zax m' w' (RR Γ m' H' w') x v/\∀ id l,pin<=id->m id=some l->m' id=some l:=by
 unfold xhs at h;split at h
 . rename_i c hb
   refine ⟨yfl hf hb hn _,?_⟩;obtain ⟨hle,h⟩:=zav h;have hle:=zy9 hle;have hlen:=hargs.length;refine calls_of_wp hf hb ?_;have hc:zmf Γ P m (zsh args fn.ntmps H pins) {tmps:=vals.toArray++Array.replicate (fn.ntmps-vals.toArray.size) undef,defers:=[]} w:=by
    refine ⟨hok,fun t=>?_,by simp [zsh];omega,rfl,fun id l hp hl=>⟨?_,by rw [<- h0];exact hl⟩⟩
    rotate_left
    . rcases hpins id hp with hf | hf
      . rw [h0,hok.free id hf] at hl;cases hl
      . exact hf
    simp only [zsh,zgq];rw [zy78,Array.getElem?_append];by_cases ht:t<args.length
    . obtain ⟨v,hv,hrep⟩:=hargs.get t args[t] (zy3 ht)
      rw [zy1 (by simpa [hlen] using ht),zy3 ht];simp only [zy140,List.getElem?_toArray,hv];exact hrep
    . rw [zy0 (by simpa [hlen] using ht),zy52 (by omega)]
      simp only [Option.getD_none,zax];rw [Array.getElem?_replicate];split<;>rfl
   refine ysy hm ywt yws c _ _ _ m _ w h hc fun e s' m' a' w' he hc'=>?_
   have fin:xaz P s' fn.results.toList (fun v=>K v s'.heap)->∃ v,(results fn a'.tmps).run P w'=.ok v w'/\∃ x H' v0 m',Ending.returned v=.returned v0/\K x H'/\zbc Γ m' H' w'/\zax m' w' (RR Γ m' H' w') x v0/\∀ id l,pin<=id->m id=some l->m' id=some l:=by
    intro hr;obtain ⟨x,v,h1,h2,h3⟩:=xds hc' hr;exact ⟨v,h3,x,s'.heap,v,m',rfl,h1,hc'.heap,h2,fun id l hp hl=>(hc'.pin id l hp (by rw [h0];exact hl)).2⟩
   cases e with
   | exit i=>exact he.elim
   | normal=>exact ⟨hc'.defers,fin he⟩
   | ret=>exact ⟨hc'.defers,fin he⟩
 . exact h.elim
theorem xbx.rep (P:Program) {pins:List Nat} {x r:HV} {H2 H':Nat->zad} {v:Value} (h:xbx pins x H2 r H') (hok:zbc Γ m H2 w) (hv:zax m w (RR Γ m H2 w) x v) (hp:∀ id l,pin<=id->Γ.m0 id=some l->id∈pins/\m id=some l) :
 ∃ m',zbc Γ m' H' w/\zax m' w (RR Γ m' H' w) r v/\∀ id l,pin<=id->Γ.m0 id=some l->m' id=some l:=by
 have hc:zmf Γ P m (zsh [x] 1 H2 pins) {tmps:=#[v],defers:=[]} w:=by
  refine ⟨hok,fun t=>?_,rfl,rfl,hp⟩;cases t with
  | zero=>exact hv
  | succ t=>simp only [zsh,zgq,zy87,List.getElem?_nil,Option.getD_none,zax];simp
 obtain ⟨m',hc'⟩:=HLe.conc hc h;exact ⟨m',hc'.heap,hc'.slots 0,fun id l h1 h2=>(hc'.pin id l h1 h2).2⟩
theorem zan (hm : P.follows .mixedOrders = true) {f : FuncId} {fn : Func} (hf : P.funcs[f]? = some fn) (hn : fn.name ≠ "runtime.NumGoroutine") (pins : List Nat) (hpins : ∀ id, H id = .free \/ id ∈ pins) {args : List HV} {r : HV} {H' : Nat -> zad}
 (h:xhs P (CR P) fn args H pins fun x H2=>xbx pins x H2 r H'):zao P f args H r H':=by
 intro Γ m w vals hok hargs h0;obtain ⟨h1,h2⟩:=zxp hm hf hn (fun id _=>hpins id) h hok hargs h0;refine ⟨h1,h2.mono fun e w' he=>?_⟩;obtain ⟨x,H2,v,m',rfl,hk,hok',hv,hp⟩:=he;have hmem:∀ id l,m id=some l->id∈pins:=fun id l hl=>(hpins id).resolve_left fun hf=>by rw [hok.free id hf] at hl;cases hl
 obtain ⟨m2,h3,h4,h5⟩:=hk.rep P hok' hv fun id l hi hl=>⟨hmem id l (by rw [<- h0];exact hl),hp id l hi (by rw [<- h0];exact hl)⟩
 exact ⟨v,m2,rfl,h3,h4,fun id l hi hl=>h5 id l hi (by rw [h0];exact hl)⟩
theorem zap (hm : P.follows .mixedOrders = true) {f : FuncId} {fn : Func} (hf : P.funcs[f]? = some fn) (hn : fn.name ≠ "runtime.NumGoroutine") {args : List HV} {r : HV}
 (h:xhs P (CR P) fn args zae [] fun x H2=>zgh H2 x fun y _=>zuh (znt P fn.resultTypes.toList y) fun y=>y=r):zao P f args zae r zae:=by
 intro Γ m w vals hok hargs h0;obtain ⟨h1,h2⟩:=zxp hm hf hn (fun _ _=>.inl rfl) h hok hargs h0;refine ⟨h1,h2.mono fun e w' he=>?_⟩;obtain ⟨x,H2,v,m',rfl,hk,hok',hv,hp⟩:=he;obtain ⟨y,us,hy,hview⟩:=zjq _ hk;rw [zui] at hy;subst hy;have hws:=WS.frz hok' hview.frz;have hy:=hview.rep m' w' _ v (WS.kept hview.frz hws.ok) (hws.rep hv);have hRn:∀ b,RR Γ m' (zdy H2 us) w' b->RR Γ (fun _=>none) zae w' b:=fun b hb=>⟨hb.1,hb.2.1,yas⟩
 refine ⟨v,fun _=>none,rfl,⟨hok'.size,hok'.os,hok'.tape,hok'.output,hok'.frame,fun _ _=>rfl,(fun id b hb=>by cases hb),(fun id b hb=>by cases hb),(fun id id' b b' l l' hb=>by cases hb),hok'.dom⟩,?_,fun id l _ hl=>?_⟩
 . refine zax.znt _ ?_
   refine ymv (σ:=zqm) (m:=m') (R:=RR Γ m' (zdy H2 us) w') (fun i j hj=>by cases hj) (fun i hj=>by cases hj) hRn _ v hview.noid ?_;rw [ybc _ hview.noid];exact hy
 . rw [hok.free id rfl] at hl;cases hl
end
end Go.HL
