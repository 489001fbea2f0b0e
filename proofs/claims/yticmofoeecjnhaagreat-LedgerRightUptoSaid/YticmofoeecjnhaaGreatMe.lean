/- Walks, contracts and laws of the law's functions: part 5. No condition. -/
import Derived.Test.YticmofoeecjnhaaGreatMd
open Go.Proofs
set_option maxHeartbeats 32000000
set_option maxRecDepth 100000
set_option linter.unusedSimpArgs false
theorem yy37 {P:Prop} (h:P:=by
 try refine sG ?_
 rw [hjv];refine zap [(0,none)] rfl rfl trivial rfl rfl ⟨⟨rfl,.inr ⟨rfl,rfl⟩⟩,trivial⟩):P:=h
theorem yy145 {P:Prop} (h:P:=by
 intro hlt;have:=zy147 (ytr n) l;rw [show l.dropWhile (ytr n)=t::r from ha] at this;simp [ytr] at this;omega):P:=h
theorem yy68 {P:Prop} (h:P:=by
 refine zap [(0,some 24)] rfl rfl trivial rfl rfl ⟨⟨rfl,.inl ⟨24,rfl,rfl⟩⟩,trivial⟩):P:=h
theorem yy69 {P:Prop} (h:P:=by
 (conv=>whnf);rw [zjl,zy1 he];refine zap [(0,some 84)] rfl rfl trivial rfl rfl ⟨⟨rfl,.inl ⟨84,rfl,?_⟩⟩,trivial⟩;exact yba zz130):P:=h
theorem yy141 {P:Prop} (h:P:=by
 subst hu;refine zap [(0,some 31)] rfl rfl trivial rfl rfl ⟨⟨rfl,.inl ⟨31,rfl,?_⟩⟩,trivial⟩;exact yba h):P:=h
theorem yy139 {P:Prop} (h:P:=by
 refine sT ?_;refine sF ?_;exact ⟨⟨((a++[s],r),put,o),zag h,ht,by simp;omega⟩,(zbi [(900,some 900)]),by simp⟩):P:=h
theorem yy25 {P:Prop} (h:P:=by
 (conv=>whnf);refine sF ?_;refine zaa (c:=(0<=(if 0>c.streams then 0 else c.streams:Int)/\(if 0>c.streams then 0 else c.streams:Int)=(if 0>c.streams then 0 else c.streams:Int)/\(if 0>c.streams then 0 else c.streams:Int)*(8:Nat)<=140737488355328)) (by split<;>omega) (zw ?_);refine sD ?_;refine zap [(0,none),(1,none),(2,some 10),(3,none)] rfl rfl trivial rfl rfl ⟨⟨rfl,.inr ⟨rfl,rfl⟩⟩,⟨rfl,.inr ⟨rfl,rfl⟩⟩,⟨rfl,.inl ⟨10,rfl,?_⟩⟩,⟨rfl,.inr ⟨rfl,rfl⟩⟩,trivial⟩;refine zas ?_;rw [show (zyz c).zbh=List.replicate (max c.streams 0).toNat 0 from rfl,zy83];have:(max c.streams 0).toNat=(if 0>c.streams then 0 else c.streams:Int).toNat:=by split<;>omega
 rw [this];rfl):P:=h
theorem yy27 {P:Prop} (h:P:=by
 (conv=>whnf);refine ⟨{x:List zav×List zav // r.pieces=x.1++x.2},fun | ⟨(A,B),_⟩=>hs 21 [(3,i64 (tot A:Nat)),(7,pieces r.pieces),(8,i64 r.pieces.length),(9,i64 A.length)] [],fun x=>x.1.2.length,⟨([],r.pieces),rfl⟩,?_,?_⟩
 . exact (zbi [])
 rintro ⟨⟨A,B⟩,h⟩;dsimp only at h;have hl:r.pieces.length=A.length+B.length:=by rw [h];simp
 have ht:tot r.pieces=tot A+tot B:=by rw [h,zno]
 (conv=>whnf);cases B with
 | cons p B =>
  rw [zy6] at hl;rw [zfq] at ht;refine sT ?_;refine zak h rfl (zw ?_);refine sF ?_;refine sF ?_;exact ⟨⟨(A++[p],B),by rw [h];simp⟩,(zay [] zz73),by simp⟩
 | nil =>
  rw [zy14] at hl;rw [zy4] at h;refine sN ?_;rw [h]):P:=h
theorem yy92 {P:Prop} (h:P:=by
 (exact zck (pK5 [(0,some 910),(1,some 911),(2,some 912),(3,some 913)]))):P:=h
theorem yy119 {P:Prop} (h:P:=by
 (exact zck (pK5 [(0,some 1001),(1,some 1002),(2,some 1003),(3,some 1004)]))):P:=h
theorem yy58 {P:Prop} (h:P:=by
 refine sD ?_
 (exact zck [(0,some 910),(1,some 911),(2,some 912),(3,some 913)])):P:=h
theorem yy112 {P:Prop} (h:P:=by
 try refine sG ?_
 (exact zck [(0,some 910),(1,some 911),(2,some 912),(3,some 913)])):P:=h
theorem yy64 {P:Prop} (h:P:=by
 refine ⟨by dsimp only;omega,by dsimp only;omega,by dsimp only;omega,u3,u5,fun s hs=>?_,by dsimp only;omega,?_,h9,fun t htt=>by have:=h10 t htt;dsimp only;omega,h11⟩
 . have:=h6 s (u4 s hs);dsimp only;omega
 . dsimp only
   rcases u6 with u6 | ⟨s,hs,u6⟩
   . omega
   . have:=h6 s hs;omega):P:=h
theorem yy31 {P:Prop} (h:P:=by
 try refine sG ?_
 refine zaa (c:=(((a.filter fun p=>!zei c.stream c.mid c.ordered p).map zav.row).length+1)*136<=140737488355328) zz3 (zw ?_)
 try refine sG ?_
 refine sF ?_;exact ⟨⟨(a++[p],b),zag h⟩,(zay [(3,some 3),(900,some 900),(901,some 45)] zz38),by simp⟩):P:=h
theorem yy14 {P:Prop} (h:P:=by
 conv=>whnf
 try refine sO ?_
 refine zcb k rfl h4 (zw ?_)
 (refine cL ?_;refine dL (zdb _) ?_)
 (refine cP ?_;refine dL ps ?_)
 refine sD ?_;cases ok with
 | false =>
  have hstep:T=y:=hstep;rw [hno rfl] at hstep;subst hstep;(conv=>whnf)
  try refine sG ?_
  try rfl
 | true =>
  have hless:=hless rfl;(conv=>whnf)
  try refine sG ?_
  refine zaa (c:=(([]:List (List PV)).length+(y.zbh.map fun n=>[pi n]).length)*8<=140737488355328) (by rw [zy3,k1];simp;omega) (zw ?_);refine sO ?_;refine zcb k rfl h4' (zw ?_);rw [hyk];refine sF ?_;refine sO ?_;refine zcb k rfl h4' (zw ?_);have hb:(zzc y k).zbh[k]?.getD 0=x.zbh[k]+1:=by
   show (y.zbh.set k (y.zbh[k]?.getD 0+1))[k]?.getD 0=_;rw [zy23 h4',zy2 h4',hyk];rfl
  refine ⟨⟨(true,zzc y k),⟨by show y.pieces.length<_;omega,by show tot y.pieces<_;omega,by show y.log.length+y.pieces.length<_;omega,by show k<(y.zbh.set k _).length;rw [zy25];exact h4',by rw [hb];omega,by rw [hb];show _+(y.pieces.length:Int)<_;omega⟩,by rw [hstep];rfl,by show (y.zbh.set k _).length<_;rw [zy25,k1];exact h9⟩,(zay [(2,some 2),(4,some 4),(900,some 26)] zz24),by show y.pieces.length<x.pieces.length;omega⟩):P:=h
theorem yy10 {P:Prop} (h:P:=by
 (conv=>whnf);by_cases c5:m<=n
 . rw [zyu g4 (by rw [gm];exact c5)] at he
   obtain ⟨k1,k2,k3,k4,k5,k6,k7⟩:=zjh y k;have hgt:(pass y k).zbh[k]?.getD 0=m+1:=by rw [k1,zy23 g4,gm];rfl
   have nx:yvv (pass y k) k/\(pass y k).zbh[k]?.getD 0=m+1/\m+1<=2 ^ 58/\turns (ybs (pass y k) k n) k=T/\(pass y k).zbh.length<2 ^ 30:=⟨⟨by omega,by omega,by omega,by rw [k1,zy25];exact g4,by rw [hgt];omega,by rw [hgt];omega⟩,hgt,by omega,he,by rw [k1,zy25];exact g9⟩
   have hpas:=yiv (r:=y) (k:=k) gm;have hrt:=yjd y k (tag m) true true;refine sT ?_
   (refine cL ?_;refine dL (zdb m) ?_)
   rw [<- hk] at hpas hrt
   (refine cP ?_;refine dL (ybk y s.stream (tag m) (tag m) rfl zz0 zz0 zz0) ?_)
   generalize ynb y s.stream (tag m) true true=D' at hpas hrt ⊢;obtain ⟨w,okk⟩:=D';dsimp only at hpas hrt;have hwl:k<w.zbh.length:=by rw [hrt];exact g4
   refine sD ?_;refine zaa (c:=(([]:List (List PV)).length+(w.zbh.map fun n=>[pi n]).length)*8<=140737488355328) (by rw [zy3,hrt];simp;omega) (zw ?_)
   repeat refine sG ?_
   refine sF ?_;refine sO ?_;refine zcb k zz0 hwl (zw ?_);refine sF ?_;rw [hpas] at nx;refine hQ _ _ ?_;conv=>whnf
   have nx:xnj k n T (true,zzc w k,m+1):=nx;exact ⟨⟨(true,zzc w k,m+1),nx⟩,(zay [(2,some 2),(4,some 4),(7,some 7),(900,some 103)] zz35),by dsimp only;omega⟩
 . rw [yfh (by rw [gm];omega)] at he
   subst he;refine sN ?_;refine hQ _ _ ?_;conv=>whnf
   (refine cP ?_;refine dL (ziq y k _ hk rfl ⟨g1,g2,g3,g4,by rw [gm];omega,by rw [gm];omega⟩ g9) ?_)
   refine sF ?_;refine hQ0 _ _ (zw ?_);exact ⟨⟨(turns y k,a++[s],b),zag h1,next,h3⟩,(zbi [(2,some 2),(4,some 4)]),by simp⟩):P:=h
theorem yy124 {P:Prop} (h:P:=by
 repeat refine sG ?_
 refine sF ?_;refine hQ0 _ _ (zw ?_);exact ⟨⟨(x,a++[s],b),zag h1,next,h3⟩,(zbi [(2,some 2),(4,some 4)]),by simp⟩):P:=h
theorem yy18 {P:Prop} (h:P:=by
 rintro ⟨⟨A,B⟩,h⟩;dsimp only at h;have hl:r.zar.length=A.length+B.length:=by rw [h];simp
 (conv=>whnf);cases B with
 | cons p B =>
  have hp:=hsp p zz106;rw [zy6] at hl;have hq:((A.take 6).map (shift r.cum)).length=min 6 A.length:=by simp
  refine sT ?_;refine zak h rfl (zw ?_);have hsn:=ztm A p (shift r.cum);by_cases c:A.length<6
  . rw [zy1 c] at hsn
    refine sT ?_;refine sF ?_;refine sF ?_;refine zaa (c:=((((A.take 6).map (shift r.cum)).map Span.row).length+1)*16<=140737488355328) zz3 (zw ?_)
    try refine sG ?_
    refine sF ?_;refine ⟨⟨(A++[p],B),by rw [h];simp⟩,(zay [(1,some 1),(2,some 2),(3,some 3),(900,some 42)] zz50),by simp⟩
  . rw [zy0 c] at hsn
    refine sN ?_;refine sF ?_;refine ⟨⟨(A++[p],B),by rw [h];simp⟩,(zay [(1,some 1),(2,some 2),(3,some 3),(900,some 900)] zz53),by simp⟩
 | nil =>
  rw [zy14] at hl;rw [zy4] at h;refine sN ?_;rw [h]
  try rfl):P:=h
theorem yy21 {P:Prop} (h:P:=by
 exact zap [(0,some 20)] rfl rfl trivial rfl rfl ⟨⟨rfl,.inl ⟨20,rfl,rfl⟩⟩,trivial⟩):P:=h
theorem yy39 {P:Prop} (h:P:=by
 refine sD ?_;exact zap [(0,some 950)] rfl rfl trivial rfl rfl ⟨⟨rfl,.inl ⟨950,rfl,rfl⟩⟩,trivial⟩):P:=h
namespace Go.HL
namespace Snd
open Ser
def ybx (L:List Message) (k:Nat):Prop:=∀ m,L[k]?=some m->m.life≠0\/m.tries≠0
structure KI (L:List Message) (s:zae):Prop where
 len:s.fates.length=L.length
 queue:∀ m∈s.queue,L[m.id.toNat]?=some m.message
 out:∀ x∈s.out,(x.life>0\/x.tries>0)->ybx L x.id.toNat
 gone:∀ k:Nat,s.fates[k]?=some 3->ybx L k
theorem zzz {L:List Message} (id:Int):∀ (q:List zaj) (s:zae),(∀ x∈s.out,(x.life>0\/x.tries>0)->ybx L x.id.toNat)->∀ x∈(q.foldl (zes id) s).out,(x.life>0\/x.tries>0)->ybx L x.id.toNat
 | [],s,h,x,hx=>h x hx
 | m::q,s,h,x,hx=>by
  refine zzz id q (zes id s m) (fun y hy=>?_) x hx;unfold zes at hy;split at hy
  . rcases zy13.1 hy with hy | hy
    . exact h y hy
    . rw [zy11] at hy;subst hy
      intro hh;rcases hh with hh | hh<;>exact absurd hh (Int.lt_irrefl 0)
  . exact h y hy
section
variable {L:List Message} {s:zae}
theorem yxp (h:KI L s) {id:Nat} (hid:ybx L id):KI L (zeu s id):=by
 refine ⟨by rw [zgg,zy25];exact h.len,fun m hm=>?_,fun x hx=>?_,fun k hk=>?_⟩
 . rw [zlc] at hm;exact h.queue m (zy56.1 hm).1
 . rw [zqm] at hx
   obtain ⟨y,hy,rfl⟩:=zy27.1 hx;have:=zzz id s.queue {s with fates:=s.fates.set id 3} h.out y hy;unfold Sco.zgk;split<;>exact this
 . rw [zgg] at hk
   by_cases e:id=k
   . subst e;exact hid
   . rw [zy50 e] at hk;exact h.gone k hk
theorem xhy (h:KI L s) {m:zaj} (hm:L[m.id.toNat]?=some m.message) (h0:0<=m.id):KI L (zjf s m):=by
 unfold zjf;split
 . rename_i c
   obtain ⟨k,hk⟩:∃ k:Nat,m.id=k:=⟨m.id.toNat,by omega⟩
   rw [hk] at hm ⊢;refine yxp h fun y hy=>?_
   rw [zy24,hy] at hm;cases hm;unfold old at c;simp only [zy16,zy34] at c
   left;omega
 . exact h
theorem xib (h:KI L s) {x:zbq} (hx:(x.life>0\/x.tries>0)->ybx L x.id.toNat) (h0:0<=x.id):KI L (zgz s x):=by
 unfold zgz;split
 . rename_i c
   obtain ⟨k,hk⟩:∃ k:Nat,x.id=k:=⟨x.id.toNat,by omega⟩
   rw [hk] at hx ⊢;refine yxp h (hx ?_);unfold xcf old at c;simp only [zy16,zy79,zy34] at c;rcases c.2.2 with d | d
   . exact .inl d.1
   . exact .inr d.2.1
 . exact h
theorem yoy:∀ (q:List zaj) {s:zae},KI L s->(∀ m∈q,L[m.id.toNat]?=some m.message/\0<=m.id)->KI L (q.foldl zjf s)
 | [],_,h,_=>h
 | m::q,s,h,hq=>yoy q (xhy h (hq m zz5).1 (hq m zz5).2) fun x hx=>hq x zz52
theorem ypc:∀ (q:List zbq) {s:zae},KI L s->(∀ x∈q,((x.life>0\/x.tries>0)->ybx L x.id.toNat)/\0<=x.id)->KI L (q.foldl zgz s)
 | [],_,h,_=>h
 | m::q,s,h,hq=>ypc q (xib h (hq m zz5).1 (hq m zz5).2) fun x hx=>hq x zz52
theorem ygj {N:Nat} (h:KI L s) (hs:SI N s):KI L (expire s):=by
 have h1:=yoy s.queue h fun m hm=>⟨h.queue m hm,(hs.queue m hm).id0⟩
 obtain ⟨h2,-⟩:=zny s.queue s hs fun m hm=>⟨(hs.queue m hm).id0,(hs.queue m hm).id1⟩
 exact ypc _ h1 fun x hx=>⟨h1.out x hx,(h2.out x hx).id0⟩
theorem KI.side {t:zae} (h:KI L s) (h1:t.fates=s.fates) (h2:∀ m∈t.queue,∃ y∈s.queue,y.id=m.id/\y.message=m.message) (h3:∀ x∈t.out,∃ y∈s.out,y.id=x.id/\y.life=x.life/\y.tries=x.tries):KI L t:=by
 refine ⟨by rw [h1];exact h.len,fun m hm=>?_,fun x hx=>?_,by rw [h1];exact h.gone⟩
 . obtain ⟨y,hy,e1,e2⟩:=h2 m hm;rw [<- e1,<- e2];exact h.queue y hy
 . obtain ⟨y,hy,e1,e2,e3⟩:=h3 x hx;rw [<- e1,<- e2,<- e3];exact h.out y hy
theorem yac {o:List (List Chunk)} (h:KI L s):KI L (forward ⟨s,o⟩).s:=by
 unfold forward;split
 . exact h
 . exact h.side rfl (fun m hm=>⟨m,hm,rfl,rfl⟩) fun x hx=>⟨x,hx,rfl,rfl,rfl⟩
theorem xgh {p:zep} (h:KI L p.s) (i path:Nat):KI L (fly p i path).s:=by
 unfold fly;split
 . exact h
 . rename_i x hx
   refine h.side rfl (fun m hm=>⟨m,hm,rfl,rfl⟩) fun y hy=>?_
   rcases zy48 hy with hy | rfl
   . exact ⟨y,hy,rfl,rfl,rfl⟩
   . exact ⟨x,zy7 hx,rfl,rfl,rfl⟩
theorem zvw {path:Nat}:∀ (l:List Nat) {p:zep},KI L p.s->KI L (l.foldl (zcu path) p).s
 | [],_,h=>h
 | i::l,p,h=>by
  refine zvw l ?_;unfold zcu;split
  . exact h
  . split
    . exact xgh h _ _
    . exact h
theorem xlh (h:KI L s) {k:Nat} {m:zaj} (hm:s.queue[k]?=some m):KI L (zrx s k m):=by
 have hmq:=zy7 hm;refine ⟨h.len,fun y hy=>?_,fun x hx=>?_,h.gone⟩
 . have hy:y∈(if decide (m.sent+many s m=m.message.data.length) then s.queue.eraseIdx k else s.queue.set k {m with mid:=zcp s m,sent:=m.sent+many s m,parts:=W (m.parts+1)}):=hy
   split at hy
   . exact h.queue y (zy60 hy)
   . rcases zy48 hy with hy | rfl
     . exact h.queue y hy
     . exact h.queue m hmq
 . have hx:x∈s.out++[_]:=hx
   rcases zy13.1 hx with hx | hx
   . exact h.out x hx
   . rw [zy11] at hx;subst hx
     intro hh y hy;rw [show L[m.id.toNat]?=some m.message from h.queue m hmq] at hy;cases hy;have hh:m.message.life>0\/m.message.tries>0:=hh;omega
theorem yzf {p q:zep} (h:KI L p.s) (hq:next p=some q):KI L q.s:=by
 obtain ⟨s,o⟩:=p;unfold next at hq;dsimp only at hq h;split at hq
 . cases hq
 cases hm:s.queue[(zdu s).toNat]? with
 | none=>rw [hm] at hq;cases hq
 | some m =>
  rw [hm] at hq;dsimp only at hq;split at hq
  . cases hq
  . cases hq
    rw [zfu];exact xgh (p:=⟨zrx s (zdu s).toNat m,o⟩) (xlh h hm) _ _
theorem yqw:∀ (n:Nat) {p:zep},KI L p.s->KI L (zew n p).s
 | 0,_,h=>h
 | n+1,p,h=>by
  unfold zew;split
  . exact h
  . rename_i q hq;exact yqw n (yzf h hq)
theorem xjm {N:Nat} (h:KI L s) (hs:SI N s):KI L (zit s).1:=by
 have h1:KI L (zmn s).s:=yqw 61 (zvw _ (yac (ygj h hs)));exact h1.side rfl (fun m hm=>⟨m,hm,rfl,rfl⟩) fun x hx=>⟨x,hx,rfl,rfl,rfl⟩
theorem xjy {N:Nat} (h:KI L s) (hs:SI N s) (m:Message):KI (L++[m]) (zgv s m):=by
 have hl:=h.len;have up:∀ {k:Nat},k<L.length->ybx L k->ybx (L++[m]) k:=fun hk hh y hy=>by
  rw [zy30 hk] at hy;exact hh y hy
 refine ⟨by show (s.fates++[1]).length=_;simp;omega,fun q hq=>?_,fun x hx=>?_,fun k hk=>?_⟩
 . have hq:q∈s.queue++[_]:=hq
   rcases zy13.1 hq with hq | hq
   . have:=h.queue q hq
     rw [zy30 (zy8.1 this).1];exact this
   . rw [zy11] at hq;subst hq
     show (L++[m])[((s.fates.length:Nat):Int).toNat]?=some m;rw [zy24,hl,zy37 (zy28 _),zy91];rfl
 . intro hh y hy
   have hx:x∈s.out:=hx;have h1:=h.out x hx hh;have h2:=(hs.out x hx).id1;have h3:=(hs.out x hx).id0;exact up zz0 h1 y hy
 . have hk:(s.fates++[1])[k]?=some 3:=hk
   rcases zy67 k s.fates.length with hk2 | hk2
   . rw [zy30 hk2] at hk;exact up zz0 (h.gone k hk)
   . rw [zy37 hk2] at hk
     rcases zy118 (k-s.fates.length) with e | e
     . rw [e] at hk;cases hk
     . rw [zy51 (by simp;omega)] at hk;cases hk
theorem xdv (h:KI L s) (part:Int) (i:Nat):KI L (zhs part s i):=by
 unfold zhs;split
 . exact h
 split
 . exact h
 have h2:∀ f,KI L {s with out:=s.out.map (Sco.late i),paths:=f}:=fun f=>h.side rfl (fun m hm=>⟨m,hm,rfl,rfl⟩) fun x hx=>by
  obtain ⟨y,hy,rfl⟩:=zy27.1 (show x∈s.out.map (Sco.late i) from hx);exact ⟨y,hy,by unfold Sco.late;split<;>rfl,by unfold Sco.late;split<;>rfl,by unfold Sco.late;split<;>rfl⟩
 dsimp only;split
 . exact (h2 []).side rfl (fun m hm=>⟨m,hm,rfl,rfl⟩) fun x hx=>⟨x,hx,rfl,rfl,rfl⟩
 . exact h2 _
theorem yqm (part:Int):∀ (l:List Nat) {s:zae},KI L s->KI L (l.foldl (zhs part) s)
 | [],_,h=>h
 | i::l,_,h=>yqm part l (xdv h part i)
theorem xkg (h:KI L s):KI L (tick s):=yqm _ _ (h.side rfl (fun m hm=>⟨m,hm,rfl,rfl⟩) fun x hx=>⟨x,hx,rfl,rfl,rfl⟩)
end
theorem yoq (s:zae) (id:Nat):(zeu s id).config=s.config:=(zjm s id).1.config
theorem ygh:∀ (q:List zaj) (s:zae),(∀ m∈q,0<=m.id)->(q.foldl zjf s).config=s.config
 | [],_,_=>rfl
 | m::q,s,h=>by
  rw [zy49,ygh q _ fun x hx=>h x (by simp [hx])];unfold zjf;split
  . have:=h m zz5
    rw [show m.id=((m.id.toNat:Nat):Int) by omega];exact yoq s _
  . rfl
theorem ygi:∀ (q:List zbq) (s:zae),(∀ m∈q,0<=m.id)->(q.foldl zgz s).config=s.config
 | [],_,_=>rfl
 | m::q,s,h=>by
  rw [zy49,ygi q _ fun x hx=>h x (by simp [hx])];unfold zgz;split
  . have:=h m zz5
    rw [show m.id=((m.id.toNat:Nat):Int) by omega];exact yoq s _
  . rfl
theorem yta {N:Nat} {s:zae} (h:SI N s):(expire s).config=s.config:=by
 obtain ⟨h2,-⟩:=zny s.queue s h fun m hm=>⟨(h.queue m hm).id0,(h.queue m hm).id1⟩
 unfold expire;rw [ygi _ _ fun x hx=>(h2.out x hx).id0,ygh _ _ fun m hm=>(h.queue m hm).id0]
theorem yxe (p:zep) (i c:Nat):(fly p i c).s.config=p.s.config:=by unfold fly;split<;>rfl
theorem zzq {c:Nat}:∀ (l:List Nat) (p:zep),(l.foldl (zcu c) p).s.config=p.s.config
 | [],_=>rfl
 | i::l,p=>by
  rw [zy49,zzq l];unfold zcu;split
  . rfl
  . split
    . exact yxe _ _ _
    . rfl
theorem xee {p q:zep} (h:next p=some q):q.s.config=p.s.config:=by
 obtain ⟨s,o⟩:=p;unfold next at h;dsimp only at h;split at h
 . cases h
 cases hm:s.queue[(zdu s).toNat]? with
 | none=>rw [hm] at h;cases h
 | some m =>
  rw [hm] at h;dsimp only at h;split at h
  . cases h
  . cases h
    rw [zfu,yxe];rfl
theorem yia:∀ (n:Nat) (p:zep),(zew n p).s.config=p.s.config
 | 0,_=>rfl
 | n+1,p=>by
  unfold zew;split
  . rfl
  . rename_i q hq;rw [yia n q,xee hq]
theorem ylv (p:zep):(forward p).s.config=p.s.config:=by unfold forward;split<;>rfl
theorem xfa {N:Nat} {s:zae} (h:SI N s):(zit s).1.config=s.config:=by
 show (zmn s).s.config=_;unfold zmn;rw [yia];unfold again;rw [zzq,ylv];exact yta h
theorem ykn {l:List Step} (h:zjy (l.map Step.row)<=1048576):(∀ x∈l,x.message.data.length<=1048576)/\l.length<=1048576:=by
 have h1:∀ x:Step,x.message.data.length+1<=zhe x.row:=fun x=>by
  have h1:=yqo (f:=zcs) (fun x=>by simp [zcs,zhe,PV.bulk]) x.message.data;simp only [Step.row,zhe,PV.bulk];omega
 refine ⟨fun x hx=>?_,?_⟩
 . have h2:=yqr (f:=Step.row) hx
   have:=h1 x;omega
 . have:=yqo (f:=Step.row) (fun x=>by have:=h1 x;omega) l
   omega
end Snd
namespace Jn
open Srt
def zjb (n:Nat):Nat->List zav->Option (List UInt8)
 | _,[]=>some []
 | i,p::r=>if p.chunk.part=(i:Int)/\p.chunk.last=decide (i+1=n) then (zjb n (i+1) r).map (p.chunk.data++·) else none
def join (l:List zav):Option (List UInt8):=if l=[] then none else zjb l.length 0 (srt ck l)
def at_ (k:Nat) (p:zav):Bool:=decide (p.chunk.part=(k:Int))
def ziu (l:List zav) (n:Nat):Nat->Nat->Option (List UInt8)
 | _,0=>some []
 | k,m+1=>match l.filter (at_ k) with
  | [p]=>if p.chunk.last=decide (k+1=n) then (ziu l n (k+1) m).map (p.chunk.data++·) else none
  | _=>none
theorem filter_one {α:Type} {f:α->Bool} {l l':List α} (h:l.Perm l') (p:α):l.filter f=[p]↔l'.filter f=[p]:=by
 have:=h.filter f
 constructor
 . intro e;rw [e] at this;exact List.perm_singleton.1 this.symm
 . intro e;rw [e] at this;exact List.perm_singleton.1 this
theorem xaf {l l':List zav} (h:l.Perm l') (n:Nat):∀ (m k:Nat),ziu l n k m=ziu l' n k m
 | 0,k=>rfl
 | m+1,k=>by
  have hf:=fun p=>filter_one (f:=at_ k) h p
  rw [ziu,ziu];split
  . rename_i p hp
    rw [(hf p).1 hp,xaf h n m (k+1)]
  . rename_i hno
    split
    . rename_i p hp
      exact absurd ((hf p).2 hp) (hno p)
    . rfl
theorem xag {l:List zav} {n:Nat}:∀ {m k:Nat} {b:List UInt8},ziu l n k m=some b->∀ i,k<=i->i<k+m->∃ p∈l,p.chunk.part=(i:Int)
 | 0,k,b,_,i,h1,h2=>by omega
 | m+1,k,b,h,i,h1,h2=>by
  rw [ziu] at h;split at h
  . rename_i p hp
    split at h
    . obtain ⟨c,hc,-⟩:=zy32.1 h
      by_cases he:i=k
      . subst he
        have:p∈l.filter (at_ i):=by rw [hp];simp
        rw [zy56] at this;exact ⟨p,this.1,by simpa [at_] using this.2⟩
      . exact xag hc i zz0 zz0
    . cases h
  . cases h
def yyw (l:List zav) (k:Nat):Nat:=l.countP fun p=>decide (p.chunk.part<(k:Int))
def xlv (l:List zav) (k:Nat):Nat:=l.countP fun p=>decide ((k:Int)<=p.chunk.part)
theorem xdz (l:List zav) (k:Nat):yyw l k+xlv l k=l.length:=by
 induction l with
 | nil=>rfl
 | cons p l ih =>
  simp only [yyw,xlv,zy157,zy6] at *
  by_cases h:p.chunk.part<(k:Int)
  . have h2:¬ (k:Int)<=p.chunk.part:=by omega
    simp [h,h2];omega
  . have h2:(k:Int)<=p.chunk.part:=by omega
    simp [h,h2];omega
theorem yqq {l:List zav} {k:Nat} (h:∃ p∈l,p.chunk.part=(k:Int)):yyw l k+1<=yyw l (k+1):=by
 induction l with
 | nil=>simp at h
 | cons p l ih =>
  have mono:∀ l:List zav,l.countP (fun p=>decide (p.chunk.part<(k:Int)))<=l.countP (fun p=>decide (p.chunk.part<((k+1:Nat):Int))):=fun l=>List.countP_mono_left fun x _ hx=>by simp at hx ⊢;omega
  simp only [yyw,zy157] at ih ⊢;by_cases he:p.chunk.part=(k:Int)
  . have:=mono l
    have h2:¬ p.chunk.part<(k:Int):=by omega
    have h3:p.chunk.part<((k+1:Nat):Int):=by omega
    rw [zy0 (by simpa using h2),zy1 (zy12 h3)];omega
  . have:∃ p∈l,p.chunk.part=(k:Int):=by
     obtain ⟨q,hq,e⟩:=h;rcases zy18.1 hq with rfl | hq
     . exact absurd e he
     . exact ⟨q,hq,e⟩
    have:=ih this;by_cases h2:p.chunk.part<(k:Int)
    . have h3:p.chunk.part<((k+1:Nat):Int):=by omega
      rw [zy1 (zy12 h2),zy1 (zy12 h3)];omega
    . have h3:¬ p.chunk.part<((k+1:Nat):Int):=by omega
      rw [zy0 (by simpa using h2),zy0 (fun h=>h3 (zy29 h))];omega
theorem xgq {l:List zav} {n:Nat} (h:∀ i,i<n->∃ p∈l,p.chunk.part=(i:Int)):∀ k,k<=n->k<=yyw l k
 | 0,_=>zy103 _
 | k+1,hk=>by have:=xgq h k zz0;have:=yqq (h k zz0);omega
theorem xgr {l:List zav} {n:Nat} (hn:l.length=n) (h:∀ i,i<n->∃ p∈l,p.chunk.part=(i:Int)):∀ j,j<=n->yyw l (n-j)<=n-j
 | 0,_=>by have:=xdz l n;simp only [Nat.sub_zero];omega
 | j+1,hj=>by
  have h1:=xgr hn h j zz0;have h2:=yqq (h (n-(j+1)) zz0);rw [show n-(j+1)+1=n-j by omega] at h2;omega
theorem yee:∀ {S:List zav} (_:Sd ck S) (k:Nat) (i:Nat) (hi:i<S.length),(S[i].chunk.part<(k:Int)↔i<yyw S k)
 | x::S,h,k,0,hi=>by
  simp only [yyw,zy157,List.getElem_cons_zero];by_cases hx:x.chunk.part<(k:Int)
  . simp [hx]
  . have:S.countP (fun p=>decide (p.chunk.part<(k:Int)))=0:=List.countP_eq_zero.2 fun y hy=>by have:=h.1 y hy;simp;simp only [ck] at this;omega
    simp [hx,this]
 | x::S,h,k,i+1,hi=>by
  have ih:=yee h.2 k i (by simpa using hi);simp only [yyw,zy157,zy134] at *
  by_cases hx:x.chunk.part<(k:Int)
  . simp [hx];exact ih
  . have:S.countP (fun p=>decide (p.chunk.part<(k:Int)))=0:=List.countP_eq_zero.2 fun y hy=>by have:=h.1 y hy;simp;simp only [ck] at this;omega
    rw [this] at ih ⊢;simp [hx];omega
theorem zvz {S:List zav} (hs:Sd ck S) (h:∀ i,i<S.length->∃ p∈S,p.chunk.part=(i:Int)) (i:Nat) (hi:i<S.length):S[i].chunk.part=(i:Int):=by
 have e:∀ k,k<=S.length->yyw S k=k:=fun k hk=>by
  have h1:=xgq h k hk;have h2:=xgr rfl h (S.length-k) zz0;rw [show S.length-(S.length-k)=k by omega] at h2;omega
 have h1:=yee hs i i hi;have h2:=yee hs (i+1) i hi;rw [e i (by omega)] at h1;rw [e (i+1) (by omega)] at h2;omega
def zzo (i:Nat):List zav->Prop
 | []=>True
 | p::r=>p.chunk.part=(i:Int)/\zzo (i+1) r
theorem yhm:∀ {S:List zav} {i:Nat},(∀ j (hj:j<S.length),S[j].chunk.part=((i+j:Nat):Int))->zzo i S
 | [],_,_=>trivial
 | p::r,i,h=>⟨by have:=h 0 zz5;simp only [List.getElem_cons_zero,zy90] at this;exact this,yhm fun j hj=>by have:=h (j+1) zz128;rw [zy134] at this;rw [this];congr 1;omega⟩
theorem yhl:∀ {S:List zav} {i:Nat},zzo i S->∀ p∈S,(i:Int)<=p.chunk.part
 | q::r,i,h,p,hp=>by
  rcases zy18.1 hp with rfl | hp
  . rw [h.1];omega
  . have:=yhl h.2 p hp;omega
theorem yak {n:Nat}:∀ {S:List zav} {i:Nat} {b:List UInt8},zjb n i S=some b->zzo i S
 | [],_,_,_=>trivial
 | p::r,i,b,h=>by
  rw [zjb] at h;split at h
  . rename_i c
    obtain ⟨d,hd,-⟩:=zy32.1 h;exact ⟨c.1,yak hd⟩
  . cases h
theorem filter_none {A:List zav} {k:Nat} (h:∀ p∈A,p.chunk.part≠(k:Int)):A.filter (at_ k)=[] :=
 List.filter_eq_nil_iff.2 fun p hp=>by simpa [at_] using h p hp
theorem ynd {S:List zav} {n:Nat}:∀ {B A:List zav} {i:Nat},S=A++B->(∀ p∈A,p.chunk.part<(i:Int))->zzo i B->ziu S n i B.length=zjb n i B
 | [],A,i,_,_,_=>rfl
 | p::B,A,i,hS,hA,hB=>by
  have hf:S.filter (at_ i)=[p]:=by
   rw [hS,zy47,filter_none fun q hq=>by have:=hA q hq;omega,zy46,zy1 (by simpa [at_] using hB.1),filter_none fun q hq=>by have:=yhl hB.2 q hq;omega]
   rfl
  rw [zy6,ziu,hf];have ih:=ynd (S:=S) (n:=n) (B:=B) (A:=A++[p]) (i:=i+1) (by rw [hS];simp) (fun q hq=>by
   rcases zy13.1 hq with hq | hq
   . have:=hA q hq;omega
   . rw [zy11.1 hq,hB.1];omega) hB.2
  dsimp only;rw [ih,zjb];by_cases c:p.chunk.last=decide (i+1=n)
  . rw [zy1 c,zy1 ⟨hB.1,c⟩]
  . rw [zy0 c,zy0 fun h=>c h.2]
theorem xoa (l:List zav):ziu l l.length 0 l.length=zjb l.length 0 (srt ck l):=by
 have hl:=zhb (key:=ck) l;rw [xaf (zko (key:=ck) (l:=l)).symm];have hs:=zrp (key:=ck) (l:=l);generalize srt ck l=S at *
 rw [<- hl];clear hl;cases hr:ziu S S.length 0 S.length with
 | some b =>
  have:=zvz hs fun i hi=>xag hr i zz0 zz0
  have ht:zzo 0 S:=yhm fun j hj=>by rw [this j hj];simp
  rw [<- hr];exact ynd (A:=[]) rfl zz5 ht
 | none =>
  cases hj:zjb S.length 0 S with
  | none=>rfl
  | some b =>
   have:=ynd (S:=S) (n:=S.length) (A:=[]) rfl zz5 (yak hj);rw [hr,hj] at this;cases this
def tot (l:List zav):Nat:=(l.map fun p=>p.chunk.data.length).sum
theorem yse {l l':List zav} (h:l.Perm l'):tot l=tot l':=(h.map _).sum_nat
theorem zfq (p:zav) (l:List zav):tot (p::l)=p.chunk.data.length+tot l:=rfl
theorem zno (a b:List zav):tot (a++b)=tot a+tot b:=by simp [tot]
theorem xca {l:List zav} {p:zav} (h:p∈l):p.chunk.data.length<=tot l:=by
 induction l with
 | nil=>cases h
 | cons q l ih =>
  rw [zfq];rcases zy18.1 h with rfl | h
  . omega
  . have:=ih h;omega
def cat (l:List zav):List UInt8:=(l.map fun p=>p.chunk.data).flatten
theorem yom (l:List zav) (p:zav):cat (l++[p])=cat l++p.chunk.data:=by simp [cat]
theorem xhq (l:List zav):(cat l).length=tot l:=by induction l with
 | nil=>rfl
 | cons p l ih=>rw [zfq,<- ih];simp [cat]
abbrev pieces (l:List zav):HV:=.p (.sl 12 (l.map zav.row))
theorem ybj (n:Int):zan Tryz.prog 214 [i64 n] zad (zbj false) zad:=by
 refine zal mixed Tryz.func214 zz4 ?_;(conv=>whnf);simp
theorem yju (a b:Int):zan Tryz.prog 209 [i64 a,i64 b] zad (i64 (if a<b then -1 else if a>b then 1 else 0)) zad:=by
 refine zal mixed Tryz.func209 zz4 ?_;(conv=>whnf)
 (refine cL ?_;refine dL (ybj a) ?_)
 (refine cL ?_;refine dL (ybj b) ?_)
 by_cases c:a<b
 . rw [zy1 c]
   ((refine ytj ?_;conv=>whnf);try refine sG ?_)
 rw [zy0 c];refine sN ?_;by_cases c2:a>b
 . rw [zy1 c2]
   ((refine ytj ?_;conv=>whnf);try refine sG ?_)
 rw [zy0 c2]
 ((refine yxw ?_;conv=>whnf);try refine sG ?_)
theorem yeo:yfn 208:=fun a b=>by
 refine zal mixed Tryz.func208 zz4 ?_;(conv=>whnf)
 (refine cL ?_;refine dL (yju a.chunk.part b.chunk.part) ?_)
 rfl
theorem yfd {x:HV} {a b:Bool} (h:a=b):HV.tup [x,zbj a]=HV.tup [x,zbj b]:=by rw [h]
theorem yfx (l:List zav) (hb:l.length<2 ^ 39):zan Tryz.prog 206 [.p (.sl 12 (l.map zav.row))] zad (.own 0) (lk .free [(0,.live (.row 162 12 (l.map zav.row)))]):=by
 refine zaq mixed Tryz.func206 zz4 [] (fun _=>.inl rfl) ?_;(conv=>whnf);intro b hn;(conv=>whnf);refine zah (fun c=>?_) (fun c=>?_)
 . conv=>whnf
   exact yy24
 . conv=>whnf
   refine zaa (c:=(([]:List (List PV)).length+(l.map zav.row).length)*136<=140737488355328) zz3 ?_;exact yy19
theorem xbc (l:List zav) (hb:l.length<2 ^ 38) (ht:tot l<2 ^ 40) :
 zan Tryz.prog 200 [pieces l] zad (.tup [.own 0,zbj (join l).isSome]) (lk .free [(0,.live (.row 5 1 (((join l).getD []).map zcs)))]):=by
 refine zaq mixed Tryz.func200 zz4 [] (fun _=>.inl rfl) ?_;(conv=>whnf)
 (refine zat [(0,9)] ?_;(conv=>whnf);refine dO (yfx l zz0) ?_)
 (refine zaf [] [(1000,9)] [] ?_;(conv=>whnf);refine dG (xbr yeo l zz0) ?_)
 have hl:=zhb (key:=ck) l;have ht2:tot (srt ck l)<2 ^ 40:=by rw [yse zko];exact ht
 obtain ⟨S,hS⟩:∃ S,S=srt ck l:=⟨_,rfl⟩
 have hj:join l=if l=[] then none else zjb S.length 0 S:=by rw [join,<- hS,<- hl,hS]
 rw [<- hS] at hl ht2;refine ⟨{x:List zav×List zav // S=x.1++x.2/\zjb S.length 0 S=(zjb S.length x.1.length x.2).map (cat x.1++·)},fun | ⟨(A,B),_⟩=>hs 45 [(4,.own 900),(5,.own 901),(12,.own 900),(13,i64 S.length),(14,i64 A.length)] [(900,.live (.row 162 12 (S.map zav.row))),(901,.live (.row 5 1 ((cat A).map zcs)))],fun x=>x.1.2.length,⟨([],S),rfl,by simp [cat]⟩,?_,?_⟩
 . exact (zay [(900,some 9),(901,none)] (by repeat' (first | exact z0 | refine z1 ?_ | refine ⟨?_,?_⟩ | ((exact zbl (by rw [zy3,hS]))) | ((exact zas (by rw [hS]))) | exact z2)))
 rintro ⟨⟨A,B⟩,h,hr⟩;dsimp only at h hr;have hAB:S.length=A.length+B.length:=by rw [h];simp
 have htA:tot S=tot A+tot B:=by rw [h,zno]
 (conv=>whnf);cases B with
 | nil =>
  rw [zy14] at hAB;rw [zjb] at hr;have hcat:zjb S.length 0 S=some (cat A):=by rw [hr];simp
  have h0:tot []=0:=rfl;refine sN ?_;by_cases hln:l=[]
  . subst hln
    have hl0:S.length=0:=hl;have:A=[]:=zy20 zz0;subst this;refine zap [(0,some 901)] rfl rfl trivial rfl (yfd ?_) ⟨⟨rfl,.inl ⟨901,rfl,rfl⟩⟩,trivial⟩;rw [zy3,hl0];rfl
  . have:=zy38.2 hln
    have hjv:join l=some (cat A):=by rw [hj,zy0 hln,hcat]
    rw [hjv];refine zap [(0,some 901)] rfl rfl trivial rfl (yfd ?_) ⟨⟨rfl,.inl ⟨901,rfl,rfl⟩⟩,trivial⟩;simp;omega
 | cons p B =>
  rw [zy6] at hAB;rw [zfq] at htA;rw [zjb] at hr;have hca:=xhq A;have hln:l≠[]:=fun h=>by subst h;have hl0:S.length=0:=hl;omega
  rw [zy0 hln] at hj;refine sT ?_;refine sO ?_;refine zak h zz5 (zw ?_);have e:((A.length:Int)==((S.map zav.row).length:Int)-1)=decide (A.length+1=S.length):=by
   rw [zy3,zy120];simp;omega
  by_cases c1:p.chunk.part=(A.length:Int)
  . refine zab zz148 (zw ?_)
    refine sF ?_;by_cases c2:p.chunk.last=decide (A.length+1=S.length)
    . rw [zy1 ⟨c1,c2⟩] at hr
      refine zab (by rw [e,c2];simp) (zw ?_)
      try refine sG ?_
      refine zaa (c:=(((cat A).map zcs).length+(p.chunk.data.map zcs).length)*1<=140737488355328) zz3 (zw ?_)
      try refine sG ?_
      refine sF ?_;refine ⟨⟨(A++[p],B),by rw [h];simp,by dsimp only;rw [hr,Option.map_map,zy9,zy55];congr 1;funext x;simp [yom]⟩,(zay [(900,some 900),(901,some 39)] (by repeat' (first | exact z0 | refine z1 ?_ | refine ⟨?_,?_⟩ | ((exact zas (by rw [yom];simp))) | exact z2))),by simp⟩
    . rw [zy0 fun h=>c2 h.2] at hr
      have hjv:join l=none:=by rw [hj,hr];rfl
      refine zac (by rw [e];cases hp:p.chunk.last<;>cases hd:decide (A.length+1=S.length)<;>simp_all) (zw ?_);exact yy37
  . rw [zy0 fun h=>c1 h.1] at hr
    have hjv:join l=none:=by rw [hj,hr];rfl
    refine zac zz39 ?_;conv=>whnf
    exact yy37
def Found (k:Nat) (a:List zav) (z:Int):Prop:=(a.filter (at_ k)=[]/\z=-1)\/∃ a1 p a2,a=a1++p::a2/\z=(a1.length:Nat)/\a.filter (at_ k)=[p]
theorem yuw (l:List zav) (hb:l.length<2 ^ 22) (ht:tot l<2 ^ 22) :
 zan Tryz.prog 193 [pieces l] zad (.tup [.own 0,zbj (join l).isSome]) (lk .free [(0,.live (.row 5 1 (((join l).getD []).map zcs)))]):=by
 refine zaq mixed Tryz.func193 zz4 [] (fun _=>.inl rfl) ?_;have hj:join l=if l=[] then none else ziu l l.length 0 l.length:=by rw [join,xoa]
 (conv=>whnf);refine ⟨{x:Nat×Nat×List UInt8 // x.1+x.2.1=l.length/\ziu l l.length 0 l.length=(ziu l l.length x.1 x.2.1).map (x.2.2++·)/\x.2.2.length<=x.1*4194304},fun | ⟨(k,m,acc),_⟩=>hs 59 [(0,pieces l),(4,.own 900),(10,i64 l.length),(11,i64 k)] [(900,.live (.row 5 1 (acc.map zcs)))],fun x=>x.1.2.1,⟨(0,l.length,[]),by simp,by simp,by simp⟩,?_,?_⟩
 . exact (zbi [(900,none)])
 rintro ⟨⟨k,m,acc⟩,h1,h2,h3⟩;dsimp only at h1 h2 h3;(conv=>whnf);cases m with
 | zero =>
  rw [ziu] at h2;refine sN ?_;by_cases hln:l=[]
  . subst hln
    have:acc=[]:=zy20 (by have:k=0:=h1;omega);subst this;refine zap [(0,some 900)] rfl rfl trivial rfl (yfd ?_) ⟨⟨rfl,.inl ⟨900,rfl,rfl⟩⟩,trivial⟩
    rfl
  . have:=zy38.2 hln
    have hjv:join l=some acc:=by rw [hj,zy0 hln,h2];simp
    rw [hjv];refine zap [(0,some 900)] rfl rfl trivial rfl (yfd ?_) ⟨⟨rfl,.inl ⟨900,rfl,rfl⟩⟩,trivial⟩;simp;omega
 | succ m =>
  have hln:l≠[]:=fun h=>by subst h;have h1:k+(m+1)=0:=h1;omega
  rw [zy0 hln] at hj;rw [ziu] at h2;refine sT ?_;refine ⟨{x:(List zav×List zav)×Int // l=x.1.1++x.1.2/\Found k x.1.1 x.2},fun | ⟨((a,b),z),_⟩=>hs 59 [(0,pieces l),(4,.own 900),(5,i64 k),(6,i64 z),(10,i64 l.length),(11,i64 k),(14,pieces l),(15,i64 l.length),(16,i64 a.length)] [(900,.live (.row 5 1 (acc.map zcs)))],fun x=>x.1.1.2.length,⟨(([],l),-1),rfl,.inl ⟨rfl,rfl⟩⟩,?_,?_⟩
  . exact (zbi [(900,some 900)])
  rintro ⟨⟨⟨a,b⟩,z⟩,g1,g2⟩;dsimp only at g1 g2;have hl:l.length=a.length+b.length:=by rw [g1];simp
  (conv=>whnf);cases b with
  | cons p b =>
   rw [zy6] at hl;refine sT ?_;refine zak g1 zz5 (zw ?_);by_cases c:p.chunk.part=(k:Int)
   . have hat:at_ k p=true:=by simpa [at_] using c
     refine zac zz70 (zw ?_)
     try refine sG ?_
     rcases g2 with ⟨f1,rfl⟩ | ⟨a1,q,a2,f1,rfl,f2⟩
     . conv=>whnf
       try refine sG ?_
       refine sF ?_;exact ⟨⟨((a++[p],b),(a.length:Nat)),by rw [g1];simp,.inr ⟨a,p,[],by simp,rfl,by rw [zy47,f1,zy46,zy1 hat];rfl⟩⟩,(zbi [(900,some 900)]),by simp⟩
     . have hjv:join l=none:=by
        rw [hj,h2,g1,zy47,f2,zy46,zy1 hat];rfl
       (conv=>whnf);exact yy37
   . have hat:¬ at_ k p=true:=by simpa [at_] using c
     refine zab zz70 (zw ?_)
     try refine sG ?_
     refine sF ?_;refine ⟨⟨((a++[p],b),z),by rw [g1];simp,?_⟩,(zbi [(900,some 900)]),by simp⟩;rcases g2 with ⟨f1,f0⟩ | ⟨a1,q,a2,f1,f0,f2⟩
     . exact .inl ⟨by rw [zy47,f1,zy46,zy0 hat];rfl,f0⟩
     . exact .inr ⟨a1,q,a2++[p],by rw [f1];simp,f0,by rw [zy47,f2,zy46,zy0 hat];rfl⟩
  | nil =>
   rw [zy14] at hl;rw [zy4] at g1;refine sN ?_;rcases g2 with ⟨f1,rfl⟩ | ⟨a1,q,a2,f1,rfl,f2⟩
   . have hjv:join l=none:=by rw [hj,h2,g1,f1];rfl
     (conv=>whnf);exact yy37
   . have hq:q.chunk.data.length<=tot l:=xca (by rw [g1,f1];simp)
     have e:((k:Int)==((l.map zav.row).length:Int)-1)=decide (k+1=l.length):=by
      rw [zy3,zy120];simp;omega
     rw [g1,f2] at h2;dsimp only at h2;rw [<- g1] at h2;(conv=>whnf);refine zak (show l=a1++q::a2 by rw [g1,f1]) rfl (zw ?_);refine sF ?_;by_cases c2:q.chunk.last=decide (k+1=l.length)
     . rw [zy1 c2] at h2
       refine zab (by rw [e,c2];simp) (zw ?_)
       try refine sG ?_
       refine zak (show l=a1++q::a2 by rw [g1,f1]) rfl (zw ?_);refine zaa (c:=((acc.map zcs).length+(q.chunk.data.map zcs).length)*1<=140737488355328) zz3 (zw ?_)
       try refine sG ?_
       refine sF ?_;refine ⟨⟨(k+1,m,acc++q.chunk.data),by dsimp only;omega,by dsimp only;rw [h2,Option.map_map];congr 1;funext x;simp,by simp;omega⟩,(zay [(900,some 53)] zz94),by simp⟩
     . rw [zy0 c2] at h2
       have hjv:join l=none:=by rw [hj,h2];rfl
       refine zac (by rw [e];cases hp:q.chunk.last<;>cases hd:decide (k+1=l.length)<;>simp_all) (zw ?_);exact yy37
end Jn
end Go.HL
namespace Go.HL
namespace Ser
def zfr:List Span->Prop
 | []=>True
 | s::r=>s.lo<=s.hi/\-9223372036854775808<=s.lo/\s.hi<=9223372036854775807/\(∀ t∈r,s.hi+1<t.lo)/\zfr r
theorem zhz:∀ {a b:List Span},zfr (a++b)↔zfr a/\zfr b/\∀ s∈a,∀ t∈b,s.hi+1<t.lo
 | [],b=>by simp [zfr]
 | s::a,b=>by
  simp only [zy44,zfr,zhz (a:=a) (b:=b),zy13,zy18]
  constructor
  . rintro ⟨h1,h2,h3,h4,h5,h6,h7⟩
    exact ⟨⟨h1,h2,h3,fun t ht=>h4 t (.inl ht),h5⟩,h6,fun x hx t ht=>by rcases hx with rfl | hx;exact h4 t (.inr ht);exact h7 x hx t ht⟩
  . rintro ⟨⟨h1,h2,h3,h4,h5⟩,h6,h7⟩
    exact ⟨h1,h2,h3,fun t ht=>by rcases ht with ht | ht;exact h4 t ht;exact h7 s (.inl rfl) t ht,h5,h6,fun x hx t ht=>h7 x (.inr hx) t ht⟩
theorem zia:∀ {l:List Span},zfr l->∀ s∈l,s.lo<=s.hi/\-9223372036854775808<=s.lo/\s.hi<=9223372036854775807
 | s::r,h,t,ht=>by
  rcases zy18.1 ht with rfl | ht
  . exact ⟨h.1,h.2.1,h.2.2.1⟩
  . exact zia h.2.2.2.2 t ht
theorem znb {l:List Span} {n:Int}:has l n=true↔∃ s∈l,s.lo<=n/\n<=s.hi:=by
 simp [has,zy105]
theorem yxt {l:List Span} {n:Int}:has l n=false↔∀ s∈l,¬ (s.lo<=n/\n<=s.hi):=by
 rw [<- zy156,znb];simp
theorem ycz (a b:List Span) (n:Int):has (a++b) n=(has a n||has b n):=by simp [has]
theorem zlt (s:Span) (b:List Span) (n:Int):has (s::b) n=((decide (s.lo<=n)&&decide (n<=s.hi))||has b n):=by simp [has]
def ytr (n:Int) (s:Span):Bool:=decide (s.hi<n)
def below (l:List Span) (n:Int):List Span:=l.takeWhile (ytr n)
def zet (l:List Span) (n:Int):List Span:=l.dropWhile (ytr n)
def zvf (n:Int) (a:List Span):List Span×Int:=match a.getLast? with
 | some s=>if s.hi=n-1 then (a.dropLast,s.lo) else (a,n)
 | none=>(a,n)
def zpw (n:Int):List Span->Int×List Span
 | t::r=>if t.lo=n+1 then (t.hi,r) else (n,t::r)
 | []=>(n,[])
def add (l:List Span) (n:Int):List Span :=
 if has l n then l else (zvf n (below l n)).1++⟨(zvf n (below l n)).2,(zpw n (zet l n)).1⟩::(zpw n (zet l n)).2
theorem split (l:List Span) (n:Int):l=below l n++zet l n:=(List.takeWhile_append_dropWhile).symm
theorem zqg {l:List Span} {n:Int}:∀ s∈below l n,s.hi<n:=fun s hs=>by
 have:=zy65.1 (List.all_takeWhile (p:=ytr n) (l:=l)) s hs
 simpa [ytr] using this
theorem ybz {l:List Span} {n:Int} (h:zfr l) (hn:has l n=false):∀ s∈zet l n,n<s.lo:=by
 intro s hs;have hsp:=split l n;have hr:zfr (zet l n):=by rw [hsp] at h;exact (zhz.1 h).2.1
 have hno:∀ t∈zet l n,¬ (t.lo<=n/\n<=t.hi):=fun t ht=>yxt.1 hn t (by rw [hsp];exact List.mem_append_right _ ht)
 have hhd:∀ t r,zet l n=t::r->¬ t.hi<n:=by
  intro t r e hlt;have:=zy147 (ytr n) l;rw [show l.dropWhile (ytr n)=t::r from e] at this;simp [ytr] at this;omega
 cases ha:zet l n with
 | nil=>rw [ha] at hs;simp at hs
 | cons t r =>
  have h1:=hhd t r ha;have h2:=hno t (by rw [ha];simp);rw [ha] at hr hs;have h3:=hr.1;rcases zy18.1 hs with rfl | hs
  . omega
  . have:=hr.2.2.2.1 s hs;omega
theorem ywh {l:List Span} {n:Int} (h:zfr l):∀ (i:Nat) (hi:i<l.length),l[i].hi<n↔i<(below l n).length:=by
 intro i hi;have hsp:=split l n
 constructor
 . intro hlt
   apply Classical.byContradiction;intro hge;have hmem:l[i]∈zet l n:=by
    have e:l[i]?=(zet l n)[i-(below l n).length]?:=by
     conv=>lhs;rw [hsp]
     exact zy37 zz0
    rw [zy2 hi] at e;exact zy7 e.symm
   have hr:zfr (zet l n):=by rw [hsp] at h;exact (zhz.1 h).2.1
   cases ha:zet l n with
   | nil=>rw [ha] at hmem;simp at hmem
   | cons t r =>
    have h1:¬ t.hi<n:=by
     exact yy145
    rw [ha] at hr hmem;rcases zy18.1 hmem with e | hm
    . rw [e] at hlt;exact h1 hlt
    . have h4:=hr.2.2.2.1 _ hm
      have h5:=(zia hr.2.2.2.2 _ hm).1;have:=hr.1;omega
 . intro hlt
   have e:l[i]?=(below l n)[i]?:=by
    conv=>lhs;rw [hsp]
    exact zy30 hlt
   rw [zy2 hi] at e;exact zqg _ (zy7 e.symm)
theorem ywp {a:List Span} {n:Int} (h:zfr a) (hn:∀ s∈a,s.hi<n) :
 (zvf n a).2<=n/\(∀ s∈(zvf n a).1,s.hi+1<(zvf n a).2)/\zfr (zvf n a).1/\(-9223372036854775808<=n->-9223372036854775808<=(zvf n a).2)/\∀ m,(has (zvf n a).1 m||(decide ((zvf n a).2<=m)&&decide (m<n)))=has a m:=by
 rcases zy121 a with rfl | ⟨a',s,rfl⟩
 . simp [zvf,zfr,has]
   intro m hm;exact zy29 hm
 . rw [zy106] at h hn ⊢
   have hs:=hn s zz5;have hr:=zhz.1 h;have h3:∀ x∈a',x.hi+1<s.lo:=fun x hx=>hr.2.2 x hx s zz5
   have h4:=hr.2.1.1;simp only [zvf,List.getLast?_concat];split
   . rename_i he
     simp only [List.dropLast_concat];refine ⟨by omega,h3,hr.1,fun _=>hr.2.1.2.1,fun m=>?_⟩;rw [ycz,zlt];have:decide (m<n)=decide (m<=s.hi):=by rw [zy161];omega
     rw [this];simp [has]
   . rename_i he
     refine ⟨zy74 _,fun x hx=>?_,h,fun h=>h,fun m=>?_⟩
     . rcases zy13.1 hx with hx | hx
       . have:=h3 x hx;dsimp only;omega
       . rw [zy11.1 hx];dsimp only;omega
     . have:(decide (n<=m)&&decide (m<n))=false:=by simp<;>omega
       dsimp only;rw [this,zy142]
theorem ywq {b:List Span} {n:Int} (h:zfr b) (hn:∀ s∈b,n<s.lo) :
 n<=(zpw n b).1/\(∀ s∈(zpw n b).2,(zpw n b).1+1<s.lo)/\zfr (zpw n b).2/\(n<=9223372036854775807->(zpw n b).1<=9223372036854775807)/\∀ m,(has (zpw n b).2 m||(decide (n<m)&&decide (m<=(zpw n b).1)))=has b m:=by
 cases b with
 | nil =>
  simp [zpw,zfr,has];intro m hm;exact zy15 zz0
 | cons t r =>
  have ht:=hn t zz5;simp only [zpw];split
  . rename_i he
    refine ⟨by have:=h.1;dsimp only;omega,h.2.2.2.1,h.2.2.2.2,fun _=>h.2.2.1,fun m=>?_⟩;rw [zlt,Bool.or_comm];congr 2;rw [zy161];omega
  . rename_i he
    refine ⟨zy74 _,fun x hx=>?_,h,fun h=>h,fun m=>?_⟩
    . rcases zy18.1 hx with rfl | hx
      . dsimp only;omega
      . have:=h.2.2.2.1 x hx;have:=h.1;dsimp only;omega
    . have:(decide (n<m)&&decide (m<=n))=false:=by simp
      dsimp only;rw [this,zy142]
theorem zvc {l:List Span} {n:Int} (h:zfr l) (h1:-9223372036854775808<=n) (h2:n<=9223372036854775807):zfr (add l n)/\∀ m,has (add l n) m=(has l m||decide (m=n)):=by
 unfold add;cases hn:has l n with
 | true =>
  refine ⟨h,fun m=>?_⟩;by_cases hm:m=n
  . subst hm;simp [hn]
  . simp [hm]
 | false =>
  simp only [zy82,if_false];have hsp:=split l n;have hab:=h;rw [hsp] at hab;obtain ⟨ra,rb,rab⟩:=zhz.1 hab;obtain ⟨a1,a2,a3,a4,a5⟩:=ywp ra zqg;obtain ⟨b1,b2,b3,b4,b5⟩:=ywq rb (ybz h hn);have a4:=a4 h1;have b4:=b4 h2;have b6:∀ s∈(zpw n (zet l n)).2,n<s.lo:=fun s hs=>by have:=b2 s hs;omega
  refine ⟨zhz.2 ⟨a3,⟨by dsimp only;omega,a4,b4,b2,b3⟩,fun s hs t ht=>?_⟩,fun m=>?_⟩
  . rcases zy18.1 ht with rfl | ht
    . exact a2 s hs
    . have:=a2 s hs;have:=b6 t ht;omega
  . have e:has l m=(has (below l n) m||has (zet l n) m):=by rw [<- ycz,<- hsp]
    rw [ycz,zlt,e,<- a5 m,<- b5 m];generalize has (zvf n (below l n)).1 m=A;generalize has (zpw n (zet l n)).2 m=B;dsimp only;rcases Int.lt_trichotomy m n with hlt | rfl | hgt
    . have e1:decide (m<n)=true:=by simpa using hlt
      have e2:decide (n<m)=false:=by simp;omega
      have e3:decide (m=n)=false:=by simp;omega
      have e4:decide (m<=(zpw n (zet l n)).1)=true:=by simp;omega
      rw [e1,e2,e3,e4];simp [Bool.or_assoc,Bool.or_comm,Bool.or_left_comm]
    . have e4:decide (m<=(zpw m (zet l m)).1)=true:=by simp;omega
      have e5:decide ((zvf m (below l m)).2<=m)=true:=by simp;omega
      rw [e4,e5];simp
    . have e1:decide (m<n)=false:=by simp;omega
      have e2:decide (n<m)=true:=by simpa using hgt
      have e3:decide (m=n)=false:=by simp;omega
      have e4:decide ((zvf n (below l n)).2<=m)=true:=by simp;omega
      rw [e1,e2,e3,e4];simp [Bool.or_assoc,Bool.or_comm,Bool.or_left_comm]
end Ser
namespace Ser
def cmp (n:Int) (s:Span):Int:=if s.hi<n then -1 else if s.lo>n then 1 else 0
theorem yeo (n:Int) (s:Span):zan Tryz.prog 196 [s.hv,i64 n] zad (i64 (cmp n s)) zad:=by
 refine zal mixed Tryz.func196 zz4 ?_;(conv=>whnf);refine zah (fun c=>?_) (fun c=>?_)
 . have c:s.hi<n:=by simpa using c
   (conv=>whnf);rw [cmp,zy1 c]
 . have c:¬ s.hi<n:=by simpa using c
   (conv=>whnf);refine zah (fun c2=>?_) (fun c2=>?_)
   . have c2:s.lo>n:=by simpa using c2
     (conv=>whnf);rw [cmp,zy0 c,zy1 c2]
   . have c2:¬ s.lo>n:=by simpa using c2
     (conv=>whnf);rw [cmp,zy0 c,zy0 c2]
theorem xlc {n:Int} {s:Span}:cmp n s<0↔s.hi<n:=by
 unfold cmp;split
 . simp [*]
 . split<;>simp [*]
theorem found {l:List Span} {n:Int} (h:zfr l):zwe (cmp n) l (below l n).length=has l n:=by
 have hsp:=split l n;have e:l[(below l n).length]?=(zet l n)[0]?:=by
  conv=>lhs;arg 1;rw [hsp]
  rw [zy37 (zy28 _),zy91]
 have e2:has l n=has (zet l n) n:=by
  conv=>lhs;arg 1;rw [hsp]
  rw [ycz,yxt.2 fun s hs=>by have:=zqg s hs;omega,Bool.false_or]
 rw [zwe,e,e2];cases ha:zet l n with
 | nil=>rfl
 | cons t r =>
  have hr:zfr (zet l n):=by rw [hsp] at h;exact (zhz.1 h).2.1
  rw [ha] at hr;have h1:¬ t.hi<n:=by
   exact yy145
  have h2:has r n=false:=yxt.2 fun s hs=>by have:=hr.2.2.2.1 s hs;omega
  rw [zlt,h2,zy142];show (cmp n t==0)=_;rw [cmp,zy0 h1];by_cases c:t.lo>n
  . rw [zy1 c,zy15 (by omega)];rfl
  . rw [zy0 c,zy12 (by omega),zy12 (by omega)];rfl
theorem zgc (l:List Span) (hb:l.length<2 ^ 40):zan Tryz.prog 150 [.p (.sl 2 (l.map Span.row))] zad (.own 0) (lk .free [(0,.live (.row 199 2 (l.map Span.row)))]):=by
 refine zaq mixed Tryz.func150 zz4 [] (fun _=>.inl rfl) ?_;(conv=>whnf);intro b hn;(conv=>whnf);refine zah (fun c=>?_) (fun c=>?_)
 . conv=>whnf
   exact yy24
 . conv=>whnf
   refine zaa (c:=(([]:List (List PV)).length+(l.map Span.row).length)*16<=140737488355328) zz3 ?_;exact yy19
theorem zgu {α:Type} (l:List α):l=[]\/∃ a x,l=a++[x]:=by
 rcases zy121 l with h | ⟨a,x,h⟩
 . exact .inl h
 . exact .inr ⟨a,x,by rw [h,zy106]⟩
theorem zjl (n:Int) (a:List Span) (s:Span):zvf n (a++[s])=if s.hi=n-1 then (a,s.lo) else (a++[s],n):=by
 simp [zvf]
theorem yec {α:Type} {t n:Nat} {f:α->List PV} {a b:List α} {x y:α} {k:Nat} {r:List PV} (hk:k=a.length) (hr:f y=r) :
 zai.live (.row t n (((a++[x]++b).map f).set k r))=zai.live (.row t n ((a++[y]++b).map f)):=by
 rw [zy26,zy26];exact (zel hk hr).symm
theorem yba {α:Type} {t n:Nat} {f:α->List PV} {a b:List α} (h:a=b):zai.live (.row t n (a.map f))=zai.live (.row t n (b.map f)):=by rw [h]
theorem xax (A B:List Span) (n:Int) (hl:zfr (A++B)) (hA:below (A++B) n=A) (hB:zet (A++B) n=B) (hb:(A++B).length<2 ^ 39) (h1:-9223372036854775808<=n) (h2:n<=9223372036854775807) :
 zan Tryz.prog 181 [zar (A++B),i64 n] zad (.own 0) (lk .free [(0,.live (.row 199 2 ((add (A++B) n).map Span.row)))]):=by
 refine zaq mixed Tryz.func181 zz4 [] (fun _=>.inl rfl) ?_;have hlen:(A++B).length=A.length+B.length:=zy9;have hf:=found (n:=n) hl;rw [hA] at hf;(conv=>whnf)
 (refine zat [(0,9)]  ?_;(conv=>whnf);refine dO (zgc (A++B) zz0) ?_)
 (refine cZ ?_;refine dL (xkb (yeo n) (A++B) A.length zz0 (fun i h=>by rw [xlc,ywh hl i h,hA]) zz0) ?_)
 rw [hf];cases hn:has (A++B) n with
 | true =>
  have ha:add (A++B) n=A++B:=by rw [add,hn];rfl
  rw [ha];(conv=>whnf);refine zap [(0,some 9)] rfl rfl trivial rfl rfl ⟨⟨rfl,.inl ⟨9,rfl,rfl⟩⟩,trivial⟩
 | false =>
  have ha:add (A++B) n=(zvf n A).1++⟨(zvf n A).2,(zpw n B).1⟩::(zpw n B).2:=by rw [add,hn,hA,hB];rfl
  rw [ha];(conv=>whnf);have hAl:A.length<2 ^ 39:=by omega
  have hlow:∀ s∈A,s.hi<n:=by have:=zqg (l:=A++B) (n:=n);rwa [hA] at this
  have habv:∀ s∈B,n<s.lo:=by have:=ybz hl hn;rwa [hB] at this
  (refine zaf [] [(1000,9),(1001,23)] [(0,24)] ?_;(conv=>whnf);refine dG (ymk A B ⟨n,n⟩ _ rfl zz0) ?_ ⟨rfl,rfl,rfl,⟨zz1,⟨zz1,trivial⟩⟩,⟨⟨rfl,rfl⟩,trivial⟩,rfl,rfl,rfl⟩)
  cases B with
  | nil =>
   refine zbw (z':=((A.length+1:Nat):Int)) zz44 (zw ?_);refine sN ?_;have hR:zpw n []=(n,[]):=rfl;rw [hR];rcases zgu A with rfl | ⟨A',s,rfl⟩
   . conv=>whnf
     try refine sG ?_
     exact yy68
   . have hs:s.hi<n:=hlow s zz5
     have hsl:(A'++[s]).length=A'.length+1:=by simp
     have hs2:=zia hl s zz5;refine sT ?_;refine zbw (z':=((A'.length:Nat):Int)) zz33 (zw ?_);refine sOm ?_;refine zak (show A'++[s]++⟨n,n⟩::[]=A'++s::⟨n,n⟩::[] by simp) rfl (zw ?_);refine zao (z:=n-1) (zbs zz0 zz0) (zw ?_);by_cases he:s.hi=n-1
     . refine sT ?_
       refine zbw (z':=((A'.length:Nat):Int)) zz33 (zw ?_);refine sOm ?_;refine zak (show A'++[s]++⟨n,n⟩::[]=(A'++[s])++⟨n,n⟩::[] from rfl) rfl (zw ?_);refine sOm ?_;refine zak (show A'++[s]++⟨n,n⟩::[]=A'++s::⟨n,n⟩::[] by simp) zz5 (zw ?_);refine zbw (z':=((A'.length+2:Nat):Int)) zz84 (zw ?_);refine zaf [] [(1000,24)] [(0,84)] (zw ?_);refine ⟨_,_,_,_,zkb (A'++[⟨s.lo,n⟩]) ([]) ⟨n,n⟩ _ _ zz5 zz3 zz127,⟨rfl,rfl,rfl,⟨⟨rfl,_,rfl,.inl ⟨rfl,?_⟩⟩,trivial⟩,⟨⟨rfl,rfl⟩,trivial⟩,rfl,rfl,rfl⟩,?_⟩
       . exact yec (f:=Span.row) (a:=A') (b:=⟨n,n⟩::[]) (x:=s) (y:=⟨s.lo,n⟩) zz5 rfl
       exact yy69
     . refine sN ?_
       rw [zjl,zy0 he];exact yy68
  | cons x B =>
   have hx:=habv x zz5;have hx2:=zia hl x zz5;have hbl:(x::B).length=B.length+1:=rfl;refine zbw (z':=((A.length+1:Nat):Int)) zz44 (zw ?_);refine sT ?_;refine zbw (z':=((A.length+1:Nat):Int)) zz44 (zw ?_);refine sOm ?_;refine zak (show A++⟨n,n⟩::x::B=(A++[⟨n,n⟩])++x::B by simp) zz5 (zw ?_);refine zao (z:=n+1) (zbs zz0 zz0) (zw ?_);by_cases hr:x.lo=n+1
   . refine sT ?_
     have hR:zpw n (x::B)=(x.hi,B):=by simp [zpw,hr]
     rw [hR];refine zbw (z':=((A.length+1:Nat):Int)) zz44 (zw ?_);refine sOm ?_;refine zak (show A++⟨n,n⟩::x::B=(A++[⟨n,n⟩])++x::B by simp) zz5 (zw ?_);refine sOm ?_;refine zak (show A++⟨n,n⟩::x::B=A++⟨n,n⟩::x::B from rfl) zz5 (zw ?_);refine zbw (z':=((A.length+1:Nat):Int)) zz44 (zw ?_);refine zbw (z':=((A.length+2:Nat):Int)) (by show W ((A.length:Int)+2)=_;rw [zbs (by omega) (by omega)];push_cast;rfl) (zw ?_);refine zaf [] [(1000,24)] [(0,56)] (zw ?_);refine ⟨_,_,_,_,ylp (out:=A++⟨n,x.hi⟩::B) (A++[⟨n,x.hi⟩]) B x _ _ rfl zz5 zz5 zz3 zz127,⟨rfl,rfl,rfl,⟨⟨rfl,_,rfl,.inl ⟨rfl,?_⟩⟩,trivial⟩,⟨⟨rfl,rfl⟩,trivial⟩,rfl,rfl,rfl⟩,?_⟩
     . refine (zel (f:=Span.row) (a:=A) (b:=x::B) (x:=⟨n,n⟩) (y:=⟨n,x.hi⟩) zz5 rfl).symm.trans (yba zz5)
     conv=>whnf
     try refine sG ?_
     rcases zgu A with rfl | ⟨A',s,rfl⟩
     . conv=>whnf
       try refine sG ?_
       refine zap [(0,some 56)] rfl rfl trivial rfl rfl ⟨⟨rfl,.inl ⟨56,rfl,rfl⟩⟩,trivial⟩
     . have hs:s.hi<n:=hlow s zz5
       have hsl:(A'++[s]).length=A'.length+1:=by simp
       have hs2:=zia hl s zz5;refine sT ?_;refine zbw (z':=((A'.length:Nat):Int)) zz33 (zw ?_);refine sOm ?_;refine zak (show A'++[s]++⟨n,x.hi⟩::B=A'++s::⟨n,x.hi⟩::B by simp) rfl (zw ?_);refine zao (z:=n-1) (zbs zz0 zz0) (zw ?_);by_cases he:s.hi=n-1
       . refine sT ?_
         refine zbw (z':=((A'.length:Nat):Int)) zz33 (zw ?_);refine sOm ?_;refine zak (show A'++[s]++⟨n,x.hi⟩::B=(A'++[s])++⟨n,x.hi⟩::B from rfl) rfl (zw ?_);refine sOm ?_;refine zak (show A'++[s]++⟨n,x.hi⟩::B=A'++s::⟨n,x.hi⟩::B by simp) zz5 (zw ?_);refine zbw (z':=((A'.length+2:Nat):Int)) zz84 (zw ?_);refine zaf [] [(1000,56)] [(0,84)] (zw ?_);refine ⟨_,_,_,_,zkb (A'++[⟨s.lo,x.hi⟩]) (B) ⟨n,x.hi⟩ _ _ zz5 zz3 zz127,⟨rfl,rfl,rfl,⟨⟨rfl,_,rfl,.inl ⟨rfl,?_⟩⟩,trivial⟩,⟨⟨rfl,rfl⟩,trivial⟩,rfl,rfl,rfl⟩,?_⟩
         . exact yec (f:=Span.row) (a:=A') (b:=⟨n,x.hi⟩::B) (x:=s) (y:=⟨s.lo,x.hi⟩) zz5 rfl
         exact yy69
       . refine sN ?_
         rw [zjl,zy0 he];refine zap [(0,some 56)] rfl rfl trivial rfl rfl ⟨⟨rfl,.inl ⟨56,rfl,rfl⟩⟩,trivial⟩
   . refine sN ?_
     have hR:zpw n (x::B)=(n,x::B):=by simp [zpw,hr]
     rw [hR];rcases zgu A with rfl | ⟨A',s,rfl⟩
     . conv=>whnf
       try refine sG ?_
       exact yy68
     . have hs:s.hi<n:=hlow s zz5
       have hsl:(A'++[s]).length=A'.length+1:=by simp
       have hs2:=zia hl s zz5;refine sT ?_;refine zbw (z':=((A'.length:Nat):Int)) zz33 (zw ?_);refine sOm ?_;refine zak (show A'++[s]++⟨n,n⟩::x::B=A'++s::⟨n,n⟩::x::B by simp) rfl (zw ?_);refine zao (z:=n-1) (zbs zz0 zz0) (zw ?_);by_cases he:s.hi=n-1
       . refine sT ?_
         refine zbw (z':=((A'.length:Nat):Int)) zz33 (zw ?_);refine sOm ?_;refine zak (show A'++[s]++⟨n,n⟩::x::B=(A'++[s])++⟨n,n⟩::x::B from rfl) rfl (zw ?_);refine sOm ?_;refine zak (show A'++[s]++⟨n,n⟩::x::B=A'++s::⟨n,n⟩::x::B by simp) zz5 (zw ?_);refine zbw (z':=((A'.length+2:Nat):Int)) zz84 (zw ?_);refine zaf [] [(1000,24)] [(0,84)] (zw ?_);refine ⟨_,_,_,_,zkb (A'++[⟨s.lo,n⟩]) (x::B) ⟨n,n⟩ _ _ zz5 zz3 zz127,⟨rfl,rfl,rfl,⟨⟨rfl,_,rfl,.inl ⟨rfl,?_⟩⟩,trivial⟩,⟨⟨rfl,rfl⟩,trivial⟩,rfl,rfl,rfl⟩,?_⟩
         . exact yec (f:=Span.row) (a:=A') (b:=⟨n,n⟩::x::B) (x:=s) (y:=⟨s.lo,n⟩) zz5 rfl
         exact yy69
       . refine sN ?_
         rw [zjl,zy0 he];exact yy68
end Ser
namespace Ser
theorem xfj (l:List Span) (n:Int) (hl:zfr l) (hb:l.length<2 ^ 39) (h1:-9223372036854775808<=n) (h2:n<=9223372036854775807) :
 zan Tryz.prog 181 [zar l,i64 n] zad (.own 0) (lk .free [(0,.live (.row 199 2 ((add l n).map Span.row)))]):=by
 have hsp:=split l n;have h:=xax (below l n) (zet l n) n (by rwa [<- hsp]) (by rw [<- hsp]) (by rw [<- hsp]) (by rwa [<- hsp]) h1 h2
 rwa [<- hsp] at h
def up:List Span->Int->Int×List Span
 | [],n=>(n,[])
 | s::r,n=>if s.lo<=n+1 then up r (if s.hi>n then s.hi else n) else (n,s::r)
def wnd:List Span->List Span->HV
 | [],_=>.own 900
 | _::a,b=>.osl 900 2 (a.length+1) b.length
theorem yqb {α:Type} {f:α->List PV} {l a b c:List α} {o n:Nat} {K:List (List PV)->Prop} (h:l=a++b++c) (ho:o=a.length) (hn:n=b.length) (hk:K (b.map f)):zsl (l.map f) o n K:=by
 subst h ho hn;refine ⟨_,rfl,by simp,?_⟩
 rwa [<- zy113,<- zy132,zy26,zy115,zy140]
theorem xgt {i s o o' n n':Nat} (ho:o=o') (hn:n=n'):HV.osl i s o n=.osl i s o' n':=by rw [ho,hn]
theorem xbv (l:List Span) (n:Int) (hl:∀ s∈l,s.hi<=1099511627776) (hb:l.length<2 ^ 39) (h1:-1099511627776<=n) (h2:n<=1099511627776) :
 zan Tryz.prog 180 [zar l,i64 n] zad (.tup [i64 (up l n).1,.own 0]) (lk .free [(0,.live (.row 199 2 ((up l n).2.map Span.row)))]):=by
 refine zaq mixed Tryz.func180 zz4 [] (fun _=>.inl rfl) ?_;generalize hR:up l n=R;(conv=>whnf)
 (refine zat [(0,8)]  ?_;(conv=>whnf);refine dO (zgc l zz0) ?_)
 refine ⟨{x:(List Span×List Span)×Int // l=x.1.1++x.1.2/\R=up x.1.2 x.2/\-1099511627776<=x.2/\x.2<=1099511627776},fun | ⟨((a,b),m),_⟩=>hs 32 [(1,i64 m),(6,wnd a b)] [(900,.live (.row 199 2 (l.map Span.row)))],fun x=>x.1.1.2.length,⟨(([],l),n),rfl,hR.symm,h1,h2⟩,?_,?_⟩
 . exact (zbi [(900,some 8)])
 rintro ⟨⟨⟨a,b⟩,m⟩,h,hu,hm1,hm2⟩;dsimp only at h hu hm1 hm2;have hlen:l.length=a.length+b.length:=by rw [h];simp
 have hlm:(l.map Span.row).length=l.length:=by simp
 cases a with
 | nil =>
  rw [zy66] at h;rw [zy14,zy76] at hlen;(conv=>whnf);cases b with
  | nil =>
   rw [zy14] at hlen;refine sN ?_
   (refine zat [(0,31)]  ?_;(conv=>whnf);refine dO (zgc l zz0) ?_)
   exact yy141
  | cons s r =>
   rw [zy6] at hlen;have hs:=hl s zz106;refine sT ?_;refine zaa zz0 (zw ?_);refine zak (a:=[]) h rfl (zw ?_);refine sF ?_;by_cases c:s.lo<=m+1
   . refine sT ?_
     refine zaa zz0 (zw ?_);refine zak (a:=[]) h rfl (zw ?_);refine zaa zz0 (zw ?_);refine ⟨⟨(([s],r),if s.hi>m then s.hi else m),h,by dsimp only;rw [hu,up,zy1 c],by dsimp only;split<;>omega,by dsimp only;split<;>omega⟩,(zay [(900,some 900)] zz85),by simp⟩
   . refine sN ?_
     (refine zat [(0,31)]  ?_;(conv=>whnf);refine dO (zgc l zz0) ?_)
     rw [show up (s::r) m=(m,s::r) by simp [up,c]] at hu;exact yy141
 | cons t a =>
  rw [zy6] at hlen;have hal:(a.length:Int)+1=((t::a).length:Nat):=by simp
  (conv=>whnf);cases b with
  | nil =>
   rw [zy14] at hlen;(conv=>whnf)
   try refine sG ?_
   refine zat [(0,31)] (zw ?_);refine yqb (a:=t::a) (b:=[]) (c:=[]) zz106 rfl rfl ?_;(conv=>whnf);refine ⟨_,_,zgc [] zz5,⟨⟨⟨rfl,rfl⟩,trivial⟩,rfl,rfl,rfl⟩,?_⟩;(conv=>whnf);subst hu;refine zap [(0,some 31)] rfl rfl trivial rfl rfl ⟨⟨rfl,.inl ⟨31,rfl,rfl⟩⟩,trivial⟩
  | cons s r =>
   rw [zy6] at hlen;have hs:=hl s zz106;have hrl:(s::r).length=r.length+1:=rfl;refine sT ?_;refine zaa zz0 (zw ?_);refine zak (a:=t::a) h zz5 (zw ?_);refine sF ?_;by_cases c:s.lo<=m+1
   . refine sT ?_
     refine zaa zz0 (zw ?_);refine zak (a:=t::a) h zz5 (zw ?_);refine zaa zz0 (zw ?_);refine ⟨⟨((t::(a++[s]),r),if s.hi>m then s.hi else m),by rw [h];simp,by dsimp only;rw [hu,up,zy1 c],by dsimp only;split<;>omega,by dsimp only;split<;>omega⟩,(zay [(900,some 900)] zz85),by simp⟩
   . refine sN ?_
     refine zat [(0,31)] (zw ?_);refine yqb (a:=t::a) (b:=s::r) (c:=[]) zz106 rfl rfl ?_;(conv=>whnf);refine ⟨_,_,zgc (s::r) zz0,⟨⟨⟨rfl,rfl⟩,trivial⟩,rfl,rfl,rfl⟩,?_⟩;(conv=>whnf);rw [show up (s::r) m=(m,s::r) by simp [up,c]] at hu;subst hu;refine zap [(0,some 31)] rfl rfl trivial rfl rfl ⟨⟨rfl,.inl ⟨31,rfl,rfl⟩⟩,trivial⟩
def xoi (R:Int×List Span) (b:List Span) (m:Int) (o:List Span):Prop:=(o=[]/\R=up b m)\/(R=(m,o++b)/\∀ s∈b,m+1<s.lo)
theorem xfm (l:List Span) (n:Int) (hr:zfr l) (hl:∀ s∈l,s.hi<=1099511627776) (hb:l.length<2 ^ 39) (h1:-1099511627776<=n) (h2:n<=1099511627776) :
 zan Tryz.prog 173 [zar l,i64 n] zad (.tup [i64 (up l n).1,.own 0]) (lk .free [(0,.live (.row 199 2 ((up l n).2.map Span.row)))]):=by
 refine zaq mixed Tryz.func173 zz4 [] (fun _=>.inl rfl) ?_;generalize hR:up l n=R;(conv=>whnf);refine ⟨{x:(List Span×List Span)×Int×List Span // l=x.1.1++x.1.2/\xoi R x.1.2 x.2.1 x.2.2/\-1099511627776<=x.2.1/\x.2.1<=1099511627776/\x.2.2.length<=x.1.1.length},fun | ⟨((a,b),m,o),_⟩=>hs 33 [(1,i64 m),(6,.own 900),(9,zar l),(10,i64 l.length),(11,i64 a.length)] [(900,.live (.row 199 2 (o.map Span.row)))],fun x=>x.1.1.2.length,⟨(([],l),n,[]),rfl,.inl ⟨rfl,hR.symm⟩,h1,h2,zy28 _⟩,?_,?_⟩
 . exact (zbi [(900,none)])
 rintro ⟨⟨⟨a,b⟩,m,o⟩,h,ht,hm1,hm2,ho⟩;dsimp only at h ht hm1 hm2 ho;have hlen:l.length=a.length+b.length:=by rw [h];simp
 (conv=>whnf);cases b with
 | nil =>
  rw [zy14] at hlen;refine sN ?_;have hR2:R=(m,o):=by
   rcases ht with ⟨h1,h2⟩ | ⟨h1,h2⟩
   . rw [h2,h1];rfl
   . rw [h1,zy4]
  subst hR2;refine zap [(0,some 900)] rfl rfl trivial rfl rfl ⟨⟨rfl,.inl ⟨900,rfl,rfl⟩⟩,trivial⟩
 | cons s r =>
  rw [zy6] at hlen;have hs:=hl s zz106;have hrs:zfr (s::r):=by rw [h] at hr;exact (zhz.1 hr).2.1
  refine sT ?_;refine zak h rfl (zw ?_);refine sF ?_;by_cases c:s.lo<=m+1
  . obtain ⟨rfl,htt⟩:o=[]/\R=up r (if s.hi>m then s.hi else m):=by
     rcases ht with ⟨h1,h2⟩ | ⟨h1,h2⟩
     . exact ⟨h1,by rw [h2,up,zy1 c]⟩
     . have:=h2 s zz5;omega
    refine sT ?_;by_cases c2:s.hi>m
    . refine sT ?_
      refine sF ?_;rw [zy1 c2] at htt;exact ⟨⟨((a++[s],r),s.hi,[]),zag h,.inl ⟨rfl,htt⟩,by dsimp only;omega,hs,by simp⟩,(zbi [(900,some 900)]),by simp⟩
    . refine sN ?_
      refine sF ?_;rw [zy0 c2] at htt;exact ⟨⟨((a++[s],r),m,[]),zag h,.inl ⟨rfl,htt⟩,hm1,hm2,by simp⟩,(zbi [(900,some 900)]),by simp⟩
  . have ht2:xoi R r m (o++[s]):=by
     refine .inr ?_;rcases ht with ⟨h1,h2⟩ | ⟨h1,h2⟩
     . rw [h2,h1,up,zy0 c]
       exact ⟨rfl,fun t ht=>by have:=hrs.1;have:=hrs.2.2.2.1 t ht;omega⟩
     . exact ⟨by rw [h1];simp,fun t ht=>h2 t (by simp [ht])⟩
    refine sN ?_;refine zaa (c:=((o.map Span.row).length+1)*16<=140737488355328) zz3 (zw ?_);refine sF ?_;exact ⟨⟨((a++[s],r),m,o++[s]),zag h,ht2,hm1,hm2,by simp;omega⟩,(zay [(900,some 29)] zz49),by simp⟩
instance:DecidableEq Span:=fun a b=>decidable_of_iff (a.lo=b.lo/\a.hi=b.hi) ⟨fun h=>by cases a;cases b;simp_all,fun h=>by rw [h];simp⟩
end Ser
namespace Ser
def p1 (n:Int):List Span->Int×Int->Int×Int
 | [],p=>p
 | s::r,p=>p1 n r (if s.hi=n-1 then (s.lo,p.2) else if s.lo=n+1 then (p.1,s.hi) else p)
def p2 (n lo hi:Int):List Span->Bool->List Span
 | [],put=>if put then [] else [⟨lo,hi⟩]
 | s::r,put=>if s.hi=n-1\/s.lo=n+1 then p2 n lo hi r put else if put=false/\s.lo>n then ⟨lo,hi⟩::s::p2 n lo hi r true else s::p2 n lo hi r put
theorem yio {n:Int} {r:List Span}:∀ {a:List Span} {p:Int×Int},(∀ s∈a,s.hi<n-1/\s.lo<=s.hi)->p1 n (a++r) p=p1 n r p
 | [],p,_=>rfl
 | s::a,p,h=>by
  have h1:=h s zz5;rw [zy44,p1,zy0 (by omega),zy0 (by omega)];exact yio fun s hs=>h s (by simp [hs])
theorem zxm {n:Int}:∀ {a:List Span} {p:Int×Int},(∀ s∈a,n+1<s.lo/\s.lo<=s.hi)->p1 n a p=p
 | [],p,_=>rfl
 | s::a,p,h=>by
  have h1:=h s zz5;rw [p1,zy0 (by omega),zy0 (by omega)];exact zxm fun s hs=>h s (by simp [hs])
theorem yip {n lo hi:Int} {r:List Span}:∀ {a:List Span},(∀ s∈a,s.hi<n-1/\s.lo<=s.hi)->p2 n lo hi (a++r) false=a++p2 n lo hi r false
 | [],_=>rfl
 | s::a,h=>by
  have h1:=h s zz5;rw [zy44,p2,zy0 (by omega),zy0 (by omega),zy44,yip fun s hs=>h s (by simp [hs])]
theorem xgw {n lo hi:Int}:∀ {a:List Span},(∀ s∈a,n+1<s.lo/\s.lo<=s.hi)->p2 n lo hi a true=a
 | [],_=>rfl
 | s::a,h=>by
  have h1:=h s zz5;rw [p2,zy0 (by omega),zy0 (by simp),xgw fun s hs=>h s (by simp [hs])]
theorem ydu {n lo hi:Int} {a:List Span} (h:∀ s∈a,n+1<s.lo/\s.lo<=s.hi):p2 n lo hi a false=⟨lo,hi⟩::a:=by
 cases a with
 | nil=>rfl
 | cons s a =>
  have h1:=h s zz5;rw [p2,zy0 (by omega),zy1 ⟨rfl,by omega⟩,xgw fun s hs=>h s (by simp [hs])]
theorem xjp {l:List Span} {n:Int} (h:zfr l) (hn:has l n=false):p2 n (p1 n l (n,n)).1 (p1 n l (n,n)).2 l false=add l n:=by
 have hsp:=split l n;have hab:=h;rw [hsp] at hab;obtain ⟨ra,rb,rab⟩:=zhz.1 hab;have hlow:=zqg (l:=l) (n:=n);have habv:=ybz h hn;have hadd:add l n=(zvf n (below l n)).1++⟨(zvf n (below l n)).2,(zpw n (zet l n)).1⟩::(zpw n (zet l n)).2:=by rw [add,hn];rfl
 rw [hadd];generalize below l n=A at *
 generalize zet l n=B at *
 subst hsp;have hA:∃ a:List Span,(∀ s∈a,s.hi<n-1/\s.lo<=s.hi)/\(A=a/\zvf n A=(a,n)\/∃ s,A=a++[s]/\s.hi=n-1/\zvf n A=(a,s.lo)):=by
  rcases zgu A with rfl | ⟨a,s,rfl⟩
  . exact ⟨[],by simp,.inl ⟨rfl,rfl⟩⟩
  . obtain ⟨r1,r2,r3⟩:=zhz.1 ra
    have hs:=hlow s zz5;have hs2:=r2.1;have hal:∀ t∈a,t.hi<n-1/\t.lo<=t.hi:=fun t ht=>by
     have:=r3 t ht s zz5;have:=(zia r1 t ht).1;omega
    rw [zjl];by_cases c:s.hi=n-1
    . exact ⟨a,hal,.inr ⟨s,rfl,c,by rw [zy1 c]⟩⟩
    . refine ⟨a++[s],fun t ht=>?_,.inl ⟨rfl,by rw [zy0 c]⟩⟩
      rcases zy13.1 ht with ht | ht
      . exact hal t ht
      . rw [zy11.1 ht];omega
 have hB:∃ b:List Span,(∀ s∈b,n+1<s.lo/\s.lo<=s.hi)/\(B=b/\zpw n B=(n,b)\/∃ s,B=s::b/\s.lo=n+1/\s.lo<=s.hi/\zpw n B=(s.hi,b)):=by
  cases B with
  | nil=>exact ⟨[],by simp,.inl ⟨rfl,rfl⟩⟩
  | cons s b =>
   have hs:=habv s zz5;have hs2:=rb.1;have hbl:∀ t∈b,n+1<t.lo/\t.lo<=t.hi:=fun t ht=>by
    have:=rb.2.2.2.1 t ht;have:=(zia rb.2.2.2.2 t ht).1;omega
   by_cases c:s.lo=n+1
   . exact ⟨b,hbl,.inr ⟨s,rfl,c,hs2,by simp [zpw,c]⟩⟩
   . refine ⟨s::b,fun t ht=>?_,.inl ⟨rfl,by simp [zpw,c]⟩⟩
     rcases zy18.1 ht with rfl | ht
     . omega
     . exact hbl t ht
 obtain ⟨a,ha,hA⟩:=hA;obtain ⟨b,hb,hB⟩:=hB;rcases hA with ⟨rfl,eA⟩ | ⟨s,rfl,es,eA⟩<;>rcases hB with ⟨rfl,eB⟩ | ⟨t,rfl,et,et2,eB⟩<;>rw [eA,eB]
 . rw [yio ha,zxm hb,yip ha,ydu hb]
 . rw [yio ha,p1,zy0 (by omega),zy1 et,zxm hb,yip ha,p2,zy1 (.inr et),ydu hb]
 . rw [zy26,yio ha,List.singleton_append,p1,zy1 es,zxm hb,yip ha,p2,zy1 (.inl es),ydu hb]
 . rw [zy26,yio ha,List.singleton_append,p1,zy1 es,p1,zy0 (by omega),zy1 et,zxm hb,yip ha,p2,zy1 (.inl es),p2,zy1 (.inr et),ydu hb]
theorem xbk (l:List Span) (n:Int) (hn:has l n=false) (hl:zfr l) (hb:l.length<2 ^ 39) (h1:-1099511627776<=n) (h2:n<=1099511627776) :
 zan Tryz.prog 174 [zar l,i64 n] zad (.own 0) (lk .free [(0,.live (.row 199 2 ((add l n).map Span.row)))]):=by
 refine zaq mixed Tryz.func174 zz4 [] (fun _=>.inl rfl) ?_;(conv=>whnf)
 (refine cL ?_;refine dL (ynk l n zz0) ?_)
 rw [hn,<- xjp hl hn];generalize hP:p1 n l (n,n)=P;generalize hR:p2 n P.1 P.2 l false=R;(conv=>whnf);refine ⟨{x:(List Span×List Span)×Int×Int // l=x.1.1++x.1.2/\p1 n x.1.2 x.2=P},fun | ⟨((a,b),lo,hi),_⟩=>hs 88 [(0,zar l),(1,i64 n),(5,i64 lo),(6,i64 hi),(7,.p (.v (.slice none 0 0))),(19,zar l),(20,i64 l.length),(21,i64 a.length)] [],fun x=>x.1.1.2.length,⟨(([],l),n,n),rfl,hP⟩,?_,?_⟩
 . exact (zbi [])
 rintro ⟨⟨⟨a,b⟩,lo,hi⟩,h,ht⟩;dsimp only at h ht;have hlen:l.length=a.length+b.length:=by rw [h];simp
 (conv=>whnf);cases b with
 | nil =>
  rw [zy14] at hlen;refine sN ?_;rw [p1] at ht;subst ht;refine ⟨{x:(List Span×List Span)×Bool×List Span // l=x.1.1++x.1.2/\R=x.2.2++p2 n lo hi x.1.2 x.2.1/\x.2.2.length<=2*x.1.1.length},fun | ⟨((a,b),put,o),_⟩=>hs 88 [(1,i64 n),(5,i64 lo),(6,i64 hi),(7,.own 900),(10,zbj put),(42,zar l),(43,i64 l.length),(44,i64 a.length)] [(900,.live (.row 199 2 (o.map Span.row)))],fun x=>x.1.1.2.length,⟨(([],l),false,[]),rfl,hR.symm,zy103 _⟩,?_,?_⟩
  . exact (zbi [(900,none)])
  clear h hlen;rintro ⟨⟨⟨a,b⟩,put,o⟩,h,ht,ho⟩;dsimp only at h ht ho;have hlen:l.length=a.length+b.length:=by rw [h];simp
  (conv=>whnf);cases b with
  | nil =>
   rw [zy14] at hlen;refine sN ?_;cases put with
   | true =>
    have hR2:R=o:=by rw [ht,p2,zy1 rfl,zy4]
    conv=>whnf
    try refine sG ?_
    subst hR2;refine zap [(0,some 900)] rfl rfl trivial rfl rfl ⟨⟨rfl,.inl ⟨900,rfl,rfl⟩⟩,trivial⟩
   | false =>
    have hR2:R=o++[⟨lo,hi⟩]:=by rw [ht,p2,zy0 (by simp)]
    conv=>whnf
    try refine sG ?_
    refine zaa (c:=((o.map Span.row).length+1)*16<=140737488355328) zz3 (zw ?_)
    try refine sG ?_
    subst hR2;refine zap [(0,some 86)] rfl rfl trivial rfl rfl ⟨⟨rfl,.inl ⟨86,rfl,?_⟩⟩,trivial⟩;exact zbb (f:=Span.row) (x:=⟨lo,hi⟩) rfl rfl
  | cons s r =>
   rw [zy6] at hlen;rw [p2] at ht;refine sT ?_;refine zak h rfl (zw ?_);refine sF ?_;by_cases c1:s.hi=n-1
   . rw [zy1 (.inl c1)] at ht
     exact yy139
   refine sN ?_;refine sF ?_;by_cases c2:s.lo=n+1
   . rw [zy1 (.inr c2)] at ht
     exact yy139
   rw [zy0 (by simp [c1,c2])] at ht;refine sN ?_;by_cases c3:put=false/\s.lo>n
   . rw [zy1 c3] at ht
     obtain ⟨rfl,c3⟩:=c3;(conv=>whnf)
     try refine sG ?_
     refine sT ?_;refine zaa (c:=((o.map Span.row).length+1)*16<=140737488355328) zz3 (zw ?_)
     try refine sG ?_
     refine zaa (c:=((o.map Span.row++[[pi lo,pi hi]]).length+1)*16<=140737488355328) zz3 (zw ?_)
     try refine sG ?_
     refine sF ?_;refine ⟨⟨((a++[s],r),true,o++[⟨lo,hi⟩,s]),zag h,by rw [‹R=o++⟨lo,hi⟩::s::p2 n lo hi r true›];simp,by simp;omega⟩,(zay [(900,some 77)] (by repeat' (first | exact z0 | refine z1 ?_ | refine ⟨?_,?_⟩ | ((exact zas (by simp;rfl))) | exact z2))),by simp⟩
   . rw [zy0 c3] at ht
     cases put with
     | true =>
      conv=>whnf
      try refine sG ?_
      refine zaa (c:=((o.map Span.row).length+1)*16<=140737488355328) zz3 (zw ?_)
      try refine sG ?_
      refine sF ?_;refine ⟨⟨((a++[s],r),true,o++[s]),zag h,by rw [ht];simp,by simp;omega⟩,(zay [(900,some 77)] zz49),by simp⟩
     | false =>
      have c4:¬ s.lo>n:=fun h=>c3 ⟨rfl,h⟩
      conv=>whnf
      try refine sG ?_
      refine sN ?_;refine zaa (c:=((o.map Span.row).length+1)*16<=140737488355328) zz3 (zw ?_)
      try refine sG ?_
      refine sF ?_;refine ⟨⟨((a++[s],r),false,o++[s]),zag h,by rw [ht];simp,by simp;omega⟩,(zay [(900,some 77)] zz49),by simp⟩
 | cons s r =>
  rw [zy6] at hlen;rw [p1] at ht;refine sT ?_;refine zak h rfl (zw ?_);refine sF ?_;by_cases c1:s.hi=n-1
  . rw [zy1 c1] at ht
    refine sT ?_;refine sF ?_;exact ⟨⟨((a++[s],r),s.lo,hi),zag h,ht⟩,(zbi []),by simp⟩
  . rw [zy0 c1] at ht
    refine sN ?_;refine sF ?_;by_cases c2:s.lo=n+1
    . rw [zy1 c2] at ht
      refine sT ?_;refine sF ?_;exact ⟨⟨((a++[s],r),lo,s.hi),zag h,ht⟩,(zbi []),by simp⟩
    . rw [zy0 c2] at ht
      refine sN ?_;refine sF ?_;exact ⟨⟨((a++[s],r),lo,hi),zag h,ht⟩,(zbi []),by simp⟩
end Ser
namespace Rcv
open Srt Jn Ser
def yea (r:Receiver) (a b c d:HV):List HV:=[i64 r.config.streams,i64 r.config.part,i64 r.config.packet,i64 r.config.paths,i64 r.config.turns,i64 r.config.waiting,i64 r.config.first,i64 r.cum,a,b,c,d]
abbrev xjt (l:List Span):zai:=.live (.row 199 2 (l.map Span.row))
abbrev xgy (l:List zav):zai:=.live (.row 162 12 (l.map zav.row))
abbrev zzb (l:List Int):zai:=.live (.row 3 1 (l.map fun n=>[pi n]))
abbrev xoo (l:List zbk):zai:=.live (.row 56 4 (l.map zbk.row))
abbrev xmp (r:Receiver) (a b c d:Nat):HV:=.agg (yea r (.own a) (.own b) (.own c) (.own d))
abbrev xci (r:Receiver) (a b c d:Nat) (L:List (Nat×zai)):List (Nat×zai):=(a,xjt r.zar)::(b,xgy r.pieces)::(c,zzb r.zbh)::(d,xoo r.log)::L
abbrev tkH (r:Receiver):List (Nat×zai):=(1000,.live (.cells 225 (yea r (.own 1001) (.own 1002) (.own 1003) (.own 1004))))::xci r 1001 1002 1003 1004 []
abbrev tkD (r:Receiver):List (Nat×zai):=(1000,.live (.cells 225 (yea r (.own 0) (.own 1) (.own 2) (.own 3))))::xci r 0 1 2 3 [(1001,.dead),(1002,.dead),(1003,.dead),(1004,.dead)]
def zyz (c:Config):Receiver:=⟨c,c.first-1,[],[],List.replicate (max c.streams 0).toNat 0,[]⟩
theorem zrl (c:Config) (h1:-9223372036854775808<c.first) (h2:c.first<=9223372036854775807) (h3:c.streams<=1099511627776) :
 zan Tryz.prog 110 [c.hv] zad (xmp (zyz c) 0 1 2 3) (lk .free (xci (zyz c) 0 1 2 3 [])):=by
 refine zaq mixed Tryz.func110 zz4 [] (fun _=>.inl rfl) ?_;exact yy25
theorem zyj (c:Config) (h1:-9223372036854775808<c.first) (h2:c.first<=9223372036854775807) (h3:c.streams<=1099511627776) :
 zan Tryz.prog 106 [c.hv] zad (xmp (zyz c) 0 1 2 3) (lk .free (xci (zyz c) 0 1 2 3 [])):=by
 refine zaq mixed Tryz.func106 zz4 [] (fun _=>.inl rfl) ?_;exact yy25
structure Fit (r:Receiver):Prop where
 zar:r.zar.length<2 ^ 36
 pieces:r.pieces.length<2 ^ 22
 bytes:tot r.pieces<2 ^ 22
 zbh:r.zbh.length<2 ^ 36
 log:r.log.length<2 ^ 36
 data:∀ a∈r.log,a.data.length<2 ^ 40
abbrev yku:List HV:=[i64 0,i64 0,i64 0,i64 0,i64 0,i64 0,i64 0,i64 0,zej,zej,zej,zej]
theorem zdx (r:Receiver) (hr:Fit r):zan Tryz.prog 111 [r.hv] zad (xmp r 0 1 2 3) (lk .free (xci r 0 1 2 3 [])):=by
 obtain ⟨h1,h2,h3,h4,h5,h6⟩:=hr;refine zaq mixed Tryz.func111 zz4 [] (fun _=>.inl rfl) ?_;(conv=>whnf)
 (refine zat [(0,11)]  ?_;(conv=>whnf);refine dO (Cl.zgc r.zar zz0) ?_)
 (refine zat [(0,14)]  ?_;(conv=>whnf);refine dO (Cl.zsc r.zbh zz0) ?_)
 refine sD ?_;refine ⟨{x:List zav×List zav // r.pieces=x.1++x.2},fun | ⟨(A,B),_⟩=>hs 56 [(1,.ptr 1 0),(2,.ptr 2 0),(3,.own 900),(18,pieces r.pieces),(19,i64 r.pieces.length),(20,i64 A.length)] [(1,.live (.cells 37 (yea r (.own 11) (pieces r.pieces) (.own 14) (.p (.sl 4 (r.log.map zbk.row)))))),(2,.live (.cells 37 yku)),(11,xjt r.zar),(14,zzb r.zbh),(900,xgy A)],fun x=>x.1.2.length,⟨([],r.pieces),rfl⟩,?_,?_⟩
 . exact (zbi [(1,some 1),(2,some 2),(11,some 11),(14,some 14),(900,none)])
 rintro ⟨⟨A,B⟩,h⟩;dsimp only at h;have hl:r.pieces.length=A.length+B.length:=by rw [h];simp
 (conv=>whnf);cases B with
 | cons p B =>
  have hp:p.chunk.data.length<=tot r.pieces:=xca zz106;rw [zy6] at hl;refine sT ?_;refine zak h rfl (zw ?_)
  (refine zat [(0,27)]  ?_;(conv=>whnf);refine dO (Cl.zdg p.chunk.data zz0) ?_)
  refine zaa (c:=((A.map zav.row).length+1)*136<=140737488355328) zz3 (zw ?_);refine sF ?_;refine ⟨⟨(A++[p],B),by rw [h];simp⟩,(zay [(1,some 1),(2,some 2),(11,some 11),(14,some 14),(900,some 33)] (by repeat' (first | exact z0 | refine z1 ?_ | refine ⟨?_,?_⟩ | ((exact zbb (f:=zav.row) rfl rfl)) | exact z2))),by simp⟩
 | nil =>
  rw [zy14] at hl;rw [zy4] at h;refine sN ?_;refine ⟨{x:List zbk×List zbk // r.log=x.1++x.2},fun | ⟨(A,B),_⟩=>hs 56 [(1,.ptr 1 0),(2,.ptr 2 0),(3,.own 900),(6,.own 901),(36,.p (.sl 4 (r.log.map zbk.row))),(37,i64 r.log.length),(38,i64 A.length)] [(1,.live (.cells 37 (yea r (.own 11) (pieces r.pieces) (.own 14) (.p (.sl 4 (r.log.map zbk.row)))))),(2,.live (.cells 37 yku)),(11,xjt r.zar),(14,zzb r.zbh),(900,xgy r.pieces),(901,xoo A)],fun x=>x.1.2.length,⟨([],r.log),rfl⟩,?_,?_⟩
  . exact (zay [(1,some 1),(2,some 2),(11,some 11),(14,some 14),(900,some 900),(901,none)] zz91)
  rintro ⟨⟨A,B⟩,h⟩;dsimp only at h;have hl:r.log.length=A.length+B.length:=by rw [h];simp
  (conv=>whnf);cases B with
  | cons p B =>
   have hp:=h6 p zz106;rw [zy6] at hl;refine sT ?_;refine zak h rfl (zw ?_)
   (refine zat [(0,44)]  ?_;(conv=>whnf);refine dO (Cl.zdg p.data zz0) ?_)
   refine zaa (c:=((A.map zbk.row).length+1)*48<=140737488355328) zz3 (zw ?_);refine sF ?_;refine ⟨⟨(A++[p],B),by rw [h];simp⟩,(zay [(1,some 1),(2,some 2),(11,some 11),(14,some 14),(900,some 900),(901,some 49)] (by repeat' (first | exact z0 | refine z1 ?_ | refine ⟨?_,?_⟩ | ((exact zbb (f:=zbk.row) rfl rfl)) | exact z2))),by simp⟩
  | nil =>
   rw [zy14] at hl;rw [zy4] at h;refine sN ?_;refine zap [(0,some 11),(1,some 900),(2,some 14),(3,some 901)] rfl rfl trivial rfl rfl ⟨⟨rfl,.inl ⟨11,rfl,rfl⟩⟩,⟨rfl,.inl ⟨900,rfl,rfl⟩⟩,⟨rfl,.inl ⟨14,rfl,rfl⟩⟩,⟨rfl,.inl ⟨901,rfl,?_⟩⟩,trivial⟩;exact zas (by rw [h])
theorem yjz (r:Receiver) (h2:r.pieces.length<2 ^ 40) (h3:tot r.pieces<2 ^ 60):zan Tryz.prog 179 [r.hv] zad (i64 (tot r.pieces:Nat)) zad:=by
 refine zal mixed Tryz.func179 zz4 ?_;exact yy27
theorem ztk (r:Receiver) (h2:r.pieces.length<2 ^ 40) (h3:tot r.pieces<2 ^ 60):zan Tryz.prog 57 [r.hv] zad (i64 (tot r.pieces:Nat)) zad:=by
 refine zal mixed Tryz.func57 zz4 ?_;exact yy27
def zei (s m:Int) (o:Bool) (p:zav):Bool:=decide (p.chunk.stream=s)&&decide (p.chunk.mid=m)&&(p.chunk.ordered==o)
theorem xbh (p:zav) (s m:Int) (o:Bool):zan Tryz.prog 199 [.rp p.row,i64 s,i64 m,zbj o] zad (zbj (zei s m o p)) zad:=by
 refine zal mixed Tryz.func199 zz4 ?_;(conv=>whnf);by_cases c1:p.chunk.stream=s
 . refine zac zz39 ?_;conv=>whnf
   by_cases c2:p.chunk.mid=m
   . refine zac zz29 ?_;conv=>whnf
     simp [zei,c1,c2]
   . refine zab zz29 (zw ?_)
     simp [zei,c2]
 . refine zab zz39 (zw ?_)
   simp [zei,c1]
theorem yuk (s m:Int) (o:Bool) (p:zav):zan Tryz.prog 211 [p.hv,.rp [pi s],.rp [pi m],.rp [pb o]] zad (zbj (zei s m o p)) zad:=by
 refine zal mixed Tryz.func211 zz4 ?_;(conv=>whnf)
 ((refine zbf ?_;(conv=>whnf);refine ⟨_,xbh p s m o,rfl,?_⟩;conv=>whnf);try refine sG ?_)
def zoo (r:Receiver) (s m:Int) (o:Bool):Receiver:={r with pieces:=r.pieces.filter fun p=>!zei s m o p}
theorem zyc (r:Receiver) (s m:Int) (o:Bool) (h2:r.pieces.length<2 ^ 38) :
 zan Tryz.prog 201 [.ptr 1000 0,i64 s,i64 m,zbj o] (lk .free (tkH r)) (.tup []) (lk .free (tkD (zoo r s m o))):=by
 refine zaq mixed Tryz.func201 zz4 [1000,1001,1002,1003,1004] zbt ?_;(conv=>whnf)
 (refine zaf [false,true] [(1000,1002)] [(0,15)] ?_;(conv=>whnf);refine dG (Cl.ysy (fun p=>yuk s m o p) r.pieces zz0) ?_)
 (exact zck (pK5 [(0,some 1001),(1,some 15),(2,some 1003),(3,some 1004)]))
def dlv (r:Receiver) (s m:Int) (o:Bool):Receiver×Bool:=match join (r.pieces.filter (zei s m o)) with
 | none=>(r,false)
 | some b=>({zoo r s m o with log:=r.log++[⟨s,m,o,b⟩]},true)
theorem zlq (f:zav->Bool):∀ l:List zav,tot (l.filter f)<=tot l
 | []=>zy28 _
 | p::l=>by
  have:=zlq f l;rw [zy46];split
  . rw [zfq,zfq];omega
  . rw [zfq];omega
theorem znl (r:Receiver) (s m:Int) (o:Bool) (h2:r.pieces.length<2 ^ 37) (h3:tot r.pieces<2 ^ 40) (h4:r.log.length<2 ^ 38) :
 zan Tryz.prog 183 [.ptr 1000 0,i64 s,i64 m,zbj o] (lk .free (tkH r)) (zbj (dlv r s m o).2) (lk .free (tkD (dlv r s m o).1)):=by
 refine zaq mixed Tryz.func183 zz4 [1000,1001,1002,1003,1004] zbt ?_;(conv=>whnf);refine ⟨{x:List zav×List zav // r.pieces=x.1++x.2},fun | ⟨(A,B),_⟩=>hsP [1000,1001,1002,1003,1004] 61 [(0,.ptr 1000 0),(1,i64 s),(2,i64 m),(3,zbj o),(8,zbj false),(9,.own 900),(18,.own 1002),(19,i64 r.pieces.length),(20,i64 A.length)] (tkH r++[(900,xgy (A.filter (zei s m o)))]),fun x=>x.1.2.length,⟨([],r.pieces),rfl⟩,?_,?_⟩
 . exact (zcd (pK5 [(900,none)]) zz2)
 rintro ⟨⟨A,B⟩,h⟩;dsimp only at h;have hl:r.pieces.length=A.length+B.length:=by rw [h];simp
 have hf:=zy41 (zei s m o) A;(conv=>whnf);cases B with
 | cons p B =>
  rw [zy6] at hl;refine sT ?_;refine sO ?_;refine zak h rfl (zw ?_)
  (refine cL ?_;refine dL (xbh p s m o) ?_)
  cases hp:zei s m o p with
  | true =>
   conv=>whnf
   try refine sG ?_
   refine zaa (c:=(((A.filter (zei s m o)).map zav.row).length+1)*136<=140737488355328) zz3 (zw ?_)
   try refine sG ?_
   refine sF ?_;exact ⟨⟨(A++[p],B),by rw [h];simp⟩,(zcd (pK5 [(900,some 31)]) (by repeat' (first | exact z0 | refine z1 ?_ | refine ⟨?_,?_⟩ | ((exact zbb (f:=zav.row) (by rw [zy47,zy46,zy1 hp];rfl) rfl)) | exact z2))),by simp⟩
  | false =>
   conv=>whnf
   try refine sG ?_
   refine sF ?_;exact ⟨⟨(A++[p],B),by rw [h];simp⟩,(zcd (pK5 [(900,some 900)]) (by repeat' (first | exact z0 | refine z1 ?_ | refine ⟨?_,?_⟩ | ((exact zas (by rw [zy47,zy46,zy0 (by rw [hp];decide)];simp))) | exact z2))),by simp⟩
 | nil =>
  rw [zy14] at hl;rw [zy4] at h;have ht:=zlq (zei s m o) A;have hA:tot A=tot r.pieces:=by rw [h]
  have hd:dlv r s m o=match join (A.filter (zei s m o)) with
   | none=>(r,false)
   | some b=>({zoo r s m o with log:=r.log++[⟨s,m,o,b⟩]},true):=by rw [dlv,h]
  have ps:=xbc (A.filter (zei s m o)) zz0 zz0;refine sN ?_;cases hj:join (A.filter (zei s m o)) with
  | none =>
   rw [hj] at hd ps;rw [hd]
   (refine zat [(0,35)]  ?_;(conv=>whnf);refine dO ps ?_)
   exact yy119
  | some b =>
   rw [hj] at hd ps;rw [hd]
   (refine zat [(0,35)]  ?_;(conv=>whnf);refine dO ps ?_)
   refine zaa (c:=((r.log.map zbk.row).length+1)*48<=140737488355328) zz3 (zw ?_)
   try refine sG ?_
   (refine zaf [] [(1000,1000),(1001,1001),(1002,1002),(1003,1003),(1004,52)] [(0,910),(1,911),(2,912),(3,913)] ?_;(conv=>whnf);refine dG (zyc {r with log:=r.log++[⟨s,m,o,b⟩]} s m o zz83) ?_ ⟨rfl,rfl,rfl,⟨zz1,⟨zz1,⟨zz1,⟨zz1,⟨⟨rfl,_,rfl,.inl ⟨rfl,zbb (f:=zbk.row) (x:=⟨s,m,o,b⟩) rfl rfl⟩⟩,trivial⟩⟩⟩⟩⟩,⟨⟨rfl,rfl⟩,⟨⟨rfl,rfl⟩,⟨⟨rfl,rfl⟩,⟨⟨rfl,rfl⟩,trivial⟩⟩⟩⟩,rfl,rfl,rfl⟩)
   exact yy92
theorem ydl {l:List zav} {b:List UInt8} (h:join l=some b):0<l.length:=by
 unfold join at h;split at h
 . cases h
 . rename_i c;exact zy38.2 c
theorem znw {r:Receiver} {s m:Int} {o:Bool} (h:(dlv r s m o).2=true):(dlv r s m o).1.pieces.length<r.pieces.length:=by
 unfold dlv at h ⊢;split
 . rename_i hj;rw [hj] at h;cases h
 . rename_i b hj
   have h1:=ydl hj;have h2:(r.pieces.filter fun p=>!zei s m o p).length+(r.pieces.filter (zei s m o)).length=r.pieces.length:=by
    induction r.pieces with
    | nil=>rfl
    | cons p l ih =>
     rw [zy46,zy46];cases zei s m o p<;>simp<;>omega
   show (r.pieces.filter fun p=>!zei s m o p).length<_;omega
theorem zid (r:Receiver) (s m:Int) (o:Bool):(dlv r s m o).1.zbh=r.zbh/\(dlv r s m o).1.cum=r.cum/\(dlv r s m o).1.zar=r.zar/\(dlv r s m o).1.config=r.config/\(dlv r s m o).1.pieces.length<=r.pieces.length/\tot (dlv r s m o).1.pieces<=tot r.pieces /\
 (dlv r s m o).1.log.length+(dlv r s m o).1.pieces.length<=r.log.length+r.pieces.length:=by
 have hl:=fun h=>znw (r:=r) (s:=s) (m:=m) (o:=o) h
 unfold dlv at hl ⊢;split
 . exact ⟨rfl,rfl,rfl,rfl,zy28 _,zy28 _,zy28 _⟩
 . rename_i b hj
   rw [hj] at hl;have h1:=hl rfl;dsimp only [zoo] at h1 ⊢;refine ⟨rfl,rfl,rfl,rfl,zy41 _ _,zlq _ _,?_⟩;simp only [zy9,zy55];omega
def zzc (r:Receiver) (k:Nat):Receiver:={r with zbh:=r.zbh.set k (r.zbh[k]?.getD 0+1)}
def zru:Nat->Receiver->Nat->Receiver
 | 0,r,_=>r
 | n+1,r,k=>if (dlv r k (tag (r.zbh[k]?.getD 0)) true).2 then zru n (zzc (dlv r k (tag (r.zbh[k]?.getD 0)) true).1 k) k else (dlv r k (tag (r.zbh[k]?.getD 0)) true).1
def turns (r:Receiver) (k:Nat):Receiver:=zru (r.pieces.length+1) r k
theorem ztq (r:Receiver) (k:Nat):turns r k=if (dlv r k (tag (r.zbh[k]?.getD 0)) true).2 then turns (zzc (dlv r k (tag (r.zbh[k]?.getD 0)) true).1 k) k else (dlv r k (tag (r.zbh[k]?.getD 0)) true).1:=by
 have gen:∀ (n m:Nat) (r:Receiver),r.pieces.length<n->r.pieces.length<m->zru n r k=zru m r k:=by
  intro n
  induction n with
  | zero=>intro m r h;omega
  | succ n ih =>
   intro m r h1 h2;cases m with
   | zero=>omega
   | succ m =>
    rw [zru,zru];split
    . rename_i hd
      have:=znw hd;exact ih m _ (by show (dlv r k _ true).1.pieces.length<n;omega) (by show (dlv r k _ true).1.pieces.length<m;omega)
    . rfl
 conv=>lhs;rw [turns,zru]
 split
 . rename_i hd
   have:=znw hd;exact gen _ _ _ (by show (dlv r k _ true).1.pieces.length<_;omega) (by show (dlv r k _ true).1.pieces.length<_;exact zy159 _)
 . rfl
structure yvv (r:Receiver) (k:Nat):Prop where
 pieces:r.pieces.length<2 ^ 22
 bytes:tot r.pieces<2 ^ 22
 log:r.log.length+r.pieces.length<2 ^ 37
 has:k<r.zbh.length
 lo:-(2 ^ 60)<r.zbh[k]?.getD 0
 hi:r.zbh[k]?.getD 0+r.pieces.length<2 ^ 60
theorem xbu (r:Receiver) (k:Nat) (hf:yvv r k) :
 zan Tryz.prog 182 [.ptr 1000 0,i64 k] (lk .free (tkH r)) (.tup []) (lk .free (tkD (turns r k))):=by
 generalize hT:turns r k=T;refine zaq mixed Tryz.func182 zz4 [1000,1001,1002,1003,1004] zbt ?_;(conv=>whnf);refine ⟨{x:Receiver // yvv x k/\turns x k=T},fun | ⟨x,_⟩=>hsP [1000,1001,1002,1003,1004] 26 [(0,.ptr 1000 0),(1,i64 k)] ((1000,.live (.cells 225 (yea x (.own 900) (.own 901) (.own 902) (.own 903))))::xci x 900 901 902 903 [(1001,.dead),(1002,.dead),(1003,.dead),(1004,.dead)]),fun x=>x.1.pieces.length,⟨r,hf,hT⟩,?_,?_⟩
 . exact (zdm (pK5 [(900,some 1001),(901,some 1002),(902,some 1003),(903,some 1004)]))
 rintro ⟨x,⟨h1,h2,h3,h4,h5,h6⟩,he⟩;(conv=>whnf);refine sO ?_;refine zcb k rfl h4 (zw ?_);have hg:x.zbh[k]?.getD 0=x.zbh[k]:=by simp [h4]
 (refine cL ?_;refine dL (zdn _) ?_)
 have hstep:=ztq x k;rw [he,hg] at hstep;rw [hg] at h5 h6;obtain ⟨k1,k2,k3,k4,k5,k6,k7⟩:=zid x k (tag x.zbh[k]) true;have hless:(dlv x k (tag x.zbh[k]) true).2=true->(dlv x k (tag x.zbh[k]) true).1.pieces.length<x.pieces.length:=fun h=>znw h
 (refine zaf [] [(1000,1000),(1001,900),(1002,901),(1003,902),(1004,903)] [(0,910),(1,911),(2,912),(3,913)] ?_;(conv=>whnf);refine dG (znl x k (tag x.zbh[k]) true zz0 zz0 zz0) ?_)
 generalize hD:dlv x k (tag x.zbh[k]) true=D at *
 obtain ⟨y,ok⟩:=D;dsimp only at k1 k2 k3 k4 k5 k6 k7 hless hstep;have h4':k<y.zbh.length:=by rw [k1];exact h4
 have hyk:y.zbh[k]=x.zbh[k]:=by simp only [k1]
 cases ok with
 | false =>
  have hstep:T=y:=hstep;subst hstep;(conv=>whnf)
  try refine sG ?_
  exact yy92
 | true =>
  have hless:=hless rfl;(conv=>whnf)
  try refine sG ?_
  refine sO ?_;refine zcb k rfl h4' (zw ?_);rw [hyk];refine sF ?_;refine sO ?_;refine zcb k rfl h4' (zw ?_);have hb:(zzc y k).zbh[k]?.getD 0=x.zbh[k]+1:=by
   show (y.zbh.set k (y.zbh[k]?.getD 0+1))[k]?.getD 0=_;rw [zy23 h4',zy2 h4',hyk];rfl
  refine ⟨⟨zzc y k,⟨by show y.pieces.length<_;omega,by show tot y.pieces<_;omega,by show y.log.length+y.pieces.length<_;omega,by show k<(y.zbh.set k _).length;rw [zy25];exact h4',by rw [hb];omega,by rw [hb];show _+(y.pieces.length:Int)<_;omega⟩,?_⟩,(zcd (pK5 [(900,some 910),(901,some 911),(902,some 912),(903,some 913)]) zz24),by show y.pieces.length<x.pieces.length;omega⟩;rw [hstep];rfl
end Rcv
namespace Rcv
open Srt Jn Ser
theorem zym (r:Receiver) (k:Nat) (z:Int) (hz:z=k) (hf:yvv r k) :
 zan Tryz.prog 182 [.ptr 1000 0,i64 z] (lk .free (tkH r)) (.tup []) (lk .free (tkD (turns r k))):=by
 subst hz;exact xbu r k hf
structure zut (r:Receiver) (c:Chunk) (n:Int):Prop where
 kind:c.kind=1
 low:0<=c.stream
 high:c.stream<r.zbh.length
 zet:r.cum<n
 fresh:has r.zar n=false
 room:n=r.cum+1\/(tot r.pieces:Int)+c.data.length<=400
def put (r:Receiver) (c:Chunk):Receiver :=
 {r with pieces:=r.pieces++[⟨zcy r.cum c.tag,c⟩],cum:=(up (add r.zar (zcy r.cum c.tag)) r.cum).1,zar:=(up (add r.zar (zcy r.cum c.tag)) r.cum).2}
instance xno (r:Receiver) (c:Chunk) (n:Int):Decidable (zut r c n) :=
 decidable_of_iff (c.kind=1/\0<=c.stream/\c.stream<r.zbh.length/\r.cum<n/\has r.zar n=false/\(n=r.cum+1\/(tot r.pieces:Int)+c.data.length<=400)) ⟨fun ⟨a,b,d,e,f,g⟩=>⟨a,b,d,e,f,g⟩,fun ⟨a,b,d,e,f,g⟩=>⟨a,b,d,e,f,g⟩⟩
def data (r:Receiver) (c:Chunk):Receiver:=if zut r c (zcy r.cum c.tag) then (if c.ordered then turns (put r c) c.stream.toNat else (dlv (put r c) c.stream c.mid false).1) else r
structure xnq (r:Receiver) (c:Chunk):Prop where
 fit:Fit r
 zfr:zfr r.zar
 hi:∀ s∈r.zar,s.hi<=2 ^ 39
 cum1:-(2 ^ 39)<=r.cum
 cum2:r.cum<=2 ^ 39
 zbh:∀ t∈r.zbh,-(2 ^ 59)<t/\t<2 ^ 59
 data:c.data.length<2 ^ 21
 more:tot r.pieces<2 ^ 21
 many:r.pieces.length<2 ^ 21
theorem yof {l:List Span} {n M:Int} (h:Ser.zfr l) (h1:-9223372036854775808<=n) (h2:n<=9223372036854775807) (hl:∀ s∈l,s.hi<=M) (hn:n<=M):∀ s∈add l n,s.hi<=M:=by
 obtain ⟨r1,r2⟩:=zvc h h1 h2;intro s hs;have h3:=(zia r1 s hs).1;have h4:has (add l n) s.hi=true:=znb.2 ⟨s,hs,h3,zy74 _⟩;rw [r2,zy79] at h4;rcases h4 with h4 | h4
 . obtain ⟨t,ht,_,h5⟩:=znb.1 h4
   have:=hl t ht;omega
 . have:s.hi=n:=by simpa using h4
   omega
theorem ycb (l:List Span) (n:Int):(add l n).length<=l.length+1:=by
 unfold add;split
 . omega
 . have h1:(zvf n (below l n)).1.length<=(below l n).length:=by
    unfold zvf;split
    . split
      . simp
      . exact zy28 _
    . exact zy28 _
   have h2:(zpw n (zet l n)).2.length<=(zet l n).length:=by
    cases zet l n with
    | nil=>exact zy28 _
    | cons t r=>simp only [zpw];split<;>simp
   have h3:l.length=(below l n).length+(zet l n).length:=by
    conv=>lhs;rw [split l n]
    exact zy9
   simp only [zy9,zy6];omega
theorem xaz (r:Receiver) (c:Chunk) (hf:xnq r c):zan Tryz.prog 152 [r.hv,c.hv] zad (xmp (data r c) 0 1 2 3) (lk .free (xci (data r c) 0 1 2 3 [])):=by
 obtain ⟨h1,h2,h3,h4,h5,h6,h7,h8,h9⟩:=hf;obtain ⟨n1,n2,n3⟩:=zin (a:=r.cum) (t:=c.tag) zz0 zz0;generalize hD:data r c=D;refine zaq mixed Tryz.func152 zz4 [] (fun _=>.inl rfl) ?_;(conv=>whnf)
 (refine zat [(0,910),(1,911),(2,912),(3,913)]  ?_;(conv=>whnf);refine dO (zdx r h1) ?_)
 (refine cL ?_;refine dL (zlk r.cum c.tag) ?_)
 have no:¬ zut r c (zcy r.cum c.tag)->D=r:=fun h=>by rw [<- hD,data,zy0 h]
 by_cases c1:c.kind=1
 case neg =>
  obtain rfl:=no fun h=>c1 h.1
  refine zac zz39 ?_;conv=>whnf
  exact yy58
 refine zab zz148 (zw ?_);by_cases c2:c.stream<0
 . obtain rfl:=no fun h=>by have:=h.2;omega
   refine zac zz29 ?_;conv=>whnf
   exact yy58
 refine zab zz29 (zw ?_);by_cases c3:c.stream>=r.zbh.length
 . obtain rfl:=no fun h=>by have:=h.3;omega
   refine zac zz89 (zw ?_);exact yy58
 refine zab zz89 (zw ?_);by_cases c4:zcy r.cum c.tag<=r.cum
 . obtain rfl:=no fun h=>by have:=h.4;omega
   refine zac zz120 (zw ?_);exact yy58
 refine zab zz120 (zw ?_)
 (refine cL ?_;refine dL (yry r.zar (zcy r.cum c.tag) (by have:=h1.zar;omega)) ?_)
 cases c5:has r.zar (zcy r.cum c.tag) with
 | true =>
  obtain rfl:=no fun h=>by have:=h.5;rw [c5] at this;cases this
  (conv=>whnf);exact yy58
 | false =>
 (conv=>whnf);refine sF ?_;have g1:=h1.zar;have g2:=h1.log;have rest:zut r c (zcy r.cum c.tag)->D=if c.ordered then turns (put r c) c.stream.toNat else (dlv (put r c) c.stream c.mid false).1:=fun h=>by rw [<- hD,data,zy1 h]
 have xde:tot (put r c).pieces=tot r.pieces+c.data.length:=by show tot (r.pieces++[_])=_;rw [zno,zfq];rfl
 have hpl:(put r c).pieces.length=r.pieces.length+1:=by show (r.pieces++[_]).length=_;simp
 have hadd:=yof (n:=zcy r.cum c.tag) (M:=1099511627776) h2 zz0 zz0 (fun s hs=>by have:=h3 s hs;omega) zz0;have hal:=ycb r.zar (zcy r.cum c.tag);by_cases c6:zcy r.cum c.tag=r.cum+1
 case' pos =>
  have ok:zut r c (zcy r.cum c.tag):=⟨c1,by omega,by omega,by omega,c5,.inl c6⟩
  refine zab (by simpa using c6) ?_;conv=>whnf
  ((refine zaw ?_ ?_;(· kernel_rfl);conv=>whnf);try refine sG ?_)
 case' neg =>
  refine zac (by simpa using c6) (zw ?_)
  (refine cL ?_;refine dL (yjz r zz0 zz0) ?_)
  refine sF ?_;by_cases c7:(tot r.pieces:Int)+c.data.length>400
  case pos =>
   obtain rfl:=no fun h=>by have:=h.6;omega
   refine sD ?_;refine zac zz151 (zw ?_);exact yy112
  have ok:zut r c (zcy r.cum c.tag):=⟨c1,by omega,by omega,by omega,c5,.inr zz0⟩
  refine sD ?_;refine zab zz151 (zw ?_)
  try refine sG ?_
 all_goals (
  have rest:=rest ok
  (refine zat [(0,66)]  ?_;(conv=>whnf);refine dO (Cl.zdg c.data zz0) ?_)
  refine zaa (c:=((r.pieces.map zav.row).length+1)*136<=140737488355328) zz3 (zw ?_);refine sD ?_
  (refine zat [(0,88)]  ?_;(conv=>whnf);refine dO (xfj r.zar (zcy r.cum c.tag) h2 zz0 zz0 zz0) ?_)
  (refine zat [(0,92)]  ?_;(conv=>whnf);refine dO (xbv (add r.zar (zcy r.cum c.tag)) r.cum hadd zz0 zz0 zz0) ?_)
  refine sD ?_;obtain ⟨k,hk⟩:∃ k:Nat,c.stream=k:=⟨c.stream.toNat,by omega⟩
  have hkl:k<r.zbh.length:=by omega
  have htk:(put r c).zbh[k]?.getD 0=r.zbh[k]:=by show r.zbh[k]?.getD 0=_;rw [zy2 hkl];rfl
  have htb:=h6 _ (zy57 hkl);refine zah (fun ho=>?_) (fun ho=>?_)
  . rw [zy1 ho,show c.stream.toNat=k by omega] at rest
    subst rest;(conv=>whnf)
    (refine zaf [] [(1000,10),(1001,92),(1002,78),(1003,912),(1004,913)] [(0,920),(1,921),(2,922),(3,923)] ?_;(conv=>whnf);refine dG (zym (put r c) k _ hk ⟨by omega,by omega,by show r.log.length+_<_;omega,hkl,by rw [htk];omega,by rw [htk];omega⟩) ?_ ⟨rfl,rfl,rfl,⟨zz1,⟨zz1,⟨⟨rfl,_,rfl,.inl ⟨rfl,zbb (f:=zav.row) (x:=⟨zcy r.cum c.tag,c⟩) rfl rfl⟩⟩,⟨zz1,⟨zz1,trivial⟩⟩⟩⟩⟩,⟨⟨rfl,rfl⟩,⟨⟨rfl,rfl⟩,⟨⟨rfl,rfl⟩,⟨⟨rfl,rfl⟩,trivial⟩⟩⟩⟩,rfl,rfl,rfl⟩)
    (exact zck [(0,some 920),(1,some 921),(2,some 922),(3,some 923)])
  . rw [zy0 (by rw [ho];decide)] at rest
    subst rest;(conv=>whnf)
    (refine zaf [] [(1000,10),(1001,92),(1002,78),(1003,912),(1004,913)] [(0,920),(1,921),(2,922),(3,923)] ?_;(conv=>whnf);refine dG (znl (put r c) c.stream c.mid false zz0 zz0 (by show r.log.length<_;omega)) ?_ ⟨rfl,rfl,rfl,⟨zz1,⟨zz1,⟨⟨rfl,_,rfl,.inl ⟨rfl,zbb (f:=zav.row) (x:=⟨zcy r.cum c.tag,c⟩) rfl rfl⟩⟩,⟨zz1,⟨zz1,trivial⟩⟩⟩⟩⟩,⟨⟨rfl,rfl⟩,⟨⟨rfl,rfl⟩,⟨⟨rfl,rfl⟩,⟨⟨rfl,rfl⟩,trivial⟩⟩⟩⟩,rfl,rfl,rfl⟩)
    (exact zck [(0,some 920),(1,some 921),(2,some 922),(3,some 923)]))
def shift (c:Int) (s:Span):Span:=⟨s.lo-c,s.hi-c⟩
def zjw (r:Receiver):Chunk:=⟨2,tag r.cum,0,0,0,false,false,[],(r.zar.take 6).map (shift r.cum),(if 0>400-(tot r.pieces:Int) then 0 else 400-(tot r.pieces:Int)),[]⟩
theorem ztm {α:Type} (A:List α) (x:α) (f:α->α):((A++[x]).take 6).map f=if A.length<6 then (A.take 6).map f++[f x] else (A.take 6).map f:=by
 split
 . rename_i h
   rw [zy31 (by simp;omega),zy31 (by omega)];simp
 . rename_i h
   rw [zy86 (by omega)]
abbrev xmv (r:Receiver) (v:HV):List HV:=[i64 2,i64 (zjw r).tag,i64 0,i64 0,i64 0,zbj false,zbj false,zej,v,i64 (zjw r).room,zej]
theorem xbn (r:Receiver) (h1:r.zar.length<2 ^ 40) (h2:r.pieces.length<2 ^ 40) (h3:tot r.pieces<2 ^ 60) (hc:-(2 ^ 60)<=r.cum) (hc2:r.cum<=2 ^ 60) (hsp:∀ s∈r.zar,-(2 ^ 61)<=s.lo/\s.lo<=2 ^ 61/\-(2 ^ 61)<=s.hi/\s.hi<=2 ^ 61) :
 zan Tryz.prog 154 [r.hv] zad (.agg (xmv r (.own 0))) (lk .free [(0,xjt (zjw r).zar)]):=by
 refine zaq mixed Tryz.func154 zz4 [] (fun _=>.inl rfl) ?_;(conv=>whnf)
 (refine cL ?_;refine dL (zdn r.cum) ?_)
 (refine cL ?_;refine dL (yjz r zz0 zz0) ?_)
 refine sF ?_;refine sD ?_;refine ⟨{x:List Span×List Span // r.zar=x.1++x.2},fun | ⟨(A,B),_⟩=>hs 43 [(1,.ptr 1 0),(2,.ptr 2 0),(3,.ptr 3 0),(15,zar r.zar),(16,i64 r.zar.length),(17,i64 A.length)] [(1,.live (.cells 37 (yea r (zar r.zar) (pieces r.pieces) (.p (.sl 1 (r.zbh.map fun n=>[pi n]))) (.p (.sl 4 (r.log.map zbk.row)))))),(2,.live (.cells 61 [i64 0,i64 0,i64 0,i64 0,i64 0,zbj false,zbj false,zej,zej,i64 0,zej])),(3,.live (.cells 61 (xmv r (.own 900)))),(900,xjt ((A.take 6).map (shift r.cum)))],fun x=>x.1.2.length,⟨([],r.zar),rfl⟩,?_,?_⟩
 . exact (zbi [(1,some 1),(2,some 2),(3,some 3),(900,none)])
 rintro ⟨⟨A,B⟩,h⟩;dsimp only at h;have hl:r.zar.length=A.length+B.length:=by rw [h];simp
 (conv=>whnf);cases B with
 | cons p B =>
  have hp:=hsp p zz106;rw [zy6] at hl;have hq:((A.take 6).map (shift r.cum)).length=min 6 A.length:=by simp
  refine sT ?_;refine zak h rfl (zw ?_);have hsn:=ztm A p (shift r.cum);by_cases c:A.length<6
  . rw [zy1 c] at hsn
    refine sT ?_;refine sF ?_;refine sF ?_;refine zaa (c:=((((A.take 6).map (shift r.cum)).map Span.row).length+1)*16<=140737488355328) zz3 (zw ?_)
    try refine sG ?_
    refine sF ?_;refine ⟨⟨(A++[p],B),by rw [h];simp⟩,(zay [(1,some 1),(2,some 2),(3,some 3),(900,some 39)] zz50),by simp⟩
  . rw [zy0 c] at hsn
    refine sN ?_;refine sF ?_;refine ⟨⟨(A++[p],B),by rw [h];simp⟩,(zay [(1,some 1),(2,some 2),(3,some 3),(900,some 900)] zz53),by simp⟩
 | nil =>
  rw [zy14] at hl;rw [zy4] at h;refine sN ?_
  (exact zdd [(0,some 900)] (by repeat' (first | exact z0 | refine z1 ?_ | refine ⟨?_,?_⟩ | ((exact zas (by rw [<- h];rfl))) | exact z2)))
end Rcv
namespace Rcv
open Srt Jn Ser
def pass (r:Receiver) (k:Nat):Receiver:=zzc (if (dlv r k (tag (r.zbh[k]?.getD 0)) true).2 then (dlv r k (tag (r.zbh[k]?.getD 0)) true).1 else zoo (dlv r k (tag (r.zbh[k]?.getD 0)) true).1 k (tag (r.zbh[k]?.getD 0)) true) k
def zni:Nat->Receiver->Nat->Receiver
 | 0,r,_=>r
 | n+1,r,k=>zni n (pass r k) k
def ybs (r:Receiver) (k:Nat) (n:Int):Receiver:=zni (n+1-r.zbh[k]?.getD 0).toNat r k
def zhj (r:Receiver) (s:zdv):Receiver :=
 if s.stream<0\/(r.zbh.length:Int)<=s.stream then r else if s.ordered=false then zoo r s.stream s.mid false
 else turns (ybs r s.stream.toNat (zcy (r.zbh[s.stream.toNat]?.getD 0) s.mid)) s.stream.toNat
structure xoh (r:Receiver):Prop where
 pieces:r.pieces.length<2 ^ 22
 bytes:tot r.pieces<2 ^ 22
 log:r.log.length+r.pieces.length<2 ^ 37
 lo:∀ t∈r.zbh,-(2 ^ 57)<t
 hi:∀ t∈r.zbh,t<2 ^ 57
theorem zjh (r:Receiver) (k:Nat):(pass r k).zbh=r.zbh.set k (r.zbh[k]?.getD 0+1)/\(pass r k).cum=r.cum/\(pass r k).zar=r.zar/\(pass r k).config=r.config/\(pass r k).pieces.length<=r.pieces.length/\tot (pass r k).pieces<=tot r.pieces /\
 (pass r k).log.length+(pass r k).pieces.length<=r.log.length+r.pieces.length:=by
 obtain ⟨h1,h2,h3,h4,h5,h6,h7⟩:=zid r k (tag (r.zbh[k]?.getD 0)) true;unfold pass;generalize dlv r k (tag (r.zbh[k]?.getD 0)) true=D at *
 obtain ⟨y,ok⟩:=D;dsimp only at h1 h2 h3 h4 h5 h6 h7 ⊢;cases ok with
 | true=>exact ⟨by show y.zbh.set _ (y.zbh[k]?.getD 0+1)=_;rw [h1],h2,h3,h4,h5,h6,h7⟩
 | false =>
  have f1:=zy41 (fun p=>!zei k (tag (r.zbh[k]?.getD 0)) true p) y.pieces;have f2:=zlq (fun p=>!zei k (tag (r.zbh[k]?.getD 0)) true p) y.pieces;refine ⟨by show y.zbh.set _ (y.zbh[k]?.getD 0+1)=_;rw [h1],h2,h3,h4,?_,?_,?_⟩
  . show (List.filter _ _).length<=_;omega
  . show tot (List.filter _ _)<=_;omega
  . show _+(List.filter _ _).length<=_;show y.log.length+_<=_;omega
theorem zyu {r:Receiver} {k:Nat} {n:Int} (h:k<r.zbh.length) (hn:r.zbh[k]?.getD 0<=n):ybs r k n=ybs (pass r k) k n:=by
 obtain ⟨h1,_⟩:=zjh r k;unfold ybs;rw [h1,zy23 h];show zni _ _ _=zni (n+1-(r.zbh[k]?.getD 0+1)).toNat _ _;obtain ⟨j,hj⟩:∃ j,(n+1-r.zbh[k]?.getD 0).toNat=j+1:=⟨(n+1-r.zbh[k]?.getD 0).toNat-1,by omega⟩
 rw [hj,zni,show (n+1-(r.zbh[k]?.getD 0+1)).toNat=j by omega]
theorem yfh {r:Receiver} {k:Nat} {n:Int} (hn:n<r.zbh[k]?.getD 0):ybs r k n=r:=by
 unfold ybs;rw [show (n+1-r.zbh[k]?.getD 0).toNat=0 by omega];rfl
theorem zyl (r:Receiver) (s:zdv) (hf:xoh r) :
 zan Tryz.prog 184 [.ptr 1000 0,s.hv] (lk .free (tkH r)) (.tup []) (lk .free (tkD (zhj r s))):=by
 obtain ⟨f1,f2,f3,f4,f5⟩:=hf;generalize hT:zhj r s=T;refine zaq mixed Tryz.func184 zz4 [1000,1001,1002,1003,1004] zbt ?_;(conv=>whnf);by_cases c1:s.stream<0
 . rw [zhj,zy1 (.inl c1)] at hT
   subst hT;refine zac zz39 ?_;conv=>whnf
   refine sD ?_;exact yy119
 refine zab zz39 (zw ?_);refine sD ?_;by_cases c2:(r.zbh.length:Int)<=s.stream
 . rw [zhj,zy1 (.inr c2)] at hT
   subst hT;refine zac zz29 ?_;conv=>whnf
   exact yy119
 refine zab zz29 (zw ?_);cases hs3:s.ordered with
 | false =>
  rw [zhj,zy0 (by omega),zy1 hs3] at hT;subst hT;(conv=>whnf)
  try refine sG ?_
  (refine zaf [] [(1000,1000),(1001,1001),(1002,1002),(1003,1003),(1004,1004)] [(0,910),(1,911),(2,912),(3,913)] ?_;(conv=>whnf);refine dG (zyc r s.stream s.mid false zz0) ?_)
  exact yy92
 | true =>
 rw [zhj,zy0 (by omega),zy0 (by rw [hs3];decide)] at hT;obtain ⟨k,hk⟩:∃ k:Nat,s.stream=k:=⟨s.stream.toNat,by omega⟩
 have hkl:k<r.zbh.length:=by omega
 have hg:r.zbh[k]?.getD 0=r.zbh[k]:=by simp [hkl]
 have b1:=f4 _ (zy57 hkl);have b2:=f5 _ (zy57 hkl);rw [show s.stream.toNat=k by omega,hg] at hT;(conv=>whnf)
 try refine sG ?_
 refine sO ?_;refine zcb k zz0 hkl (zw ?_)
 (refine cL ?_;refine dL (zlk r.zbh[k] s.mid) ?_)
 refine sD ?_;obtain ⟨n1,n2,n3⟩:=zin (a:=r.zbh[k]) (t:=s.mid) zz0 zz0;generalize zcy r.zbh[k] s.mid=n at hT n1 n2 n3 ⊢;refine ⟨{x:Receiver // yvv x k/\x.zbh[k]?.getD 0<=2 ^ 58/\turns (ybs x k n) k=T},fun | ⟨x,_⟩=>hsP [1000,1001,1002,1003,1004] 88 [(0,.ptr 1000 0),(3,.ptr 3 0),(4,i64 n)] ((1000,.live (.cells 225 (yea x (.own 900) (.own 901) (.own 902) (.own 903))))::xci x 900 901 902 903 [(3,.live (.cells 180 [i64 s.stream,i64 s.mid,zbj true])),(1001,.dead),(1002,.dead),(1003,.dead),(1004,.dead)]),fun x=>(n+1-x.1.zbh[k]?.getD 0).toNat,⟨r,⟨f1,f2,f3,hkl,by rw [hg];omega,by rw [hg];omega⟩,by rw [hg];omega,hT⟩,?_,?_⟩
 . exact (zdm (pK5 ((900,some 1001)::(901,some 1002)::(902,some 1003)::(903,some 1004)::[(3,some 3)])))
 rintro ⟨x,⟨h1,h2,h3,h4,h5,h6⟩,h7,he⟩;(conv=>whnf);refine sO ?_;refine zcb k zz0 h4 (zw ?_);refine sD ?_;have hx:x.zbh[k]?.getD 0=x.zbh[k]:=by simp [h4]
 rw [hx] at h5 h6 h7;by_cases c3:x.zbh[k]<=n
 . rw [zyu h4 (by omega)] at he
   obtain ⟨k1,k2,k3,k4,k5,k6,k7⟩:=zjh x k;rw [hx] at k1;have hpas:pass x k=zzc (if (dlv x k (tag x.zbh[k]) true).2 then (dlv x k (tag x.zbh[k]) true).1 else zoo (dlv x k (tag x.zbh[k]) true).1 k (tag x.zbh[k]) true) k:=by rw [pass,hx]
   obtain ⟨d1,d2,d3,d4,d5,d6,d7⟩:=zid x k (tag x.zbh[k]) true;have hgt:(pass x k).zbh[k]?.getD 0=x.zbh[k]+1:=by rw [k1,zy23 h4];rfl
   have next:yvv (pass x k) k/\(pass x k).zbh[k]?.getD 0<=2 ^ 58/\turns (ybs (pass x k) k n) k=T:=⟨⟨by omega,by omega,by omega,by rw [k1,zy25];exact h4,by rw [hgt];omega,by rw [hgt];omega⟩,by rw [hgt];omega,he⟩
   have less:(n+1-(pass x k).zbh[k]?.getD 0).toNat<(n+1-x.zbh[k]?.getD 0).toNat:=by rw [hgt,hx];omega
   refine sT ?_;refine sO ?_;refine zcb k zz0 h4 (zw ?_)
   (refine cL ?_;refine dL (zdn _) ?_)
   refine sD ?_
   (refine zaf [] [(1000,1000),(1001,900),(1002,901),(1003,902),(1004,903)] [(0,910),(1,911),(2,912),(3,913)] ?_;(conv=>whnf);refine dG (znl x s.stream (tag x.zbh[k]) true zz0 zz0 zz0) ?_)
   rw [<- hk] at hpas d1 d2 d3 d4 d5 d6 d7;have hbm:∀ (y:Receiver) (z:Int),y.zbh=x.zbh->z=x.zbh[k]+1->zai.live (.row 3 1 ((zzc y k).zbh.map fun n=>[pi n]))=zai.live (.row 3 1 ((y.zbh.map fun n=>[pi n]).set s.stream.toNat [pi z])):=fun y z hy hz=>by
    refine zas ?_;show (y.zbh.set k (y.zbh[k]?.getD 0+1)).map _=_;rw [hy,hx,zy72,hz,show s.stream.toNat=k by omega]
   generalize dlv x s.stream (tag x.zbh[k]) true=D at *
   obtain ⟨y,ok⟩:=D;dsimp only at d1 d2 d3 d4 d5 d6 d7 hpas;have h4y:k<y.zbh.length:=by rw [d1];exact h4
   have hyk:y.zbh[k]=x.zbh[k]:=by simp only [d1]
   cases ok with
   | true =>
    have hpas:pass x k=zzc y k:=hpas;(conv=>whnf)
    try refine sG ?_
    refine sO ?_;refine zcb k zz0 h4y (zw ?_);rw [hyk];refine sF ?_;refine sO ?_;refine zcb k zz0 h4y (zw ?_);refine sD ?_;rw [hpas] at next less;refine ⟨⟨_,next⟩,(zcd (pK5 ((3,some 3)::[(900,some 910),(901,some 911),(902,some 912),(903,some 913)])) (by repeat' (first | exact z0 | refine z1 ?_ | refine ⟨?_,?_⟩ | ((exact hbm y (x.zbh[k]+1) d1 rfl)) | ((exact (hbm y (x.zbh[k]+1) d1 rfl).symm)) | exact z2))),less⟩
   | false =>
    have hpas:pass x k=zzc (zoo y s.stream (tag x.zbh[k]) true) k:=by rw [hpas,hk];rfl
    conv=>whnf
    try refine sG ?_
    (refine zaf [] [(1000,1000),(1001,910),(1002,911),(1003,912),(1004,913)] [(0,920),(1,921),(2,922),(3,923)] ?_;(conv=>whnf);refine dG (zyc y s.stream (tag x.zbh[k]) true zz0) ?_)
    have e1:(zoo y s.stream (tag x.zbh[k]) true).zbh=x.zbh:=d1;generalize zoo y s.stream (tag x.zbh[k]) true=w at hpas e1 ⊢;have h4w:k<w.zbh.length:=by rw [e1];exact h4
    have hwk:w.zbh[k]=x.zbh[k]:=by simp only [e1]
    refine sO ?_;refine zcb k zz0 h4w (zw ?_);rw [hwk];refine sF ?_;refine sO ?_;refine zcb k zz0 h4w (zw ?_);refine sD ?_;rw [hpas] at next less;refine ⟨⟨_,next⟩,(zcd (pK5 ((3,some 3)::[(900,some 920),(901,some 921),(902,some 922),(903,some 923)])) (by repeat' (first | exact z0 | refine z1 ?_ | refine ⟨?_,?_⟩ | ((exact hbm w (x.zbh[k]+1) e1 rfl)) | ((exact (hbm w (x.zbh[k]+1) e1 rfl).symm)) | exact z2))),less⟩
 . rw [yfh (by omega)] at he
   subst he;refine sN ?_
   (refine zaf [] [(1000,1000),(1001,900),(1002,901),(1003,902),(1004,903)] [(0,910),(1,911),(2,912),(3,913)] ?_;(conv=>whnf);refine dG (zym x k _ hk ⟨h1,h2,h3,h4,by omega,by omega⟩) ?_ ⟨rfl,rfl,rfl,⟨zz1,⟨zz1,⟨zz1,⟨zz1,⟨zz1,trivial⟩⟩⟩⟩⟩,⟨⟨rfl,rfl⟩,⟨⟨rfl,rfl⟩,⟨⟨rfl,rfl⟩,⟨⟨rfl,rfl⟩,trivial⟩⟩⟩⟩,rfl,rfl,rfl⟩)
   exact yy92
end Rcv
namespace Rcv
open Srt Jn Ser
theorem yhs {n:Nat}:∀ {S:List zav} {i:Nat} {b:List UInt8},zjb n i S=some b->b.length=tot S
 | [],_,_,h=>by rw [zjb] at h;cases h;rfl
 | p::r,i,b,h=>by
  rw [zjb] at h;split at h
  . obtain ⟨d,hd,rfl⟩:=zy32.1 h
    rw [zy9,zfq,yhs hd]
  . cases h
theorem xdr {l:List zav} {b:List UInt8} (h:join l=some b):b.length=tot l:=by
 unfold join at h;split at h
 . cases h
 . rw [yhs h,yse zko]
def yvt (l:List zbk):Nat:=(l.map fun a=>a.data.length).sum
theorem yqp (a b:List zbk):yvt (a++b)=yvt a+yvt b:=by simp [yvt]
theorem xdy {l:List zbk} {a:zbk} (h:a∈l):a.data.length<=yvt l:=by
 obtain ⟨x,y,rfl⟩:=List.append_of_mem h;rw [yqp];simp [yvt];omega
structure zvb (r r':Receiver) (d:Nat):Prop where
 len:r'.zbh.length=r.zbh.length
 cum:r'.cum=r.cum
 zar:r'.zar=r.zar
 config:r'.config=r.config
 pieces:r'.pieces.length<=r.pieces.length
 bytes:tot r'.pieces<=tot r.pieces
 log:r'.log.length+r'.pieces.length<=r.log.length+r.pieces.length
 mass:yvt r'.log+tot r'.pieces<=yvt r.log+tot r.pieces
 pre:r.log <+: r'.log
 lo:∀ L:Int,(∀ t∈r.zbh,L<t)->∀ t∈r'.zbh,L<t
 hi:∀ T:Int,(∀ t∈r.zbh,t+r.pieces.length<=T)->∀ t∈r'.zbh,t+r'.pieces.length<=T+d
theorem zvb.refl (r:Receiver):zvb r r 0:=⟨rfl,rfl,rfl,rfl,zy28 _,zy28 _,zy28 _,zy28 _,zy158 _,fun _ h=>h,fun T h t ht=>by have:=h t ht;omega⟩
theorem zvb.trans {a b c:Receiver} {d e:Nat} (h:zvb a b d) (k:zvb b c e):zvb a c (d+e):=by
 obtain ⟨a1,a2,a3,a4,a5,a6,a7,a8,a9,a10,a11⟩:=h;obtain ⟨b1,b2,b3,b4,b5,b6,b7,b8,b9,b10,b11⟩:=k;exact ⟨b1.trans a1,b2.trans a2,b3.trans a3,b4.trans a4,by omega,by omega,by omega,by omega,a9.trans b9,fun L h=>b10 L (a10 L h),fun T h t ht=>by have:=b11 (T+d) (a11 T h) t ht;omega⟩
theorem zvb.more {a b:Receiver} {d e:Nat} (h:zvb a b d) (k:d<=e):zvb a b e:={h with hi:=fun T ht t hm=>by have:=h.hi T ht t hm;omega}
theorem xey {l:List zav} (f:zav->Bool):(l.filter fun p=>!f p).length+(l.filter f).length=l.length:=by
 induction l with
 | nil=>rfl
 | cons p l ih =>
  rw [zy46,zy46];cases f p<;>simp<;>omega
theorem yri {l:List zav} (f:zav->Bool):tot (l.filter fun p=>!f p)+tot (l.filter f)=tot l:=by
 induction l with
 | nil=>rfl
 | cons p l ih =>
  rw [zy46,zy46];cases f p<;>simp [zfq]<;>omega
theorem yge (r:Receiver) (s m:Int) (o:Bool):zvb r (zoo r s m o) 0:=by
 have h1:=xey (l:=r.pieces) (zei s m o);have h2:=yri (l:=r.pieces) (zei s m o);refine ⟨rfl,rfl,rfl,rfl,?_,?_,?_,?_,zy158 _,fun _ h=>h,fun T h t ht=>?_⟩
 . show (r.pieces.filter fun p=>!zei s m o p).length<=_;omega
 . show tot (r.pieces.filter fun p=>!zei s m o p)<=_;omega
 . show _+(r.pieces.filter fun p=>!zei s m o p).length<=_;show r.log.length+_<=_;omega
 . show _+tot (r.pieces.filter fun p=>!zei s m o p)<=_;show yvt r.log+_<=_;omega
 . have:=h t ht
   show t+((r.pieces.filter fun p=>!zei s m o p).length:Int)<=_;omega
theorem ycl (r:Receiver) (s m:Int) (o:Bool):zvb r (dlv r s m o).1 0:=by
 obtain ⟨a1,a2,a3,a4,a5,a6,a7⟩:=zid r s m o;refine ⟨by rw [a1],a2,a3,a4,a5,a6,a7,?_,?_,fun L h=>by rw [a1];exact h,fun T h t ht=>by rw [a1] at ht;have:=h t ht;omega⟩
 . unfold dlv
   split
   . exact zy28 _
   . rename_i b hj
     have h1:=xdr hj;have h2:=yri (l:=r.pieces) (zei s m o);show yvt (r.log++[_])+tot (r.pieces.filter fun p=>!zei s m o p)<=_;rw [yqp];simp only [yvt,zy40,zy124,zy144,List.sum_nil] at *
     omega
 . unfold dlv
   split
   . exact zy158 _
   . exact List.prefix_append _ _
theorem yne {l:List Int} {k:Nat} {t:Int} (h:t∈l.set k (l[k]?.getD 0+1)):t∈l\/(t-1∈l):=by
 by_cases hk:k<l.length
 . rcases zy48 h with h | h
   . exact .inl h
   . right
     rw [h,zy2 hk];simp only [zy126];rw [show l[k]+1-1=l[k] by omega];exact zy57 hk
 . rw [zy125 (by omega)] at h
   exact .inl h
theorem zwg (r:Receiver) (k:Nat):zvb r (zzc r k) 1:=by
 refine ⟨by show (r.zbh.set k _).length=_;rw [zy25],rfl,rfl,rfl,zy28 _,zy28 _,zy28 _,zy28 _,zy158 _,fun L h t ht=>?_,fun T h t ht=>?_⟩
 . rcases yne ht with h1 | h1
   . exact h t h1
   . have:=h _ h1;omega
 . show t+(r.pieces.length:Int)<=_
   rcases yne ht with h1 | h1
   . have:=h t h1;omega
   . have:=h _ h1;omega
theorem ysu {r x:Receiver} (k:Nat) (h:zvb r x 0) (hl:x.pieces.length<r.pieces.length) (ht:x.zbh=r.zbh):zvb r (zzc x k) 0:=by
 have h1:=h.trans (zwg x k);refine {h1 with hi:=fun T hT t htm=>?_};show t+(x.pieces.length:Int)<=_;rcases yne htm with h2 | h2
 . rw [ht] at h2;have:=hT t h2;omega
 . rw [ht] at h2;have:=hT _ h2;omega
theorem ztp:∀ (n:Nat) (r:Receiver) (k:Nat),r.pieces.length<n->zvb r (turns r k) 0
 | 0,r,k,h=>by omega
 | n+1,r,k,h=>by
  rw [ztq];have h1:=ycl r k (tag (r.zbh[k]?.getD 0)) true;split
  . rename_i hd
    have h2:=znw hd;have h3:=ysu k h1 h2 (zid r k (tag (r.zbh[k]?.getD 0)) true).1;exact h3.trans (ztp n _ k (by show (dlv r k (tag (r.zbh[k]?.getD 0)) true).1.pieces.length<n;omega))
  . exact h1
theorem yzx (r:Receiver) (k:Nat):zvb r (pass r k) 1:=by
 have h1:=ycl r k (tag (r.zbh[k]?.getD 0)) true;unfold pass;split
 . exact h1.trans (zwg _ _)
 . exact (h1.trans (yge _ _ _ _)).trans (zwg _ _)
theorem zxp:∀ (n:Nat) (r:Receiver) (k:Nat),zvb r (zni n r k) n
 | 0,r,_=>zvb.refl r
 | n+1,r,k=>((yzx r k).trans (zxp n _ k)).more zz0
theorem yjs (r:Receiver) (s:zdv) (h:∀ t∈r.zbh,-(2 ^ 60)<t/\t<2 ^ 60):zvb r (zhj r s) 32769:=by
 unfold zhj;split
 . exact (zvb.refl r).more zz0
 split
 . exact (yge _ _ _ _).more zz0
 rename_i c _;have hk:s.stream.toNat<r.zbh.length:=by omega
 have hb:=h _ (zy57 hk);have hg:r.zbh[s.stream.toNat]?.getD 0=r.zbh[s.stream.toNat]:=by simp [hk]
 obtain ⟨n1,n2,n3⟩:=zin (a:=r.zbh[s.stream.toNat]) (t:=s.mid) zz0 zz0;have h1:=zxp (zcy r.zbh[s.stream.toNat] s.mid+1-r.zbh[s.stream.toNat]).toNat r s.stream.toNat;refine (zvb.trans (b:=ybs r s.stream.toNat (zcy (r.zbh[s.stream.toNat]?.getD 0) s.mid)) (d:=32769) (e:=0) ?_ (ztp _ _ _ (zy159 _)));unfold ybs;rw [hg];exact h1.more zz0
theorem ygs:∀ (l:List zdv) (r:Receiver) (L T:Int),-(2 ^ 59)<=L->T+l.length*32769<2 ^ 59->(∀ t∈r.zbh,L<t)->(∀ t∈r.zbh,t+r.pieces.length<=T)->zvb r (l.foldl zhj r) (l.length*32769)
 | [],r,_,_,_,_,_,_=>(zvb.refl r).more zz0
 | s::l,r,L,T,h1,h2,h3,h4=>by
  rw [zy6] at h2;have g:=yjs r s fun t ht=>by have:=h3 t ht;have:=h4 t ht;omega
  have g2:=ygs l (zhj r s) L (T+32769) h1 zz0 (g.lo L h3) (g.hi T h4);rw [zy49,zy6];exact (g.trans g2).more zz0
def forward (r:Receiver) (c:Chunk):Receiver :=
 if ¬ c.kind=3\/zcy r.cum c.tag<=r.cum then r else c.zbm.foldl zhj {r with cum:=(up r.zar (zcy r.cum c.tag)).1,zar:=(up r.zar (zcy r.cum c.tag)).2}
structure zmh (N:Nat) (r:Receiver):Prop where
 log:r.log.length+r.pieces.length<=N
 mass:yvt r.log+tot r.pieces<=N
 many:r.zar.length<=N
 zfr:zfr r.zar
 zet:∀ s∈r.zar,r.cum+1<s.lo
 his:∀ s∈r.zar,s.hi<=r.cum+32768
 cum1:-1<=r.cum
 cum2:r.cum<=100000+32768*N
 lo:∀ t∈r.zbh,-1<t
 hi:∀ t∈r.zbh,t+r.pieces.length<=32769*N
 streams:r.zbh.length<2 ^ 30
theorem zmh.more {N M:Nat} {r:Receiver} (h:zmh N r) (k:N<=M):zmh M r :=
 ⟨by have:=h.log;omega,by have:=h.mass;omega,by have:=h.many;omega,h.zfr,h.zet,h.his,h.cum1,by have:=h.cum2;omega,h.lo,fun t ht=>by have:=h.hi t ht;omega,h.streams⟩
theorem zmh.fit {N:Nat} {r:Receiver} (h:zmh N r) (hN:N<=2000000):Fit r:=by
 obtain ⟨h1,h2,h3,h4,h5,h6,h7,h8,h9,h10,h11⟩:=h;exact ⟨by omega,by omega,by omega,by omega,by omega,fun a ha=>by have:=xdy ha;omega⟩
theorem zmh.dfit {N:Nat} {r:Receiver} (h:zmh N r) (hN:N<=2000000) {c:Chunk} (hc:c.data.length<=2 ^ 20):xnq r c:=by
 have hf:=h.fit hN;obtain ⟨h1,h2,h3,h4,h5,h6,h7,h8,h9,h10,h11⟩:=h;exact ⟨hf,h4,fun s hs=>by have:=h6 s hs;omega,by omega,by omega,fun t ht=>by have:=h9 t ht;have:=h10 t ht;omega,by omega,by omega,by omega⟩
theorem znq:∀ {l:List Span} {n:Int} (_:Ser.zfr l),n<=(up l n).1/\(up l n).2.length<=l.length/\Ser.zfr (up l n).2/\(∀ s∈(up l n).2,s∈l)/\(∀ s∈(up l n).2,(up l n).1+1<s.lo)/\((up l n).1=n\/∃ s∈l,(up l n).1=s.hi)
 | [],n,_=>by simp [up,Ser.zfr]
 | s::r,n,h=>by
  rw [up];split
  . rename_i c
    have ih:=znq (l:=r) (n:=if s.hi>n then s.hi else n) h.2.2.2.2;have h1:n<=(if s.hi>n then s.hi else n):=by split<;>omega
    have h2:(if s.hi>n then s.hi else n)=n\/(if s.hi>n then s.hi else n)=s.hi:=by split<;>simp
    generalize (if s.hi>n then s.hi else n)=n' at *
    obtain ⟨i1,i2,i3,i4,i5,i6⟩:=ih;refine ⟨by omega,by simp;omega,i3,fun t ht=>by simp [i4 t ht],i5,?_⟩;rcases i6 with i6 | ⟨t,ht,e⟩
    . rcases h2 with h2 | h2
      . exact .inl (i6.trans h2)
      . exact .inr ⟨s,by simp,i6.trans h2⟩
    . exact .inr ⟨t,by simp [ht],e⟩
  . rename_i c
    refine ⟨zy74 _,zy28 _,h,fun t ht=>ht,fun t ht=>?_,.inl rfl⟩;have h0:=h.1;rcases zy18.1 ht with rfl | ht
    . omega
    . have:=h.2.2.2.1 t ht;omega
theorem xmw:∀ {l:List Span} {n m:Int} (_:Ser.zfr l),has l m=true->m<=(up l n).1\/has (up l n).2 m=true
 | [],n,m,_,h=>by simp [has] at h
 | s::r,n,m,h,hm=>by
  rw [up];split
  . rename_i c
    rw [zlt,zy79] at hm;have u:=(znq (n:=if s.hi>n then s.hi else n) h.2.2.2.2).1;have h1:s.hi<=(if s.hi>n then s.hi else n):=by split<;>omega
    rcases hm with hm | hm
    . left
      have:m<=s.hi:=by simp at hm;exact hm.2
      omega
    . exact xmw h.2.2.2.2 hm
  . exact .inr hm
theorem zmh.goes {N d e:Nat} {r r':Receiver} (h:zmh N r) (g:zvb r r' d) (hd:d<=32769*e):zmh (N+e) r':=by
 obtain ⟨h1,h2,h3,h4,h5,h6,h7,h8,h9,h10,h11⟩:=h;obtain ⟨a1,a2,a3,a4,a5,a6,a7,a8,a9,a10,a11⟩:=g;exact ⟨by omega,by omega,by rw [a3];omega,by rw [a3];exact h4,by rw [a2,a3];exact h5,fun s hs=>by rw [a3] at hs;have:=h6 s hs;omega,by omega,by omega,a10 _ h9,fun t ht=>by have:=a11 _ h10 t ht;omega,by omega⟩
theorem zmh.put {N:Nat} {r:Receiver} (h:zmh N r) (hN:N<=2 ^ 21) {c:Chunk} (ht:zut r c (zcy r.cum c.tag)):zmh (N+(c.data.length+1)) (put r c):=by
 obtain ⟨h1,h2,h3,h4,h5,h6,h7,h8,h9,h10,h11⟩:=h;obtain ⟨n1,n2,n3⟩:=zin (a:=r.cum) (t:=c.tag) zz0 zz0;have ha:=ht.zet;unfold Rcv.put;generalize zcy r.cum c.tag=n at *
 have hadd:=yof (n:=n) (M:=r.cum+32768) h4 zz0 zz0 (fun s hs=>by have:=h6 s hs;omega) zz0;have hal:=ycb r.zar n;obtain ⟨u1,u2,u3,u4,u5,u6⟩:=znq (n:=r.cum) (zvc h4 (n:=n) zz0 zz0).1;refine ⟨?_,?_,?_,u3,u5,fun s hs=>?_,?_,?_,h9,?_,h11⟩
 . simp only [zy9,zy55];omega
 . dsimp only
   rw [zno,zfq];have:tot []=0:=rfl;dsimp only;omega
 . dsimp only;omega
 . have:=hadd s (u4 s hs);dsimp only;omega
 . dsimp only;omega
 . dsimp only
   rcases u6 with u6 | ⟨s,hs,u6⟩
   . omega
   . have:=hadd s hs;omega
 . intro t htt
   have:=h10 t htt;simp only [zy9,zy55];omega
theorem xcq {N:Nat} {r:Receiver} (h:zmh N r) (hN:N<=2 ^ 21) (c:Chunk):zmh (N+(c.data.length+1)) (data r c):=by
 unfold data;split
 . rename_i ht
   have hp:=h.put hN ht;split
   . exact hp.goes (e:=0) (ztp _ _ _ (zy159 _)) (zy103 _)
   . exact hp.goes (e:=0) (ycl _ _ _ _) (zy103 _)
 . exact h.more zz0
theorem ylx {N:Nat} {r:Receiver} (h:zmh N r) (hN:N<=2 ^ 21) (c:Chunk) (hc:c.zbm.length<=2 ^ 21):zmh (N+(c.zbm.length+1)) (forward r c):=by
 unfold forward;split
 . exact h.more zz0
 rename_i ht;obtain ⟨h1,h2,h3,h4,h5,h6,h7,h8,h9,h10,h11⟩:=h;obtain ⟨n1,n2,n3⟩:=zin (a:=r.cum) (t:=c.tag) zz0 zz0;have ha:r.cum<zcy r.cum c.tag:=by
  apply Classical.byContradiction;intro hc;exact ht (.inr zz0)
 generalize zcy r.cum c.tag=n at *
 obtain ⟨u1,u2,u3,u4,u5,u6⟩:=znq (n:=n) h4;have hw:zmh (N+1) {r with cum:=(up r.zar n).1,zar:=(up r.zar n).2}:=by
  exact yy64
 have g:=ygs c.zbm {r with cum:=(up r.zar n).1,zar:=(up r.zar n).2} (-1) (32769*N) zz0 zz0 h9 h10;exact (hw.goes (e:=c.zbm.length) g zz0).more zz0
theorem zqx {a t n:Int} (h1:-(2 ^ 61)<=a) (h2:a<=2 ^ 61) (h3:a-32767<=n) (h4:n<=a+32768) (h5:tag n=tag t):zcy a t=n:=by
 obtain ⟨n1,n2,n3⟩:=zin (a:=a) (t:=t) h1 h2;rw [<- h5] at n3;unfold tag at n3;omega
end Rcv
namespace Rcv
open Srt Jn Ser
theorem zmh.skip {N:Nat} {r:Receiver} (h:zmh N r) (hN:N<=2 ^ 23) (s:zdv):zmh (N+1) (zhj r s) :=
 h.goes (e:=1) (yjs r s fun t ht=>by have:=h.lo t ht;have:=h.hi t ht;omega) zz0
theorem zmh.sfit {N:Nat} {r:Receiver} (h:zmh N r) (hN:N<2 ^ 22):xoh r:=by
 obtain ⟨h1,h2,h3,h4,h5,h6,h7,h8,h9,h10,h11⟩:=h;exact ⟨by omega,by omega,by omega,fun t ht=>by have:=h9 t ht;omega,fun t ht=>by have:=h10 t ht;omega⟩
def ysr (r:Receiver) (n:Int):Receiver:={r with cum:=(up r.zar n).1,zar:=(up r.zar n).2}
theorem zmh.up {N:Nat} {r:Receiver} (h:zmh N r) (_:N<=2 ^ 22) {n:Int} (n1:r.cum<n) (n2:n<=r.cum+32768):zmh (N+1) (ysr r n):=by
 obtain ⟨h1,h2,h3,h4,h5,h6,h7,h8,h9,h10,h11⟩:=h;obtain ⟨u1,u2,u3,u4,u5,u6⟩:=znq (n:=n) h4;unfold ysr;exact yy64
theorem yjy (r:Receiver) (c:Chunk) {N:Nat} (h:zmh N r) (hN:N<=2000000) (hc:c.zbm.length<=2 ^ 20) :
 zan Tryz.prog 153 [r.hv,c.hv] zad (xmp (forward r c) 0 1 2 3) (lk .free (xci (forward r c) 0 1 2 3 [])):=by
 have hfit:=h.fit hN;have h6:=h.his;have h7:=h.cum1;have h8:=h.cum2;obtain ⟨n1,n2,n3⟩:=zin (a:=r.cum) (t:=c.tag) zz0 zz0;generalize hD:forward r c=D;refine zaq mixed Tryz.func153 zz4 [] (fun _=>.inl rfl) ?_;(conv=>whnf)
 (refine zat [(0,910),(1,911),(2,912),(3,913)]  ?_;(conv=>whnf);refine dO (zdx r hfit) ?_)
 (refine cL ?_;refine dL (zlk r.cum c.tag) ?_)
 by_cases c1:c.kind=3
 case neg =>
  obtain rfl:r=D:=by rw [<- hD,forward,zy1 (.inl c1)]
  refine zac zz39 ?_;conv=>whnf
  exact yy112
 refine zab zz148 (zw ?_);by_cases c2:zcy r.cum c.tag<=r.cum
 . obtain rfl:r=D:=by rw [<- hD,forward,zy1 (.inr c2)]
   refine zac zz29 ?_;conv=>whnf
   exact yy112
 refine zab zz29 (zw ?_)
 try refine sG ?_
 have hw:=h.up zz0 (n:=zcy r.cum c.tag) zz0 zz0;have e:c.zbm.foldl zhj (ysr r (zcy r.cum c.tag))=D:=by rw [<- hD,forward,zy0 (by simp [c1];omega)];rfl
 (refine zat [(0,37)]  ?_;(conv=>whnf);refine dO (xbv r.zar (zcy r.cum c.tag) (fun s hs=>by have:=h6 s hs;omega) zz134 zz0 zz0) ?_)
 refine ⟨{x:Receiver×List zdv×List zdv // c.zbm=x.2.1++x.2.2/\zmh (N+1+x.2.1.length) x.1/\x.2.2.foldl zhj x.1=D},fun | ⟨(x,a,b),_⟩=>hs 61 [(4,.ptr 4 0),(5,.ptr 12 0),(47,.p (.sl 3 (c.zbm.map zdv.row))),(48,i64 c.zbm.length),(49,i64 a.length)] ((4,.live (.cells 37 yku))::(12,.live (.cells 225 (yea x (.own 900) (.own 901) (.own 902) (.own 903))))::xci x 900 901 902 903 []),fun x=>x.1.2.2.length,⟨(ysr r (zcy r.cum c.tag),[],c.zbm),rfl,hw,e⟩,?_,?_⟩
 . exact (zbi [(4,some 4),(12,some 12),(900,some 37),(901,some 911),(902,some 912),(903,some 913)])
 rintro ⟨⟨x,a,b⟩,h1,h2,h3⟩;dsimp only at h1 h2 h3;(conv=>whnf);cases b with
 | cons s b =>
  have hz:=zbd h1;refine sT ?_;refine zak h1 rfl (zw ?_)
  (refine zaf [] [(1000,12),(1001,900),(1002,901),(1003,902),(1004,903)] [(0,910),(1,911),(2,912),(3,913)] ?_;(conv=>whnf);refine dG (zyl x s (h2.sfit zz0)) ?_)
  refine sF ?_;exact ⟨⟨(zhj x s,a++[s],b),zag h1,by have:=h2.skip zz0 s;simpa [zy99] using this,h3⟩,(zbi [(4,some 4),(12,some 12),(900,some 910),(901,some 911),(902,some 912),(903,some 913)]),by simp⟩
 | nil =>
  have hz:=zbp h1;have h3:x=D:=h3;subst h3;refine sN ?_
  (exact zck [(0,some 900),(1,some 901),(2,some 902),(3,some 903)])
theorem ybf (l:List zav) (c:Chunk) (hb:l.length<2 ^ 36):zan Tryz.prog 177 [pieces l,c.hv] zad (.tup [pieces (l.filter (zei c.stream c.mid c.ordered)),pieces (l.filter fun p=>!zei c.stream c.mid c.ordered p)]) zad:=by
 refine zal mixed Tryz.func177 zz4 ?_;(conv=>whnf);refine ⟨{x:List zav×List zav // l=x.1++x.2},fun | ⟨(a,b),_⟩=>hs 49 [(3,.ptr 3 0),(6,.own 900),(7,.own 901),(10,pieces l),(11,i64 l.length),(12,i64 a.length)] [(3,.live (.cells 61 c.cells)),(900,xgy (a.filter (zei c.stream c.mid c.ordered))),(901,xgy (a.filter fun p=>!zei c.stream c.mid c.ordered p))],fun x=>x.1.2.length,⟨([],l),rfl⟩,?_,?_⟩
 . exact (zbi [(3,some 3),(900,none),(901,none)])
 rintro ⟨⟨a,b⟩,h⟩;dsimp only at h;have hfa:=zy41 (zei c.stream c.mid c.ordered) a;have hfb:=zy41 (fun p=>!zei c.stream c.mid c.ordered p) a;(conv=>whnf);cases b with
 | cons p b =>
  have hz:=zbd h;refine sT ?_;refine zak h rfl (zw ?_);have e1:(a++[p]).filter (zei c.stream c.mid c.ordered)=a.filter (zei c.stream c.mid c.ordered)++if zei c.stream c.mid c.ordered p then [p] else []:=by
   rw [zy47,zy46];rfl
  have e2:(a++[p]).filter (fun p=>!zei c.stream c.mid c.ordered p)=a.filter (fun p=>!zei c.stream c.mid c.ordered p)++if zei c.stream c.mid c.ordered p then [] else [p]:=by
   rw [zy47,zy46];cases zei c.stream c.mid c.ordered p<;>rfl
  by_cases c1:p.chunk.stream=c.stream
  case neg =>
   have hm:zei c.stream c.mid c.ordered p=false:=by simp [zei,c1]
   rw [hm] at e1 e2;refine zab zz39 (zw ?_);exact yy31
  refine zac zz39 ?_;conv=>whnf
  by_cases c2:p.chunk.mid=c.mid
  case neg =>
   have hm:zei c.stream c.mid c.ordered p=false:=by simp [zei,c2]
   rw [hm] at e1 e2;refine zab zz29 (zw ?_);exact yy31
  refine zac zz29 ?_;conv=>whnf
  by_cases c3:p.chunk.ordered=c.ordered
  case neg =>
   have hm:zei c.stream c.mid c.ordered p=false:=by simp [zei,c3]
   rw [hm] at e1 e2;refine zab zz89 (zw ?_);exact yy31
  have hm:zei c.stream c.mid c.ordered p=true:=by simp [zei,c1,c2,c3]
  rw [hm] at e1 e2;refine zac zz89 (zw ?_)
  try refine sG ?_
  refine zaa (c:=(((a.filter (zei c.stream c.mid c.ordered)).map zav.row).length+1)*136<=140737488355328) zz3 (zw ?_)
  try refine sG ?_
  refine sF ?_;exact ⟨⟨(a++[p],b),zag h⟩,(zay [(3,some 3),(900,some 41),(901,some 901)] (by repeat' (first | exact z0 | refine z1 ?_ | refine ⟨?_,?_⟩ | ((exact zbb (f:=zav.row) e1 rfl)) | ((exact zas (by rw [e2];simp))) | exact z2))),by simp⟩
 | nil =>
  have hz:=zbp h;rw [zy4] at h;refine sN ?_;rw [h]
  try rfl
end Rcv
namespace Rcv
open Srt Jn Ser
abbrev yjg (l:List Int):HV:=.p (.sl 1 (l.map fun n=>[pi n]))
abbrev zuv (l:List zbk):HV:=.p (.sl 4 (l.map zbk.row))
def ynb (r:Receiver) (s m:Int) (o any:Bool):Receiver×Bool :=
 (if (dlv r s m o).2 then (dlv r s m o).1 else if any then zoo r s m o else r,(dlv r s m o).2)
theorem yax (r:Receiver) (s m:Int) (o:Bool):ynb r s m o false=dlv r s m o:=by
 unfold ynb dlv;split<;>rfl
theorem zmc (r:Receiver) (c:Chunk) (any:Bool) (h2:r.pieces.length<2 ^ 22) (h3:tot r.pieces<2 ^ 22) (h4:r.log.length<2 ^ 38) :
 zan Tryz.prog 176 [r.hv,c.hv,zbj any] zad (.tup [(ynb r c.stream c.mid c.ordered any).1.hv,zbj (ynb r c.stream c.mid c.ordered any).2]) zad:=by
 refine zal mixed Tryz.func176 zz4 ?_;have hf:=zy41 (zei c.stream c.mid c.ordered) r.pieces;have ht:=zlq (zei c.stream c.mid c.ordered) r.pieces;(conv=>whnf)
 (refine cP ?_;refine dL (ybf r.pieces c zz0) ?_)
 have ps:=yuw (r.pieces.filter (zei c.stream c.mid c.ordered)) zz0 zz0;cases hj:join (r.pieces.filter (zei c.stream c.mid c.ordered)) with
 | none =>
  rw [hj] at ps;have hd:dlv r c.stream c.mid c.ordered=(r,false):=by rw [dlv,hj]
  (refine zat [(0,910)]  ?_;(conv=>whnf);refine dO ps ?_)
  cases any with
  | false =>
   conv=>whnf
   try refine sG ?_
   rw [ynb,hd];rfl
  | true =>
   conv=>whnf
   try refine sG ?_
   rw [ynb,hd];rfl
 | some b =>
  rw [hj] at ps;have hd:dlv r c.stream c.mid c.ordered=({zoo r c.stream c.mid c.ordered with log:=r.log++[⟨c.stream,c.mid,c.ordered,b⟩]},true):=by rw [dlv,hj]
  (refine zat [(0,910)]  ?_;(conv=>whnf);refine dO ps ?_)
  refine zaa (c:=(([]:List (List PV)).length+(r.log.map zbk.row).length)*48<=140737488355328) zz3 (zw ?_)
  try refine sG ?_
  refine zaa (c:=(([]++r.log.map zbk.row).length+1)*48<=140737488355328) zz3 (zw ?_);refine sD ?_;rw [ynb,hd];have hl:r.log.map zbk.row++[zbk.row ⟨c.stream,c.mid,c.ordered,b⟩]=(r.log++[(⟨c.stream,c.mid,c.ordered,b⟩:zbk)]).map zbk.row:=by simp
  exact congrArg (fun l=>HV.tup [.agg (yea r (zar r.zar) (pieces (r.pieces.filter fun p=>!zei c.stream c.mid c.ordered p)) (yjg r.zbh) (.p (.sl 4 l))),zbj true]) hl
theorem zwk {r:Receiver} {s m:Int} {o:Bool} (h:(dlv r s m o).2=false):(dlv r s m o).1=r:=by
 unfold dlv at h ⊢;split
 . rfl
 . rename_i b hj;rw [hj] at h;cases h
theorem xbl (r:Receiver) (s m:Int) (h2:r.pieces.length<2 ^ 22) (h3:tot r.pieces<2 ^ 22) (h4:r.log.length<2 ^ 38) :
 zan Tryz.prog 176 [r.hv,(Chunk.mk 0 0 s m 0 false true [] [] 0 []).hv,zbj false] zad (.tup [(dlv r s m true).1.hv,zbj (dlv r s m true).2]) zad:=by
 have h:=zmc r (Chunk.mk 0 0 s m 0 false true [] [] 0 []) false h2 h3 h4
 rwa [yax] at h
theorem ynv (r:Receiver) (k:Nat) (hf:yvv r k) (ht9:r.zbh.length<2 ^ 30):zan Tryz.prog 175 [r.hv,i64 k] zad (turns r k).hv zad:=by
 generalize hT:turns r k=T;refine zal mixed Tryz.func175 zz4 ?_;(conv=>whnf);refine ⟨{x:Bool×Receiver // yvv x.2 k/\turns x.2 k=T/\x.2.zbh.length<2 ^ 30},fun
  | ⟨(false,x),_⟩=>hs 36 [(1,i64 k),(2,.ptr 2 0),(4,.ptr 4 0)] [(2,.live (.cells 37 (yea x (zar x.zar) (pieces x.pieces) (yjg x.zbh) (zuv x.log)))),(4,.live (.cells 37 yku))]
  | ⟨(true,x),_⟩=>hs 36 [(1,i64 k),(2,.ptr 2 0),(4,.ptr 4 0)] [(2,.live (.cells 37 (yea x (zar x.zar) (pieces x.pieces) (.own 900) (zuv x.log)))),(4,.live (.cells 37 yku)),(900,zzb x.zbh)],fun x=>x.1.2.pieces.length,⟨(false,r),hf,hT,ht9⟩,?_,?_⟩
 . exact (zbi [(2,some 2),(4,some 4)])
 rintro ⟨⟨b,x⟩,⟨h1,h2,h3,h4,h5,h6⟩,he,h9⟩;dsimp only at h1 h2 h3 h4 h5 h6 he h9;have hg:x.zbh[k]?.getD 0=x.zbh[k]:=by simp [h4]
 have hstep:=ztq x k;rw [he,hg] at hstep;rw [hg] at h5 h6;obtain ⟨k1,k2,k3,k4,k5,k6,k7⟩:=zid x k (tag x.zbh[k]) true;have hless:(dlv x k (tag x.zbh[k]) true).2=true->(dlv x k (tag x.zbh[k]) true).1.pieces.length<x.pieces.length:=fun h=>znw h
 have hno:(dlv x k (tag x.zbh[k]) true).2=false->(dlv x k (tag x.zbh[k]) true).1=x:=fun h=>zwk h
 have ps:=xbl x k (tag x.zbh[k]) zz0 zz0 zz0;generalize hD:dlv x k (tag x.zbh[k]) true=D at *
 obtain ⟨y,ok⟩:=D;dsimp only at k1 k2 k3 k4 k5 k6 k7 hless hstep hno ps;have h4':k<y.zbh.length:=by rw [k1];exact h4
 have hyk:y.zbh[k]=x.zbh[k]:=by simp only [k1]
 cases b with
 | false =>
  exact yy14
 | true =>
  exact yy14
end Rcv
namespace Rcv
open Srt Jn Ser
theorem ykm (l:List Span) (n:Int) (hr:zfr l) (hl:∀ s∈l,s.hi<=1099511627776) (hb:l.length<2 ^ 39) (h1:-1099511627776<=n) (h2:n<=1099511627776) :
 zan Tryz.prog 173 [zar l,i64 n] zad (.tup [i64 (up l n).1,zar (up l n).2]) zad:=by
 refine zco Tryz.func173 (xfm l n hr hl hb h1 h2) ?_;(conv=>whnf)
theorem yus (l:List Span) (n:Int) (hn:has l n=false) (hl:zfr l) (hb:l.length<2 ^ 39) (h1:-1099511627776<=n) (h2:n<=1099511627776) :
 zan Tryz.prog 174 [zar l,i64 n] zad (zar (add l n)) zad:=by
 refine zco Tryz.func174 (xbk l n hn hl hb h1 h2) ?_;(conv=>whnf)
theorem ziq (r:Receiver) (k:Nat) (z:Int) (hz:z=k) {rows:List (List PV)} (zja:rows=r.pieces.map zav.row) (hf:yvv r k) (ht9:r.zbh.length<2 ^ 30) :
 zan Tryz.prog 175 [.agg (yea r (zar r.zar) (.p (.sl 12 rows)) (yjg r.zbh) (zuv r.log)),i64 z] zad (turns r k).hv zad:=by
 subst hz zja;exact ynv r k hf ht9
theorem zrn (r:Receiver) (c:Chunk) {rows:List (List PV)} (zja:rows=r.pieces.map zav.row) (h2:r.pieces.length<2 ^ 22) (h3:tot r.pieces<2 ^ 22) (h4:r.log.length<2 ^ 38) :
 zan Tryz.prog 176 [.agg (yea r (zar r.zar) (.p (.sl 12 rows)) (yjg r.zbh) (zuv r.log)),c.hv,zbj false] zad (.tup [(dlv r c.stream c.mid c.ordered).1.hv,zbj (dlv r c.stream c.mid c.ordered).2]) zad:=by
 subst zja;have h:=zmc r c false h2 h3 h4
 rwa [yax] at h
theorem yuu (r:Receiver) (c:Chunk) {N:Nat} (h:zmh N r) (hN:N<=2000000) (hc:c.data.length<=2 ^ 20):zan Tryz.prog 146 [r.hv,c.hv] zad (data r c).hv zad:=by
 obtain ⟨h1,h2,h3,h4,h5,h6,h7,h8,h9⟩:=h.dfit hN hc;obtain ⟨n1,n2,n3⟩:=zin (a:=r.cum) (t:=c.tag) zz0 zz0;generalize hD:data r c=D;refine zal mixed Tryz.func146 zz4 ?_;(conv=>whnf)
 (refine cL ?_;refine dL (zlm r.cum c.tag zz0 zz0) ?_)
 have no:¬ zut r c (zcy r.cum c.tag)->D=r:=fun h=>by rw [<- hD,data,zy0 h]
 by_cases c1:c.kind=1
 case neg =>
  have e:=no fun h=>c1 h.1
  subst e;refine zac zz39 ?_;conv=>whnf
  repeat refine sG ?_
  try rfl
 refine zab zz148 (zw ?_);by_cases c2:c.stream<0
 . have e:=no fun h=>by have:=h.2;omega
   subst e;refine zac zz29 ?_;conv=>whnf
   repeat refine sG ?_
   try rfl
 refine zab zz29 (zw ?_);by_cases c3:c.stream>=r.zbh.length
 . have e:=no fun h=>by have:=h.3;omega
   subst e;refine zac zz89 (zw ?_)
   repeat refine sG ?_
   try rfl
 refine zab zz89 (zw ?_);by_cases c4:zcy r.cum c.tag<=r.cum
 . have e:=no fun h=>by have:=h.4;omega
   subst e;refine zac zz120 (zw ?_)
   repeat refine sG ?_
   try rfl
 refine zab zz120 (zw ?_)
 (refine cL ?_;refine dL (ynk r.zar (zcy r.cum c.tag) (by have:=h1.zar;omega)) ?_)
 cases c5:has r.zar (zcy r.cum c.tag) with
 | true =>
  have e:=no fun h=>by have:=h.5;rw [c5] at this;cases this
  subst e;(conv=>whnf)
  repeat refine sG ?_
  try rfl
 | false =>
 conv=>whnf
 repeat refine sG ?_
 refine sF ?_;have g1:=h1.zar;have g2:=h1.log;have rest:zut r c (zcy r.cum c.tag)->D=if c.ordered then turns (put r c) c.stream.toNat else (dlv (put r c) c.stream c.mid false).1:=fun h=>by rw [<- hD,data,zy1 h]
 have xde:tot (put r c).pieces=tot r.pieces+c.data.length:=by show tot (r.pieces++[_])=_;rw [zno,zfq];rfl
 have hpl:(put r c).pieces.length=r.pieces.length+1:=by show (r.pieces++[_]).length=_;simp
 have hadd:=yof (n:=zcy r.cum c.tag) (M:=1099511627776) h2 zz0 zz0 (fun s hs=>by have:=h3 s hs;omega) zz0;have hal:=ycb r.zar (zcy r.cum c.tag);have har:=(zvc h2 (n:=zcy r.cum c.tag) zz0 zz0).1;by_cases c6:zcy r.cum c.tag=r.cum+1
 case' pos =>
  have ok:zut r c (zcy r.cum c.tag):=⟨c1,by omega,by omega,by omega,c5,.inl c6⟩
  refine zab zz100 (zw ?_)
  ((refine zaw ?_ ?_;(· kernel_rfl);conv=>whnf);try refine sG ?_)
 case' neg =>
  refine zac zz109 (zw ?_)
  (refine cL ?_;refine dL (ztk r zz0 zz0) ?_)
  refine sF ?_;by_cases c7:(tot r.pieces:Int)+c.data.length>400
  case pos =>
   have e:=no fun h=>by have:=h.6;omega
   subst e;refine sD ?_;refine zac zz151 (zw ?_)
   repeat refine sG ?_
   try rfl
  have ok:zut r c (zcy r.cum c.tag):=⟨c1,by omega,by omega,by omega,c5,.inr zz0⟩
  refine sD ?_;refine zab zz151 (zw ?_)
  repeat refine sG ?_
 all_goals (
  have rest:=rest ok;refine zaa (c:=(([]:List (List PV)).length+(r.pieces.map zav.row).length)*136<=140737488355328) zz3 (zw ?_)
  try refine sG ?_
  refine zaa (c:=(([]++r.pieces.map zav.row).length+1)*136<=140737488355328) zz3 (zw ?_);refine sD ?_
  (refine cP ?_;refine dL (yus r.zar (zcy r.cum c.tag) c5 h2 zz0 zz0 zz0) ?_)
  (refine cP ?_;refine dL (ykm (add r.zar (zcy r.cum c.tag)) r.cum har hadd zz0 zz0 zz0) ?_)
  refine sD ?_;obtain ⟨k,hk⟩:∃ k:Nat,c.stream=k:=⟨c.stream.toNat,by omega⟩
  have hkl:k<r.zbh.length:=by omega
  have htk:(put r c).zbh[k]?.getD 0=r.zbh[k]:=by show r.zbh[k]?.getD 0=_;rw [zy2 hkl];rfl
  have htb:=h6 _ (zy57 hkl);refine zah (fun ho=>?_) (fun ho=>?_)
  . rw [zy1 ho,show c.stream.toNat=k by omega] at rest
    subst rest;(conv=>whnf)
    ((refine zdj ?_;(conv=>whnf);refine ⟨_,ziq (put r c) k _ hk (by simp [put];rfl) ⟨by omega,by omega,by show r.log.length+_<_;omega,hkl,by rw [htk];omega,by rw [htk];omega⟩ h.streams,rfl,?_⟩;conv=>whnf);try refine sG ?_)
    try rfl
  . rw [zy0 (by rw [ho];decide)] at rest
    subst rest;(conv=>whnf)
    (refine cP ?_;refine dL (zrn (put r c) c (by simp [put];rfl) zz0 zz0 (by show r.log.length<_;omega)) ?_)
    rw [ho]
    try rfl)
end Rcv
namespace Rcv
open Srt Jn Ser
theorem yiv {r:Receiver} {k:Nat} {t:Int} (h:r.zbh[k]?.getD 0=t):pass r k=zzc (ynb r k (tag t) true true).1 k:=by
 subst h;unfold pass ynb;cases hd:(dlv r k (tag (r.zbh[k]?.getD 0)) true).2 with
 | true=>rfl
 | false=>rw [zwk hd];rfl
theorem yjd (r:Receiver) (s m:Int) (o any:Bool):(ynb r s m o any).1.zbh=r.zbh:=by
 unfold ynb;split
 . exact (zid r s m o).1
 . split<;>rfl
theorem ybk (r:Receiver) (s m z:Int) (hz:z=m) (h2:r.pieces.length<2 ^ 22) (h3:tot r.pieces<2 ^ 22) (h4:r.log.length<2 ^ 38) :
 zan Tryz.prog 176 [r.hv,(Chunk.mk 0 0 s z 0 false true [] [] 0 []).hv,zbj true] zad (.tup [(ynb r s m true true).1.hv,zbj (ynb r s m true true).2]) zad:=by
 subst hz;exact zmc r (Chunk.mk 0 0 s z 0 false true [] [] 0 []) true h2 h3 h4
def xnj (k:Nat) (n:Int) (T:Receiver) (y:Bool×Receiver×Int):Prop:=yvv y.2.1 k/\y.2.1.zbh[k]?.getD 0=y.2.2/\y.2.2<=2 ^ 58/\turns (ybs y.2.1 k n) k=T/\y.2.1.zbh.length<2 ^ 30
def xou (c:Chunk) (s:zdv) (L:Nat) (n:Int):Bool×Receiver×Int->HS
 | (false,y,m)=>hs 118 [(2,.ptr 2 0),(4,.ptr 4 0),(7,.ptr 7 0),(10,i64 n),(11,i64 m),(37,.p (.sl 3 (c.zbm.map zdv.row))),(38,i64 c.zbm.length),(39,i64 L)] [(2,.live (.cells 37 (yea y (zar y.zar) (pieces y.pieces) (yjg y.zbh) (zuv y.log)))),(4,.live (.cells 37 yku)),(7,.live (.cells 180 [i64 s.stream,i64 s.mid,zbj s.ordered]))]
 | (true,y,m)=>hs 118 [(2,.ptr 2 0),(4,.ptr 4 0),(7,.ptr 7 0),(10,i64 n),(11,i64 m),(37,.p (.sl 3 (c.zbm.map zdv.row))),(38,i64 c.zbm.length),(39,i64 L)] [(2,.live (.cells 37 (yea y (zar y.zar) (pieces y.pieces) (.own 900) (zuv y.log)))),(4,.live (.cells 37 yku)),(7,.live (.cells 180 [i64 s.stream,i64 s.mid,zbj s.ordered])),(900,zzb y.zbh)]
def xnw (c:Chunk) (L:Nat) (x:Receiver):HS:=hs 118 [(2,.ptr 2 0),(4,.ptr 4 0),(37,.p (.sl 3 (c.zbm.map zdv.row))),(38,i64 c.zbm.length),(39,i64 L)] [(2,.live (.cells 37 (yea x (zar x.zar) (pieces x.pieces) (yjg x.zbh) (zuv x.log)))),(4,.live (.cells 37 yku))]
theorem yey (r:Receiver) (c:Chunk) {N:Nat} (h:zmh N r) (hN:N<=2000000) (hc:c.zbm.length<=2 ^ 20):zan Tryz.prog 147 [r.hv,c.hv] zad (forward r c).hv zad:=by
 have hfit:=h.fit hN;have h4:=h.zfr;have h6:=h.his;have h7:=h.cum1;have h8:=h.cum2;obtain ⟨n1,n2,n3⟩:=zin (a:=r.cum) (t:=c.tag) zz0 zz0;generalize hD:forward r c=D;refine zal mixed Tryz.func147 zz4 ?_;(conv=>whnf)
 (refine cL ?_;refine dL (zlm r.cum c.tag zz0 zz0) ?_)
 by_cases c1:c.kind=3
 case neg =>
  obtain rfl:r=D:=by rw [<- hD,forward,zy1 (.inl c1)]
  refine zac zz39 ?_;conv=>whnf
  repeat refine sG ?_
  try rfl
 refine zab zz148 (zw ?_);by_cases c2:zcy r.cum c.tag<=r.cum
 . obtain rfl:r=D:=by rw [<- hD,forward,zy1 (.inr c2)]
   refine zac zz29 ?_;conv=>whnf
   repeat refine sG ?_
   try rfl
 refine zab zz29 (zw ?_)
 repeat refine sG ?_
 have hw:=h.up zz0 (n:=zcy r.cum c.tag) zz0 zz0;have e:c.zbm.foldl zhj (ysr r (zcy r.cum c.tag))=D:=by rw [<- hD,forward,zy0 (by simp [c1];omega)];rfl
 (refine cP ?_;refine dL (ykm r.zar (zcy r.cum c.tag) h4 (fun s hs=>by have:=h6 s hs;omega) zz134 zz0 zz0) ?_)
 refine ⟨{x:Receiver×List zdv×List zdv // c.zbm=x.2.1++x.2.2/\zmh (N+1+x.2.1.length) x.1/\x.2.2.foldl zhj x.1=D},fun x=>xnw c x.1.2.1.length x.1.1,fun x=>x.1.2.2.length,⟨(ysr r (zcy r.cum c.tag),[],c.zbm),rfl,hw,e⟩,?_,?_⟩
 . exact (zbi [(2,some 2),(4,some 4)])
 rintro ⟨⟨x,a,b⟩,h1,h2,h3⟩;dsimp only at h1 h2 h3;refine zci fun Q0 hQ0=>?_
 (conv=>whnf);cases b with
 | nil =>
  have hz:=zbp h1;have h3:x=D:=h3;subst h3;refine sN ?_;refine hQ0 _ _ (zw ?_)
  try rfl
 | cons s b =>
  have hz:=zbd h1;have hsf:=h2.sfit zz0;obtain ⟨f1,f2,f3,f4,f5⟩:=hsf;have next:zmh (N+1+(a++[s]).length) (zhj x s):=by have:=h2.skip zz0 s;simpa [zy99] using this
  have h2h:=h2.hi;have h2l:=h2.lo;have h2s:=h2.streams;have h3:b.foldl zhj (zhj x s)=D:=h3;generalize hT:zhj x s=T at next h3;refine sT ?_;refine zak h1 rfl (zw ?_);by_cases c3:s.stream<0
  . rw [zhj,zy1 (.inl c3)] at hT
    subst hT;refine zac zz89 (zw ?_);exact yy124
  refine zab zz89 (zw ?_);by_cases c4:(x.zbh.length:Int)<=s.stream
  . rw [zhj,zy1 (.inr c4)] at hT
    subst hT;refine zac zz120 (zw ?_);exact yy124
  refine zab zz120 (zw ?_)
  repeat refine sG ?_
  refine zah (fun ho=>?_) (fun ho=>?_)
  . have ho:s.ordered=false:=by simpa using ho
    rw [zhj,zy0 (by omega),zy1 ho] at hT;(conv=>whnf)
    repeat refine sG ?_
    (refine cP ?_;refine dL (ybf x.pieces (Chunk.mk 0 0 s.stream s.mid 0 false false [] [] 0 []) zz0) ?_)
    subst hT;refine sF ?_;refine hQ0 _ _ (zw ?_);exact ⟨⟨(zoo x s.stream s.mid false,a++[s],b),zag h1,next,h3⟩,(zbi [(2,some 2),(4,some 4)]),by simp⟩
  have ho:s.ordered=true:=by simpa using ho
  rw [zhj,zy0 (by omega),zy0 (by rw [ho];decide)] at hT;obtain ⟨k,hk⟩:∃ k:Nat,s.stream=k:=⟨s.stream.toNat,by omega⟩
  have hkl:k<x.zbh.length:=by omega
  have hg:x.zbh[k]?.getD 0=x.zbh[k]:=by simp [hkl]
  have b1:=h2l _ (zy57 hkl);have b2:=h2h _ (zy57 hkl);have b3:=f5 _ (zy57 hkl);rw [show s.stream.toNat=k by omega,hg] at hT;(conv=>whnf)
  repeat refine sG ?_
  refine zcb k zz0 hkl (zw ?_)
  (refine cL ?_;refine dL (zlm x.zbh[k] s.mid zz0 zz0) ?_)
  refine sD ?_;obtain ⟨m1,m2,m3⟩:=zin (a:=x.zbh[k]) (t:=s.mid) zz0 zz0;generalize zcy x.zbh[k] s.mid=n at hT m1 m2 m3 ⊢;refine zcb k zz0 hkl (zw ?_);have start:xnj k n T (false,x,x.zbh[k]):=⟨⟨f1,f2,f3,hkl,by show _<x.zbh[k]?.getD 0;rw [hg];omega,by show x.zbh[k]?.getD 0+(x.pieces.length:Int)<_;rw [hg];omega⟩,hg,by dsimp only;omega,hT,h2s⟩
  refine ⟨{y:Bool×Receiver×Int // xnj k n T y},fun y=>xou c s a.length n y.1,fun y=>(n+1-y.1.2.2).toNat,⟨(false,x,x.zbh[k]),start⟩,?_,?_⟩
  . exact (zbi [(2,some 2),(4,some 4),(7,some 7)])
  rintro ⟨⟨bb,y,m⟩,⟨g1,g2,g3,g4,g5,g6⟩,gm,g7,he,g9⟩;dsimp only at g1 g2 g3 g4 g5 g6 gm g7 he g9;rw [gm] at g5 g6;refine zci fun Q hQ=>?_
  cases bb with
  | false =>
   exact yy10
  | true =>
   exact yy10
end Rcv
namespace Rcv
open Srt Jn Ser
theorem ynu (r:Receiver) (h1:r.zar.length<2 ^ 40) (h2:r.pieces.length<2 ^ 40) (h3:tot r.pieces<2 ^ 60) (hc:-(2 ^ 60)<=r.cum) (hc2:r.cum<=2 ^ 60) (hsp:∀ s∈r.zar,-(2 ^ 61)<=s.lo/\s.lo<=2 ^ 61/\-(2 ^ 61)<=s.hi/\s.hi<=2 ^ 61) :
 zan Tryz.prog 148 [r.hv] zad (zjw r).hv zad:=by
 by_cases c0:400-(tot r.pieces:Int)>0
 . have e:zjw r=⟨2,tag r.cum,0,0,0,false,false,[],(r.zar.take 6).map (shift r.cum),400-(tot r.pieces:Int),[]⟩:=by rw [zjw,zy0 (by omega)]
   rw [e];refine zal mixed Tryz.func148 zz4 ?_;(conv=>whnf)
   (refine cL ?_;refine dL (zdb r.cum) ?_)
   (refine cL ?_;refine dL (ztk r zz0 zz0) ?_)
   refine sF ?_;refine zac (by simpa using c0) (zw ?_)
   repeat refine sG ?_
   refine ⟨{x:List Span×List Span // r.zar=x.1++x.2},fun | ⟨(A,B),_⟩=>hs 46 [(1,.ptr 1 0),(2,.ptr 2 0),(3,.ptr 3 0),(19,zar r.zar),(20,i64 r.zar.length),(21,i64 A.length)] [(1,.live (.cells 37 (yea r (zar r.zar) (pieces r.pieces) (yjg r.zbh) (zuv r.log)))),(2,.live (.cells 61 [i64 0,i64 0,i64 0,i64 0,i64 0,zbj false,zbj false,zej,zej,i64 0,zej])),(3,.live (.cells 61 [i64 2,i64 (tag r.cum),i64 0,i64 0,i64 0,zbj false,zbj false,zej,.own 900,i64 (400-(tot r.pieces:Int)),zej])),(900,xjt ((A.take 6).map (shift r.cum)))],fun x=>x.1.2.length,⟨([],r.zar),rfl⟩,?_,?_⟩
   . exact (zbi [(1,some 1),(2,some 2),(3,some 3),(900,none)])
   exact yy18
 . have e:zjw r=⟨2,tag r.cum,0,0,0,false,false,[],(r.zar.take 6).map (shift r.cum),0,[]⟩:=by
    rw [zjw];congr 1;split<;>omega
   rw [e];refine zal mixed Tryz.func148 zz4 ?_;(conv=>whnf)
   (refine cL ?_;refine dL (zdb r.cum) ?_)
   (refine cL ?_;refine dL (ztk r zz0 zz0) ?_)
   refine sF ?_;refine zab (by simpa using c0) (zw ?_)
   repeat refine sG ?_
   refine ⟨{x:List Span×List Span // r.zar=x.1++x.2},fun | ⟨(A,B),_⟩=>hs 46 [(1,.ptr 1 0),(2,.ptr 2 0),(3,.ptr 3 0),(19,zar r.zar),(20,i64 r.zar.length),(21,i64 A.length)] [(1,.live (.cells 37 (yea r (zar r.zar) (pieces r.pieces) (yjg r.zbh) (zuv r.log)))),(2,.live (.cells 61 [i64 0,i64 0,i64 0,i64 0,i64 0,zbj false,zbj false,zej,zej,i64 0,zej])),(3,.live (.cells 61 [i64 2,i64 (tag r.cum),i64 0,i64 0,i64 0,zbj false,zbj false,zej,.own 900,i64 (0),zej])),(900,xjt ((A.take 6).map (shift r.cum)))],fun x=>x.1.2.length,⟨([],r.zar),rfl⟩,?_,?_⟩
   . exact (zbi [(1,some 1),(2,some 2),(3,some 3),(900,none)])
   exact yy18
end Rcv
namespace Rcv
open Srt Jn Ser
theorem yuy (c:Config) (h1:-9223372036854775808<c.first) (h2:c.first<=9223372036854775807) (h3:c.streams<=1099511627776):zan Tryz.prog 106 [c.hv] zad (zyz c).hv zad:=by
 refine zco Tryz.func106 (zyj c h1 h2 h3) ?_;(conv=>whnf)
 rfl
def wt (c:Chunk):Nat:=c.data.length+c.zbm.length+1
def wts (l:List Chunk):Nat:=(l.map wt).sum
theorem yfj (a b:List Chunk):wts (a++b)=wts a+wts b:=by simp [wts]
theorem zkq (c:Chunk) (b:List Chunk):wts (c::b)=wt c+wts b:=by simp [wts]
end Rcv
namespace Rcv
open Srt Jn Ser
theorem zmh.cumB {N:Nat} {r:Receiver} (h:zmh N r) (hN:N<=2000000):-(2 ^ 60)<=r.cum/\r.cum<=2 ^ 60:=by
 have:=h.cum1;have:=h.cum2;omega
theorem zmh.spansB {N:Nat} {r:Receiver} (h:zmh N r) (hN:N<=2000000):∀ s∈r.zar,-(2 ^ 61)<=s.lo/\s.lo<=2 ^ 61/\-(2 ^ 61)<=s.hi/\s.hi<=2 ^ 61:=fun s hs=>by
 have h1:=h.zet s hs;have h2:=h.his s hs;have h3:=h.cum1;have h4:=h.cum2;have h5:=(zia h.zfr s hs).1;omega
end Rcv
namespace Rcv
open Srt Jn Ser
theorem xbf (c:Config) (h1:-9223372036854775808<c.first) (h2:c.first<=9223372036854775807) (h3:c.streams<=1099511627776):zan Tryz.prog 110 [c.hv] zad (zyz c).hv zad:=by
 refine zco Tryz.func110 (zrl c h1 h2 h3) ?_;(conv=>whnf)
 rfl
theorem yuj (r:Receiver) (c:Chunk) (hf:xnq r c):zan Tryz.prog 152 [r.hv,c.hv] zad (data r c).hv zad:=by
 refine zco Tryz.func152 (xaz r c hf) ?_;generalize data r c=d;(conv=>whnf)
 rfl
theorem yeu (r:Receiver) (c:Chunk) {N:Nat} (h:zmh N r) (hN:N<=2000000) (hc:c.zbm.length<=2 ^ 20):zan Tryz.prog 153 [r.hv,c.hv] zad (forward r c).hv zad:=by
 refine zco Tryz.func153 (yjy r c h hN hc) ?_;generalize forward r c=d;(conv=>whnf)
 rfl
theorem yvg (r:Receiver) (h1:r.zar.length<2 ^ 40) (h2:r.pieces.length<2 ^ 40) (h3:tot r.pieces<2 ^ 60) (hc:-(2 ^ 60)<=r.cum) (hc2:r.cum<=2 ^ 60) (hsp:∀ s∈r.zar,-(2 ^ 61)<=s.lo/\s.lo<=2 ^ 61/\-(2 ^ 61)<=s.hi/\s.hi<=2 ^ 61) :
 zan Tryz.prog 154 [r.hv] zad (zjw r).hv zad:=by
 refine zco Tryz.func154 (xbn r h1 h2 h3 hc hc2 hsp) ?_;(conv=>whnf)
 rfl
theorem zyh (r:Receiver) (hr:Fit r):zan Tryz.prog 111 [r.hv] zad r.hv zad:=by
 refine zco Tryz.func111 (zdx r hr) ?_;(conv=>whnf)
 rfl
def xol:Config:=⟨2,4,60,1,1,5,7⟩
def a8:Chunk:=⟨1,8,0,1,0,true,true,[98],[],0,[]⟩
def a7:Chunk:=⟨1,7,0,0,0,true,true,[97],[],0,[]⟩
def r1:Receiver:=⟨xol,6,[⟨8,8⟩],[⟨8,a8⟩],[0,0],[]⟩
def r2:Receiver:=⟨xol,8,[],[],[2,0],[⟨0,0,true,[97]⟩,⟨0,1,true,[98]⟩]⟩
end Rcv
namespace Ln
open Ser
def xfc (w:List zau) (p:zau):List zau:=if w.length<40 then w++[p] else w
def zmo (w ps:List zau):List zau:=ps.foldl xfc w
def zfy (back:Bool) (x:zeb×Bool) (c:Chunk):zeb×Bool :=
 if back then ({x.1 with sender:=Snd.zyy x.1.sender c},x.2) else
 if c.kind=1 then ({x.1 with receiver:=Rcv.data x.1.receiver c},true) else
 if c.kind=3 then ({x.1 with receiver:=Rcv.forward x.1.receiver c},true) else x
def told (path:Int) (l:zeb):zeb:=if (Pck.zcx [Rcv.zjw l.receiver] 120).2=0 then {l with way:=zmo l.way [⟨path,true,(Pck.zcx [Rcv.zjw l.receiver] 120).1⟩]} else l
def ziy (l:zeb) (p:zau):zeb×Bool:=(Pck.zfg p.bytes).1.foldl (zfy p.back) (l,false)
def zga (l:zeb) (p:zau):zeb :=
 if (Pck.zfg p.bytes).2≠0 then l else if (ziy l p).2 then told p.path (ziy l p).1 else (ziy l p).1
def emit (l:zeb):zeb:={l with sender:=(Snd.zit l.sender).1,way:=zmo l.way (Snd.zit l.sender).2}
def doS (l:zeb) (x:Step):zeb×Answer :=
 if x.kind=1 then (if Snd.zeq l.sender x.message=0 then (emit {l with sender:=Snd.zgv l.sender x.message},⟨0,l.sender.fates.length⟩) else (l,⟨Snd.zeq l.sender x.message,0⟩)) else
 if x.kind=2\/x.kind=3\/x.kind=4 then (if x.n<0 then (l,⟨6,0⟩) else match l.way[x.n.toNat]? with
  | none=>(l,⟨6,0⟩)
  | some p=>if x.kind=4 then (emit {l with way:=zmo l.way [p]},⟨0,0⟩) else
   (emit (if x.kind=2 then zga {l with way:=l.way.eraseIdx x.n.toNat} p else {l with way:=l.way.eraseIdx x.n.toNat}),⟨0,0⟩)) else
 if x.kind=5 then (emit {l with sender:=Snd.tick l.sender},⟨0,0⟩) else (l,⟨1,0⟩)
def zhm (c:Config):zeb:=⟨Snd.zoq c,Rcv.zyz c,[]⟩
def zkg:zeb->List Step->zeb×List Answer
 | l,[]=>(l,[])
 | l,x::r=>((zkg (doS l x).1 r).1,(doS l x).2::(zkg (doS l x).1 r).2)
theorem yrk:∀ (a:List Step) (l:zeb) (b:List Step),zkg l (a++b)=((zkg (zkg l a).1 b).1,(zkg l a).2++(zkg (zkg l a).1 b).2)
 | [],l,b=>rfl
 | x::a,l,b=>by
  have h:=yrk a (doS l x).1 b;rw [zy44,zkg,h];rfl
theorem zrb:∀ (a:List Step) (l:zeb),(zkg l a).2.length=a.length
 | [],_=>rfl
 | x::a,l=>by rw [zkg,zy6,zrb a];rfl
theorem yna:∀ (ps w:List zau),w.length<=40->(zmo w ps).length<=40
 | [],w,h=>h
 | p::ps,w,h=>by
  unfold zmo;rw [zy49];refine yna ps _ ?_;unfold xfc;split
  . simp;omega
  . exact h
theorem ydz:∀ (ps w:List zau),∀ p∈zmo w ps,p∈w\/p∈ps
 | [],w,p,h=>.inl h
 | q::ps,w,p,h=>by
  unfold zmo at h;rw [zy49] at h;rcases ydz ps _ p h with h | h
  . unfold xfc at h
    split at h
    . rcases zy13.1 h with h | h
      . exact .inl h
      . rw [zy11] at h;subst h;exact .inr zz5
    . exact .inl h
  . exact .inr (by simp [h])
theorem zta (l:List Chunk) (most:Int) (h:0<=most):((Pck.zcx l most).1.length:Int)<=most:=by
 unfold Pck.zcx
 (repeat' split)<;>first | (simp;omega) | (dsimp only;omega)
theorem xho (kind:Int) (b:List UInt8):(Chk.zcz kind b).1.data.length+(Chk.zcz kind b).1.zbm.length<=b.length/\(Chk.zcz kind b).1.zar.length<=b.length:=by
 have h1:=Chk.znk (b.drop 2);have h2:=Chk.zma (b.drop 4);have h3:(b.drop 2).length<=b.length:=by simp
 have h4:(b.drop 4).length<=b.length:=by simp
 unfold Chk.zcz
 (repeat' split)<;>constructor<;>first | (simp [Chk.no];done) | (dsimp only [Chk.no];simp;omega) | (dsimp only [Chk.no];omega)
theorem xex {b:List UInt8} (h:(Chk.parse b).2.2=0):Rcv.wt (Chk.parse b).1+1<=(Chk.parse b).2.1.toNat/\(Chk.parse b).2.1.toNat<=b.length/\(Chk.parse b).1.zar.length<=b.length:=by
 have h1:=xho (b[0]?.getD 0).toNat ((b.drop 2).take (b[1]?.getD 0).toNat);have h2:((b.drop 2).take (b[1]?.getD 0).toNat).length<=(b[1]?.getD 0).toNat:=by simp;omega
 have h3:((b.drop 2).take (b[1]?.getD 0).toNat).length<=b.length:=by simp;omega
 unfold Chk.parse at h ⊢
 (repeat' split at h)<;>first | contradiction | skip
 . rename_i c1 c2 c3 c4
   rw [zy0 c1,zy0 c2,zy0 c3,zy0 c4];unfold Rcv.wt;dsimp only;refine ⟨by omega,by omega,by omega⟩
theorem yit:∀ (f:Nat) (b:List UInt8),Rcv.wts (Pck.zfc f b).1<=b.length/\∀ c∈(Pck.zfc f b).1,c.zar.length<=b.length/\Rcv.wt c<=b.length
 | 0,b=>by simp [Pck.zfc,Rcv.wts]
 | f+1,b=>by
  have ih:=yit f (b.drop (Chk.parse b).2.1.toNat);unfold Pck.zfc
  (repeat' split)<;>first | (simp [Rcv.wts];done) | skip
  rename_i c1 c2 c3;have hp:=xex (Decidable.not_not.1 c2);rw [zy42] at ih;refine ⟨?_,fun c hc=>?_⟩
  . dsimp only
    rw [Rcv.zkq];omega
  . rcases zy18.1 hc with rfl | hc
    . exact ⟨hp.2.2,by omega⟩
    . have:=ih.2 c hc;omega
theorem zrc (b:List UInt8):Rcv.wts (Pck.zfg b).1<=b.length/\∀ c∈(Pck.zfg b).1,c.zar.length<=b.length/\Rcv.wt c<=b.length:=by
 unfold Pck.zfg;split
 . simp [Rcv.wts]
 . exact yit _ _
theorem yzs {most path:Int} {l:List Chunk} (h0:0<=most):∀ p∈Snd.zlf most path l,(p.bytes.length:Int)<=most/\p.back=false:=by
 intro p hp;unfold Snd.zlf at hp;split at hp
 . rw [zy11] at hp;subst hp;exact ⟨zta _ _ h0,rfl⟩
 . simp at hp
theorem yiq {most path:Int} (h0:0<=most):∀ (n:Nat) (l:List Chunk),∀ p∈Snd.zfe most path n l,(p.bytes.length:Int)<=most/\p.back=false
 | 0,l,p,hp=>by simp [Snd.zfe] at hp
 | n+1,l,p,hp=>by
  unfold Snd.zfe at hp;split at hp
  . simp at hp
  . rcases zy13.1 hp with hp | hp
    . exact yzs h0 p hp
    . exact yiq h0 n _ p hp
theorem zuj {most:Int} (h0:0<=most):∀ (ls:List (List Chunk)) (k:Nat),∀ p∈Snd.zbr most k ls,(p.bytes.length:Int)<=most/\p.back=false
 | [],k,p,hp=>by simp [Snd.zbr] at hp
 | l::ls,k,p,hp=>by
  unfold Snd.zbr at hp;rcases zy13.1 hp with hp | hp
  . exact yiq h0 _ _ p hp
  . exact zuj h0 ls _ p hp
structure LI (N M:Nat) (l:zeb):Prop where
 snd:Snd.SI N l.sender
 rcv:Rcv.zmh M l.receiver
 small:M<=2000000
 way:l.way.length<=40
 bytes:∀ p∈l.way,p.bytes.length<=120
section
variable {N M:Nat} {l:zeb}
theorem LI.more (h:LI N M l) {M':Nat} (h1:M<=M') (h2:M'<=2000000):LI N M' l:=⟨h.snd,h.rcv.more h1,h2,h.way,h.bytes⟩
theorem zvi {back:Bool} {x:zeb×Bool} {c:Chunk} (h:LI N M x.1) (hM:M+Rcv.wt c<=2000000):LI N (M+Rcv.wt c) (zfy back x c).1:=by
 have hw:Rcv.wt c=c.data.length+c.zbm.length+1:=rfl;unfold zfy;split
 . exact ⟨Snd.xil h.snd c,h.rcv.more zz0,hM,h.way,h.bytes⟩
 split
 . exact ⟨h.snd,(Rcv.xcq h.rcv zz0 c).more zz0,hM,h.way,h.bytes⟩
 split
 . exact ⟨h.snd,(Rcv.ylx h.rcv zz0 c zz0).more zz0,hM,h.way,h.bytes⟩
 . exact h.more zz0 hM
theorem ypr {back:Bool}:∀ (cs:List Chunk) {M:Nat} {x:zeb×Bool},LI N M x.1->M+Rcv.wts cs<=2000000->LI N (M+Rcv.wts cs) (cs.foldl (zfy back) x).1
 | [],M,x,h,_=>h
 | c::cs,M,x,h,hM=>by
  rw [Rcv.zkq] at hM ⊢;have:=ypr (back:=back) cs (zvi (back:=back) (c:=c) h zz0) zz0;rw [<- zy99];exact this
theorem yaw (h:LI N M l) {ps:List zau} (hp:∀ p∈ps,p.bytes.length<=120):LI N M {l with way:=zmo l.way ps} :=
 ⟨h.snd,h.rcv,h.small,yna ps _ h.way,fun p hq=>by rcases ydz ps _ p hq with hq | hq;exact h.bytes p hq;exact hp p hq⟩
theorem xki (h:LI N M l) (path:Int):LI N M (told path l):=by
 unfold told;split
 . refine yaw h fun p hp=>?_
   rw [zy11] at hp;subst hp;have:=zta [Rcv.zjw l.receiver] 120 zz4;dsimp only;omega
 . exact h
theorem zwi (h:LI N M l) {p:zau} (hp:p.bytes.length<=120) (hM:M+120<=2000000):LI N (M+120) (zga l p):=by
 have hw:=(zrc p.bytes).1;have h2:LI N (M+120) (ziy l p).1:=(ypr (back:=p.back) (Pck.zfg p.bytes).1 (x:=(l,false)) h zz0).more zz0 hM;unfold zga;split
 . exact h.more zz0 hM
 split
 . exact xki h2 _
 . exact h2
theorem zwm (h:LI N M l):LI N M (emit l):=by
 have hw:=Snd.zct h.snd.cfg;have hc:=Snd.xfa h.snd;have h2:LI N M {l with sender:=(Snd.zit l.sender).1}:=⟨Snd.xjn h.snd,h.rcv,h.small,h.way,h.bytes⟩
 refine yaw h2 fun p hp=>?_
 have:=(zuj zz0 _ _ p hp).1;omega
theorem yoo (h:LI N M l) (x:Step) (hN:N+1<=2 ^ 20) (hM:M+120<=2000000):LI (N+1) (M+120) (doS l x).1:=by
 have h0:LI (N+1) (M+120) l:=⟨h.snd.mono zz0 hN,h.rcv.more zz0,hM,h.way,h.bytes⟩
 unfold doS;split
 . split
   . rename_i e
     exact zwm (l:={l with sender:=Snd.zgv l.sender x.message}) ⟨Snd.zte h.snd e hN,h0.rcv,hM,h.way,h.bytes⟩
   . exact h0
 split
 . split
   . exact h0
   split
   . exact h0
   rename_i p hp;have hb:=h.bytes p (zy7 hp);have he:∀ {N M:Nat},LI N M l->LI N M {l with way:=l.way.eraseIdx x.n.toNat}:=fun h =>
    ⟨h.snd,h.rcv,h.small,by show (l.way.eraseIdx _).length<=40;have:=h.way;rw [zy78];split<;>omega,fun q hq=>h.bytes q (zy60 hq)⟩
   split
   . refine zwm (yaw h0 fun q hq=>?_)
     rw [zy11] at hq;subst hq;exact hb
   . refine zwm ?_
     split
     . exact zwi (he ⟨h.snd.mono zz0 hN,h.rcv,h.small,h.way,h.bytes⟩) hb hM
     . exact he h0
 split
 . exact zwm (l:={l with sender:=Snd.tick l.sender}) ⟨Snd.zto h0.snd,h0.rcv,hM,h.way,h.bytes⟩
 . exact h0
theorem yrn:∀ (a:List Step) {N M:Nat} {l:zeb},LI N M l->N+a.length<=2 ^ 20->M+120*a.length<=2000000->LI (N+a.length) (M+120*a.length) (zkg l a).1
 | [],N,M,l,h,_,_=>h
 | x::a,N,M,l,h,h1,h2=>by
  simp only [zy6] at h1 h2 ⊢;have:=yrn a (yoo h x zz0 zz0) zz0 zz0;rw [show N+(a.length+1)=N+1+a.length by omega,show M+120*(a.length+1)=M+120+120*a.length by omega];exact this
end
theorem zxg {c:Config} (h:Snd.zjj c=0):LI 0 0 (zhm c):=by
 have hw:=Snd.zct h;have hl:(Rcv.zyz c).zbh.length<=4:=by simp [Rcv.zyz];omega
 have ht:∀ t∈(Rcv.zyz c).zbh,t=0:=fun t ht=>(zy148.1 ht).2
 exact ⟨Snd.xme h,⟨zy28 _,zy28 _,zy28 _,trivial,by simp [zhm,Rcv.zyz],by simp [zhm,Rcv.zyz],by show -1<=c.first-1;omega,by show c.first-1<=_;omega,fun t htt=>by rw [ht t htt];decide,fun t htt=>by rw [ht t htt];simp [zhm,Rcv.zyz],by show (Rcv.zyz c).zbh.length<_;omega⟩,by decide,by simp [zhm],by simp [zhm]⟩
end Ln
namespace Ln
open Ser
abbrev zhu (l:List zau):zai:=.live (.row 110 3 (l.map zau.row))
abbrev pks (l:List zau):HV:=.p (.sl 3 (l.map zau.row))
def lnC (s:zae) (r:Receiver) (w:HV):List HV:=[i64 s.config.streams,i64 s.config.part,i64 s.config.packet,i64 s.config.paths,i64 s.config.turns,i64 s.config.waiting,i64 s.config.first,i64 s.clock,Sch.qs s.queue,i64 s.sched.last,i64 s.sched.hand,ints s.sched.had,Sco.zec s.out,Snd.zpx s.paths,i64 s.cum,i64 s.next,i64 s.room,ints s.mids,ints s.fates,zbj s.forward,i64 s.recover,
 i64 r.config.streams,i64 r.config.part,i64 r.config.packet,i64 r.config.paths,i64 r.config.turns,i64 r.config.waiting,i64 r.config.first,i64 r.cum,.p (.sl 2 (r.zar.map Span.row)),.p (.sl 12 (r.pieces.map zav.row)),ints r.zbh,.p (.sl 4 (r.log.map zbk.row)),w]
abbrev lnB (s:zae) (r:Receiver) (w:HV):zai:=.live (.cells 40 (lnC s r w))
theorem ysa (ps:List zau) (h1:ps.length<2 ^ 22) (h2:∀ p∈ps,p.bytes.length<2 ^ 38):zan Tryz.prog 112 [pks ps] zad (.own 0) (lk .free [(0,zhu ps)]):=by
 refine zaq mixed Tryz.func112 zz4 [] (fun _=>.inl rfl) ?_;(conv=>whnf);refine ⟨{x:List zau×List zau // ps=x.1++x.2},fun | ⟨(A,B),_⟩=>hs 22 [(3,.own 900),(6,pks ps),(7,i64 ps.length),(8,i64 A.length)] [(900,zhu A)],fun x=>x.1.2.length,⟨([],ps),rfl⟩,?_,?_⟩
 . exact (zbi [(900,none)])
 rintro ⟨⟨A,B⟩,h⟩;dsimp only at h;(conv=>whnf);cases B with
 | cons p B =>
  have hz:=zbd h;have hp:=h2 p (zgx h);refine sT ?_;refine zak h rfl (zw ?_)
  (refine zat [(0,14)]  ?_;(conv=>whnf);refine dO (Cl.zdg p.bytes zz0) ?_)
  refine zaa (c:=((A.map zau.row).length+1)*40<=140737488355328) zz3 (zw ?_);refine sF ?_;exact ⟨⟨(A++[p],B),zag h⟩,(zay [(900,some 19)] (by repeat' (first | exact z0 | refine z1 ?_ | refine ⟨?_,?_⟩ | ((exact zbb (f:=zau.row) rfl rfl)) | exact z2))),by simp⟩
 | nil =>
  have hz:=zbp h;rw [zy4] at h;refine sN ?_;exact zap [(0,some 900)] rfl rfl trivial rfl rfl ⟨⟨rfl,.inl ⟨900,rfl,by exact zas (by rw [h])⟩⟩,trivial⟩
theorem xbi (l:zeb) (h1:Snd.Fit l.sender) (h2:Rcv.Fit l.receiver) (h3:l.way.length<2 ^ 22) (h4:∀ p∈l.way,p.bytes.length<2 ^ 38):zan Tryz.prog 55 [l.hv] zad (.agg (lnC l.sender l.receiver (.own 0))) (lk .free [(0,zhu l.way)]):=by
 refine zaq mixed Tryz.func55 zz4 [] (fun _=>.inl rfl) ?_;(conv=>whnf)
 (refine cP ?_;refine dL (Snd.zyh l.sender h1) ?_)
 (refine cP ?_;refine dL (Rcv.zyh l.receiver h2) ?_)
 (refine zat [(0,20)]  ?_;(conv=>whnf);refine dO (ysa l.way h3 h4) ?_)
 refine sD ?_;exact yy21
theorem yrp (w A:List zau) (p:zau):zmo w (A++[p])=xfc (zmo w A) p:=by simp [zmo]
theorem zmb (s:zae) (r:Receiver) (w ps:List zau) (h1:ps.length<2 ^ 62):zan Tryz.prog 116 [.ptr 1000 0,pks ps] (lk .free [(1000,lnB s r (.own 1001)),(1001,zhu w)]) (.tup []) (lk .free [(1000,lnB s r (.own 0)),(0,zhu (zmo w ps)),(1001,.dead)]):=by
 refine zaq mixed Tryz.func116 zz4 [1000,1001] zbt ?_;(conv=>whnf);refine ⟨{x:List zau×List zau // ps=x.1++x.2},fun | ⟨(A,B),_⟩=>hsP [1000,1001] 29 [(0,.ptr 1000 0),(6,pks ps),(7,i64 ps.length),(8,i64 A.length)] [(1000,lnB s r (.own 900)),(900,zhu (zmo w A)),(1001,.dead)],fun x=>x.1.2.length,⟨([],ps),rfl⟩,?_,?_⟩
 . exact (zdm [(1000,some 1000),(1001,some 1001),(900,some 1001)])
 rintro ⟨⟨A,B⟩,h⟩;dsimp only at h;(conv=>whnf);cases B with
 | cons p B =>
  have hz:=zbd h;refine sT ?_;refine zak h rfl (zw ?_);by_cases c:(zmo w A).length<40
  case pos =>
   refine sT ?_;refine zaa (c:=(((zmo w A).map zau.row).length+1)*40<=140737488355328) zz3 (zw ?_);refine sD ?_;refine sF ?_;exact ⟨⟨(A++[p],B),zag h⟩,(zcd [(1000,some 1000),(1001,some 1001),(900,some 25)] (by repeat' (first | exact z0 | refine z1 ?_ | refine ⟨?_,?_⟩ | ((exact zbb (f:=zau.row) (by rw [yrp,xfc,zy1 c]) rfl)) | exact z2))),by simp⟩
  case neg =>
   refine sN ?_;refine sF ?_;exact ⟨⟨(A++[p],B),zag h⟩,(zcd [(1000,some 1000),(1001,some 1001),(900,some 900)] (by repeat' (first | exact z0 | refine z1 ?_ | refine ⟨?_,?_⟩ | ((exact zas (by rw [yrp,xfc,zy0 c]))) | exact z2))),by simp⟩
 | nil =>
  have hz:=zbp h;rw [zy4] at h;refine sN ?_
  (exact zdd [(1000,some 1000),(1001,some 1001),(0,some 900)] zz91)
end Ln
namespace Ln
open Ser
theorem yhc (back:Bool) (x:zeb×Bool) (c:Chunk):(zfy back x c).1.way=x.1.way:=by
 unfold zfy;(repeat' split)<;>rfl
theorem ynz:∀ cs:List Chunk,cs.length<=Rcv.wts cs
 | []=>by simp [Rcv.wts]
 | c::cs=>by
  have:=ynz cs;rw [Rcv.zkq,zy6];unfold Rcv.wt;omega
theorem zyp (r:Receiver):Pck.zfd [Rcv.zjw r]:=⟨by simp,fun c hc=>by
 rw [zy11] at hc;subst hc;exact ⟨by simp [Rcv.zjw];omega,by simp [Rcv.zjw]⟩⟩
theorem yul {N M:Nat} (l:zeb) (p:zau) (h:LI N M l) (hM:M+120<=2000000) (hp:p.bytes.length<=120):zan Tryz.prog 118 [.ptr 1000 0,p.hv] (lk .free [(1000,lnB l.sender l.receiver (.own 1001)),(1001,zhu l.way)]) (.tup [])
 (lk .free [(1000,lnB (zga l p).sender (zga l p).receiver (.own 0)),(0,zhu (zga l p).way),(1001,.dead)]):=by
 obtain ⟨path,back,bytes⟩:=p;dsimp only at hp;generalize hT:zga l ⟨path,back,bytes⟩=T;refine zaq mixed Tryz.func118 zz4 [1000,1001] zbt ?_;(conv=>whnf);have hw:=zrc bytes
 (refine cP ?_;refine dL (Pck.ynm bytes zz0) ?_)
 rw [zga] at hT;dsimp only at hT;have hall:ziy l ⟨path,back,bytes⟩=(Pck.zfg bytes).1.foldl (zfy back) (l,false):=rfl;generalize Pck.zfg bytes=K at hT hw hall ⊢;obtain ⟨cs,e⟩:=K;dsimp only at hT hw hall;by_cases c1:e=0
 case neg =>
  rw [zy1 c1] at hT;subst hT;rw [show (e != 0)=true from zy85.2 c1];(conv=>whnf)
  (exact zck [(1000,some 1000),(1001,some 1001),(0,some 1001)])
 case pos =>
 subst c1;rw [zy0 (fun h=>h rfl)] at hT;(conv=>whnf)
 repeat refine sG ?_
 refine ⟨{x:(zeb×Bool)×List Chunk×List Chunk // cs=x.2.1++x.2.2/\x.2.1.foldl (zfy back) (l,false)=x.1/\LI N (M+Rcv.wts x.2.1) x.1.1/\x.1.1.way=l.way},fun | ⟨((y,told),A,B),_⟩=>hsP [1000,1001] 85 [(0,.ptr 1000 0),(3,.ptr 3 0),(6,zbj told),(19,.p (.sl 11 (cs.map Chunk.row))),(20,i64 cs.length),(21,i64 A.length)] [(1000,lnB y.sender y.receiver (.own 1001)),(1001,zhu l.way),(3,.live (.cells 110 (⟨path,back,bytes⟩:zau).cells))],fun x=>x.1.2.2.length,⟨((l,false),[],cs),rfl,rfl,h,rfl⟩,?_,?_⟩
 . exact (zdm [(1000,some 1000),(1001,some 1001),(3,some 3)])
 rintro ⟨⟨⟨y,told⟩,A,B⟩,k1,k2,k3,k4⟩;dsimp only at k1 k2 k3 k4;(conv=>whnf);cases B with
 | cons c B =>
  have hz:=zbd k1;obtain ⟨w1,w2⟩:=hw;have hcl:=ynz cs;have hc:=w2 c (zgx k1);have hsum:Rcv.wts cs=Rcv.wts A+(Rcv.wt c+Rcv.wts B):=by rw [k1,Rcv.yfj,Rcv.zkq]
  have hwt:Rcv.wt c=c.data.length+c.zbm.length+1:=rfl;have hnx:(A++[c]).foldl (zfy back) (l,false)=zfy back (y,told) c:=by rw [zy68,k2];rfl
  have hli:=zvi (back:=back) (x:=(y,told)) (c:=c) k3 zz0;have hwy:=(yhc back (y,told) c).trans k4;rw [show M+Rcv.wts A+Rcv.wt c=M+Rcv.wts (A++[c]) by rw [Rcv.yfj,Rcv.zkq];simp [Rcv.wts];omega] at hli;have hfit:=k3.rcv.fit zz0;refine sT ?_;refine zak k1 rfl (zw ?_)
  repeat refine sG ?_
  cases back with
  | true =>
   conv=>whnf
   (refine cP ?_;refine dL (Snd.xbb y.sender c k3.snd.fit k3.snd.right zz0) ?_)
   refine sD ?_
   repeat refine sG ?_
   refine sF ?_;exact ⟨⟨(zfy true (y,told) c,A++[c],B),zag k1,hnx,hli,hwy⟩,(zdm [(1000,some 1000),(1001,some 1001),(3,some 3)]),by simp⟩
  | false =>
   conv=>whnf
   repeat refine sG ?_
   by_cases d1:c.kind=1
   case pos =>
    have e1:zfy false (y,told) c=({y with receiver:=Rcv.data y.receiver c},true):=by unfold zfy;rw [zy0 (by decide),zy1 d1]
    rw [e1] at hnx hli hwy;rw [show (c.kind==1)=true from zy17.2 d1];(conv=>whnf)
    (refine cP ?_;refine dL (Rcv.yuj y.receiver c (k3.rcv.dfit zz0 zz0)) ?_)
    refine sD ?_
    repeat refine sG ?_
    refine sF ?_;exact ⟨⟨(({y with receiver:=Rcv.data y.receiver c},true),A++[c],B),zag k1,hnx,hli,hwy⟩,(zdm [(1000,some 1000),(1001,some 1001),(3,some 3)]),by simp⟩
   case neg =>
    rw [show (c.kind==1)=false from zy5.2 d1];(conv=>whnf)
    repeat refine sG ?_
    by_cases d2:c.kind=3
    case pos =>
     have e1:zfy false (y,told) c=({y with receiver:=Rcv.forward y.receiver c},true):=by unfold zfy;rw [zy0 (by decide),zy0 d1,zy1 d2]
     rw [e1] at hnx hli hwy;rw [show (c.kind==3)=true from zy17.2 d2];(conv=>whnf)
     (refine cP ?_;refine dL (Rcv.yeu y.receiver c k3.rcv zz0 zz0) ?_)
     refine sD ?_
     repeat refine sG ?_
     refine sF ?_;exact ⟨⟨(({y with receiver:=Rcv.forward y.receiver c},true),A++[c],B),zag k1,hnx,hli,hwy⟩,(zdm [(1000,some 1000),(1001,some 1001),(3,some 3)]),by simp⟩
    case neg =>
     have e1:zfy false (y,told) c=(y,told):=by unfold zfy;rw [zy0 (by decide),zy0 d1,zy0 d2]
     rw [e1] at hnx hli hwy;rw [show (c.kind==3)=false from zy5.2 d2];(conv=>whnf)
     repeat refine sG ?_
     refine sF ?_;exact ⟨⟨((y,told),A++[c],B),zag k1,hnx,hli,hwy⟩,(zdm [(1000,some 1000),(1001,some 1001),(3,some 3)]),by simp⟩
 | nil =>
  have hz:=zbp k1;rw [zy4] at k1;rw [<- k1] at k2 k3;rw [hall,k2] at hT;dsimp only at hT;obtain ⟨w1,w2⟩:=hw;have hfit:=k3.rcv.fit zz0;refine sN ?_;cases told with
  | false =>
   rw [zy0 (by decide)] at hT;subst hT;(conv=>whnf)
   (exact zdd [(1000,some 1000),(1001,some 1001),(0,some 1001)] zz54)
  | true =>
   rw [zy1 rfl] at hT;(conv=>whnf)
   repeat refine sG ?_
   have hcb:=k3.rcv.cumB zz0
   (refine cP ?_;refine dL (Rcv.yvg y.receiver zz134 (by have:=hfit.pieces;omega) (by have:=hfit.bytes;omega) hcb.1 hcb.2 (k3.rcv.spansB zz0)) ?_)
   (refine cP ?_;refine dL (Pck.zgw [Rcv.zjw y.receiver] 120 (zyp _)) ?_)
   unfold Ln.told at hT;generalize Pck.zcx [Rcv.zjw y.receiver] 120=K2 at hT ⊢;obtain ⟨b,e⟩:=K2;dsimp only at hT;by_cases c3:e=0
   case pos =>
    rw [zy1 c3] at hT;subst hT c3;(conv=>whnf)
    (refine zaf [false,true] [(1000,1000),(1001,1001)] [(0,940)] ?_;(conv=>whnf);refine dG (zmb y.sender y.receiver l.way [⟨path,true,b⟩] zz5) ?_)
    (exact zdd [(1000,some 1000),(1001,some 1001),(0,some 940)] zz54)
   case neg =>
    rw [zy0 c3] at hT;subst hT;rw [show (e==0)=false from zy5.2 c3];(conv=>whnf)
    (exact zdd [(1000,some 1000),(1001,some 1001),(0,some 1001)] zz54)
end Ln
namespace Snd
open Ser
theorem PF.down {j i:Nat} {s:zae} (h:PF (j+i) s):PF j s:=⟨h.g,h.some,h.part,h.part2,h.msg,h.chunk,zy151 (Nat.add_le_add_left (zy70 _ (Nat.le_add_right j i)) _) h.bytes,h.few⟩
theorem PO.down {g:Config} {j i n k:Nat} {p:zep} (h:PO g (j+i) n k p):PO g j n k p:=⟨h.pf.down,h.paths,h.outs,h.config,h.most⟩
theorem yqx:∀ (i:Nat) {g:Config} {j n k:Nat} {p:zep},PO g (j+i) n k p->PO g j n (k+i) (zew i p)
 | 0,_,_,_,_,_,h=>h
 | i+1,g,j,n,k,p,h=>by
  unfold zew;rcases ymu (j:=j+i) h with ⟨-,e⟩ | ⟨q,-,e,-,-,h2⟩
  . rw [e];exact h.down.mono zz0
  . rw [e]
    have:=yqx i h2;exact this.mono zz0
theorem yis (most path:Int):∀ (n:Nat) (l:List Chunk),(zfe most path n l).length<=n
 | 0,l=>by simp [zfe]
 | n+1,l=>by
  have:=yis most path n (l.drop (zcc most l).toNat);have h1:(zlf most path l).length<=1:=by unfold zlf;split<;>simp
  unfold zfe;split
  . simp
  . rw [zy9];omega
theorem zuk (most:Int) {k:Nat}:∀ (ls:List (List Chunk)) (i:Nat),(∀ l∈ls,l.length<=k)->(zbr most i ls).length<=k*ls.length
 | [],i,_=>by simp [zbr]
 | l::ls,i,h=>by
  have h1:=yis most i l.length l;have h2:=zuk most ls (i+1) fun x hx=>h x zz52
  have h3:=h l zz5;unfold zbr;rw [zy9,zy6,Nat.mul_add];omega
theorem zhy {N:Nat} {s:zae} (h:SI N s):(zit s).2.length<2 ^ 62:=by
 have e1:=ycc (zoa (zqi h.pf));have e2:=yqx (j:=1) 61 e1;have h1:=(zoa (zqi h.pf)).pf.few;have h2:=h.npaths;have h3:=zct h.cfg;have h4:=zuk s.config.packet (zmn s).out 0 fun l hl=>(e2.most l hl).1
 have h5:(zmn s).out.length=s.paths.length:=e2.outs;rw [h5] at h4;have h6:s.paths.length<=2:=by omega
 show (zbr s.config.packet 0 (zmn s).out).length<_;refine zy151 h4 (zy151 (Nat.mul_le_mul_left _ h6) ?_);omega
end Snd
namespace Ln
open Ser
def noR:Receiver:=⟨⟨0,0,0,0,0,0,0⟩,0,[],[],[],[]⟩
def noL:zeb:=⟨Snd.noS,noR,[]⟩
def zuy (c:Config):zeb×Int:=if Snd.zjj c=0 then (zhm c,0) else (noL,Snd.zjj c)
theorem ykb (c:Config):zan Tryz.prog 54 [c.hv] zad (.tup [(zuy c).1.hv,i64 (zuy c).2]) zad:=by
 refine zal mixed Tryz.func54 zz4 ?_;(conv=>whnf);have pn:=Snd.zrl c;by_cases c1:Snd.zjj c=0
 case neg =>
  rw [show zuy c=(noL,Snd.zjj c) from zy0 c1];rw [show Snd.yky c=(Snd.noS,Snd.zjj c) from zy0 c1] at pn
  (refine cP ?_;refine dL pn ?_)
  rw [show (Snd.zjj c != 0)=true from zy85.2 c1];(conv=>whnf)
  try rfl
 case pos =>
  have hw:=Snd.zct c1;rw [show zuy c=(zhm c,0) from zy1 c1];rw [show Snd.yky c=(Snd.zoq c,0) from zy1 c1] at pn
  (refine cP ?_;refine dL pn ?_)
  repeat refine sG ?_
  (refine cP ?_;refine dL (Rcv.xbf c zz0 zz0 zz0) ?_)
  ((refine zaw ?_ ?_;(· kernel_rfl);conv=>whnf);try refine sG ?_)
  try rfl
theorem xcs (l:List zau) (i j:Nat) (hij:i<=j) (hj:j<=l.length) (hb:l.length<2 ^ 40) :
 zan Tryz.prog 117 [.osl 1000 3 0 (l.map zau.row).length,i64 i,i64 j] (lk .free [(1000,.live (.row 110 3 (l.map zau.row)))])
  (.osl 1000 3 0 (l.length-(j-i))) (lk .free [(1000,.live (.row 110 3 ((l.take i++l.drop j).map zau.row++List.replicate (j-i) ([pi 0,pb false,.v (.slice none 0 0)]))))]):=by
 refine zaq mixed Tryz.func117 zz4 [1000] zbt ?_;have hlr:(l.map zau.row).length=l.length:=by simp
 (conv=>whnf);refine sO ?_;by_cases h:i=j
 . subst h
   refine sT ?_;refine zap [(1000,some 1000)] rfl rfl ⟨rfl,trivial⟩ rfl ?_ ⟨⟨rfl,.inl ⟨1000,rfl,?_⟩⟩,trivial⟩
   . show HV.osl 1000 3 0 (l.length-(i-i))=HV.osl 1000 3 0 (l.map zau.row).length
     rw [hlr,zy91];rfl
   . show zai.live (.row _ 3 (l.map zau.row))=zai.live (.row _ 3 _)
     rw [zy33,zy91,zy145,zy4]
 . refine sN ?_
   refine sO ?_;refine sO ?_;refine ⟨_,rfl,?_,?_⟩
   . rw [hlr];omega
   (conv=>whnf);refine zaa zz3 ?_;(conv=>whnf);refine zaw ?_ ?_
   . kernel_rfl
   (conv=>whnf);refine zaa zz63 ?_;(conv=>whnf);refine zaa zz63 ?_;(conv=>whnf);refine zap [(1000,some 1000)] rfl rfl ⟨rfl,trivial⟩ rfl ?_ ⟨⟨rfl,.inl ⟨1000,rfl,?_⟩⟩,trivial⟩
   . show HV.osl 1000 3 0 _=HV.osl 1000 3 0 _
     congr 1;simp;omega
   . refine (congrArg (fun r=>zai.live (.row _ 3 r)) (yck (rows:=l.map zau.row) (i:=i) (j:=j) (z:=([pi 0,pb false,.v (.slice none 0 0)])) hij (by rw [hlr];exact hj) ?_ ?_ ?_ ?_ ?_)).trans ?_
     . simp<;>omega
     . simp<;>omega
     . simp<;>omega
     . simp;omega
     . simp;omega
     . rw [zy39,zy132,zy113];rfl
theorem xli (l:List zau) (i j:Nat) (hij:i<=j) (hj:j<=l.length) (hb:l.length<2 ^ 40) :
 zan Tryz.prog 117 [.own 1000,i64 i,i64 j] (lk .free [(1000,.live (.row 110 3 (l.map zau.row)))])
  (.own 0) (lk .free [(1000,.dead),(0,.live (.row 110 3 ((l.take i++l.drop j).map zau.row)))]):=by
 have h:=zla (d:=0) (L:=[]) (rows:=(l.take i++l.drop j).map zau.row++List.replicate (j-i) ([pi 0,pb false,.v (.slice none 0 0)])) (zwr (xcs l i j hij hj hb)) (.inl rfl) zz3 rfl zz4
 rwa [zy95 zz3] at h
theorem ysz (a b:List zau) (x:zau) (i j:Int) (hi:i=a.length) (hj:j=a.length+1) (hb:(a++x::b).length<2 ^ 40) :
 zan Tryz.prog 117 [.own 1000,i64 i,i64 j] (lk .free [(1000,.live (.row 110 3 ((a++x::b).map zau.row)))])
  (.own 0) (lk .free [(1000,.dead),(0,.live (.row 110 3 ((a++b).map zau.row)))]):=by
 subst hi hj;have h:=xli (a++x::b) a.length (a.length+1) zz0 zz5 hb
 rwa [zy140,show (a++x::b).drop (a.length+1)=b by rw [<- zy123,zy115];rfl,zy133] at h
theorem ygb {inp out:List zau} (a b:List zau) (x:zau) (i j:Int) (h1:inp=a++x::b) (h2:out=a++b) (hi:i=a.length) (hj:j=a.length+1) (hb:inp.length<2 ^ 40) :
 zan Tryz.prog 117 [.own 1000,i64 i,i64 j] (lk .free [(1000,.live (.row 110 3 (inp.map zau.row)))])
  (.own 0) (lk .free [(1000,.dead),(0,.live (.row 110 3 (out.map zau.row)))]):=by
 subst h1 h2;exact ysz a b x i j hi hj hb
theorem xfk {N M:Nat} (l:zeb) (x:Step) (h:LI N M l) (hN:N+1<=2 ^ 20) (hM:M+120<=2000000) (hx:x.message.data.length<2 ^ 38) :
 zan Tryz.prog 65 [l.hv,x.hv] zad (.tup [.agg (lnC (doS l x).1.sender (doS l x).1.receiver (.own 0)),(doS l x).2.hv]) (lk .free [(0,zhu (doS l x).1.way)]):=by
 have hway:=h.way;have hby:=h.bytes;generalize hT:doS l x=T;rw [doS] at hT;refine zaq mixed Tryz.func65 zz4 [] (fun _=>.inl rfl) ?_;(conv=>whnf)
 (refine zat [(0,20)]  ?_;(conv=>whnf);refine dO (xbi l h.snd.fit (h.rcv.fit h.small) zz0 (fun p hp=>by have:=hby p hp;omega)) ?_)
 by_cases c1:x.kind=1
 case pos =>
  rw [zy1 c1] at hT;rw [show (x.kind==1)=true from zy17.2 c1];(conv=>whnf);have ps:=Snd.xbo l.sender x.message h.snd.fit hx;by_cases e1:Snd.zeq l.sender x.message=0
  case pos =>
   rw [zy1 e1] at hT;subst hT;rw [Snd.zre e1] at ps
   (refine cP ?_;refine dL ps ?_)
   repeat refine sG ?_
   have hy:=(show LI (N+1) M {l with sender:=Snd.zgv l.sender x.message} from ⟨Snd.zte h.snd e1 hN,h.rcv,h.small,h.way,h.bytes⟩)
   have hyw:=Snd.zct hy.snd.cfg;have hyp:=hy.snd.npaths
   (refine cP ?_;refine dL (Snd.znm (({l with sender:=Snd.zgv l.sender x.message}:zeb)).sender hy.snd.pf zz132 zz0) ?_)
   repeat refine sG ?_
   (refine zaf [] [(1000,6),(1001,20)] [(0,950)] ?_;(conv=>whnf);refine dG (zmb (Snd.zit (({l with sender:=Snd.zgv l.sender x.message}:zeb)).sender).1 (({l with sender:=Snd.zgv l.sender x.message}:zeb)).receiver (({l with sender:=Snd.zgv l.sender x.message}:zeb)).way (Snd.zit (({l with sender:=Snd.zgv l.sender x.message}:zeb)).sender).2 (Snd.zhy hy.snd)) ?_ ⟨rfl,rfl,rfl,⟨zz1,⟨zz1,trivial⟩⟩,⟨⟨rfl,rfl⟩,trivial⟩,rfl,rfl,rfl⟩)
   exact yy39
  case neg =>
   rw [zy0 e1] at hT;subst hT;rw [Snd.zkj rfl e1] at ps
   (refine cP ?_;refine dL ps ?_)
   rw [show (Snd.zeq l.sender x.message != 0)=true from zy85.2 e1];(conv=>whnf);exact yy21
 case neg =>
  rw [zy0 c1] at hT;rw [show (x.kind==1)=false from zy5.2 c1];(conv=>whnf)
  repeat refine sG ?_
  by_cases c2:x.kind=2\/x.kind=3\/x.kind=4
  case neg =>
   rw [zy0 c2] at hT;have c2:=not_or.1 c2;have c3:=not_or.1 c2.2;rw [show (x.kind==2)=false from zy5.2 c2.1];(conv=>whnf)
   repeat refine sG ?_
   rw [show (x.kind==3)=false from zy5.2 c3.1];(conv=>whnf)
   repeat refine sG ?_
   rw [show (x.kind==4)=false from zy5.2 c3.2];(conv=>whnf)
   repeat refine sG ?_
   by_cases c5:x.kind=5
   case pos =>
    rw [zy1 c5] at hT;subst hT;rw [show (x.kind==5)=true from zy17.2 c5];(conv=>whnf)
    repeat refine sG ?_
    (refine cP ?_;refine dL (Snd.xbt l.sender h.snd.fit) ?_)
    repeat refine sG ?_
    have hy:=(show LI N M {l with sender:=Snd.tick l.sender} from ⟨Snd.zto h.snd,h.rcv,h.small,h.way,h.bytes⟩)
    have hyw:=Snd.zct hy.snd.cfg;have hyp:=hy.snd.npaths
    (refine cP ?_;refine dL (Snd.znm (({l with sender:=Snd.tick l.sender}:zeb)).sender hy.snd.pf zz132 zz0) ?_)
    repeat refine sG ?_
    (refine zaf [] [(1000,6),(1001,20)] [(0,950)] ?_;(conv=>whnf);refine dG (zmb (Snd.zit (({l with sender:=Snd.tick l.sender}:zeb)).sender).1 (({l with sender:=Snd.tick l.sender}:zeb)).receiver (({l with sender:=Snd.tick l.sender}:zeb)).way (Snd.zit (({l with sender:=Snd.tick l.sender}:zeb)).sender).2 (Snd.zhy hy.snd)) ?_ ⟨rfl,rfl,rfl,⟨zz1,⟨zz1,trivial⟩⟩,⟨⟨rfl,rfl⟩,trivial⟩,rfl,rfl,rfl⟩)
    exact yy39
   case neg =>
    rw [zy0 c5] at hT;subst hT;rw [show (x.kind==5)=false from zy5.2 c5];(conv=>whnf);exact yy21
  case pos =>
   rw [zy1 c2] at hT;have c6:x.kind=2\/x.kind≠2/\(x.kind=3\/x.kind≠3/\x.kind=4):=by omega
   rcases c6 with c6 | ⟨c8,c6 | ⟨c7,c6⟩⟩
   . rw [show (x.kind==2)=true from zy17.2 c6]
     conv=>whnf
     repeat refine sG ?_
     by_cases n0:x.n<0
     case pos =>
      rw [zy1 n0] at hT;subst hT;rw [show decide (x.n<0)=true from zy12 n0];(conv=>whnf);exact yy21
     case neg =>
     rw [zy0 n0] at hT;rw [show decide (x.n<0)=false from zy15 n0];(conv=>whnf);cases hp:l.way[x.n.toNat]? with
     | none =>
      rw [hp] at hT;dsimp only at hT;subst hT;have hge:=zy94.1 hp;rw [show decide (x.n>=((l.way.map zau.row).length:Int))=true from zy12 (by rw [zy3];omega)];(conv=>whnf);exact yy21
     | some p =>
     rw [hp] at hT;dsimp only at hT;have hlt:=(zy8.1 hp).1;have hpb:=hby p (zy7 hp);have hsp:l.way=l.way.take x.n.toNat++p::l.way.drop (x.n.toNat+1):=by
      obtain ⟨hk,e⟩:=zy8.1 hp;rw [<- e,zy116,zy33]
     have hsl:(l.way.take x.n.toNat).length=x.n.toNat:=by simp;omega
     have her:l.way.eraseIdx x.n.toNat=l.way.take x.n.toNat++l.way.drop (x.n.toNat+1):=zy71 _ _;rw [show decide (x.n>=((l.way.map zau.row).length:Int))=false from zy15 (by rw [zy3];omega)];(conv=>whnf)
     repeat refine sG ?_
     refine zaa ⟨by omega,by rw [zy3];omega⟩ (zw ?_);refine Snd.zam hp zz0 (zw ?_);rw [zy0 (by omega),zy1 c6] at hT;rw [show (x.kind==4)=false from zy5.2 (by omega)];(conv=>whnf)
     repeat refine sG ?_
     refine zao (z:=x.n+1) (zbs zz0 zz0) (zw ?_)
     (refine zaf [] [(1000,20)] [(0,930)] ?_;(conv=>whnf);refine dG (ygb (l.way.take x.n.toNat) (l.way.drop (x.n.toNat+1)) p x.n (x.n+1) hsp rfl zz0 zz0 zz0) ?_)
     rw [show (x.kind==2)=true from zy17.2 c6];(conv=>whnf);subst hT;have hli:LI N M {l with way:=l.way.eraseIdx x.n.toNat}:=⟨h.snd,h.rcv,h.small,by show (l.way.eraseIdx _).length<=40;rw [zy78];split<;>omega,fun q hq=>hby q (zy60 hq)⟩
     (refine zaf [] [(1000,6),(1001,930)] [(0,940)] ?_;(conv=>whnf);refine dG (yul {l with way:=l.way.eraseIdx x.n.toNat} p hli hM hpb) ?_ ⟨rfl,rfl,rfl,⟨zz1,⟨⟨rfl,_,rfl,.inl ⟨rfl,(zas (by rw [her]))⟩⟩,trivial⟩⟩,⟨⟨rfl,rfl⟩,trivial⟩,rfl,rfl,rfl⟩)
     repeat refine sG ?_
     have hy:=(zwi hli hpb hM)
     have hyw:=Snd.zct hy.snd.cfg;have hyp:=hy.snd.npaths
     (refine cP ?_;refine dL (Snd.znm ((zga {l with way:=l.way.eraseIdx x.n.toNat} p)).sender hy.snd.pf zz132 zz0) ?_)
     repeat refine sG ?_
     (refine zaf [] [(1000,6),(1001,940)] [(0,950)] ?_;(conv=>whnf);refine dG (zmb (Snd.zit ((zga {l with way:=l.way.eraseIdx x.n.toNat} p)).sender).1 ((zga {l with way:=l.way.eraseIdx x.n.toNat} p)).receiver ((zga {l with way:=l.way.eraseIdx x.n.toNat} p)).way (Snd.zit ((zga {l with way:=l.way.eraseIdx x.n.toNat} p)).sender).2 (Snd.zhy hy.snd)) ?_ ⟨rfl,rfl,rfl,⟨zz1,⟨zz1,trivial⟩⟩,⟨⟨rfl,rfl⟩,trivial⟩,rfl,rfl,rfl⟩)
     exact yy39
   . rw [show (x.kind==2)=false from zy5.2 c8]
     conv=>whnf
     repeat refine sG ?_
     rw [show (x.kind==3)=true from zy17.2 c6];(conv=>whnf)
     repeat refine sG ?_
     by_cases n0:x.n<0
     case pos =>
      rw [zy1 n0] at hT;subst hT;rw [show decide (x.n<0)=true from zy12 n0];(conv=>whnf);exact yy21
     case neg =>
     rw [zy0 n0] at hT;rw [show decide (x.n<0)=false from zy15 n0];(conv=>whnf);cases hp:l.way[x.n.toNat]? with
     | none =>
      rw [hp] at hT;dsimp only at hT;subst hT;have hge:=zy94.1 hp;rw [show decide (x.n>=((l.way.map zau.row).length:Int))=true from zy12 (by rw [zy3];omega)];(conv=>whnf);exact yy21
     | some p =>
     rw [hp] at hT;dsimp only at hT;have hlt:=(zy8.1 hp).1;have hpb:=hby p (zy7 hp);have hsp:l.way=l.way.take x.n.toNat++p::l.way.drop (x.n.toNat+1):=by
      obtain ⟨hk,e⟩:=zy8.1 hp;rw [<- e,zy116,zy33]
     have hsl:(l.way.take x.n.toNat).length=x.n.toNat:=by simp;omega
     have her:l.way.eraseIdx x.n.toNat=l.way.take x.n.toNat++l.way.drop (x.n.toNat+1):=zy71 _ _;rw [show decide (x.n>=((l.way.map zau.row).length:Int))=false from zy15 (by rw [zy3];omega)];(conv=>whnf)
     repeat refine sG ?_
     refine zaa ⟨by omega,by rw [zy3];omega⟩ (zw ?_);refine Snd.zam hp zz0 (zw ?_);rw [zy0 (by omega),zy0 c8] at hT;rw [show (x.kind==4)=false from zy5.2 (by omega)];(conv=>whnf)
     repeat refine sG ?_
     refine zao (z:=x.n+1) (zbs zz0 zz0) (zw ?_)
     (refine zaf [] [(1000,20)] [(0,930)] ?_;(conv=>whnf);refine dG (ygb (l.way.take x.n.toNat) (l.way.drop (x.n.toNat+1)) p x.n (x.n+1) hsp rfl zz0 zz0 zz0) ?_)
     rw [show (x.kind==2)=false from zy5.2 c8];(conv=>whnf)
     repeat refine sG ?_
     subst hT;have hli:LI N M {l with way:=l.way.eraseIdx x.n.toNat}:=⟨h.snd,h.rcv,h.small,by show (l.way.eraseIdx _).length<=40;rw [zy78];split<;>omega,fun q hq=>hby q (zy60 hq)⟩
     have hy:=hli;have hyw:=Snd.zct hy.snd.cfg;have hyp:=hy.snd.npaths
     (refine cP ?_;refine dL (Snd.znm (({l with way:=l.way.eraseIdx x.n.toNat}:zeb)).sender hy.snd.pf zz132 zz0) ?_)
     repeat refine sG ?_
     (refine zaf [] [(1000,6),(1001,930)] [(0,950)] ?_;(conv=>whnf);refine dG (zmb (Snd.zit (({l with way:=l.way.eraseIdx x.n.toNat}:zeb)).sender).1 (({l with way:=l.way.eraseIdx x.n.toNat}:zeb)).receiver (({l with way:=l.way.eraseIdx x.n.toNat}:zeb)).way (Snd.zit (({l with way:=l.way.eraseIdx x.n.toNat}:zeb)).sender).2 (Snd.zhy hy.snd)) ?_ ⟨rfl,rfl,rfl,⟨zz1,⟨⟨rfl,_,rfl,.inl ⟨rfl,(zas (by rw [her]))⟩⟩,trivial⟩⟩,⟨⟨rfl,rfl⟩,trivial⟩,rfl,rfl,rfl⟩)
     exact yy39
   . rw [show (x.kind==2)=false from zy5.2 c8]
     conv=>whnf
     repeat refine sG ?_
     rw [show (x.kind==3)=false from zy5.2 c7];(conv=>whnf)
     repeat refine sG ?_
     rw [show (x.kind==4)=true from zy17.2 c6];(conv=>whnf)
     repeat refine sG ?_
     by_cases n0:x.n<0
     case pos =>
      rw [zy1 n0] at hT;subst hT;rw [show decide (x.n<0)=true from zy12 n0];(conv=>whnf);exact yy21
     case neg =>
     rw [zy0 n0] at hT;rw [show decide (x.n<0)=false from zy15 n0];(conv=>whnf);cases hp:l.way[x.n.toNat]? with
     | none =>
      rw [hp] at hT;dsimp only at hT;subst hT;have hge:=zy94.1 hp;rw [show decide (x.n>=((l.way.map zau.row).length:Int))=true from zy12 (by rw [zy3];omega)];(conv=>whnf);exact yy21
     | some p =>
     rw [hp] at hT;dsimp only at hT;have hlt:=(zy8.1 hp).1;have hpb:=hby p (zy7 hp);have hsp:l.way=l.way.take x.n.toNat++p::l.way.drop (x.n.toNat+1):=by
      obtain ⟨hk,e⟩:=zy8.1 hp;rw [<- e,zy116,zy33]
     have hsl:(l.way.take x.n.toNat).length=x.n.toNat:=by simp;omega
     have her:l.way.eraseIdx x.n.toNat=l.way.take x.n.toNat++l.way.drop (x.n.toNat+1):=zy71 _ _;rw [show decide (x.n>=((l.way.map zau.row).length:Int))=false from zy15 (by rw [zy3];omega)];(conv=>whnf)
     repeat refine sG ?_
     refine zaa ⟨by omega,by rw [zy3];omega⟩ (zw ?_);refine Snd.zam hp zz0 (zw ?_);rw [zy1 c6] at hT;rw [show (x.kind==4)=true from zy17.2 c6];(conv=>whnf)
     (refine zat [(0,935)]  ?_;(conv=>whnf);refine dO (ysa [p] zz5 (fun q hq=>by rw [zy11] at hq;subst hq;omega)) ?_)
     (refine zaf [false,true] [(1000,6),(1001,20)] [(0,940)] ?_;(conv=>whnf);refine dG (zmb l.sender l.receiver l.way [p] zz5) ?_)
     repeat refine sG ?_
     subst hT;have xde:LI N M {l with way:=zmo l.way [p]}:=yaw h fun q hq=>by rw [zy11] at hq;subst hq;exact hpb
     have hy:=xde;have hyw:=Snd.zct hy.snd.cfg;have hyp:=hy.snd.npaths
     (refine cP ?_;refine dL (Snd.znm (({l with way:=zmo l.way [p]}:zeb)).sender hy.snd.pf zz132 zz0) ?_)
     repeat refine sG ?_
     (refine zaf [] [(1000,6),(1001,940)] [(0,950)] ?_;(conv=>whnf);refine dG (zmb (Snd.zit (({l with way:=zmo l.way [p]}:zeb)).sender).1 (({l with way:=zmo l.way [p]}:zeb)).receiver (({l with way:=zmo l.way [p]}:zeb)).way (Snd.zit (({l with way:=zmo l.way [p]}:zeb)).sender).2 (Snd.zhy hy.snd)) ?_ ⟨rfl,rfl,rfl,⟨zz1,⟨zz1,trivial⟩⟩,⟨⟨rfl,rfl⟩,trivial⟩,rfl,rfl,rfl⟩)
     exact yy39
theorem xkc {N M:Nat} (l:zeb) (x:Step) (h:LI N M l) (hN:N+1<=2 ^ 20) (hM:M+120<=2000000) (hx:x.message.data.length<2 ^ 38) :
 zan Tryz.prog 65 [l.hv,x.hv] zad (.tup [(doS l x).1.hv,(doS l x).2.hv]) zad:=by
 refine zco Tryz.func65 (xfk l x h hN hM hx) ?_;generalize doS l x=d;(conv=>whnf)
 rfl
end Ln
namespace Ln
open Ser
abbrev xjs (l:List Answer):zai:=.live (.row 81 2 (l.map Answer.row))
abbrev yvn (l:List Step):HV:=.p (.sl 7 (l.map Step.row))
abbrev lnL (l:zeb):zai:=.live (.cells 40 l.cells)
abbrev xmz:List HV:=[i64 0,i64 0,i64 0,i64 0,i64 0,i64 0,i64 0,i64 0,zej,i64 0,i64 0,zej,zej,zej,i64 0,i64 0,i64 0,zej,zej,zbj false,i64 0,i64 0,i64 0,i64 0,i64 0,i64 0,i64 0,i64 0,i64 0,zej,zej,zej,zej,zej]
def zly (c:Config) (l:List Step):zeb×List Answer×Int :=
 if Snd.zjj c≠0 then (noL,[],Snd.zjj c) else if l.length>200 then (noL,[],5) else ((zkg (zhm c) l).1,(zkg (zhm c) l).2,0)
theorem yiz (l:zeb) (A:List Step) (x:Step):zkg l (A++[x])=((doS (zkg l A).1 x).1,(zkg l A).2++[(doS (zkg l A).1 x).2]):=by
 rw [yrk];rfl
theorem ykg (c:Config) (l:List Step) (h:Snd.zjj c≠0\/l.length>200) :
 zan Tryz.prog 21 [c.hv,yvn l] zad (.tup [(zly c l).1.hv,.p (.sl 2 ((zly c l).2.1.map Answer.row)),i64 (zly c l).2.2]) zad:=by
 refine zal mixed Tryz.func21 zz4 ?_;generalize hT:zly c l=T;rw [zly] at hT;(conv=>whnf);have pn:=ykb c;by_cases c1:Snd.zjj c=0
 case neg =>
  rw [zy1 c1] at hT;subst hT;rw [show zuy c=(noL,Snd.zjj c) from zy0 c1] at pn
  (refine cP ?_;refine dL pn ?_)
  rw [show (Snd.zjj c != 0)=true from zy85.2 c1];(conv=>whnf)
  try rfl
 case pos =>
  rw [zy0 (fun h=>h c1)] at hT;rw [show zuy c=(zhm c,0) from zy1 c1] at pn
  (refine cP ?_;refine dL pn ?_)
  repeat refine sG ?_
  have c2:l.length>200:=h.resolve_left (fun h=>h c1);rw [zy1 c2] at hT;subst hT;refine zac zz3 (zw ?_)
  try rfl
theorem yur (c:Config) (l:List Step) (c1:Snd.zjj c=0) (c2:¬ l.length>200) (hb:∀ x∈l,x.message.data.length<2 ^ 38) :
 zan Tryz.prog 21 [c.hv,yvn l] zad (.tup [(zly c l).1.hv,.own 0,i64 (zly c l).2.2]) (lk .free [(0,xjs (zly c l).2.1)]):=by
 refine zaq mixed Tryz.func21 zz4 [] (fun _=>.inl rfl) ?_;generalize hT:zly c l=T;rw [zly,zy0 (fun h=>h c1),zy0 c2] at hT;(conv=>whnf);have pn:=ykb c;rw [show zuy c=(zhm c,0) from zy1 c1] at pn
 (refine cP ?_;refine dL pn ?_)
 repeat refine sG ?_
 refine zab zz3 (zw ?_)
 repeat refine sG ?_
 refine ⟨{x:(zeb×List Answer)×List Step×List Step // l=x.2.1++x.2.2/\zkg (zhm c) x.2.1=x.1/\LI x.2.1.length (120*x.2.1.length) x.1.1},fun | ⟨((y,az),A,B),_⟩=>hs 47 [(4,.ptr 4 0),(7,.ptr 7 0),(9,.own 900),(27,yvn l),(28,i64 l.length),(29,i64 A.length)] [(4,.live (.cells 40 xmz)),(7,lnL y),(900,xjs az)],fun x=>x.1.2.2.length,⟨((zhm c,[]),[],l),rfl,rfl,zxg c1⟩,?_,?_⟩
 . exact (zbi [(4,some 4),(7,some 7),(900,none)])
 rintro ⟨⟨⟨y,az⟩,A,B⟩,k1,k2,k3⟩;dsimp only at k1 k2 k3;(conv=>whnf);cases B with
 | cons x B =>
  have hz:=zbd k1;have hxd:=hb x (zgx k1);have hnx:=yiz (zhm c) A x;rw [k2] at hnx;dsimp only at hnx;have hli:=yoo k3 x zz0 zz0;have pd:=xkc y x k3 zz0 zz0 hxd;have hal:az.length=A.length:=by have:=zrb A (zhm c);rw [k2] at this;exact this
  generalize doS y x=D at hnx hli pd;obtain ⟨z,a⟩:=D;dsimp only at hnx hli;refine sT ?_;refine zak k1 rfl (zw ?_)
  (refine cP ?_;refine dL pd ?_)
  refine zaa (c:=((az.map Answer.row).length+1)*16<=140737488355328) zz6 (zw ?_);refine sF ?_;exact ⟨⟨((z,az++[a]),A++[x],B),zag k1,hnx,by rw [zy9,zy55,show 120*(A.length+1)=120*A.length+120 by omega];exact hli⟩,(zay [(4,some 4),(7,some 7),(900,some 43)] zz75),by simp⟩
 | nil =>
  have hz:=zbp k1;rw [zy4] at k1;rw [<- k1] at k2;rw [k2] at hT;subst hT;refine sN ?_;exact zap [(0,some 900)] rfl rfl trivial rfl rfl ⟨⟨rfl,.inl ⟨900,rfl,rfl⟩⟩,trivial⟩
theorem xbj (c:Config) (l:List Step) (hb:∀ x∈l,x.message.data.length<2 ^ 38) :
 zan Tryz.prog 21 [c.hv,yvn l] zad (.tup [(zly c l).1.hv,.p (.sl 2 ((zly c l).2.1.map Answer.row)),i64 (zly c l).2.2]) zad:=by
 by_cases h:Snd.zjj c≠0\/l.length>200
 . exact ykg c l h
 have h:=not_or.1 h;refine zco Tryz.func21 (yur c l (Decidable.not_not.1 h.1) h.2 hb) ?_;generalize zly c l=d;(conv=>whnf)
 rfl
end Ln
namespace Snd
open Ser
def ylj:Config:=⟨1,4,40,1,1,3,0⟩
end Snd
namespace Ln
open Ser Snd
def stp (k:Int):Step:=⟨k,0,⟨0,false,0,0,[]⟩⟩
end Ln
namespace Rcv
open Srt Jn Ser
theorem yhq {n:Nat}:∀ {S:List zav} {i:Nat} {b:List UInt8},zjb n i S=some b->∀ k (hk:k<S.length),S[k].chunk.part=((i+k:Nat):Int)/\S[k].chunk.last=decide (i+k+1=n)
 | p::r,i,b,h,k,hk=>by
  rw [zjb] at h;split at h
  . rename_i c
    obtain ⟨d,hd,-⟩:=zy32.1 h;cases k with
    | zero=>exact ⟨c.1,c.2⟩
    | succ k =>
     have:=yhq hd k (by simpa using hk);rw [zy134,show i+(k+1)=i+1+k by omega];exact this
  . cases h
def msg (s j:Nat) (X:List Chunk):List Chunk:=X.filter fun c=>decide (c.stream=s)&&decide (c.mid=j)
section
variable {C X Y:List Chunk} {M:Nat->List (List UInt8)} {r:Receiver} {T:Nat->Nat}
end
end Rcv
namespace Sch
section
variable {α:Type} {p:α->Bool}
theorem ydi:∀ {l:List α} {k:Nat},0<=zca p k l->∃ i,∃ h:i<l.length,zca p k l=((k+i:Nat):Int)/\p l[i]=true/\∀ j,(hj:j<i)->p (l[j]'(Nat.lt_trans hj h))=false
 | [],k,h=>by simp [zca] at h
 | y::r,k,h=>by
  simp only [zca] at h ⊢;by_cases hp:p y=true
  . exact ⟨0,by simp,by rw [zy1 hp];simp,by simpa using hp,fun j hj=>absurd hj zz0⟩
  . rw [zy0 hp] at h ⊢
    obtain ⟨i,h1,h2,h3,h4⟩:=ydi h;refine ⟨i+1,by simp;omega,by rw [h2];congr 1;omega,by simpa using h3,fun j hj=>?_⟩;cases j with
    | zero=>simpa using hp
    | succ j=>simpa using h4 j zz0
end
def Good (q:List zaj) (r:Int):Prop:=∃ k,∃ h:k<q.length,r=k/\∀ m∈q.take k,m.message.stream≠(q[k]).message.stream
theorem zsg {q:List zaj} {st:Int} (h:0<=first q st):Good q (first q st):=by
 obtain ⟨i,h1,h2,h3,h4⟩:=ydi h;refine ⟨i,h1,by rw [first,h2];simp,fun m hm=>?_⟩;obtain ⟨j,hj,rfl⟩:=zy128 hm;have hji:j<i:=by simp at hj;omega
 have h5:=h4 j hji;rw [List.getElem_take];simp only [zy17,zy5] at h3 h5;rw [h3];exact h5
theorem zsa {q:List zaj} {last n:Int}:∀ {j k:Nat},0<=after q last n k j->Good q (after q last n k j)
 | 0,k,h=>by simp [after] at h
 | j+1,k,h=>by
  simp only [after] at h ⊢;split
  . rename_i h1;exact zsg h1
  . rename_i h1
    rw [zy0 h1] at h;exact zsa h
theorem yjb {q:List zaj}:∀ {j k:Nat},0<=zfm q k j->Good q (zfm q k j)
 | 0,k,h=>by simp [zfm] at h
 | j+1,k,h=>by
  simp only [zfm] at h ⊢;split
  . rename_i h1;exact zsg h1
  . rename_i h1
    rw [zy0 h1] at h;exact yjb h
end Sch
namespace Gh
open Ser Srt Jn
structure Prt where
 id:Nat
 chunk:Chunk
def Cls (a b:Chunk):Prop:=a.stream=b.stream/\a.ordered=b.ordered
theorem Cls.symm {a b:Chunk} (h:Cls a b):Cls b a:=⟨h.1.symm,h.2.symm⟩
theorem Cls.trans {a b c:Chunk} (h:Cls a b) (k:Cls b c):Cls a c:=⟨h.1.trans k.1,h.2.trans k.2⟩
structure ztt (P:Int) (m:Message) (x:Chunk):Prop where
 part0:0<=x.part
 inn:x.part*P<m.data.length
 data:x.data=(m.data.drop (x.part*P).toNat).take P.toNat
 last:x.last=decide ((m.data.length:Int)<=x.part*P+P)
structure HI (c:Config) (L:List Message) (H:List Prt):Prop where
 tag:∀ (i:Nat) x,H[i]?=some x->x.chunk.kind=1/\x.chunk.tag=tag (c.first+i)/\x.chunk.zar=[]/\x.chunk.room=0/\x.chunk.zbm=[]
 msg:∀ x∈H,∃ m,L[x.id]?=some m/\x.chunk.stream=m.stream/\x.chunk.ordered=m.ordered/\(x.chunk.data≠[]->ztt c.part m x.chunk)
 mid:∀ x∈H,0<=x.chunk.mid/\x.chunk.mid<H.length
 key:∀ x∈H,∀ y∈H,Cls x.chunk y.chunk->(x.id<y.id↔x.chunk.mid<y.chunk.mid)
 order:∀ (i j:Nat) x y,i<j->H[i]?=some x->H[j]?=some y->Cls x.chunk y.chunk->x.id<=y.id
 part:∀ (i j:Nat) x y,i<j->H[i]?=some x->H[j]?=some y->x.id=y.id->x.chunk.part<y.chunk.part
section
variable {c:Config} {L:List Message} {H:List Prt}
theorem HI.cls (h:HI c L H) {x y:Prt} (hx:x∈H) (hy:y∈H) (e:x.id=y.id):Cls x.chunk y.chunk:=by
 obtain ⟨m,h1,h2,h3,-⟩:=h.msg x hx;obtain ⟨n,k1,k2,k3,-⟩:=h.msg y hy;rw [e,k1] at h1;cases h1;exact ⟨h2.trans k2.symm,h3.trans k3.symm⟩
theorem HI.same (h:HI c L H) {x y:Prt} (hx:x∈H) (hy:y∈H) (e:Cls x.chunk y.chunk):x.id=y.id↔x.chunk.mid=y.chunk.mid:=by
 have h1:=h.key x hx y hy e;have h2:=h.key y hy x hx e.symm;omega
theorem HI.at (h:HI c L H) {i j:Nat} {x y:Prt} (hx:H[i]?=some x) (hy:H[j]?=some y) (e:x.id=y.id) (e2:x.chunk.part=y.chunk.part):i=j:=by
 rcases Nat.lt_trichotomy i j with hl | hl | hl
 . have:=h.part i j x y hl hx hy e;omega
 . exact hl
 . have:=h.part j i y x hl hy hx e.symm;omega
end
theorem yhr {P:Int} {m:Message} (hP:1<=P) {n:Nat}:∀ {S:List zav} {i:Nat} {b:List UInt8},zjb n i S=some b->(∀ p∈S,ztt P m p.chunk)->S≠[]->n=i+S.length->b=m.data.drop (i*P).toNat
 | [],_,_,_,_,h,_=>absurd rfl h
 | p::r,i,b,h,hp,_,hn=>by
  rw [zjb] at h;split at h
  . rename_i c
    obtain ⟨d,hd,rfl⟩:=zy32.1 h;have hq:=hp p zz5;have h0:0<=(i:Int)*P:=zy139 zz0 zz0;have e1:((i+1:Nat):Int)*P=i*P+P:=by push_cast;rw [Int.add_mul,Int.one_mul]
    have e2:(((i+1:Nat):Int)*P).toNat=(i*P).toNat+P.toNat:=by rw [e1];omega
    rw [hq.data,c.1];cases r with
    | nil =>
     rw [zjb] at hd;cases hd;have hl:=hq.last;rw [c.2,c.1] at hl;rw [zy12 (by simp at hn;omega)] at hl;have hl:=zy29 hl.symm;rw [zy4,zy31 (by rw [zy42];omega)]
    | cons q r =>
     have ih:=yhr hP hd (fun x hx=>hp x zz52) zz5 (by simp at hn ⊢;omega);rw [ih,e2,<- zy123,zy33]
  . cases h
theorem xdq {P:Int} {m:Message} (hP:1<=P) {l:List zav} {b:List UInt8} (h:join l=some b) (hp:∀ p∈l,ztt P m p.chunk):b=m.data:=by
 unfold join at h;split at h
 . cases h
 . rename_i hl
   have hs:=zhb (key:=ck) l;have:=yhr hP h (fun p hp'=>hp p (zko.mem_iff.1 hp')) (by intro e;rw [e] at hs;exact hl (List.length_eq_zero_iff.1 hs.symm)) zz0
   simpa using this
theorem zsm {l:List zav} {b:List UInt8} (h:join l=some b):∀ i:Nat,i<l.length->∃ p∈l,p.chunk.part=(i:Int)/\p.chunk.last=decide (i+1=l.length):=by
 intro i hi;unfold join at h;split at h
 . cases h
 . have hs:=zhb (key:=ck) l
   obtain ⟨g1,g2⟩:=Rcv.yhq h i zz0;rw [zy76] at g1 g2;exact ⟨_,zko.mem_iff.1 (zy57 zz0),g1,g2⟩
theorem yid:∀ (k:Nat) (l:List Nat),l.Nodup->(∀ x∈l,x<k)->l.length<=k
 | 0,l,_,h=>by
  cases l with
  | nil=>simp
  | cons x r=>exact absurd (h x zz5) zz0
 | k+1,l,hn,h=>by
  have ih:=yid k (l.erase k) (hn.erase k) (fun x hx=>by
   have h1:=h x (List.mem_of_mem_erase hx);have h2:x≠k:=fun e=>by subst e;exact (hn.not_mem_erase) hx
   omega)
  rw [List.length_erase] at ih;split at ih<;>omega
theorem yqi {n:Nat}:∀ {S:List zav} {i:Nat},(∀ k (hk:k<S.length),S[k].chunk.part=((i+k:Nat):Int)/\S[k].chunk.last=decide (i+k+1=n))->∃ b,zjb n i S=some b
 | [],i,_=>⟨[],rfl⟩
 | p::r,i,h=>by
  have h0:=h 0 zz5;obtain ⟨b,hb⟩:=yqi (S:=r) (i:=i+1) fun k hk=>by
   have:=h (k+1) (by simpa using hk);rw [zy134] at this;rw [show i+1+k=i+(k+1) by omega];exact this
  refine ⟨p.chunk.data++b,?_⟩;rw [zjb,zy1 ⟨by simpa using h0.1,by simpa using h0.2⟩,hb];rfl
theorem ytp {P:Int} {m:Message} (hP:1<=P) {l:List zav} (h:∀ p∈l,ztt P m p.chunk) (hd:l.Pairwise fun p q=>p.chunk.part≠q.chunk.part) (hm:m.data≠[])
 (hw:∀ j:Nat,(j:Int)*P<m.data.length->∃ p∈l,p.chunk.part=j):∃ b,join l=some b:=by
 have hmul:∀ {a b:Int},a<=b->a*P<=b*P:=fun hab=>zy111 hab zz0
 have h0:(0:Int)<m.data.length:=by have:=zy38.2 hm;omega
 have hnd:(l.map fun p=>p.chunk.part.toNat).Nodup:=by
  refine List.Pairwise.map _ (fun a b=>?_) (List.Pairwise.imp_of_mem (fun {a b} ha hb hab=>(⟨ha,hb,hab⟩:a∈l/\b∈l/\a.chunk.part≠b.chunk.part)) hd);rintro ⟨ha,hb,hab⟩ e;have:=(h a ha).part0;have:=(h b hb).part0;omega
 have hsl:=zhb (key:=ck) l;have hsm:∀ p,p∈srt ck l↔p∈l:=fun p=>zko.mem_iff
 have hall:∀ i,i<l.length->∃ p∈l,p.chunk.part=(i:Int):=by
  intro i hi;by_cases c:(i:Int)*P<m.data.length
  . exact hw i c
  . exfalso
    have:=yid i _ hnd fun x hx=>by
     obtain ⟨p,hp,rfl⟩:=zy27.1 hx;have h1:=(h p hp).inn;have h2:=(h p hp).part0;apply Classical.byContradiction;intro hc;have:=hmul (show (i:Int)<=p.chunk.part by omega);omega
    rw [zy3] at this;omega
 have hturn:=zvz (zrp (key:=ck) (l:=l)) fun i hi=>by
  obtain ⟨p,hp,e⟩:=hall i zz0;exact ⟨p,(hsm p).2 hp,e⟩
 have hbnd:(l.length:Int)*P>=m.data.length:=by
  apply Classical.byContradiction;intro hc;obtain ⟨p,hp,e⟩:=hw l.length zz0;obtain ⟨k,hk,e2⟩:=zy128 ((hsm p).2 hp);have:=hturn k hk;rw [e2] at this;omega
 have hlne:l≠[]:=by
  rintro rfl;have:(([]:List zav).length:Int)*P=0:=by simp
  omega
 obtain ⟨b,hb⟩:=yqi (n:=l.length) (S:=srt ck l) (i:=0) fun k hk=>by
  have hp:=hturn k hk;refine ⟨by rw [hp];simp,?_⟩;have hq:=h _ ((hsm _).1 (zy57 hk));rw [hq.last,hp,zy161];have e1:((k+1:Nat):Int)*P=k*P+P:=by push_cast;rw [Int.add_mul,Int.one_mul]
  constructor
  . intro hle
    apply Classical.byContradiction;intro hc;obtain ⟨p,hp2,e⟩:=hall (k+1) zz0;have:=(h p hp2).inn;rw [e] at this;omega
  . intro e
    have:(l.length:Int)*P=k*P+P:=by rw [<- e1];congr 1;omega
    omega
 exact ⟨b,by rw [join,zy0 hlne];exact hb⟩
theorem ytv {turns:Int} {s:zho} {q:List zaj} (h:0<=Sch.next turns s q):∃ k,∃ hk:k<q.length,Sch.next turns s q=k/\((q[k]).id=s.hand\/∀ m∈q.take k,m.message.stream≠(q[k]).message.stream):=by
 have good:∀ {r:Int},Sch.Good q r->∃ k,∃ hk:k<q.length,r=k/\((q[k]).id=s.hand\/∀ m∈q.take k,m.message.stream≠(q[k]).message.stream):=by
  rintro r ⟨k,hk,e,hg⟩;exact ⟨k,hk,e,.inr hg⟩
 unfold Sch.next at h ⊢;by_cases c1:(q.length:Int)=0
 . rw [zy1 c1] at h;omega
 rw [zy0 c1] at h ⊢;by_cases c2:(s.had.length:Int)=0
 . rw [zy1 c2] at h;omega
 rw [zy0 c2] at h ⊢;by_cases c3:turns=2
 . rw [zy1 c3] at h ⊢
   by_cases c4:Sch.zne s q>=0
   . rw [zy1 c4]
     obtain ⟨i,h1,h2,h3,-⟩:=Sch.ydi (p:=fun m:zaj=>m.id==s.hand) (l:=q) (k:=0) c4;exact ⟨i,h1,by rw [Sch.zne,h2,zy76],.inl (by simpa using h3)⟩
   . rw [zy0 c4] at h ⊢
     exact good (Sch.zsa h)
 rw [zy0 c3] at h ⊢;by_cases c4:turns=3
 . rw [zy1 c4] at h ⊢;exact good (Sch.zsa h)
 rw [zy0 c4] at h ⊢;by_cases c5:turns=4
 . rw [zy1 c5] at h ⊢;exact good (Sch.yjb h)
 rw [zy0 c5] at h ⊢;by_cases c6:turns=5
 . rw [zy1 c6] at h ⊢
   unfold Sch.least at h ⊢;split at h
   . omega
   . rename_i c7;rw [zy0 c7];exact good (Sch.zsg h)
 rw [zy0 c6];exact ⟨0,by omega,rfl,.inr zz5⟩
end Gh
namespace Gh
open Ser Snd
def Of (m:zaj) (x:Chunk):Prop:=x.stream=m.message.stream/\x.ordered=m.message.ordered
def Whole (c:Config) (L:List Message) (H:List Prt) (id:Nat):Prop:=∀ m,L[id]?=some m->∀ j:Nat,(j:Int)*c.part<m.data.length->∃ y∈H,y.id=id/\y.chunk.part=j/\y.chunk.data≠[]
def xcg (s:zae) (x:Chunk):Int:=s.mids[(x.stream+if x.ordered then 0 else s.config.streams).toNat]?.getD 0
structure Bgn (H:List Prt) (m:zaj):Prop where
 some:0<m.parts
 one:∃ y∈H,(y.id:Int)=m.id/\y.chunk.mid=m.mid/\Of m y.chunk
 top:∀ y∈H,Of m y.chunk->(y.id:Int)<=m.id
 part:∀ y∈H,(y.id:Int)=m.id->y.chunk.part<m.parts
 all:∀ j:Nat,(j:Int)<m.parts->∃ y∈H,(y.id:Int)=m.id/\y.chunk.part=j/\y.chunk.data≠[]
structure GS (c:Config) (L:List Message) (H:List Prt) (A:Nat->Prop) (s:zae):Prop where
 cfg:s.config=c
 hi:HI c L H
 len:c.first+H.length=s.next
 out:∀ (k:Nat) x,s.out[k]?=some x->∃ y,H[(s.cum+1-c.first).toNat+k]?=some y/\x.id=(y.id:Int)/\x.chunk=y.chunk
 stop:∀ x∈s.out,x.chunk.data=[]->x.state=4\/x.state=0
 gone:∀ x∈s.out,x.state=4->s.fates[x.id.toNat]?=some 3
 zga:∀ (k:Nat) x,s.out[k]?=some x->x.state=2->A ((s.cum+1-c.first).toNat+k)
 done:∀ (i:Nat) y,H[i]?=some y->c.first+i<=s.cum->A i\/s.fates[y.id]?=some 3
 ids:∀ m∈s.queue,0<=m.id
 zfr:s.queue.Pairwise fun a b=>a.id<b.id
 hand:∀ m∈s.queue,m.id=s.sched.hand->0<=m.mid
 handn:s.sched.hand<L.length
 fresh:∀ m∈s.queue,m.mid<0->m.parts=0/\∀ y∈H,Of m y.chunk->(y.id:Int)<m.id
 begun:∀ m∈s.queue,0<=m.mid->Bgn H m
 mids:∀ y∈H,y.chunk.mid<xcg s y.chunk
 midn:∀ n∈s.mids,0<=n/\n<=H.length
 whole:∀ id,id<L.length->s.fates[id]?≠some 3->(∃ m∈s.queue,m.id=(id:Int))\/Whole c L H id
 told:∀ id,s.fates[id]?=some 2->∀ (i:Nat) y,H[i]?=some y->y.id=id->A i
section
variable {c:Config} {L:List Message} {H:List Prt} {A:Nat->Prop} {s:zae}
theorem GS.congr {t:zae} (h:GS c L H A s) (e1:t.config=s.config) (e2:t.out=s.out) (e3:t.next=s.next) (e4:t.cum=s.cum) (e5:t.fates=s.fates) (e6:t.queue=s.queue) (e7:t.sched.hand=s.sched.hand) (e8:t.mids=s.mids):GS c L H A t:=by
 obtain ⟨cfg,clock,q,⟨la,ha,hd⟩,o,ps,cu,nx,ro,mi,fa,fo,re⟩:=t;dsimp only at e1 e2 e3 e4 e5 e6 e7 e8;subst e1 e2 e3 e4 e5 e6 e7 e8;exact ⟨h.cfg,h.hi,h.len,h.out,h.stop,h.gone,h.zga,h.done,h.ids,h.zfr,h.hand,h.handn,h.fresh,h.begun,h.mids,h.midn,h.whole,h.told⟩
theorem GS.more {B:Nat->Prop} (h:GS c L H A s) (hB:∀ i,A i->B i):GS c L H B s :=
 ⟨h.cfg,h.hi,h.len,h.out,h.stop,h.gone,fun k x h1 h2=>hB _ (h.zga k x h1 h2),fun i y h1 h2=>(h.done i y h1 h2).imp (hB i) id,h.ids,h.zfr,h.hand,h.handn,h.fresh,h.begun,h.mids,h.midn,h.whole,fun id h1 i y h2 h3=>hB i (h.told id h1 i y h2 h3)⟩
theorem zfw {α:Type} {l:List α} {y x:α} {i:Nat} (h:(l++[y])[i]?=some x):l[i]?=some x\/(i=l.length/\x=y):=by
 rcases zy67 i l.length with hi | hi
 . rw [zy30 hi] at h;exact .inl h
 . rw [zy37 hi] at h
   rcases zy118 (i-l.length) with h0 | h0
   . rw [h0] at h;cases h;exact .inr ⟨by omega,rfl⟩
   . rw [zy51 (by simp;omega)] at h;cases h
theorem zkr {α:Type} {l E:List α} {x:α} {i:Nat} (h:l[i]?=some x):(l++E)[i]?=some x:=by
 rw [zy30 (zy8.1 h).1];exact h
theorem ywe {α:Type} (l:List α) (y:α):(l++[y])[l.length]?=some y:=by simp
theorem zfb {α:Type} {l:List α} {x:α} {i:Nat} (h:l[i]?=some x):i<l.length:=(zy8.1 h).1
theorem HI.push (h:HI c L H) {y:Prt} (t:y.chunk.kind=1/\y.chunk.tag=Ser.tag (c.first+H.length)/\y.chunk.zar=[]/\y.chunk.room=0/\y.chunk.zbm=[])
 (m:∃ m,L[y.id]?=some m/\y.chunk.stream=m.stream/\y.chunk.ordered=m.ordered/\(y.chunk.data≠[]->ztt c.part m y.chunk)) (n:0<=y.chunk.mid/\y.chunk.mid<=H.length)
 (k:∀ x∈H,Cls x.chunk y.chunk->x.id<=y.id/\(x.id<y.id↔x.chunk.mid<y.chunk.mid)/\x.chunk.mid<=y.chunk.mid) (p:∀ x∈H,x.id=y.id->x.chunk.part<y.chunk.part):HI c L (H++[y]):=by
 refine ⟨fun i x hx=>?_,fun x hx=>?_,fun x hx=>?_,fun x hx z hz hc=>?_,fun i j x z hij hx hz hc=>?_,fun i j x z hij hx hz he=>?_⟩
 . rcases zfw hx with hx' | ⟨e1,e2⟩
   . exact h.tag i x hx'
   . rw [e1,e2];exact t
 . rcases zy13.1 hx with hx' | hx'
   . exact h.msg x hx'
   . rw [zy11.1 hx'];exact m
 . rw [zy9,zy55]
   rcases zy13.1 hx with hx' | hx'
   . have:=h.mid x hx';push_cast;omega
   . rw [zy11.1 hx'];push_cast;omega
 . rcases zy13.1 hx with hx' | hx'
   . rcases zy13.1 hz with hz' | hz'
     . exact h.key x hx' z hz' hc
     . rw [zy11.1 hz'] at hc ⊢;exact (k x hx' hc).2.1
   . rw [zy11.1 hx'] at hc ⊢
     rcases zy13.1 hz with hz' | hz'
     . have:=k z hz' hc.symm;omega
     . rw [zy11.1 hz'];omega
 . rcases zfw hz with hz' | ⟨e1,e2⟩
   . rcases zfw hx with hx' | ⟨e3,e4⟩
     . exact h.order i j x z hij hx' hz' hc
     . have:=zfb hz';omega
   . rcases zfw hx with hx' | ⟨e3,e4⟩
     . rw [e2] at hc ⊢;exact (k x (zy7 hx') hc).1
     . omega
 . rcases zfw hz with hz' | ⟨e1,e2⟩
   . rcases zfw hx with hx' | ⟨e3,e4⟩
     . exact h.part i j x z hij hx' hz' he
     . have:=zfb hz';omega
   . rcases zfw hx with hx' | ⟨e3,e4⟩
     . rw [e2] at he ⊢;exact p x (zy7 hx') he
     . omega
theorem Whole.more {E:List Prt} {id:Nat} (h:Whole c L H id):Whole c L (H++E) id:=fun m hm j hj=>by
 obtain ⟨y,h1,h2⟩:=h m hm j hj;exact ⟨y,zy69 _ h1,h2⟩
theorem GS.num (h:GS c L H A s) {N:Nat} (hs:SI N s):(s.cum+1-c.first).toNat+s.out.length=H.length:=by
 have h1:=h.len;have h2:=hs.next;have h3:=hs.cum;rw [h.cfg] at h3;omega
theorem GS.few (h:GS c L H A s) {N:Nat} (hs:SI N s):H.length<=61*N:=by
 have h1:=h.len;have h3:=hs.owes;have h4:=ydt (by have:=zct hs.cfg;omega) hs.queue;have h5:=hs.many;rw [h.cfg] at h3;omega
theorem ygg (id:Int):∀ (q:List zaj) (s:zae),(∀ m∈q,¬ (m.id=id/\m.parts>0))->q.foldl (zes id) s=s
 | [],_,_=>rfl
 | m::q,s,h=>by
  rw [zy49,show zes id s m=s from zy0 (h m (by simp))];exact ygg id q s fun x hx=>h x zz52
theorem you (id:Int):∀ (q:List zaj) (s:zae),q.Pairwise (fun a b=>a.id<b.id)->q.foldl (zes id) s=s\/∃ m∈q,m.id=id/\m.parts>0/\q.foldl (zes id) s={s with out:=s.out++[zie s.next m],next:=W (s.next+1)}
 | [],_,_=>.inl rfl
 | m::q,s,h=>by
  obtain ⟨h1,h2⟩:=zy110.1 h;rw [zy49];by_cases c:m.id=id/\m.parts>0
  . right
    refine ⟨m,by simp,c.1,c.2,?_⟩;rw [show zes id s m={s with out:=s.out++[zie s.next m],next:=W (s.next+1)} from zy1 c];exact ygg id q _ fun x hx hh=>by have:=h1 x hx;omega
  . rw [show zes id s m=s from zy0 c]
    rcases you id q s h2 with h3 | ⟨x,hx,h3⟩
    . exact .inl h3
    . exact .inr ⟨x,by simp [hx],h3⟩
theorem GS.fate (h:GS c L H A s) (id:Nat):GS c L H A {s with fates:=s.fates.set id 3}:=by
 have hg:∀ k:Nat,s.fates[k]?=some 3->(s.fates.set id 3)[k]?=some 3:=fun k hk=>by
  by_cases e:id=k
  . subst e;rw [zy23 (zfb hk)]
  . rw [zy50 e];exact hk
 refine ⟨h.cfg,h.hi,h.len,h.out,h.stop,fun x hx h4=>hg _ (h.gone x hx h4),h.zga,fun i y h1 h2=>(h.done i y h1 h2).imp (fun z=>z) (hg _),h.ids,h.zfr,h.hand,h.handn,h.fresh,h.begun,h.mids,h.midn,fun k hk h3=>?_,fun k h2=>?_⟩
 . exact h.whole k hk fun h5=>h3 (hg k h5)
 . have h2:(s.fates.set id 3)[k]?=some 2:=h2
   by_cases e:id=k
   . subst e
     rcases zy67 id s.fates.length with hl | hl
     . rw [zy23 hl] at h2;cases h2
     . rw [zy51 (by rw [zy25];exact hl)] at h2;cases h2
   . rw [zy50 e] at h2;exact h.told k h2
theorem GS.leave (h:GS c L H A s) {id:Nat} (hf:s.fates[id]?=some 3) {w:Int} (hw:w=s.sched.hand\/w=-1):GS c L H A {s with queue:=s.queue.filter (fun m=>decide (m.id≠(id:Int))),sched:={s.sched with hand:=w}}:=by
 have hm:∀ m∈s.queue.filter (fun m=>decide (m.id≠(id:Int))),m∈s.queue:=fun m hm=>(zy56.1 hm).1
 refine ⟨h.cfg,h.hi,h.len,h.out,h.stop,h.gone,h.zga,h.done,fun m h1=>h.ids m (hm m h1),h.zfr.filter _,fun m h1 h2=>?_,?_,fun m h1=>h.fresh m (hm m h1),fun m h1=>h.begun m (hm m h1),h.mids,h.midn,fun k hk h3=>?_,h.told⟩
 . have h2:m.id=w:=h2
   rcases hw with hw | hw
   . exact h.hand m (hm m h1) (by rw [h2,hw])
   . have:=h.ids m (hm m h1);omega
 . have:=h.handn
   show w<_;rcases hw with hw | hw<;>omega
 . rcases h.whole k hk h3 with ⟨m,h4,h5⟩ | h4
   . by_cases e:k=id
     . subst e;exact absurd hf h3
     . exact .inl ⟨m,zy56.2 ⟨h4,zy12 zz0⟩,h5⟩
   . exact .inr h4
theorem GS.endp (h:GS c L H A s) {N:Nat} (hs:(s.cum+1-c.first).toNat+s.out.length=H.length) (hc:c.first-1<=s.cum) (hfew:H.length<2 ^ 30) {m:zaj} (hb:Bgn H m) (h0:0<=m.id) (hq:∀ q∈s.queue,q.id≠m.id) (hf:s.fates[m.id.toNat]?=some 3) (hmid:m.mid<=H.length/\0<=m.mid) (hN:H.length<=N) (hN2:N<65536) :
 GS c L (H++[⟨m.id.toNat,(zie s.next m).chunk⟩]) A {s with out:=s.out++[zie s.next m],next:=s.next+1}:=by
 obtain ⟨y0,y1,y2,y3,y4⟩:=hb.one;have hcl:∀ x:Prt,Cls x.chunk (zie s.next m).chunk->Of m x.chunk:=fun x hx=>⟨hx.1,hx.2⟩
 have htag:tag m.mid=m.mid:=by unfold tag;omega
 have hyid:y0.id=m.id.toNat:=by omega
 have hln:=h.len;have yyb:HI c L (H++[⟨m.id.toNat,(zie s.next m).chunk⟩]):=by
  refine h.hi.push ⟨rfl,?_,rfl,rfl,rfl⟩ ?_ ?_ ?_ ?_
  . show tag s.next=_;rw [<- hln]
  . obtain ⟨w,w1,w2,w3,-⟩:=h.hi.msg y0 y1
    exact ⟨w,by show L[m.id.toNat]?=_;rw [<- hyid];exact w1,by show m.message.stream=_;rw [<- y4.1];exact w2,by show m.message.ordered=_;rw [<- y4.2];exact w3,fun hd=>absurd rfl hd⟩
  . show 0<=tag m.mid/\tag m.mid<=_;rw [htag];omega
  . intro x hx hxc
    have h1:=hb.top x hx (hcl x hxc);have h2:Cls x.chunk y0.chunk:=⟨(hcl x hxc).1.trans y4.1.symm,(hcl x hxc).2.trans y4.2.symm⟩
    have h3:=h.hi.key x hx y0 y1 h2;have h4:=h.hi.key y0 y1 x hx h2.symm;show x.id<=m.id.toNat/\(x.id<m.id.toNat↔x.chunk.mid<tag m.mid)/\x.chunk.mid<=tag m.mid;rw [htag,<- y3,<- hyid];omega
  . intro x hx he
    show x.chunk.part<m.parts;exact hb.part x hx (by have he:x.id=m.id.toNat:=he;omega)
 have hmem:∀ x∈H,x∈H++[(⟨m.id.toNat,(zie s.next m).chunk⟩:Prt)]:=fun x hx=>zy69 _ hx
 refine ⟨h.cfg,yyb,?_,fun k x hx=>?_,fun x hx hd=>?_,fun x hx h4=>?_,fun k x hx h2=>?_,fun i y hy hle=>?_,h.ids,h.zfr,h.hand,h.handn,fun q hq' hmn=>?_,fun q hq' hmn=>?_,fun y hy=>?_,fun n hn=>?_,fun k hk h3=>?_,fun k h2 i y hy he=>?_⟩
 . show c.first+((H++[_]).length:Int)=s.next+1
   rw [zy9,zy55];push_cast;omega
 . have hx:(s.out++[zie s.next m])[k]?=some x:=hx
   rcases zfw hx with hx | ⟨rfl,rfl⟩
   . obtain ⟨y,h1,h2⟩:=h.out k x hx
     exact ⟨y,zkr h1,h2⟩
   . exact ⟨⟨m.id.toNat,(zie s.next m).chunk⟩,by show (H++[_])[(s.cum+1-c.first).toNat+s.out.length]?=_;rw [hs];exact ywe _ _,by show m.id=(m.id.toNat:Int);omega,rfl⟩
 . rcases zy13.1 hx with hx | hx
   . exact h.stop x hx hd
   . rw [zy11] at hx;subst hx;exact .inr rfl
 . rcases zy13.1 hx with hx | hx
   . exact h.gone x hx h4
   . rw [zy11] at hx;subst hx;cases h4
 . have hx:(s.out++[zie s.next m])[k]?=some x:=hx
   rcases zfw hx with hx | ⟨rfl,rfl⟩
   . exact h.zga k x hx h2
   . cases h2
 . rcases zfw hy with hy | ⟨rfl,rfl⟩
   . exact h.done i y hy hle
   . have hle:c.first+(H.length:Int)<=s.cum:=hle
     omega
 . obtain ⟨f1,f2⟩:=h.fresh q hq' hmn
   refine ⟨f1,fun y hy hof=>?_⟩;rcases zy13.1 hy with hy | hy
   . exact f2 y hy hof
   . rw [zy11] at hy;subst hy
     have:=f2 y0 y1 ⟨y4.1.trans hof.1,y4.2.trans hof.2⟩;show (m.id.toNat:Int)<q.id;omega
 . have b:=h.begun q hq' hmn
   obtain ⟨z0,z1,z2⟩:=b.one;refine ⟨b.some,⟨z0,hmem z0 z1,z2⟩,fun y hy hof=>?_,fun y hy he=>?_,fun j hj=>?_⟩
   . rcases zy13.1 hy with hy | hy
     . exact b.top y hy hof
     . rw [zy11] at hy;subst hy
       have:=b.top y0 y1 ⟨y4.1.trans hof.1,y4.2.trans hof.2⟩;show (m.id.toNat:Int)<=q.id;omega
   . rcases zy13.1 hy with hy | hy
     . exact b.part y hy he
     . rw [zy11] at hy;subst hy
       have he:(m.id.toNat:Int)=q.id:=he;exact absurd zz0 (hq q hq')
   . obtain ⟨w,w1,w2⟩:=b.all j hj
     exact ⟨w,hmem w w1,w2⟩
 . rcases zy13.1 hy with hy | hy
   . exact h.mids y hy
   . rw [zy11] at hy;subst hy
     have:=h.mids y0 y1;show tag m.mid<xcg s (zie s.next m).chunk;rw [htag,<- y3];have e:xcg s (zie s.next m).chunk=xcg s y0.chunk:=by
      unfold xcg;rw [y4.1,y4.2];rfl
     rw [e];exact this
 . have:=h.midn n hn
   rw [zy9,zy55];push_cast;omega
 . rcases h.whole k hk h3 with h4 | h4
   . exact .inl h4
   . exact .inr h4.more
 . rcases zfw hy with hy | ⟨rfl,rfl⟩
   . exact h.told k h2 i y hy he
   . have he:m.id.toNat=k:=he
     subst he;have h2:s.fates[m.id.toNat]?=some 2:=h2;rw [hf] at h2;cases h2
theorem GS.mapOut (h:GS c L H A s) {g:zbq->zbq} (hg:∀ x,(g x).id=x.id/\(g x).chunk=x.chunk) (h1:∀ x∈s.out,x.chunk.data=[]->x.state=4\/x.state=0->(g x).state=4\/(g x).state=0) (h2:∀ x∈s.out,(g x).state=4->x.state=4\/s.fates[x.id.toNat]?=some 3) (h3:∀ x∈s.out,(g x).state=2->x.state=2) :
 GS c L H A {s with out:=s.out.map g}:=by
 refine ⟨h.cfg,h.hi,h.len,fun k x hx=>?_,fun x hx hd=>?_,fun x hx h4=>?_,fun k x hx hst=>?_,h.done,h.ids,h.zfr,h.hand,h.handn,h.fresh,h.begun,h.mids,h.midn,h.whole,h.told⟩
 . have hx:(s.out.map g)[k]?=some x:=hx
   rw [zy19] at hx;cases hy:s.out[k]? with
   | none=>rw [hy] at hx;cases hx
   | some y =>
    rw [hy] at hx;cases hx;obtain ⟨w,w1,w2,w3⟩:=h.out k y hy;exact ⟨w,w1,(hg y).1.trans w2,(hg y).2.trans w3⟩
 . obtain ⟨y,hy,rfl⟩:=zy27.1 hx
   rw [(hg y).2] at hd;exact h1 y hy hd (h.stop y hy hd)
 . obtain ⟨y,hy,rfl⟩:=zy27.1 hx
   rw [(hg y).1];rcases h2 y hy h4 with h5 | h5
   . exact h.gone y hy h5
   . exact h5
 . have hx:(s.out.map g)[k]?=some x:=hx
   rw [zy19] at hx;cases hy:s.out[k]? with
   | none=>rw [hy] at hx;cases hx
   | some y =>
    rw [hy] at hx;cases hx;exact h.zga k y hy (h3 y (zy7 hy) hst)
theorem yxo {N:Nat} (h:GS c L H A s) (hs:SI N s) (hN:N<=500) {id:Nat} (hid:s.fates[id]?=some 1):∃ E,GS c L (H++E) A (zeu s id):=by
 have hf:(s.fates.set id 3)[id]?=some 3:=by rw [zy23 (zfb hid)]
 have hcap:=h.few hs;have hlen:=h.num hs;have hcu:=hs.cum;rw [h.cfg] at hcu;have g1:=h.fate id;have g2:=g1.leave (id:=id) hf (w:=if s.sched.hand=(id:Int) then -1 else s.sched.hand) (by show _=s.sched.hand\/_;split;exact .inr rfl;exact .inl rfl);have key:∃ E,GS c L (H++E) A {{s with fates:=s.fates.set id 3,queue:=s.queue.filter (fun m=>decide (m.id≠(id:Int))),sched:={s.sched with hand:=if s.sched.hand=(id:Int) then -1 else s.sched.hand}} with out:=(s.queue.foldl (zes id) {s with fates:=s.fates.set id 3}).out,next:=(s.queue.foldl (zes id) {s with fates:=s.fates.set id 3}).next}:=by
  rcases you id s.queue {s with fates:=s.fates.set id 3} h.zfr with e | ⟨m,hm,m1,m2,e⟩
  . rw [e];exact ⟨[],by rw [zy4];exact g2⟩
  . have hb:=h.begun m hm (by
     rcases zy146 m.mid 0 with hlt | hge
     . have:=(h.fresh m hm hlt).1;omega
     . exact hge)
    obtain ⟨y0,y1,y2,y3,y4⟩:=hb.one;have ym:=h.hi.mid y0 y1;have hnl:=hs.nextle;have hn0:=hs.next;have hc0:=(zct hs.cfg)
    rw [h.cfg] at hc0;have hW:W (s.next+1)=s.next+1:=zbs zz0 zz0;have g3:=g2.endp (N:=30500) (m:=m) hlen hcu zz0 hb zz0 (fun q hq=>by have:=zy29 (zy56.1 hq).2;omega) (by rw [m1];exact hf) zz0 zz0 zz0;rw [e];refine ⟨_,g3.congr rfl rfl ?_ rfl rfl rfl rfl rfl⟩;exact hW
 obtain ⟨E,g4⟩:=key;have g5:=g4.mapOut (g:=Sco.zgk id) (fun x=>by unfold Sco.zgk;split<;>exact ⟨rfl,rfl⟩) (fun x _ _ hx=>by unfold Sco.zgk;split;exact .inl rfl;exact hx) (fun x _ hx=>by
  unfold Sco.zgk at hx;split at hx
  . rename_i c;right;show (s.fates.set id 3)[x.id.toNat]?=_;rw [c.1];exact hf
  . exact .inl hx) (fun x _ hx=>by
  unfold Sco.zgk at hx;split at hx
  . cases hx
  . exact hx)
 obtain ⟨r,-,-,-⟩:=zjm s id;exact ⟨E,g5.congr r.config rfl rfl r.cum (zgg s id) rfl (by show (if s.sched.hand=(id:Int) then {s.sched with hand:=-1} else s.sched:zho).hand=if s.sched.hand=(id:Int) then -1 else s.sched.hand;split<;>rfl) r.mids⟩
end
end Gh
namespace Pck
open Chk
theorem zul:∀ {l:List Chunk} {f:Nat},(zbv l).length<=f->zcr l=0->zfc f (zbv l)=(l.map clean,0)
 | [],f,_,_=>by cases f<;>rfl
 | c::r,f,h,hw=>by
  simp only [zcr] at hw;have hc:zdi c=0:=by
   rcases Int.decEq (zdi c) 0 with h | h
   . rw [zy1 h] at hw;exact hw
   . exact h
  rw [zy0 (fun h=>h hc)] at hw;have hb:zbv (c::r)=Chk.bytes c++zbv r:=rfl;have hlen:2<=(Chk.bytes c).length:=by rw [Chk.bytes,zy1 hc];simp
  rw [hb,zy9] at h;obtain ⟨g,rfl⟩:∃ g,f=g+1:=⟨f-1,by omega⟩
  rw [hb,zfc,zy0 (by rw [zy9];omega),ymy hc,zy0 (fun h=>h rfl)];have hd:(Chk.bytes c++zbv r).drop (((Chk.bytes c).length:Int)).toNat=zbv r:=by simp
  rw [show (clean c,((Chk.bytes c).length:Int),(0:Int)).2.1=((Chk.bytes c).length:Int) from rfl,hd,zul (by omega) hw]
  rfl
theorem xnz {l:List Chunk} {most:Int} (h:(zcx l most).2=0):l.length≠0/\zcr l=0/\((zbv l).length:Int)<=most/\zcx l most=(zbv l,0):=by
 unfold zcx at h ⊢;by_cases h1:l.length=0
 . rw [zy1 h1] at h;cases h
 rw [zy0 h1] at h ⊢;by_cases h2:zcr l≠0
 . rw [zy1 h2] at h;exact absurd h h2
 rw [zy0 h2] at h ⊢;by_cases h3:((zbv l).length:Int)>most
 . rw [zy1 h3] at h;cases h
 rw [zy0 h3];exact ⟨h1,by omega,by omega,rfl⟩
end Pck
namespace Gh
open Ser Snd
def gF (s:zae) (id:Nat):Prop:=s.fates[id]?=some 3
def zvt (H:List Prt) (ch:Chunk):Prop:=∃ (i:Nat) (y:Prt),H[i]?=some y/\ch=y.chunk/\ch.data≠[]
def ysi (c:Config) (H:List Prt) (A F:Nat->Prop) (ch:Chunk):Prop:=∃ n:Int,c.first-1<=n/\n<c.first+H.length/\tag ch.tag=tag n/\(∀ (i:Nat) y,H[i]?=some y->c.first+i<=n->A i\/F y.id) /\
 ∀ sk∈ch.zbm,∃ (i:Nat) (y:Prt),H[i]?=some y/\c.first+i<=n/\F y.id/\sk.stream=y.chunk.stream/\sk.ordered=y.chunk.ordered/\sk.mid=y.chunk.mid
def zoz (c:Config) (H:List Prt) (A F:Nat->Prop) (ch:Chunk):Prop:=zvt H ch\/(ch.kind=3/\ysi c H A F ch)
theorem zvt.more {H E:List Prt} {ch:Chunk} (h:zvt H ch):zvt (H++E) ch:=by
 obtain ⟨i,y,h1,h2⟩:=h;exact ⟨i,y,zkr h1,h2⟩
theorem ylc {H E:List Prt} {i:Nat} {y:Prt} (h:(H++E)[i]?=some y) (hi:i<H.length):H[i]?=some y:=by
 rwa [zy30 hi] at h
theorem ysi.more {c:Config} {H E:List Prt} {A B F G:Nat->Prop} {ch:Chunk} (h:ysi c H A F ch) (hA:∀ i,A i->B i) (hF:∀ i,F i->G i):ysi c (H++E) B G ch:=by
 obtain ⟨n,h1,h2,h3,h4,h5⟩:=h;refine ⟨n,h1,by rw [zy9];push_cast;omega,h3,fun i y hy hle=>(h4 i y (ylc hy zz0) hle).imp (hA i) (hF _),fun sk hsk=>?_⟩;obtain ⟨i,y,k1,k2,k3,k4⟩:=h5 sk hsk;exact ⟨i,y,zkr k1,k2,hF _ k3,k4⟩
theorem zoz.more {c:Config} {H E:List Prt} {A B F G:Nat->Prop} {ch:Chunk} (h:zoz c H A F ch) (hA:∀ i,A i->B i) (hF:∀ i,F i->G i):zoz c (H++E) B G ch :=
 h.imp zvt.more fun h=>⟨h.1,h.2.more hA hF⟩
section
variable {c:Config} {L:List Message} {H:List Prt} {A:Nat->Prop} {s:zae} {N:Nat}
theorem ygv (s:zae) {id k:Nat} (h:gF s k):gF (zeu s id) k:=by
 unfold gF at h ⊢;rw [zgg];by_cases e:id=k
 . subst e;rw [zy23 (zfb h)]
 . rw [zy50 e];exact h
theorem ycp (hN:N<=500):∀ (q:List zaj) {H:List Prt} {s:zae},GS c L H A s->SI N s->q.Pairwise (fun a b=>a.id<b.id)->(∀ m∈q,m∈s.queue)->∃ E,GS c L (H++E) A (q.foldl zjf s)/\(∀ k,gF s k->gF (q.foldl zjf s) k)
 | [],H,s,h,_,_,_=>⟨[],by rw [zy4];exact h,fun _ h=>h⟩
 | m::q,H,s,h,hs,hp,hm=>by
  obtain ⟨p1,p2⟩:=zy110.1 hp;have hq:=hs.queue m (hm m zz5);have h0:=hq.id0;rw [zy49];by_cases c1:old s.clock m.came m.message.life=true
  . rw [show zjf s m=zeu s m.id from zy1 c1]
    obtain ⟨k,hk⟩:∃ k:Nat,m.id=k:=⟨m.id.toNat,by omega⟩
    have hf:=hq.fate;have hid1:=hq.id1;rw [hk] at hf ⊢;rw [zy24] at hf;obtain ⟨E,g⟩:=yxo h hs hN hf;obtain ⟨E2,g2,g3⟩:=ycp hN q g (zwt hs zz0) p2 fun x hx=>by
     rw [zlc];exact zy56.2 ⟨hm x zz52,zy12 (by have:=p1 x hx;omega)⟩
    exact ⟨E++E2,by rw [<- zy26];exact g2,fun j hj=>g3 j (ygv s hj)⟩
  . rw [show zjf s m=s from zy0 c1]
    exact ycp hN q h hs p2 fun x hx=>hm x zz52
theorem ycr (hN:N<=500):∀ (q:List zbq) {H:List Prt} {s:zae},GS c L H A s->SI N s->(∀ m∈q,0<=m.id/\m.id<s.fates.length)->∃ E,GS c L (H++E) A (q.foldl zgz s)/\(∀ k,gF s k->gF (q.foldl zgz s) k)
 | [],H,s,h,_,_=>⟨[],by rw [zy4];exact h,fun _ h=>h⟩
 | x::q,H,s,h,hs,hx=>by
  obtain ⟨x0,x1⟩:=hx x zz5;rw [zy49];by_cases c1:xcf s x=true
  . rw [show zgz s x=zeu s x.id from zy1 c1]
    obtain ⟨k,hk⟩:∃ k:Nat,x.id=k:=⟨x.id.toNat,by omega⟩
    have hf:s.fates[k]?=some 1:=by
     unfold xcf at c1;rw [zy16,zy34,hk,zy24] at c1;cases hz:s.fates[k]? with
     | none=>rw [hz] at c1;exact absurd c1.1 zz4
     | some z=>rw [hz] at c1;rw [show z=1 from c1.1]
    rw [hk];obtain ⟨E,g⟩:=yxo h hs hN hf;obtain ⟨E2,g2,g3⟩:=ycr hN q g (zwt hs zz0) fun y hy=>by
     rw [zgg,zy25];exact hx y zz108
    exact ⟨E++E2,by rw [<- zy26];exact g2,fun j hj=>g3 j (ygv s hj)⟩
  . rw [show zgz s x=s from zy0 c1]
    exact ycr hN q h hs fun y hy=>hx y zz108
theorem yxb (h:GS c L H A s) (hs:SI N s) (hN:N<=500):∃ E,GS c L (H++E) A (expire s)/\∀ k,gF s k->gF (expire s) k:=by
 obtain ⟨E,g1,g2⟩:=ycp hN s.queue h hs h.zfr fun _ h=>h
 obtain ⟨a,b⟩:=zny s.queue s hs fun m hm=>⟨(hs.queue m hm).id0,(hs.queue m hm).id1⟩
 obtain ⟨E2,g3,g4⟩:=ycr hN (s.queue.foldl zjf s).out g1 a fun x hx=>⟨(a.out x hx).id0,(a.out x hx).id1⟩
 exact ⟨E++E2,by rw [<- zy26];exact g3,fun k hk=>g4 k (g2 k hk)⟩
theorem yrv {ch:Chunk} {t:zdv}:∀ {l:List zdv},t∈Sco.skip ch l->t∈l\/t=⟨ch.stream,ch.mid,ch.ordered⟩
 | [],h=>by
  rw [Sco.skip,zy11] at h;exact .inr h
 | x::r,h=>by
  rw [Sco.skip] at h;split at h
  . rename_i c1
    unfold Sco.zdh at c1;simp only [zy16,zy17] at c1;rcases zy18.1 h with h | h
    . rw [h,c1.1.1,c1.1.2];exact .inr rfl
    . exact .inl (by simp [h])
  . rcases zy18.1 h with h | h
    . exact .inl (by simp [h])
    . exact (yrv h).imp (fun h=>by simp [h]) id
theorem ydy (h:GS c L H A s) (hs:SI N s):∀ (l:List zbq) (k:Nat) (sk:List zdv) (cu:Int),s.out.drop k=l->cu=s.cum+k->k<=s.out.length->(∀ (i:Nat) y,H[i]?=some y->c.first+i<=cu->A i\/gF s y.id) ->
 (∀ t∈sk,∃ (i:Nat) (y:Prt),H[i]?=some y/\c.first+i<=cu/\gF s y.id/\t.stream=y.chunk.stream/\t.ordered=y.chunk.ordered/\t.mid=y.chunk.mid) ->
 s.cum<=(Sco.zde cu sk l).1/\(Sco.zde cu sk l).1<=s.cum+s.out.length/\(∀ (i:Nat) y,H[i]?=some y->c.first+i<=(Sco.zde cu sk l).1->A i\/gF s y.id) /\
 (∀ t∈(Sco.zde cu sk l).2,∃ (i:Nat) (y:Prt),H[i]?=some y/\c.first+i<=(Sco.zde cu sk l).1/\gF s y.id/\t.stream=y.chunk.stream/\t.ordered=y.chunk.ordered/\t.mid=y.chunk.mid)
 | [],k,sk,cu,_,h2,h3,h4,h5=>⟨by show s.cum<=cu;omega,by show cu<=_;omega,h4,h5⟩
 | x::r,k,sk,cu,h1,h2,h3,h4,h5=>by
  have stay:s.cum<=cu/\cu<=s.cum+s.out.length/\(∀ (i:Nat) y,H[i]?=some y->c.first+i<=cu->A i\/gF s y.id)/\(∀ t∈sk,∃ (i:Nat) (y:Prt),H[i]?=some y/\c.first+i<=cu/\gF s y.id/\t.stream=y.chunk.stream/\t.ordered=y.chunk.ordered/\t.mid=y.chunk.mid):=⟨by omega,by omega,h4,h5⟩
  have hx:s.out[k]?=some x:=by
   have:(s.out.drop k)[0]?=some x:=by rw [h1];rfl
   rwa [zy53,zy90] at this
  have hk:=zfb hx;have hr:s.out.drop (k+1)=r:=by rw [<- zy123,h1];rfl
  have hnum:=hs.nums k x hx;obtain ⟨y,y1,y2,y3⟩:=h.out k x hx;have hcu:=hs.cum;rw [h.cfg] at hcu;have hix:c.first+((((s.cum+1-c.first).toNat+k:Nat)):Int)=x.number:=by rw [hnum];omega
  have hyid:x.id.toNat=y.id:=by omega
  rw [Sco.zde];by_cases c1:x.number≠W (cu+1)\/(x.state≠4/\x.state≠2)
  . rw [zy1 c1];exact stay
  rw [zy0 c1];have hst:x.state=4\/x.state=2:=by omega
  have hcov:∀ (i:Nat) z,H[i]?=some z->c.first+i<=x.number->A i\/gF s z.id:=by
   intro i z hz hle;by_cases e:c.first+i<=cu
   . exact h4 i z hz e
   . have:i=(s.cum+1-c.first).toNat+k:=by omega
     subst this;rw [y1] at hz;cases hz;rcases hst with h6 | h6
     . right;have:=h.gone x (zy7 hx) h6;rwa [hyid] at this
     . exact .inl (h.zga k x hx h6)
  by_cases c2:x.state=4
  . rw [zy1 c2]
    split
    . exact stay
    . refine ydy h hs r (k+1) _ x.number hr (by rw [hnum];push_cast;omega) zz0 hcov fun t ht=>?_
      rcases yrv ht with ht | rfl
      . obtain ⟨i,z,z1,z2,z3⟩:=h5 t ht
        exact ⟨i,z,z1,by omega,z3⟩
      . refine ⟨_,y,y1,by omega,?_,?_,?_,?_⟩
        . have:=h.gone x (zy7 hx) c2;rwa [hyid] at this
        . show x.chunk.stream=_;rw [y3]
        . show x.chunk.ordered=_;rw [y3]
        . show x.chunk.mid=_;rw [y3]
  . rw [zy0 c2]
    refine ydy h hs r (k+1) _ x.number hr (by rw [hnum];push_cast;omega) zz0 hcov fun t ht=>?_
    obtain ⟨i,z,z1,z2,z3⟩:=h5 t ht;exact ⟨i,z,z1,by omega,z3⟩
def zrz (c:Config) (H:List Prt) (A:Nat->Prop) (p:zep):Prop:=∀ l∈p.out,∀ ch∈l,zoz c H A (gF p.s) ch
theorem xab {o:List (List Chunk)} {k:Nat} {x:Chunk} {Q:Chunk->Prop} (h:∀ l∈o,∀ ch∈l,Q ch) (hx:Q x):∀ l∈setAt o k (·++[x]),∀ ch∈l,Q ch:=by
 intro l hl ch hc;unfold setAt at hl;split at hl
 . exact h l hl ch hc
 . rename_i y hy
   rcases zy48 hl with hl | rfl
   . exact h l hl ch hc
   . rcases zy13.1 hc with hc | hc
     . exact h y (zy7 hy) ch hc
     . rw [zy11] at hc;subst hc;exact hx
theorem ytc {p:zep} (h:GS c L H A p.s) (hs:SI N p.s) (ho:zrz c H A p):GS c L H A (forward p).s/\zrz c H A (forward p)/\(forward p).s.fates=p.s.fates:=by
 unfold forward;split
 . exact ⟨h,ho,rfl⟩
 . have hcu:=hs.cum
   rw [h.cfg] at hcu;have hnum:=h.num hs;have hcap:=h.few hs;obtain ⟨k1,k2,k3,k4⟩:=ydy h hs p.s.out 0 [] p.s.cum rfl zz5 zz5 (fun i y hy hle=>h.done i y hy hle) zz5;refine ⟨h.congr rfl rfl rfl rfl rfl rfl rfl rfl,xab ho (.inr ⟨rfl,(Sco.zea p.s.out p.s.cum).1,?_,?_,?_,k3,k4⟩),rfl⟩
   . show _<=(Sco.zde p.s.cum [] p.s.out).1;omega
   . show (Sco.zde p.s.cum [] p.s.out).1<_;omega
   . show tag (tag _)=_;unfold tag;omega
theorem xgg {p:zep} (h:GS c L H A p.s) (ho:zrz c H A p) {i path:Nat} {x:zbq} (hx:p.s.out[i]?=some x) (hd:x.chunk.data≠[]):GS c L H A (fly p i path).s/\zrz c H A (fly p i path)/\(fly p i path).s.fates=p.s.fates:=by
 obtain ⟨y,y1,y2,y3⟩:=h.out i x hx;have hil:=zfb hx;unfold fly;simp only [hx];refine ⟨?_,xab ho (.inl ⟨_,y,y1,y3,hd⟩),trivial⟩;refine ⟨h.cfg,h.hi,h.len,fun k z hz=>?_,fun z hz hzd=>?_,fun z hz h4=>?_,fun k z hz h2=>?_,h.done,h.ids,h.zfr,h.hand,h.handn,h.fresh,h.begun,h.mids,h.midn,h.whole,h.told⟩
 . have hz:(p.s.out.set i (zry x path))[k]?=some z:=hz
   by_cases e:i=k
   . subst e
     rw [zy23 hil] at hz;cases hz;exact ⟨y,y1,y2,y3⟩
   . rw [zy50 e] at hz;exact h.out k z hz
 . rcases zy48 hz with hz | rfl
   . exact h.stop z hz hzd
   . exact absurd hzd hd
 . rcases zy48 hz with hz | rfl
   . exact h.gone z hz h4
   . cases h4
 . have hz:(p.s.out.set i (zry x path))[k]?=some z:=hz
   by_cases e:i=k
   . subst e
     rw [zy23 hil] at hz;cases hz;cases h2
   . rw [zy50 e] at hz;exact h.zga k z hz h2
theorem yvy {p:zep} (h:GS c L H A p.s) (ho:zrz c H A p) (path i:Nat):GS c L H A (zcu path p i).s/\zrz c H A (zcu path p i)/\(zcu path p i).s.fates=p.s.fates:=by
 unfold zcu;split
 . exact ⟨h,ho,rfl⟩
 . rename_i x hx
   split
   . rename_i c1
     refine xgg h ho hx fun hd=>?_
     have:=h.stop x (zy7 hx) hd;omega
   . exact ⟨h,ho,rfl⟩
theorem yfp {path:Nat}:∀ (l:List Nat) {p:zep},GS c L H A p.s->zrz c H A p->GS c L H A (l.foldl (zcu path) p).s/\zrz c H A (l.foldl (zcu path) p)/\(l.foldl (zcu path) p).s.fates=p.s.fates
 | [],_,h,ho=>⟨h,ho,rfl⟩
 | i::l,p,h,ho=>by
  obtain ⟨h1,h2,h3⟩:=yvy h ho path i;obtain ⟨k1,k2,k3⟩:=yfp (path:=path) l h1 h2;exact ⟨k1,k2,k3.trans h3⟩
theorem mem_set' {α:Type} {l:List α} {k:Nat} {a y:α} (h:y∈l.set k a):y=a\/∃ i,i≠k/\l[i]?=some y:=by
 obtain ⟨i,hi⟩:=zy58 h;by_cases e:k=i
 . subst e
   rw [zy23 (by have:=zfb hi;rwa [zy25] at this)] at hi;cases hi;exact .inl rfl
 . rw [zy50 e] at hi;exact .inr ⟨i,fun h=>e h.symm,hi⟩
theorem mem_erase' {α:Type} {l:List α} {k:Nat} {y:α} (h:y∈l.eraseIdx k):∃ i,i≠k/\l[i]?=some y:=by
 obtain ⟨i,hi⟩:=zy58 h;rw [List.getElem?_eraseIdx] at hi;split at hi
 . exact ⟨i,by omega,hi⟩
 . exact ⟨i+1,by omega,hi⟩
theorem ync {q:List zaj} (h:q.Pairwise fun a b=>a.id<b.id) {i j:Nat} {x y:zaj} (hx:q[i]?=some x) (hy:q[j]?=some y) (hij:i<j):x.id<y.id:=by
 obtain ⟨h1,e1⟩:=zy8.1 hx;obtain ⟨h2,e2⟩:=zy8.1 hy;rw [<- e1,<- e2];exact List.pairwise_iff_getElem.1 h i j h1 h2 hij
end
end Gh
namespace Gh
open Ser Snd
section
variable {c:Config} {L:List Message} {H:List Prt} {A:Nat->Prop} {s:zae} {N:Nat}
theorem ymz {P:Int} {s:zae} {m:zaj} (hP:1<=P) (hc:s.config.part=P) (h0:0<=m.parts) (hs:m.sent=m.parts*P) (hl:m.sent<m.message.data.length):ztt P m.message (cut s m (many s m))/\(cut s m (many s m)).data≠[]:=by
 have hm0:0<=m.parts*P:=zy139 h0 zz0;have hdl:(m.message.data.drop m.sent.toNat).length=m.message.data.length-m.sent.toNat:=zy42 ..;refine ⟨⟨h0,by show m.parts*P<_;omega,?_,?_⟩,?_⟩
 . show (m.message.data.drop m.sent.toNat).take (many s m).toNat=(m.message.data.drop (m.parts*P).toNat).take P.toNat
   rw [<- hs];unfold many;split
   . rw [zy31 (by omega),zy31 (by omega)]
   . rw [hc]
 . show decide (m.sent+many s m=m.message.data.length)=decide ((m.message.data.length:Int)<=m.parts*P+P)
   rw [zy161,<- hs];unfold many;split<;>omega
 . intro h
   have h:(m.message.data.drop m.sent.toNat).take (many s m).toNat=[]:=h;have:=congrArg List.length h;rw [zy75,hdl,zy14] at this;unfold many at this;split at this<;>omega
theorem yhy (s:zae) (m:zaj) (hb:∀ n∈s.mids,0<=n/\n<=2 ^ 30) (i:Nat):s.mids[i]?.getD 0<=(zdk s m)[i]?.getD 0:=by
 unfold zdk;split
 . unfold setAt
   split
   . exact zy74 _
   . rename_i n hn
     by_cases e:zfz s m=i
     . subst e
       rw [zy23 (zfb hn),hn];have:=hb n (zy7 hn);show n<=W (n+1);rw [zbs (by omega) (by omega)];omega
     . rw [zy50 e];exact zy74 _
 . exact zy74 _
theorem ytt {s:zae} {m:zaj} {n:Int} (h:n∈zdk s m) (hb:∀ n∈s.mids,0<=n/\n<=2 ^ 30):n∈s.mids\/n-1∈s.mids:=by
 unfold zdk at h;split at h
 . unfold setAt at h
   split at h
   . exact .inl h
   . rename_i x hx
     rcases zy48 h with h | rfl
     . exact .inl h
     . right
       have:=hb x (zy7 hx);show W (x+1)-1∈s.mids;rw [zbs (by omega) (by omega),show x+1-1=x by omega];exact zy7 hx
 . exact .inl h
theorem xlg (h:GS c L H A s) (hs:SI N s) (hN:N<=500) (hkeep:KI L s) {k:Nat} {m:zaj} (hm:s.queue[k]?=some m) (hfirst:m.id=s.sched.hand\/∀ q∈s.queue.take k,q.message.stream≠m.message.stream) :
 GS c L (H++[⟨m.id.toNat,cut s m (many s m)⟩]) A (zrx s k m)/\(cut s m (many s m)).data≠[]:=by
 have hmm:=zy7 hm;have hq:=hs.queue m hmm;have hw:=zct hs.cfg;have hL:=hkeep.queue m hmm;have hlen:=h.num hs;have hcap:=h.few hs;have hcu:=hs.cum;rw [h.cfg] at hcu;have hnx:=hs.next;have hln:=h.len;have q0:=hq.id0;have q1:=hq.id1;have q2:=hq.parts;have q3:=hq.sent;have q4:=hq.left;have q5:=hq.st0;have q6:=hq.st1;have q7:=hq.fate;have q8:=hq.few zz0;have hP:s.config.part=c.part:=by rw [h.cfg]
 have hcf:s.config.first=c.first:=by rw [h.cfg]
 have hmids:∀ n∈s.mids,0<=n/\n<=2 ^ 30:=fun n hn=>by have:=h.midn n hn;omega
 obtain ⟨hpo,hdne⟩:=ymz (P:=c.part) (s:=s) (m:=m) zz0 hP q2 (by rw [<- hP];exact q3) q4;have hms0:0<=m.parts*s.config.part:=zy139 q2 zz0;obtain ⟨n1,n2,n3⟩:=zpi (s:=s) (m:=m) zz0 zz0 zz0 q4 (by have:=hq.len2;omega);have hWn:W (s.next+1)=s.next+1:=zbs zz0 zz0;have hWp:W (m.parts+1)=m.parts+1:=zbs zz0 zz0;have hof:∀ x∈H,(x.id:Int)=m.id->Of m x.chunk:=by
  intro x hx he;obtain ⟨w,w1,w2,w3,-⟩:=h.hi.msg x hx;rw [show x.id=m.id.toNat by omega,hL] at w1;cases w1;exact ⟨w2,w3⟩
 have hmc:∀ x:Prt,Of m x.chunk->xcg s x.chunk=xcg s (cut s m (many s m)):=by
  intro x hx;unfold xcg;rw [hx.1,hx.2];rfl
 have hma:zfz s m<s.mids.length:=by
  have:=hs.nmids;unfold zfz;split<;>omega
 -- what is so of the message's number in its row
 have hall:(∀ x∈H,Of m x.chunk->(x.id:Int)<=m.id/\((x.id:Int)<m.id↔x.chunk.mid<zcp s m)/\x.chunk.mid<=zcp s m)/\(∀ x∈H,(x.id:Int)=m.id->x.chunk.part<m.parts)/\(0<=zcp s m/\zcp s m<=H.length) /\
  (∀ j:Nat,(j:Int)<m.parts->∃ y∈H,(y.id:Int)=m.id/\y.chunk.part=j/\y.chunk.data≠[])/\zcp s m<xcg (zrx s k m) (cut s m (many s m)) /\
  (∀ (i:Nat) q,i≠k->s.queue[i]?=some q->Of q (cut s m (many s m))->(q.mid<0->m.id<q.id)/\(0<=q.mid->m.id<=q.id)):=by
  rcases zy146 m.mid 0 with hneg | hge
  . obtain ⟨f1,f2⟩:=h.fresh m hmm hneg
    have hmu:zcp s m=xcg s (cut s m (many s m)):=by unfold zcp;rw [zy1 hneg];rfl
    have hget:s.mids[zfz s m]?=some (zcp s m):=by
     obtain ⟨z,hz⟩:∃ z,s.mids[zfz s m]?=some z:=⟨_,zy2 hma⟩
     rw [hz];unfold zcp;rw [zy1 hneg,hz];rfl
    have hmb:=h.midn _ (zy7 hget);refine ⟨fun x hx hox=>?_,fun x hx he=>?_,hmb,fun j hj=>?_,?_,fun i q hik hqi hoq=>?_⟩
    . have e1:=f2 x hx hox
      have e2:=h.mids x hx;rw [hmc x hox,<- hmu] at e2;omega
    . have e1:=f2 x hx (hof x hx he);omega
    . omega
    . show zcp s m<(zdk s m)[zfz s m]?.getD 0
      unfold zdk;rw [zy1 hneg];unfold setAt;simp only [hget];rw [zy23 hma];show _<W (zcp s m+1);rw [zbs (by omega) (by omega)];omega
    . have hno:∀ q∈s.queue.take k,q.message.stream≠m.message.stream:=by
       rcases hfirst with hf | hf
       . have:=h.hand m hmm hf;omega
       . exact hf
      have hlt:m.id<q.id:=by
       rcases zy67 i k with hlt | hge
       . exact absurd hoq.1.symm (hno q (zy7 (i:=i) (by rw [zy59,zy1 hlt];exact hqi)))
       . exact ync h.zfr hm hqi zz0
      exact ⟨fun _=>hlt,fun _=>by omega⟩
  . have b:=h.begun m hmm hge
    obtain ⟨y0,y1,y2,y3,y4⟩:=b.one;have hmu:zcp s m=m.mid:=by unfold zcp;rw [zy0 (by omega)]
    have hmb:=h.hi.mid y0 y1;refine ⟨fun x hx hox=>?_,b.part,by rw [hmu];omega,b.all,?_,fun i q hik hqi hoq=>?_⟩
    . have e1:=b.top x hx hox
      have e2:Cls x.chunk y0.chunk:=⟨hox.1.trans y4.1.symm,hox.2.trans y4.2.symm⟩
      have e3:=h.hi.key x hx y0 y1 e2;have e4:=h.hi.key y0 y1 x hx e2.symm;rw [hmu,<- y3,<- y2];omega
    . have e1:=h.mids y0 y1
      rw [hmc y0 y4] at e1;have e2:=yhy s m hmids (zfz s m);rw [hmu,<- y3];exact Int.lt_of_lt_of_le e1 e2
    . have hoy:Of q y0.chunk:=⟨y4.1.trans hoq.1,y4.2.trans hoq.2⟩
      refine ⟨fun hqn=>?_,fun hqn=>?_⟩
      . have:=(h.fresh q (zy7 hqi) hqn).2 y0 y1 hoy;omega
      . have:=(h.begun q (zy7 hqi) hqn).top y0 y1 hoy;omega
 obtain ⟨ha,hb,hc3,hd,he5,hf⟩:=hall;have htag:tag (zcp s m)=zcp s m:=by unfold tag;omega
 have yyb:HI c L (H++[⟨m.id.toNat,cut s m (many s m)⟩]):=by
  refine h.hi.push ⟨rfl,?_,rfl,rfl,rfl⟩ ⟨m.message,hL,rfl,rfl,fun _=>hpo⟩ ?_ (fun x hx hxc=>?_) (fun x hx he=>?_)
  . show tag s.next=_;rw [<- hln]
  . show 0<=tag (zcp s m)/\tag (zcp s m)<=_;rw [htag];exact hc3
  . have:=ha x hx ⟨hxc.1,hxc.2⟩
    show x.id<=m.id.toNat/\(x.id<m.id.toNat↔x.chunk.mid<tag (zcp s m))/\x.chunk.mid<=tag (zcp s m);rw [htag];omega
  . have he:x.id=m.id.toNat:=he
    exact hb x hx zz0
 have hmem:∀ x∈H,x∈H++[(⟨m.id.toNat,cut s m (many s m)⟩:Prt)]:=fun x hx=>zy69 _ hx
 have hlast:(⟨m.id.toNat,cut s m (many s m)⟩:Prt)∈H++[(⟨m.id.toNat,cut s m (many s m)⟩:Prt)]:=by simp
 generalize hM:({m with mid:=zcp s m,sent:=m.sent+many s m,parts:=W (m.parts+1)}:zaj)=M;have M1:M.id=m.id:=by rw [<- hM]
 have M2:M.message=m.message:=by rw [<- hM]
 have M3:M.mid=zcp s m:=by rw [<- hM]
 have M4:M.parts=m.parts+1:=by rw [<- hM];exact hWp
 have hqueue:(zrx s k m).queue=if decide (m.sent+many s m=m.message.data.length) then s.queue.eraseIdx k else s.queue.set k M:=by rw [<- hM];rfl
 have hq':∀ q∈(zrx s k m).queue,(q=M/\m.sent+many s m≠m.message.data.length)\/∃ i,i≠k/\s.queue[i]?=some q:=by
  intro q hq;rw [hqueue] at hq;split at hq
  . exact .inr (mem_erase' hq)
  . rename_i c1
    rcases mem_set' hq with h1 | h1
    . exact .inl ⟨h1,by simpa using c1⟩
    . exact .inr h1
 have hne:∀ (i:Nat) q,i≠k->s.queue[i]?=some q->q.id≠m.id:=by
  intro i q hik hqi;rcases zy67 i k with hlt | hge
  . have:=ync h.zfr hqi hm hlt;omega
  . have:=ync h.zfr hm hqi zz0;omega
 have hofq:∀ q:zaj,Of q (cut s m (many s m))->∀ x:Prt,Of q x.chunk↔Of m x.chunk:=fun q hq x=>by
  have e1:m.message.stream=q.message.stream:=hq.1;have e2:m.message.ordered=q.message.ordered:=hq.2;unfold Of;rw [e1,e2]
 refine ⟨⟨h.cfg,yyb,?_,fun j x hx=>?_,fun x hx hxd=>?_,fun x hx h4=>?_,fun j x hx h2=>?_,fun i y hy hle=>?_,fun q hq=>?_,?_,fun q hq hh=>?_,?_,fun q hq hmn=>?_,fun q hq hmn=>?_,fun y hy=>?_,fun n hn=>?_,fun id hid h3=>?_,fun id h2 i y hy he=>?_⟩,hdne⟩
 . show c.first+((H++[_]).length:Int)=W (s.next+1)
   rw [hWn,zy9,zy55];push_cast;omega
 . have hx:(s.out++[_])[j]?=some x:=hx
   rcases zfw hx with hx | ⟨rfl,rfl⟩
   . obtain ⟨y,e1,e2⟩:=h.out j x hx
     exact ⟨y,zkr e1,e2⟩
   . exact ⟨⟨m.id.toNat,cut s m (many s m)⟩,by show (H++[_])[(s.cum+1-c.first).toNat+s.out.length]?=_;rw [hlen];exact ywe _ _,by show m.id=(m.id.toNat:Int);omega,rfl⟩
 . have hx:x∈s.out++[_]:=hx
   rcases zy13.1 hx with hx | hx
   . exact h.stop x hx hxd
   . rw [zy11] at hx;subst hx;exact absurd hxd hdne
 . have hx:x∈s.out++[_]:=hx
   rcases zy13.1 hx with hx | hx
   . exact h.gone x hx h4
   . rw [zy11] at hx;subst hx;cases h4
 . have hx:(s.out++[_])[j]?=some x:=hx
   rcases zfw hx with hx | ⟨rfl,rfl⟩
   . exact h.zga j x hx h2
   . cases h2
 . rcases zfw hy with hy | ⟨rfl,rfl⟩
   . exact h.done i y hy hle
   . have hle:c.first+(H.length:Int)<=s.cum:=hle
     omega
 . rcases hq' q hq with ⟨rfl,-⟩ | ⟨i,-,hi⟩
   . omega
   . exact h.ids q (zy7 hi)
 . rw [hqueue]
   split
   . exact h.zfr.sublist (List.eraseIdx_sublist _ _)
   . have e:(s.queue.set k M).map zaj.id=s.queue.map zaj.id:=by
      apply zy87;intro i;rw [zy19,zy19];by_cases e:k=i
      . subst e;rw [zy23 (zfb hm),hm];show some M.id=some m.id;rw [M1]
      . rw [zy50 e]
     have h1:(s.queue.map zaj.id).Pairwise (·<·):=List.pairwise_map.2 h.zfr;rw [<- e] at h1;exact List.pairwise_map.1 h1
 . have hh:q.id=if decide (m.sent+many s m=m.message.data.length) then -1 else m.id:=hh
   rcases hq' q hq with ⟨rfl,-⟩ | ⟨i,hik,hi⟩
   . rw [M3];exact hc3.1
   . have e1:=h.ids q (zy7 hi)
     have e2:=hne i q hik hi;split at hh
     . omega
     . exact absurd hh e2
 . show (if decide (m.sent+many s m=m.message.data.length) then -1 else m.id)<(L.length:Int)
   have:=hkeep.len;split<;>omega
 . rcases hq' q hq with ⟨rfl,-⟩ | ⟨i,hik,hi⟩
   . rw [M3] at hmn;omega
   . obtain ⟨f1,f2⟩:=h.fresh q (zy7 hi) hmn
     refine ⟨f1,fun y hy hoy=>?_⟩;rcases zy13.1 hy with hy | hy
     . exact f2 y hy hoy
     . rw [zy11] at hy;subst hy
       have:=(hf i q hik hi hoy).1 hmn;show (m.id.toNat:Int)<q.id;omega
 . rcases hq' q hq with ⟨rfl,-⟩ | ⟨i,hik,hi⟩
   . refine ⟨by omega,⟨_,hlast,by rw [M1];show (m.id.toNat:Int)=m.id;omega,by rw [M3];exact htag,by unfold Of;rw [M2];exact ⟨rfl,rfl⟩⟩,fun y hy hoy=>?_,fun y hy he=>?_,fun j hj=>?_⟩
     . unfold Of at hoy
       rw [M2] at hoy;rw [M1];rcases zy13.1 hy with hy | hy
       . exact (ha y hy hoy).1
       . rw [zy11] at hy;subst hy;show (m.id.toNat:Int)<=m.id;omega
     . rw [M1] at he
       rw [M4];rcases zy13.1 hy with hy | hy
       . have:=hb y hy he;omega
       . rw [zy11] at hy;subst hy;show m.parts<m.parts+1;omega
     . rw [M4] at hj
       rw [M1];rcases zy146 (j:Int) m.parts with hlt | hge
       . obtain ⟨y,e1,e2⟩:=hd j hlt
         exact ⟨y,hmem y e1,e2⟩
       . exact ⟨_,hlast,by show (m.id.toNat:Int)=m.id;omega,by show m.parts=j;omega,hdne⟩
   . have b:=h.begun q (zy7 hi) hmn
     obtain ⟨z0,z1,z2⟩:=b.one;refine ⟨b.some,⟨z0,hmem z0 z1,z2⟩,fun y hy hoy=>?_,fun y hy he=>?_,fun j hj=>?_⟩
     . rcases zy13.1 hy with hy | hy
       . exact b.top y hy hoy
       . rw [zy11] at hy;subst hy
         have:=(hf i q hik hi hoy).2 hmn;show (m.id.toNat:Int)<=q.id;omega
     . rcases zy13.1 hy with hy | hy
       . exact b.part y hy he
       . rw [zy11] at hy;subst hy
         have he:(m.id.toNat:Int)=q.id:=he;exact absurd zz0 (hne i q hik hi)
     . obtain ⟨y,e1,e2⟩:=b.all j hj
       exact ⟨y,hmem y e1,e2⟩
 . rcases zy13.1 hy with hy | hy
   . exact Int.lt_of_lt_of_le (h.mids y hy) (yhy s m hmids _)
   . rw [zy11] at hy;subst hy
     show tag (zcp s m)<_;rw [htag];exact he5
 . have hn:n∈zdk s m:=hn
   rw [zy9,zy55];rcases ytt hn hmids with hn | hn
   . have:=h.midn n hn;push_cast;omega
   . have:=h.midn _ hn;push_cast;omega
 . rcases h.whole id hid h3 with ⟨q,e1,e2⟩ | e1
   . obtain ⟨i,hi⟩:=zy58 e1
     by_cases hik:i=k
     . subst hik
       rw [hm] at hi;cases hi;by_cases hov:m.sent+many s m=m.message.data.length
       . right
         intro w hw2 j hj;rw [show id=m.id.toNat by omega,hL] at hw2;cases hw2;rcases zy146 (j:Int) m.parts with hlt | hge
         . obtain ⟨y,y1,y2,y3⟩:=hd j hlt
           exact ⟨y,hmem y y1,by omega,y3⟩
         . have hjp:(j:Int)=m.parts:=by
            apply Classical.byContradiction;intro hc;have e5:(m.parts+1)*c.part<=j*c.part:=zy111 zz0 zz0;have e6:(m.parts+1)*c.part=m.parts*c.part+c.part:=by rw [Int.add_mul,Int.one_mul]
            have e7:many s m<=c.part:=by unfold many;rw [<- hP];split<;>omega
            have e8:m.sent=m.parts*c.part:=by rw [<- hP];exact q3
            omega
           exact ⟨_,hlast,by show m.id.toNat=id;omega,by show m.parts=j;omega,hdne⟩
       . left
         refine ⟨M,?_,by omega⟩;rw [hqueue,zy0 (by simpa using hov)];exact zy7 (zy23 (zfb hm))
     . left
       refine ⟨q,?_,e2⟩;rw [hqueue];split
       . refine List.mem_eraseIdx_iff_getElem?.2 ⟨i,hik,hi⟩
       . exact zy7 (i:=i) (by rw [zy50 (fun h=>hik h.symm)];exact hi)
   . exact .inr e1.more
 . have h2:s.fates[id]?=some 2:=h2
   rcases zfw hy with hy | ⟨rfl,rfl⟩
   . exact h.told id h2 i y hy he
   . have he:m.id.toNat=id:=he
     rw [<- he,q7] at h2;cases h2
theorem xiz {p q:zep} (h:GS c L H A p.s) (hs:SI N p.s) (hN:N<=500) (hk:KI L p.s) (ho:zrz c H A p) (hq:next p=some q):∃ E,GS c L (H++E) A q.s/\zrz c (H++E) A q/\q.s.fates=p.s.fates:=by
 obtain ⟨s,o⟩:=p;unfold next at hq;dsimp only at hq h hs hk;split at hq
 . cases hq
 rename_i c1;obtain ⟨k,hkl,hk1,hk2⟩:=ytv (turns:=s.config.turns) (s:=s.sched) (q:=s.queue) (by show 0<=zdu s;omega);have hkn:(zdu s).toNat=k:=by show (Sch.next _ _ _).toNat=k;rw [hk1];omega
 rw [hkn,zy2 hkl] at hq;dsimp only at hq;split at hq
 . cases hq
 . cases hq
   rw [zfu];obtain ⟨g1,g2⟩:=xlg h hs hN hk (zy2 hkl) hk2;obtain ⟨g3,g4,g5⟩:=xgg (p:=⟨zrx s k s.queue[k],o⟩) (i:=s.out.length) (path:=Snd.choose s) (x:=⟨s.next,(s.queue[k]).id,0,0,0,0,(s.queue[k]).came,(s.queue[k]).message.life,(s.queue[k]).message.tries,cut s s.queue[k] (many s s.queue[k])⟩) g1 (fun l hl ch hc=>(ho l hl ch hc).more (fun _ h=>h) (fun _ h=>h)) (by show (s.out++[_])[s.out.length]?=_;simp) g2;exact ⟨_,g3,g4,g5⟩
theorem yqv:∀ (n:Nat) {H:List Prt} {p:zep},GS c L H A p.s->SI N p.s->N<=500->KI L p.s->zrz c H A p->∃ E,GS c L (H++E) A (zew n p).s/\zrz c (H++E) A (zew n p)/\(zew n p).s.fates=p.s.fates
 | 0,H,p,h,_,_,_,ho=>⟨[],by rw [zy4];exact ⟨h,ho,rfl⟩⟩
 | n+1,H,p,h,hs,hN,hk,ho=>by
  rw [zew];cases hq:next p with
  | none=>exact ⟨[],by rw [zy4];exact ⟨h,ho,rfl⟩⟩
  | some q =>
   obtain ⟨E,g1,g2,g3⟩:=xiz h hs hN hk ho hq;obtain ⟨E2,k1,k2,k3⟩:=yqv n g1 (zss hs hq) hN (yzf hk hq) g2;exact ⟨E++E2,by rw [<- zy26];exact ⟨k1,k2,k3.trans g3⟩⟩
theorem ylk {F:Nat->Prop} (hi:HI c L H) {ch:Chunk} (h:zoz c H A F ch):zoz c H A F (Chk.clean ch):=by
 rcases h with ⟨i,y,h1,h2,h3⟩ | ⟨h1,n,h2,h3,h4,h5,h6⟩
 . obtain ⟨t1,-,t3,t4,t5⟩:=hi.tag i y h1
   refine .inl ⟨i,y,h1,?_,?_⟩
   . rw [h2]
     unfold Chk.clean;rw [zy1 t1];generalize y.chunk=z at t1 t3 t4 t5;obtain ⟨a,b,d,e,f,g,k,l,m,n,o⟩:=z;dsimp only at t3 t4 t5 ⊢;subst t3 t4 t5;rfl
   . unfold Chk.clean
     rw [h2,zy1 t1];rw [h2] at h3;exact h3
 . refine .inr ⟨by rw [Chk.ysv];exact h1,n,h2,h3,by rw [Chk.ywm];exact h4,h5,?_⟩
   have:(Chk.clean ch).zbm=ch.zbm:=by unfold Chk.clean;rw [zy0 (by omega),zy0 (by omega)]
   rw [this];exact h6
theorem yja {l:List Chunk} {most:Int} (h:(Pck.zcx l most).2=0):∀ ch∈(Pck.zfg (Pck.zcx l most).1).1,∃ d∈l,ch=Chk.clean d:=by
 obtain ⟨h1,h2,h3,h4⟩:=Pck.xnz h;rw [h4];intro ch hc;unfold Pck.zfg at hc;split at hc
 . cases hc
 . rw [Pck.zul (zy28 _) h2] at hc
   obtain ⟨d,hd,rfl⟩:=zy27.1 hc;exact ⟨d,hd,rfl⟩
theorem xew {most path:Int} {l:List Chunk} {p:zau} (h:p∈zlf most path l):p.back=false/\p.path=path/\∀ ch∈(Pck.zfg p.bytes).1,∃ d∈l,ch=Chk.clean d:=by
 unfold zlf at h;split at h
 . rename_i c1
   rw [zy11] at h;subst h;refine ⟨rfl,rfl,fun ch hc=>?_⟩;obtain ⟨d,hd,e⟩:=yja c1 ch hc;exact ⟨d,zy64 hd,e⟩
 . cases h
theorem yrh {most path:Int}:∀ {n:Nat} {l:List Chunk} {p:zau},p∈zfe most path n l->p.back=false/\p.path=path/\∀ ch∈(Pck.zfg p.bytes).1,∃ d∈l,ch=Chk.clean d
 | 0,l,p,h=>by cases h
 | n+1,l,p,h=>by
  unfold zfe at h;split at h
  . cases h
  . rcases zy13.1 h with h | h
    . exact xew h
    . obtain ⟨h1,h2,h3⟩:=yrh h
      refine ⟨h1,h2,fun ch hc=>?_⟩;obtain ⟨d,hd,e⟩:=h3 ch hc;exact ⟨d,zy63 hd,e⟩
theorem zxn {most:Int}:∀ {ls:List (List Chunk)} {k:Nat} {p:zau},p∈zbr most k ls->p.back=false/\∀ ch∈(Pck.zfg p.bytes).1,∃ l∈ls,∃ d∈l,ch=Chk.clean d
 | [],k,p,h=>by cases h
 | l::ls,k,p,h=>by
  unfold zbr at h;rcases zy13.1 h with h | h
  . obtain ⟨h1,-,h2⟩:=yrh h
    exact ⟨h1,fun ch hc=>⟨l,by simp,h2 ch hc⟩⟩
  . obtain ⟨h1,h2⟩:=zxn h
    refine ⟨h1,fun ch hc=>?_⟩;obtain ⟨l',k1,k2⟩:=h2 ch hc;exact ⟨l',by simp [k1],k2⟩
theorem xjl (h:GS c L H A s) (hs:SI N s) (hN:N<=500) (hk:KI L s):∃ E,GS c L (H++E) A (zit s).1/\(∀ k,gF s k->gF (zit s).1 k)/\∀ p∈(zit s).2,p.back=false/\∀ ch∈(Pck.zfg p.bytes).1,zoz c (H++E) A (gF (zit s).1) ch:=by
 obtain ⟨E,g1,g2⟩:=yxb h hs hN;have s1:=(zqj hs).1;have k1:=ygj hk hs;have o1:zrz c (H++E) A ⟨expire s,List.replicate s.paths.length []⟩:=by
  intro l hl ch hc;have:=zy61 hl;subst this;cases hc
 obtain ⟨g3,o2,f1⟩:=ytc (p:=⟨expire s,List.replicate s.paths.length []⟩) g1 s1 o1;have s2:=zhq (o:=List.replicate s.paths.length []) s1;have k2:=yac (o:=List.replicate s.paths.length []) k1;obtain ⟨g4,o3,f2⟩:=yfp (path:=Snd.choose (forward ⟨expire s,List.replicate s.paths.length []⟩).s) (List.range (forward ⟨expire s,List.replicate s.paths.length []⟩).s.out.length) g3 o2;have s3:=zqc s2;have k3:=zvw (path:=Snd.choose (forward ⟨expire s,List.replicate s.paths.length []⟩).s) (List.range (forward ⟨expire s,List.replicate s.paths.length []⟩).s.out.length) k2;obtain ⟨E2,g5,o4,f3⟩:=yqv 61 g4 s3 hN k3 o3;have hfa:(zit s).1.fates=(expire s).fates:=f3.trans (f2.trans f1);refine ⟨E++E2,?_,fun k hk=>?_,fun p hp=>?_⟩
 . rw [<- zy26]
   exact g5.congr rfl rfl rfl rfl rfl rfl rfl rfl
 . have:=g2 k hk
   unfold gF at this ⊢;rw [hfa];exact this
 . obtain ⟨b1,b2⟩:=zxn hp
   refine ⟨b1,fun ch hc=>?_⟩;obtain ⟨l,l1,d,d1,rfl⟩:=b2 ch hc;rw [<- zy26];exact ylk g5.hi (o4 l l1 d d1)
end
end Gh
namespace Gh
open Ser Snd
def zkv (c:Config) (H:List Prt) (A F:Nat->Prop) (ch:Chunk):Prop:=∃ n:Int,c.first-1<=n/\n<c.first+H.length/\tag ch.tag=tag n/\(∀ (i:Nat) y,H[i]?=some y->c.first+i<=n->A i\/F y.id) /\
 (∀ t∈ch.zar,n+t.hi<c.first+H.length)/\∀ i:Nat,n<c.first+i->has ch.zar (c.first+i-n)=true->A i
section
variable {c:Config} {L:List Message} {H:List Prt} {A F:Nat->Prop} {s:zae} {N:Nat}
theorem zkv.more {E:List Prt} {B G:Nat->Prop} {ch:Chunk} (h:zkv c H A F ch) (hA:∀ i,A i->B i) (hF:∀ i,F i->G i):zkv c (H++E) B G ch:=by
 obtain ⟨n,h1,h2,h3,h4,h5,h6⟩:=h;exact ⟨n,h1,by rw [zy9];push_cast;omega,h3,fun i y hy hle=>(h4 i y (ylc hy zz0) hle).imp (hA i) (hF _),fun t ht=>by have:=h5 t ht;rw [zy9];push_cast;omega,fun i hlt hh=>hA i (h6 i hlt hh)⟩
theorem xap (h:GS c L H A s) (hs:SI N s):GS c L H A (Snd.settle s):=by
 have hf:(Snd.settle s).fates=s.fates.mapIdx fun id f=>settled s id f:=rfl
 have hget:∀ k:Nat,(Snd.settle s).fates[k]?=(s.fates[k]?).map (settled s k):=fun k=>by rw [hf,zy77]
 have h3:∀ k:Nat,s.fates[k]?=some 3↔(Snd.settle s).fates[k]?=some 3:=by
  intro k;rw [hget];cases hz:s.fates[k]? with
  | none=>simp
  | some f =>
   show some f=some 3↔some (settled s k f)=some 3;unfold settled;split
   . rename_i c1;rw [c1.1];simp
   . rfl
 have hlen:=h.num hs;have hcu:=hs.cum;rw [h.cfg] at hcu;refine ⟨h.cfg,h.hi,h.len,h.out,h.stop,fun x hx h4=>(h3 _).1 (h.gone x hx h4),h.zga,fun i y hy hle=>(h.done i y hy hle).imp (fun z=>z) (h3 _).1,h.ids,h.zfr,h.hand,h.handn,h.fresh,h.begun,h.mids,h.midn,fun id hid hne=>h.whole id hid fun h5=>hne ((h3 _).1 h5),fun id h2 i y hy he=>?_⟩;rw [hget] at h2;cases hz:s.fates[id]? with
 | none=>rw [hz] at h2;cases h2
 | some f =>
  rw [hz] at h2;have h2:settled s id f=2:=by simpa using h2
  unfold settled at h2;split at h2
  . rename_i c1
    obtain ⟨c2,c3,c4⟩:=c1;subst c2;by_cases hle:c.first+i<=s.cum
    . rcases h.done i y hy hle with h5 | h5
      . exact h5
      . rw [he,hz] at h5;cases h5
    . have hi:=zfb hy
      obtain ⟨k,hk⟩:∃ k,i=(s.cum+1-c.first).toNat+k:=⟨i-(s.cum+1-c.first).toNat,by omega⟩
      obtain ⟨x,hx⟩:∃ x,s.out[k]?=some x:=⟨_,zy2 zz0⟩
      obtain ⟨z,z1,z2,-⟩:=h.out k x hx;rw [<- hk,hy] at z1;cases z1;rw [zy135] at c4;have c5:=c4 x (zy7 hx);rw [hk];refine h.zga k x hx ?_;apply Classical.byContradiction;intro hne;exact c5 (by rw [zy16];exact ⟨zy12 (by omega),zy12 hne⟩)
  . subst h2
    exact h.told id hz i y hy he
theorem ynf (s:zae) {k:Nat} (h:gF s k):gF (Snd.settle s) k:=by
 unfold gF at h ⊢;show (s.fates.mapIdx fun id f=>settled s id f)[k]?=_;rw [zy77,h];show some (settled s k 3)=some 3;rw [settled,zy0 (by rintro ⟨h,-⟩;cases h)]
theorem xij (h:GS c L H A s) (hs:SI N s) (hN:N<=500) {ch:Chunk} (ho:zkv c H A (gF s) ch):GS c L H A (zyy s ch)/\∀ k,gF s k->gF (zyy s ch) k:=by
 obtain ⟨n,n1,n2,n3,n4,-,n5⟩:=ho;have hlen:=h.num hs;have hcap:=h.few hs;have hcu:=hs.cum;have hw:=zct hs.cfg;rw [h.cfg] at hcu hw;have hnear:zcy s.cum ch.tag=n:=Rcv.zqx zz0 zz0 zz0 zz0 n3.symm;unfold zyy;by_cases c1:ch.kind≠2
 . rw [zy1 c1];exact ⟨h,fun _ h=>h⟩
 rw [zy0 c1];by_cases c2:zcy s.cum ch.tag<s.cum\/zcy s.cum ch.tag>s.cum+s.out.length
 . rw [zy1 c2];exact ⟨h,fun _ h=>h⟩
 rw [zy0 c2,zlu];have hsi:=zwu hs c2;have hfil:=zpc hs.nums (show s.cum<=zcy s.cum ch.tag by omega);have e1:(Sco.zgj s.out s.cum ch s.paths.length).1=(s.out.drop (n-s.cum).toNat).map fun x=>Sco.age (Sco.zih ch n s.out) (Sco.zbh ch n x):=by
  rw [Sco.zgj,zy0 c2];dsimp only;rw [Sco.left,hfil,zy117,hnear];rfl
 have e2:(Sco.zgj s.out s.cum ch s.paths.length).2.1=n:=by rw [Sco.zgj,zy0 c2];exact hnear
 rw [hnear] at c2;have hst:∀ x:zbq,(Sco.age (Sco.zih ch n s.out) (Sco.zbh ch n x)).id=x.id/\(Sco.age (Sco.zih ch n s.out) (Sco.zbh ch n x)).chunk=x.chunk /\
  ((x.state=4\/x.state=0)->(Sco.age (Sco.zih ch n s.out) (Sco.zbh ch n x)).state=x.state)/\((Sco.age (Sco.zih ch n s.out) (Sco.zbh ch n x)).state=4->x.state=4)/\((Sco.age (Sco.zih ch n s.out) (Sco.zbh ch n x)).state=2->x.state=2\/Sco.here ch n x=true):=by
  intro x;have t:(Sco.zbh ch n x).id=x.id/\(Sco.zbh ch n x).chunk=x.chunk/\((x.state=4\/x.state=0)->(Sco.zbh ch n x).state=x.state)/\((Sco.zbh ch n x).state=4->x.state=4)/\((Sco.zbh ch n x).state=2->x.state=2\/Sco.here ch n x=true):=by
   unfold Sco.zbh;split
   . rename_i c3
     unfold Sco.comes at c3;simp only [zy16,zy79,zy17] at c3;exact ⟨rfl,rfl,fun h=>by omega,fun h=>by (cases h),fun _=>.inr c3.1⟩
   . exact ⟨rfl,rfl,fun _=>rfl,fun h=>h,.inl⟩
  obtain ⟨t1,t2,t3,t4,t5⟩:=t;generalize Sco.zbh ch n x=y at t1 t2 t3 t4 t5;unfold Sco.age;split
  . rename_i c3
    split
    . exact ⟨t1,t2,fun h=>by have:=t3 h;omega,fun h=>by (cases h),fun h=>by (cases h)⟩
    . exact ⟨t1,t2,t3,t4,t5⟩
  . exact ⟨t1,t2,t3,t4,t5⟩
 have hT:GS c L H A (zhl s ch (Sco.zgj s.out s.cum ch s.paths.length)):=by
  have o1:(zhl s ch (Sco.zgj s.out s.cum ch s.paths.length)).out=(s.out.drop (n-s.cum).toNat).map fun x=>Sco.age (Sco.zih ch n s.out) (Sco.zbh ch n x):=e1
  have o2:(zhl s ch (Sco.zgj s.out s.cum ch s.paths.length)).cum=n:=e2;have xdc:∀ k:Nat,(n+1-c.first).toNat+k=(s.cum+1-c.first).toNat+((n-s.cum).toNat+k):=fun k=>by omega
  refine ⟨h.cfg,h.hi,h.len,fun k x hx=>?_,fun x hx hd=>?_,fun x hx h4=>?_,fun k x hx h2=>?_,fun i y hy hle=>?_,h.ids,h.zfr,h.hand,h.handn,h.fresh,h.begun,h.mids,h.midn,h.whole,h.told⟩
  . rw [o1,zy19,zy53] at hx
    rw [o2,xdc];cases hy:s.out[(n-s.cum).toNat+k]? with
    | none=>rw [hy] at hx;cases hx
    | some y =>
     rw [hy] at hx;cases hx;obtain ⟨w,w1,w2,w3⟩:=h.out _ y hy;exact ⟨w,w1,(hst y).1.trans w2,(hst y).2.1.trans w3⟩
  . rw [o1] at hx
    obtain ⟨y,hy,rfl⟩:=zy27.1 hx;rw [(hst y).2.1] at hd;have h5:=h.stop y (zy63 hy) hd;rw [(hst y).2.2.1 h5];exact h5
  . rw [o1] at hx
    obtain ⟨y,hy,rfl⟩:=zy27.1 hx;rw [(hst y).1];exact h.gone y (zy63 hy) ((hst y).2.2.2.1 h4)
  . rw [o1,zy19,zy53] at hx
    rw [o2,xdc];cases hy:s.out[(n-s.cum).toNat+k]? with
    | none=>rw [hy] at hx;cases hx
    | some y =>
     rw [hy] at hx;cases hx;rcases (hst y).2.2.2.2 h2 with h5 | h5
     . exact h.zga _ y hy h5
     . have hnum:=hs.nums _ y hy
       have hk:=zfb hy;unfold Sco.here at h5;rw [zy79,zy34] at h5;rcases h5 with h5 | h5
       . omega
       . rw [zbs (by omega) (by omega)] at h5
         refine n5 _ zz0 ?_;rw [show c.first+(((s.cum+1-c.first).toNat+((n-s.cum).toNat+k):Nat):Int)-n=y.number-n by rw [hnum];omega];exact h5
  . rw [o2] at hle
    exact n4 i y hy hle
 have hU:GS c L H A (zgn s.config.part (zhl s ch (Sco.zgj s.out s.cum ch s.paths.length)) (Sco.zgj s.out s.cum ch s.paths.length).2.2.2):=by
  unfold zgn;split
  . exact hT
  . split
    . exact hT.congr rfl rfl rfl rfl rfl rfl rfl rfl
    . exact hT
 have hUs:=zwv hsi (part:=s.config.part) (L:=(Sco.zgj s.out s.cum ch s.paths.length).2.2.2);have hUf:(zgn s.config.part (zhl s ch (Sco.zgj s.out s.cum ch s.paths.length)) (Sco.zgj s.out s.cum ch s.paths.length).2.2.2).fates=s.fates:=by
  unfold zgn;split
  . rfl
  . split<;>rfl
 generalize zgn s.config.part (zhl s ch (Sco.zgj s.out s.cum ch s.paths.length)) (Sco.zgj s.out s.cum ch s.paths.length).2.2.2=u at hU hUs hUf;generalize decide ((Sco.zgj s.out s.cum ch s.paths.length).2.1>s.cum)=b;have hV:GS c L H A (zfs b u):=by
  unfold zfs;split
  . exact hU.congr rfl rfl rfl rfl rfl rfl rfl rfl
  . exact hU
 have hVf:(zfs b u).fates=u.fates:=by unfold zfs;split<;>rfl
 refine ⟨xap hV (zww hUs),fun k hk=>ynf _ ?_⟩;unfold gF at hk ⊢;rw [hVf,hUf];exact hk
theorem xdu (h:GS c L H A s) (part:Int) (i:Nat):GS c L H A (zhs part s i)/\(zhs part s i).fates=s.fates:=by
 unfold zhs;split
 . exact ⟨h,rfl⟩
 rename_i p hp;split
 . exact ⟨h,rfl⟩
 have g:=h.mapOut (g:=Sco.late i) (fun x=>by unfold Sco.late;split<;>exact ⟨rfl,rfl⟩) (fun x _ _ hx=>by
  unfold Sco.late;split
  . rename_i c1;omega
  . exact hx) (fun x _ hx=>by
  unfold Sco.late at hx;split at hx
  . cases hx
  . exact .inl hx) (fun x _ hx=>by
  unfold Sco.late at hx;split at hx
  . cases hx
  . exact hx)
 dsimp only;split
 . exact ⟨g.congr rfl rfl rfl rfl rfl rfl rfl rfl,rfl⟩
 . exact ⟨g.congr rfl rfl rfl rfl rfl rfl rfl rfl,rfl⟩
theorem yql (part:Int):∀ (l:List Nat) {s:zae},GS c L H A s->GS c L H A (l.foldl (zhs part) s)/\(l.foldl (zhs part) s).fates=s.fates
 | [],_,h=>⟨h,rfl⟩
 | i::l,s,h=>by
  obtain ⟨h1,h2⟩:=xdu h part i;obtain ⟨k1,k2⟩:=yql part l h1;exact ⟨k1,k2.trans h2⟩
theorem xkf (h:GS c L H A s):GS c L H A (tick s)/\(tick s).fates=s.fates :=
 yql _ _ (s:={s with clock:=W (s.clock+1)}) (h.congr rfl rfl rfl rfl rfl rfl rfl rfl)
theorem xjx (h:GS c L H A s) (hs:SI N s) (hk:KI L s) (m:Message):GS c (L++[m]) H A (zgv s m)/\∀ k,gF s k->gF (zgv s m) k:=by
 have hkl:=hk.len;have hmore:∀ {i:Nat} {w:Message},L[i]?=some w->(L++[m])[i]?=some w:=fun h=>zkr h
 have hidl:∀ x∈H,x.id<L.length:=fun x hx=>by obtain ⟨w,w1,-⟩:=h.hi.msg x hx;exact zfb w1
 have hg:∀ k:Nat,s.fates[k]?=some 3->(s.fates++[1])[k]?=some 3:=fun k hk=>zkr hk
 have hg2:∀ (k:Nat) (z:Int),z≠1->(s.fates++[1])[k]?=some z->s.fates[k]?=some z:=fun k z hz hk=>by
  rcases zfw hk with hk | ⟨-,rfl⟩
  . exact hk
  . exact absurd rfl hz
 have hq:∀ q∈(zgv s m).queue,q∈s.queue\/q=⟨s.fates.length,-1,s.clock,0,0,m⟩:=fun q hq=>by
  rcases zy13.1 hq with hq | hq
  . exact .inl hq
  . exact .inr (zy11.1 hq)
 refine ⟨⟨h.cfg,⟨h.hi.tag,fun x hx=>?_,h.hi.mid,h.hi.key,h.hi.order,h.hi.part⟩,h.len,h.out,h.stop,fun x hx h4=>hg _ (h.gone x hx h4),h.zga,fun i y hy hle=>(h.done i y hy hle).imp (fun z=>z) (hg _),fun q hq'=>?_,?_,fun q hq' hh=>?_,?_,fun q hq' hmn=>?_,fun q hq' hmn=>?_,h.mids,h.midn,fun id hid h3=>?_,fun id h2=>h.told id (hg2 id 2 zz4 h2)⟩,hg⟩
 . obtain ⟨w,w1,w2⟩:=h.hi.msg x hx
   exact ⟨w,hmore w1,w2⟩
 . rcases hq q hq' with hq' | rfl
   . exact h.ids q hq'
   . show (0:Int)<=s.fates.length;omega
 . refine zy84.2 ⟨h.zfr,by simp,fun a ha b hb=>?_⟩
   rw [zy11] at hb;subst hb;exact (hs.queue a ha).id1
 . have hh:q.id=s.sched.hand:=hh
   rcases hq q hq' with hq' | rfl
   . exact h.hand q hq' hh
   . have:=h.handn
     have hh:(s.fates.length:Int)=s.sched.hand:=hh;omega
 . have:=h.handn
   show s.sched.hand<((L++[m]).length:Int);rw [zy9];push_cast;omega
 . rcases hq q hq' with hq' | rfl
   . exact h.fresh q hq' hmn
   . refine ⟨rfl,fun y hy _=>?_⟩
     have:=hidl y hy;show (y.id:Int)<s.fates.length;omega
 . rcases hq q hq' with hq' | rfl
   . exact h.begun q hq' hmn
   . have hmn:(0:Int)<=-1:=hmn
     omega
 . rw [zy9,zy55] at hid
   by_cases e:id=L.length
   . exact .inl ⟨⟨s.fates.length,-1,s.clock,0,0,m⟩,List.mem_append_right _ zz5,by show (s.fates.length:Int)=id;omega⟩
   . rcases h.whole id zz0 fun h5=>h3 (hg _ h5) with ⟨q,e1,e2⟩ | e1
     . exact .inl ⟨q,zy69 _ e1,e2⟩
     . right
       intro w hw;rcases zfw hw with hw | ⟨hw,-⟩
       . exact e1 w hw
       . exact absurd hw e
theorem xmd {c:Config} (hw:zjj c=0) (A:Nat->Prop):GS c [] [] A (zoq c):=by
 have h2:=zct hw;refine ⟨rfl,⟨by simp,by simp,by simp,by simp,by simp,by simp⟩,by show c.first+((([]:List Prt).length:Nat):Int)=c.first;simp,by simp [zoq],by simp [zoq],by simp [zoq],by simp [zoq],by simp,by simp [zoq],by simp [zoq],by simp [zoq],by show (-1:Int)<_;simp,by simp [zoq],by simp [zoq],by simp,fun n hn=>?_,by simp,by simp [zoq]⟩;have:n=0:=zy61 hn;subst this;simp
end
end Gh
namespace Gh
open Ser Srt Jn Rcv
def yvu (L:List Message) (H:List Prt) (id:Nat) (a:zbk):Prop:=∃ m,L[id]?=some m/\a.stream=m.stream/\a.ordered=m.ordered/\a.data=m.data/\∃ y∈H,y.id=id
structure GR (c:Config) (L:List Message) (H:List Prt) (A F:Nat->Prop) (D:List Nat) (r:Receiver):Prop where
 lo:c.first-1<=r.cum
 hi:r.cum<c.first+H.length
 zfr:Ser.zfr r.zar
 zet:∀ s∈r.zar,r.cum+1<s.lo
 spanh:∀ s∈r.zar,s.hi<c.first+H.length
 span:∀ i:Nat,has r.zar (c.first+i)=true->A i
 cum:∀ (i:Nat) y,H[i]?=some y->c.first+i<=r.cum->A i\/F y.id
 acc:∀ i:Nat,A i->i<H.length/\(c.first+i<=r.cum\/has r.zar (c.first+i)=true)
 pieces:∀ p∈r.pieces,∃ (i:Nat) (y:Prt),H[i]?=some y/\p.number=c.first+i/\p.chunk=y.chunk/\y.chunk.data≠[]/\A i/\y.id∉D
 apart:r.pieces.Pairwise fun p q=>p.number≠q.number
 kept:∀ (i:Nat) y,H[i]?=some y->A i->(∃ p∈r.pieces,p.number=c.first+i)\/y.id∈D\/F y.id
 logl:D.length=r.log.length
 log:∀ (k:Nat) id a,D[k]?=some id->r.log[k]?=some a->yvu L H id a
 once:D.Nodup
 dall:∀ id∈D,Whole c L H id/\∀ (i:Nat) y,H[i]?=some y->y.id=id->y.chunk.data≠[]->A i
 streams:(r.zbh.length:Int)=c.streams
 turn0:∀ t∈r.zbh,0<=t
 zbh:∀ (k:Nat) t,r.zbh[k]?=some t->t=0\/∃ y∈H,y.chunk.stream=k/\y.chunk.ordered=true/\t<=y.chunk.mid+1
 past:∀ (k:Nat) t,r.zbh[k]?=some t->∀ y∈H,y.chunk.stream=k->y.chunk.ordered=true->y.chunk.mid<t->y.id∈D\/F y.id
 dturn:∀ (k:Nat) t,r.zbh[k]?=some t->∀ y∈H,y.id∈D->y.chunk.stream=k->y.chunk.ordered=true->y.chunk.mid<t
 dord:D.Pairwise fun a b=>∀ x∈H,∀ y∈H,x.id=a->y.id=b->Cls x.chunk y.chunk->x.chunk.ordered=true->a<b
section
variable {c:Config} {L:List Message} {H:List Prt} {A F:Nat->Prop} {D:List Nat} {r:Receiver}
theorem yvu.more {E:List Prt} {M:List Message} {id:Nat} {a:zbk} (h:yvu L H id a):yvu (L++M) (H++E) id a:=by
 obtain ⟨m,h1,h2,h3,h4,y,h5,h6⟩:=h;exact ⟨m,zkr h1,h2,h3,h4,y,zy69 _ h5,h6⟩
theorem GR.goneMore {G:Nat->Prop} (h:GR c L H A F D r) (hF:∀ k,F k->G k):GR c L H A G D r :=
 ⟨h.lo,h.hi,h.zfr,h.zet,h.spanh,h.span,fun i y h1 h2=>(h.cum i y h1 h2).imp id (hF _),h.acc,h.pieces,h.apart,fun i y h1 h2=>(h.kept i y h1 h2).imp id (Or.imp id (hF _)),h.logl,h.log,h.once,h.dall,h.streams,h.turn0,h.zbh,fun k t h1 y h2 h3 h4 h5=>(h.past k t h1 y h2 h3 h4 h5).imp id (hF _),h.dturn,h.dord⟩
theorem Whole.lmore {M:List Message} {id:Nat} (h:Whole c L H id) (hid:id<L.length):Whole c (L++M) H id:=fun m hm=>h m (by rwa [zy30 hid] at hm)
theorem GR.lMore (h:GR c L H A F D r) (m:Message):GR c (L++[m]) H A F D r:=by
 have hl:∀ id∈D,id<L.length:=fun id hid=>by
  obtain ⟨k,hk⟩:=zy58 hid;obtain ⟨w,w1,-⟩:=h.log k id (r.log[k]'(by rw [<- h.logl];exact zfb hk)) hk (zy2 _);exact zfb w1
 exact ⟨h.lo,h.hi,h.zfr,h.zet,h.spanh,h.span,h.cum,h.acc,h.pieces,h.apart,h.kept,h.logl,fun k id a h1 h2=>by have:=(h.log k id a h1 h2).more (E:=[]) (M:=[m]);rwa [zy4] at this,h.once,fun id hid=>⟨(h.dall id hid).1.lmore (hl id hid),(h.dall id hid).2⟩,h.streams,h.turn0,h.zbh,h.past,h.dturn,h.dord⟩
theorem GR.ext (h:GR c L H A F D r) {E:List Prt} (hn:HI c L (H++E)):GR c L (H++E) A F D r:=by
 have hold:∀ {i:Nat} {y:Prt},(H++E)[i]?=some y->i<H.length->H[i]?=some y:=fun h1 h2=>ylc h1 h2
 have hmem:∀ {y:Prt},y∈H->y∈H++E:=fun h=>zy69 _ h
 have hlen:((H++E).length:Int)=H.length+E.length:=by rw [zy9];push_cast;rfl
 have hdid:∀ id∈D,∃ y∈H,y.id=id:=fun id hid=>by
  obtain ⟨k,hk⟩:=zy58 hid;obtain ⟨-,-,-,-,-,y,y1,y2⟩:=h.log k id (r.log[k]'(by rw [<- h.logl];exact zfb hk)) hk (zy2 _);exact ⟨y,y1,y2⟩
 have hrep:∀ y∈H++E,∀ y1∈H,Cls y.chunk y1.chunk->y.chunk.mid<=y1.chunk.mid->∃ z∈H,z.id=y.id/\z.chunk.mid=y.chunk.mid/\Cls z.chunk y.chunk:=by
  intro y hy y1 hy1 hc hle;rcases zy13.1 hy with h2 | h2
  . exact ⟨y,h2,rfl,rfl,⟨rfl,rfl⟩⟩
  . obtain ⟨j,hj⟩:=zy58 h2
    obtain ⟨i,hi⟩:=zy58 hy1;have k1:=hn.order i (H.length+j) y1 y (by have:=zfb hi;omega) (zkr hi) (by rw [zy37 (by omega),zy154];exact hj) hc.symm;have k2:=hn.key y1 (hmem hy1) y hy hc.symm;have k3:=(hn.same hy (hmem hy1) hc).1;have e:y.id=y1.id:=by omega
    exact ⟨y1,hy1,e.symm,(k3 e).symm,hc.symm⟩
 refine ⟨h.lo,by have:=h.hi;omega,h.zfr,h.zet,fun s hs=>by have:=h.spanh s hs;omega,h.span,fun i y hy hle=>h.cum i y (hold hy (by have:=h.hi;omega)) hle,fun i hi=>⟨by have:=(h.acc i hi).1;rw [zy9];omega,(h.acc i hi).2⟩,fun p hp=>?_,h.apart,fun i y hy hA=>h.kept i y (hold hy (h.acc i hA).1) hA,h.logl,fun k id a h1 h2=>?_,h.once,fun id hid=>⟨(h.dall id hid).1.more,fun i y hy he hd=>?_⟩,h.streams,h.turn0,fun k t hk=>?_,fun k t hk y hy h1 h2 h3=>?_,fun k t hk y hy hd h1 h2=>?_,?_⟩
 . obtain ⟨i,y,p1,p2⟩:=h.pieces p hp
   exact ⟨i,y,zkr p1,p2⟩
 . have:=(h.log k id a h1 h2).more (E:=E) (M:=[])
   rwa [zy4] at this
 . obtain ⟨w1,w2⟩:=h.dall id hid
   rcases zy67 i H.length with hl | hl
   . exact w2 i y (hold hy hl) he hd
   . exfalso
     obtain ⟨m,m1,-,-,m2⟩:=hn.msg y (zy7 hy);have mp:=m2 hd;rw [he] at m1;obtain ⟨z,z1,z2,z3,-⟩:=w1 m m1 y.chunk.part.toNat (by have:=mp.part0;have:=mp.inn;rw [Int.toNat_of_nonneg mp.part0];exact mp.inn);obtain ⟨j,hj⟩:=zy58 z1;have:=hn.at (zkr hj) hy zz0 (by have:=mp.part0;omega);have:=zfb hj;omega
 . rcases h.zbh k t hk with h1 | ⟨y,y1,y2⟩
   . exact .inl h1
   . exact .inr ⟨y,hmem y1,y2⟩
 . rcases h.zbh k t hk with h4 | ⟨y1,q1,q2,q3,q4⟩
   . have:=hn.mid y hy;omega
   . obtain ⟨z,z1,z2,z3,z4⟩:=hrep y hy y1 q1 ⟨h1.trans q2.symm,h2.trans q3.symm⟩ zz0
     rw [<- z2];exact h.past k t hk z z1 (z4.1.trans h1) (z4.2.trans h2) zz0
 . obtain ⟨z,z1,z2⟩:=hdid y.id hd
   have zc:=hn.cls (hmem z1) hy z2;have zm:=(hn.same (hmem z1) hy zc).1 z2;rw [<- zm];exact h.dturn k t hk z z1 (by rw [z2];exact hd) (zc.1.trans h1) (zc.2.trans h2)
 . refine h.dord.imp_of_mem fun {a b} ha hb hab x hx y hy hxa hyb hc ho=>?_
   obtain ⟨x',x1,x2⟩:=hdid a ha;obtain ⟨y',y1,y2⟩:=hdid b hb;have xc:=hn.cls (hmem x1) hx (x2.trans hxa.symm);have yc:=hn.cls (hmem y1) hy (y2.trans hyb.symm);exact hab x' x1 y' y1 x2 y2 (xc.trans (hc.trans yc.symm)) (xc.2.trans ho)
theorem GR.turnB (h:GR c L H A F D r) (hi:HI c L H) {k:Nat} {t:Int} (hk:r.zbh[k]?=some t):0<=t/\t<=H.length:=by
 refine ⟨h.turn0 t (zy7 hk),?_⟩;rcases h.zbh k t hk with h1 | ⟨y,y1,-,-,y2⟩
 . omega
 . have:=hi.mid y y1;omega
structure Dlv (c:Config) (L:List Message) (H:List Prt) (A:Nat->Prop) (D:List Nat) (r:Receiver) (s m:Int) (o:Bool) (b:List UInt8) (id:Nat) (w:Message):Prop where
 msg:L[id]?=some w
 new:id∉D
 stream:w.stream=s
 ord:w.ordered=o
 data:b=w.data
 one:∃ y∈H,y.id=id
 zei:∀ y∈H,y.id=id↔(y.chunk.stream=s/\y.chunk.ordered=o/\y.chunk.mid=m)
 whole:Whole c L H id
 all:∀ (i:Nat) y,H[i]?=some y->y.id=id->y.chunk.data≠[]->A i
theorem zlx {s m:Int} {o:Bool} {p:zav}:zei s m o p=true↔p.chunk.stream=s/\p.chunk.ordered=o/\p.chunk.mid=m:=by
 unfold zei;simp only [zy16,zy34,zy17];exact ⟨fun h=>⟨h.1.1,h.2,h.1.2⟩,fun h=>⟨⟨h.1,h.2.2⟩,h.2.1⟩⟩
theorem yon (h:GR c L H A F D r) (hi:HI c L H) (hP:1<=c.part) {s m:Int} {o:Bool} {b:List UInt8} (hj:join (r.pieces.filter (zei s m o))=some b):∃ id w,Dlv c L H A D r s m o b id w:=by
 have hmul:∀ {a b:Int},a<=b->a*c.part<=b*c.part:=fun hab=>zy111 hab zz0
 obtain ⟨p0,hp0⟩:∃ p,p∈r.pieces.filter (zei s m o):=List.exists_mem_of_length_pos (ydl hj);obtain ⟨g1,g2⟩:=zy56.1 hp0;obtain ⟨k1,k2,k3⟩:=zlx.1 g2;obtain ⟨i0,y0,q1,q2,q3,q4,q5,q6⟩:=h.pieces p0 g1;rw [q3] at k1 k2 k3;have hy0:=zy7 q1;obtain ⟨w,w1,w2,w3,w4⟩:=hi.msg y0 hy0;have hsame:∀ y∈H,y.id=y0.id↔(y.chunk.stream=s/\y.chunk.ordered=o/\y.chunk.mid=m):=by
  intro y hy
  constructor
  . intro e
    have hc:=hi.cls hy hy0 e;exact ⟨hc.1.trans k1,hc.2.trans k2,((hi.same hy hy0 hc).1 e).trans k3⟩
  . rintro ⟨e1,e2,e3⟩
    have hc:Cls y.chunk y0.chunk:=⟨e1.trans k1.symm,e2.trans k2.symm⟩
    exact (hi.same hy hy0 hc).2 (e3.trans k3.symm)
 have hpart:∀ p∈r.pieces.filter (zei s m o),∃ (i:Nat) (y:Prt),H[i]?=some y/\y.id=y0.id/\p.chunk=y.chunk/\A i/\y.chunk.data≠[]/\ztt c.part w p.chunk:=by
  intro p hp;obtain ⟨g3,g4⟩:=zy56.1 hp;obtain ⟨i,y,z1,z2,z3,z4,z5,z6⟩:=h.pieces p g3;have hy:=zy7 z1;have e:y.id=y0.id:=(hsame y hy).2 (by rw [<- z3];exact zlx.1 g4);obtain ⟨v,v1,v2,v3,v4⟩:=hi.msg y hy;rw [e,w1] at v1;cases v1;exact ⟨i,y,z1,e,z3,z5,z4,by rw [z3];exact v4 z4⟩
 have hbd:(w.data.length:Int)<=(r.pieces.filter (zei s m o)).length*c.part:=by
  have hl:=ydl hj;obtain ⟨p,hp,e1,e2⟩:=zsm hj ((r.pieces.filter (zei s m o)).length-1) zz0;obtain ⟨-,-,-,-,-,-,-,hpo⟩:=hpart p hp;have hl2:=hpo.last;rw [e2,e1,zy12 (by omega)] at hl2;have hl3:=zy29 hl2.symm;have e3:(((r.pieces.filter (zei s m o)).length:Nat):Int)*c.part=(((r.pieces.filter (zei s m o)).length-1:Nat):Int)*c.part+c.part:=by
   have:(((r.pieces.filter (zei s m o)).length:Nat):Int)=(((r.pieces.filter (zei s m o)).length-1:Nat):Int)+1:=by omega
   rw [this,Int.add_mul,Int.one_mul]
  omega
 have hlt:∀ j:Nat,(j:Int)*c.part<w.data.length->j<(r.pieces.filter (zei s m o)).length:=by
  intro j hj2;apply Classical.byContradiction;intro hc;have:=hmul (show (((r.pieces.filter (zei s m o)).length:Nat):Int)<=j by omega);omega
 refine ⟨y0.id,w,w1,q6,w2.symm.trans k1,w3.symm.trans k2,xdq hP hj fun p hp=>by obtain ⟨-,-,-,-,-,-,-,hpo⟩:=hpart p hp;exact hpo,⟨y0,hy0,rfl⟩,hsame,fun v hv j hjp=>?_,fun i y hy he hd=>?_⟩
 . rw [w1] at hv
   cases hv;obtain ⟨p,hp,e1,-⟩:=zsm hj j (hlt j hjp);obtain ⟨i,y,z1,z2,z3,z4,z5,-⟩:=hpart p hp;exact ⟨y,zy7 z1,z2,by rw [<- z3];exact e1,z5⟩
 . obtain ⟨v,v1,v2,v3,v4⟩:=hi.msg y (zy7 hy)
   rw [he,w1] at v1;cases v1;have hpo:=v4 hd;have p0:=hpo.part0;obtain ⟨p,hp,e1,-⟩:=zsm hj y.chunk.part.toNat (hlt _ (by rw [Int.toNat_of_nonneg p0];exact hpo.inn));obtain ⟨i',y',z1,z2,z3,z4,z5,-⟩:=hpart p hp;have:=hi.at hy z1 (he.trans z2.symm) (by rw [<- z3,e1];omega);rw [this];exact z4
theorem ygd (h:GR c L H A F D r) {s m:Int} {o:Bool} {b:List UInt8} {id:Nat} {w:Message} (hd:Dlv c L H A D r s m o b id w) :
 (∀ p∈r.pieces.filter (fun p=>!zei s m o p),∃ (i:Nat) (y:Prt),H[i]?=some y/\p.number=c.first+i/\p.chunk=y.chunk/\y.chunk.data≠[]/\A i/\y.id∉D++[id]) /\
 (∀ (i:Nat) y,H[i]?=some y->A i->(∃ p∈r.pieces.filter (fun p=>!zei s m o p),p.number=c.first+i)\/y.id∈D++[id]\/F y.id) /\
 (∀ (k:Nat) id' a,(D++[id])[k]?=some id'->(r.log++[(⟨s,m,o,b⟩:zbk)])[k]?=some a->yvu L H id' a)/\(D++[id]).Nodup /\
 (∀ id'∈D++[id],Whole c L H id'/\∀ (i:Nat) y,H[i]?=some y->y.id=id'->y.chunk.data≠[]->A i):=by
 refine ⟨fun p hp=>?_,fun i y hy hA=>?_,fun k id' a h1 h2=>?_,?_,fun id' hid=>?_⟩
 . obtain ⟨g1,g2⟩:=zy56.1 hp
   obtain ⟨i,y,z1,z2,z3,z4,z5,z6⟩:=h.pieces p g1;refine ⟨i,y,z1,z2,z3,z4,z5,fun hin=>?_⟩;rcases zy13.1 hin with hin | hin
   . exact z6 hin
   . rw [zy11] at hin
     have:=(hd.zei y (zy7 z1)).1 hin;rw [<- z3] at this;rw [zlx.2 this] at g2;cases g2
 . rcases h.kept i y hy hA with ⟨p,p1,p2⟩ | h1 | h1
   . by_cases hm:zei s m o p=true
     . obtain ⟨i',y',z1,z2,z3,z4,z5,z6⟩:=h.pieces p p1
       have:i'=i:=by omega
       subst this;rw [hy] at z1;cases z1
       right;left
       rw [(hd.zei y (zy7 hy)).2 (by rw [<- z3];exact zlx.1 hm)];simp
     . exact .inl ⟨p,zy56.2 ⟨p1,by simp at hm;simp [hm]⟩,p2⟩
   . exact .inr (.inl (zy69 _ h1))
   . exact .inr (.inr h1)
 . rcases zfw h1 with h1 | ⟨rfl,rfl⟩
   . rw [zy30 (by rw [<- h.logl];exact zfb h1)] at h2
     exact h.log k id' a h1 h2
   . rw [h.logl,zy37 (zy28 _),zy91] at h2
     cases h2;exact ⟨w,hd.msg,hd.stream.symm,hd.ord.symm,hd.data,hd.one⟩
 . rw [zy155]
   exact ⟨h.once,by simp,fun a ha b hb=>by rw [zy11] at hb;subst hb;exact fun e=>hd.new (e ▸ ha)⟩
 . rcases zy13.1 hid with hid | hid
   . exact h.dall id' hid
   . rw [zy11] at hid;subst hid;exact ⟨hd.whole,hd.all⟩
theorem zwk (r:Receiver) (s m:Int) (o:Bool) (hj:join (r.pieces.filter (zei s m o))=none):dlv r s m o=(r,false):=by unfold dlv;rw [hj]
theorem ycm (r:Receiver) (s m:Int) (o:Bool) {b:List UInt8} (hj:join (r.pieces.filter (zei s m o))=some b):dlv r s m o=({zoo r s m o with log:=r.log++[⟨s,m,o,b⟩]},true):=by unfold dlv;rw [hj]
theorem xlk (h:GR c L H A F D r) (hi:HI c L H) (hP:1<=c.part) (s m:Int):∃ D',GR c L H A F D' (dlv r s m false).1:=by
 cases hj:join (r.pieces.filter (zei s m false)) with
 | none=>rw [zwk r s m false hj];exact ⟨D,h⟩
 | some b =>
  rw [ycm r s m false hj];obtain ⟨id,w,hd⟩:=yon h hi hP hj;obtain ⟨a1,a2,a3,a4,a5⟩:=ygd h hd;refine ⟨D++[id],h.lo,h.hi,h.zfr,h.zet,h.spanh,h.span,h.cum,h.acc,a1,h.apart.filter _,a2,by show (D++[id]).length=(r.log++[_]).length;simp [h.logl],a3,a4,a5,h.streams,h.turn0,h.zbh,fun k t hk y hy h1 h2 h3=>(h.past k t hk y hy h1 h2 h3).imp (zy69 _) (fun z=>z),fun k t hk y hy hy2 h1 h2=>?_,?_⟩
  . rcases zy13.1 hy2 with hy2 | hy2
    . exact h.dturn k t hk y hy hy2 h1 h2
    . rw [zy11] at hy2
      have:=((hd.zei y hy).1 hy2).2.1;rw [h2] at this;cases this
  . refine zy84.2 ⟨h.dord,by simp,fun a ha b' hb x hx y hy hxa hyb hc ho=>?_⟩
    rw [zy11] at hb;subst hb;have:=((hd.zei y hy).1 hyb).2.1;rw [<- hc.2,ho] at this;cases this
theorem zkl {l:List Int} {k:Nat} {t:Int} (hk:l[k]?=some t) {j:Nat} {u:Int} (hu:(l.set k (l[k]?.getD 0+1))[j]?=some u):(j=k/\u=t+1)\/(j≠k/\l[j]?=some u):=by
 by_cases e:k=j
 . subst e
   rw [zy23 (zfb hk),hk] at hu;cases hu;exact .inl ⟨rfl,rfl⟩
 . rw [zy50 e] at hu;exact .inr ⟨fun h=>e h.symm,hu⟩
theorem xgd (h:GR c L H A F D r) (hi:HI c L H) (hP:1<=c.part) (hs:H.length<=30500) {k:Nat} {t:Int} (hk:r.zbh[k]?=some t) (hok:(dlv r k (tag t) true).2=true):∃ D',GR c L H A F D' (zzc (dlv r k (tag t) true).1 k):=by
 obtain ⟨t0,t1⟩:=h.turnB hi hk;have htag:tag t=t:=by unfold tag;omega
 rw [htag] at hok ⊢;cases hj:join (r.pieces.filter (zei k t true)) with
 | none=>rw [zwk r k t true hj] at hok;cases hok
 | some b =>
  rw [ycm r k t true hj];obtain ⟨id,w,hd⟩:=yon h hi hP hj;obtain ⟨a1,a2,a3,a4,a5⟩:=ygd h hd;obtain ⟨y0,y1,y2⟩:=hd.one;obtain ⟨m1,m2,m3⟩:=(hd.zei y0 y1).1 y2;refine ⟨D++[id],h.lo,h.hi,h.zfr,h.zet,h.spanh,h.span,h.cum,h.acc,a1,h.apart.filter _,a2,by show (D++[id]).length=(r.log++[_]).length;simp [h.logl],a3,a4,a5,by show ((r.zbh.set _ _).length:Int)=_;rw [zy25];exact h.streams,fun u hu=>?_,fun j u hu=>?_,fun j u hu y hy h1 h2 h3=>?_,fun j u hu y hy hy2 h1 h2=>?_,?_⟩
  . obtain ⟨j,hj2⟩:=zy58 hu
    rcases zkl hk hj2 with ⟨-,rfl⟩ | ⟨-,hu⟩
    . omega
    . exact h.turn0 u (zy7 hu)
  . rcases zkl hk hu with ⟨rfl,rfl⟩ | ⟨-,hu⟩
    . exact .inr ⟨y0,y1,m1,m2,by omega⟩
    . exact h.zbh j u hu
  . rcases zkl hk hu with ⟨rfl,rfl⟩ | ⟨-,hu⟩
    . by_cases e:y.chunk.mid=t
      . left;rw [(hd.zei y hy).2 ⟨h1,h2,e⟩];simp
      . exact (h.past j t hk y hy h1 h2 zz0).imp (zy69 _) (fun z=>z)
    . exact (h.past j u hu y hy h1 h2 h3).imp (zy69 _) (fun z=>z)
  . rcases zkl hk hu with ⟨rfl,rfl⟩ | ⟨hne,hu⟩
    . rcases zy13.1 hy2 with hy2 | hy2
      . have:=h.dturn j t hk y hy hy2 h1 h2;omega
      . rw [zy11] at hy2
        have:=((hd.zei y hy).1 hy2).2.2;omega
    . rcases zy13.1 hy2 with hy2 | hy2
      . exact h.dturn j u hu y hy hy2 h1 h2
      . rw [zy11] at hy2
        have:=((hd.zei y hy).1 hy2).1;omega
  . refine zy84.2 ⟨h.dord,by simp,fun a ha b' hb x hx y hy hxa hyb hc ho=>?_⟩
    rw [zy11] at hb;subst hb;obtain ⟨e1,e2,e3⟩:=(hd.zei y hy).1 hyb;have e4:=h.dturn k t hk x hx (by rw [hxa];exact ha) (hc.1.trans e1) ho;rw [<- hxa,<- hyb];exact (hi.key x hx y hy hc).2 zz0
theorem zyq (hi:HI c L H) (hP:1<=c.part) (hs:H.length<=30500) (k:Nat):∀ (n:Nat) {D:List Nat} {r:Receiver},GR c L H A F D r->k<r.zbh.length->∃ D',GR c L H A F D' (zru n r k)
 | 0,D,r,h,_=>⟨D,h⟩
 | n+1,D,r,h,hk=>by
  obtain ⟨t,ht⟩:∃ t,r.zbh[k]?=some t:=⟨_,zy2 hk⟩
  rw [zru];rw [show r.zbh[k]?.getD 0=t by rw [ht];rfl];have hlen:=(zid r k (tag t) true).1;by_cases hok:(dlv r k (tag t) true).2=true
  . rw [zy1 hok]
    obtain ⟨D',h'⟩:=xgd h hi hP hs ht hok;exact zyq hi hP hs k n h' (by show k<(List.set _ _ _).length;rw [zy25,hlen];exact hk)
  . rw [zy0 hok]
    have:(dlv r k (tag t) true).1=r:=by
     cases hj:join (r.pieces.filter (zei k (tag t) true)) with
     | none=>rw [zwk r k (tag t) true hj]
     | some b=>rw [ycm r k (tag t) true hj] at hok;exact absurd rfl hok
    rw [this];exact ⟨D,h⟩
end
end Gh
end Go.HL
