/- Walks, contracts and laws of the law's functions: part 6. No condition. -/
import Derived.Test.YticmofoeecjnhaaGreatQEe
open Go.Proofs
set_option maxHeartbeats 32000000
set_option maxRecDepth 100000
set_option linter.unusedSimpArgs false
theorem yy30 {P:Prop} (h:P:=by
 (try refine sG ?_)
 refine zaa (c:=(((A.mapIdx fun id f=>settled V id f).map fun n:Int=>[pi n]).length+1)*8<=140737488355328) zz71 (zw ?_);refine sF ?_;refine hQ _ _ ?_;conv=>whnf
 exact ⟨⟨(A++[f],B),zag h⟩,(zaz [(2,some 2),(3,some 3),(4,some 4),(900,some 210)] zz37),by simp⟩):P:=h
theorem yy52 {P:Prop} (h:P:=by
 refine zaa (c:=(((A.mapIdx fun i p=>if K3[i]?.getD 0>0 then Paths.zjw p (K3[i]?.getD 0) s.config.part (decide (K2>s.cum)) else p).map Path.row).length+1)*56<=140737488355328) zz71 (zw ?_);refine sF ?_;refine hQ _ _ ?_;conv=>whnf
 exact ⟨⟨(A++[p],B),zag h⟩,(zaz [(2,some 2),(3,some 3),(4,some 4),(900,some 100)] zz84),by simp⟩):P:=h
theorem yy122 {P:Prop} (h:P:=by
 refine sF ?_;refine hQ3 _ _ (zw ?_);exact ⟨⟨(a'++[x],b),zag h2'⟩,(zaz [(2,some 2),(3,some 3),(4,some 4),(900,some 900)] zz59),by simp⟩):P:=h
theorem yy16 {P:Prop} (h:P:=by
 refine zaa (c:=(((A.map (zfv ps Z)).map Path.row).length+1)*56<=140737488355328) zz74 (zw ?_);refine sF ?_;refine hQ _ _ ?_;conv=>whnf
 exact ⟨⟨(A++[x],B),zag h⟩,(zaz [(1,some 1),(2,some 2),(96,some 96),(900,some 900),(901,some 901),(910,some 279)] zz12),by simp⟩):P:=h
theorem yy35 {P:Prop} (h:P:=by
 rw [zy0 e,zy57] at i1;refine zab (zy5.2 e) (zw ?_)
 (try refine sG ?_)
 have hr2:r=(zca E.config.packet (z::L)).toNat:=by rw [r1,zy22]
 refine zaa zz6 (zw ?_);refine zfh (l:=z::L) zz21 ?_;(conv=>whnf);refine hQ2 _ _ (zw ?_);exact ⟨⟨(n,(z::L).drop r,acc),i1,by dsimp only;rw [zy38];omega,fun x hx=>i3 x (zy64 hx),by dsimp only;rw [zy38];simp only [zy8,zy6,zy12] at i4 ⊢;omega⟩,(zaz [(1,some 1),(2,some 2),(96,some 96),(920,some 920)] zz55),by dsimp only;rw [zy38];omega⟩):P:=h
theorem yy49 {P:Prop} (h:P:=by
 obtain ⟨rf,g1,g2,-⟩:=Pck.yja (z::L) E.config.packet;by_cases e:Pck.zfq E.config.packet 0 0 (z::L)=0
 case pos =>
  refine zac (zy15.2 e) (zw ?_);exact ⟨⟨⟩,(zaz [(1,some 1),(2,some 2),(96,some 96),(920,some 920)] zz66)⟩
 case neg =>
  refine zab (zy5.2 e) (zw ?_);exact ⟨⟨⟩,(zaz [(1,some 1),(2,some 2),(96,some 96),(920,some 920)] zz65)⟩):P:=h
theorem yy50 {P:Prop} (h:P:=by
 exact ⟨⟨((A++[x],B),u),zag k1,zcq,k3,k4⟩,(zbi [(1,some 1),(2,some 2)]),by simp⟩):P:=h
theorem yy60 {P:Prop} (h:P:=by
 (try refine sG ?_)
 refine sF ?_;refine hQ _ _ ?_;conv=>whnf
 exact ⟨⟨(i+1,⟨ps,[a,c]⟩),by dsimp only;omega,hst,k3,rfl,k5,k6,by show a.length<=_;dsimp only;omega,by show c.length<=_;dsimp only;omega,k9⟩,(zbi [(1,some 1),(2,some 2),(96,some 96),(900,some 900),(901,some 901)]),by dsimp only;omega⟩):P:=h
theorem yy29 {P:Prop} (h:P:=by
 obtain ⟨PS,PK⟩:=PP;dsimp only at hT pp pu;subst hT
 (try refine sG ?_)
 (refine cP ?_;refine dL pp ?_)
 (refine cP ?_;refine dL pu ?_)
 refine sD ?_
 try rfl):P:=h
theorem yy98 {P:Prop} (h:P:=by
 rw [hp] at hT;dsimp only at hT;subst hT;have hge:=zy86.1 hp;refine zac (zy10 zz6) (zw ?_)
 try rfl):P:=h
namespace Go.HL
namespace Snd
open Ser
abbrev hrS (c:Chunk) (V:zah):List (Nat×zai):=[(2,scS V),(3,.live (.cells 61 c.cells)),(4,sc0)]
theorem yqx {N:Nat} (s:zah) (c:Chunk) (hS:SI N s) (hsp:c.zas.length<2 ^ 60):zan Tryz.prog 35 [s.hv,c.hv] zad (yjo s c).hv zad:=by
 have hr:=hS.right;have hs':=hS.fit;obtain ⟨h1,h2,h3,h4,h5,h6,h7⟩:=hs';obtain ⟨q1,q2⟩:-(2 ^ 40)<=s.cum/\s.cum<=2 ^ 40:=by
  have:=hS.cum;have:=hS.nextle;have:=hS.next;have:=hS.few;have:=(zde hS.cfg);omega
 generalize hT:yjo s c=T;have pnr:=zkm s.cum c.tag q1 q2;have hol:=h3.len;refine zal mixed Tryz.func35 zz4 ?_;by_cases c1:c.kind=2
 case neg =>
  rw [yjo,zy1 c1] at hT;subst hT;(conv=>whnf);refine zac zz39 ?_;conv=>whnf
  try rfl
 rw [yjo,zy0 (fun h=>h c1)] at hT;by_cases k1:zdd s.cum c.tag<s.cum
 case pos =>
  rw [zy1 (.inl k1)] at hT;subst hT;generalize zdd s.cum c.tag=nr at pnr k1;(conv=>whnf);refine zab zz39 (zw ?_)
  (try refine sG ?_)
  (refine cL ?_;refine dL pnr ?_)
  refine zac (zy10 k1) (zw ?_)
  try rfl
 by_cases k2:zdd s.cum c.tag>s.cum+s.out.length
 case pos =>
  rw [zy1 (.inr k2)] at hT;subst hT;generalize zdd s.cum c.tag=nr at pnr k1 k2;(conv=>whnf);refine zab zz39 (zw ?_)
  (try refine sG ?_)
  (refine cL ?_;refine dL pnr ?_)
  refine zab (zy11 k1) (zw ?_);refine sF ?_;refine zac (by rw [zy2];exact zy10 k2) (zw ?_)
  try rfl
 rw [zy0 (fun h=>h.elim k1 k2),ztu] at hT;have kk:¬ (zdd s.cum c.tag<s.cum\/zdd s.cum c.tag>s.cum+s.out.length):=fun h=>h.elim k1 k2
 have hks:=zsz h3 s.cum c s.paths.length;have hlo:(Sco.zix s.out s.cum c s.paths.length).2.2.2.length<=s.out.length:=by
  rw [Sco.zix,zy0 kk];dsimp only;rw [Sco.lost,zy2];refine zy94 (zy30 _ _) ?_;rw [Sco.left,zy2];exact zy30 _ _
 have hcl:(Sco.zix s.out s.cum c s.paths.length).2.2.1.length=s.paths.length:=by
  rw [Sco.zix,zy0 kk];simp only [Sco.zmx];rfl
 have hU:=fun t (h:SI N t)=>yev (N:=N) (s:=t) h (part:=s.config.part) (L:=(Sco.zix s.out s.cum c s.paths.length).2.2.2)
 have hTS:=yeu hS kk;have hk:zan Tryz.prog 84 [Sco.zdy s.out,i64 s.cum,c.hv,i64 ((s.paths.map Path.row).length:Nat)] zad (.tup [Sco.zdy (Sco.zix s.out s.cum c s.paths.length).1,i64 (Sco.zix s.out s.cum c s.paths.length).2.1,ints (Sco.zix s.out s.cum c s.paths.length).2.2.1,ints (Sco.zix s.out s.cum c s.paths.length).2.2.2]) zad:=by
  rw [zy2];exact Sco.yre s.out s.cum c s.paths.length h3 hr hsp
 generalize Sco.zix s.out s.cum c s.paths.length=K at hk hT hks hlo hcl hU hTS;obtain ⟨K1,K2,K3,K4⟩:=K;dsimp only at hk hT hks hlo hcl hU hTS;clear kk;generalize zdd s.cum c.tag=nr at pnr k1 k2;(conv=>whnf);refine zab zz39 (zw ?_)
 (try refine sG ?_)
 (refine cL ?_;refine dL pnr ?_)
 refine zab (zy11 k1) (zw ?_);refine sF ?_;refine zab (by rw [zy2];exact zy11 k2) (zw ?_)
 (try refine sG ?_)
 (refine cP ?_;refine dL hk ?_)
 refine sD ?_;refine ⟨{x:List Path×List Path // s.paths=x.1++x.2},fun | ⟨(A,B),_⟩=>hs 215 [(2,.ptr 2 0),(3,.ptr 3 0),(4,.ptr 4 0),(6,i64 s.cum),(8,i64 K2),(9,ints K3),(10,ints K4),(11,.own 900),(73,zov s.paths),(74,i64 s.paths.length),(75,i64 A.length)] ((900,yxv (A.mapIdx fun i p=>if K3[i]?.getD 0>0 then Paths.zjw p (K3[i]?.getD 0) s.config.part (decide (K2>s.cum)) else p))::hrS c {s with out:=K1,cum:=K2,room:=c.room}),fun x=>x.1.2.length,⟨([],s.paths),rfl⟩,?_,?_⟩
 . exact (zaz [(2,some 2),(3,some 3),(4,some 4),(900,none)] (by repeat' (first | exact z0 | refine z1 ?_ | refine ⟨?_,?_⟩ | ((exact zbk (by rw [zy2]))) | exact z2)))
 rintro ⟨⟨A,B⟩,h⟩;dsimp only at h;refine zcd fun Q hQ=>?_
 (conv=>whnf);cases B with
 | cons p B =>
  have hz:=zbe h;have hql:s.paths.length=A.length+(p::B).length:=by rw [h];simp
  obtain ⟨n,hn⟩:∃ n,K3[A.length]?=some n:=⟨_,zy3 (by rw [hcl,hql];simp)⟩
  have hm:(A++[p]).mapIdx (fun i p=>if K3[i]?.getD 0>0 then Paths.zjw p (K3[i]?.getD 0) s.config.part (decide (K2>s.cum)) else p)=A.mapIdx (fun i p=>if K3[i]?.getD 0>0 then Paths.zjw p (K3[i]?.getD 0) s.config.part (decide (K2>s.cum)) else p)++[if n>0 then Paths.zjw p n s.config.part (decide (K2>s.cum)) else p]:=by
   rw [zy101,hn];rfl
  refine sT ?_;refine zaj h rfl (zw ?_)
  (try refine sG ?_)
  refine zam hn rfl (zw ?_);by_cases d1:n>0
  case pos =>
   rw [zy1 d1] at hm;refine zac (zy10 d1) (zw ?_);refine zam hn rfl (zw ?_)
   (refine cL ?_;refine dL (Paths.ykw p n s.config.part (decide (K2>s.cum))) ?_)
   refine sD ?_;exact yy52
  rw [zy0 d1] at hm;refine zab (zy11 d1) (zw ?_)
  (try refine sG ?_)
  exact yy52
 | nil =>
 have hz:=zbn h;rw [zy4] at h;subst h;refine sN ?_;refine hQ _ _ ?_;conv=>whnf
 have hcp:(s.paths.mapIdx fun i p=>if K3[i]?.getD 0>0 then Paths.zjw p (K3[i]?.getD 0) s.config.part (decide (K2>s.cum)) else p).length=s.paths.length:=zy108;have hTe:zpl s c (K1,K2,K3,K4)=zck {s with out:=K1,cum:=K2,room:=c.room,paths:=s.paths.mapIdx fun i p=>if K3[i]?.getD 0>0 then Paths.zjw p (K3[i]?.getD 0) s.config.part (decide (K2>s.cum)) else p}:=rfl;have htl:(zck {s with out:=K1,cum:=K2,room:=c.room,paths:=s.paths.mapIdx fun i p=>if K3[i]?.getD 0>0 then Paths.zjw p (K3[i]?.getD 0) s.config.part (decide (K2>s.cum)) else p}).paths.length=s.paths.length:=by
  show (List.mapIdx _ _).length=_;rw [zy108];exact hcp
 have htc:(zck {s with out:=K1,cum:=K2,room:=c.room,paths:=s.paths.mapIdx fun i p=>if K3[i]?.getD 0>0 then Paths.zjw p (K3[i]?.getD 0) s.config.part (decide (K2>s.cum)) else p}).cum=K2:=rfl;have htp:(zck {s with out:=K1,cum:=K2,room:=c.room,paths:=s.paths.mapIdx fun i p=>if K3[i]?.getD 0>0 then Paths.zjw p (K3[i]?.getD 0) s.config.part (decide (K2>s.cum)) else p}).config.part=s.config.part:=rfl;have pf:=zny {s with out:=K1,cum:=K2,room:=c.room,paths:=s.paths.mapIdx fun i p=>if K3[i]?.getD 0>0 then Paths.zjw p (K3[i]?.getD 0) s.config.part (decide (K2>s.cum)) else p} hks zz81;rw [hTe] at hT hTS;generalize zck {s with out:=K1,cum:=K2,room:=c.room,paths:=s.paths.mapIdx fun i p=>if K3[i]?.getD 0>0 then Paths.zjw p (K3[i]?.getD 0) s.config.part (decide (K2>s.cum)) else p}=t at pf hT hTS htl htc htp
 (refine zat [(0,950)]  ?_;(conv=>whnf);refine dOm pf ?_)
 have hpl:=hr.p0;obtain ⟨hch,hch2⟩:=zdm (s:=t) zz0;obtain ⟨w,hw⟩:∃ w,t.paths[choose t]?=some w:=⟨_,zy3 hch2⟩
 refine zhs.meet PUnit (fun _=>hs 215 [(2,.ptr 2 0),(3,.ptr 3 0),(4,.ptr 4 0),(6,i64 s.cum),(8,i64 K2)] (hrS c (zln s.config.part t K4))) ?_ ?_
 . conv=>whnf
   rcases zy111 K4 with rfl | ⟨L,z,rfl⟩
   case inl =>
    (conv=>whnf);refine sDm ?_;exact ⟨⟨⟩,(zog [950] [(2,some 2),(3,some 3),(4,some 4)] (by repeat' (first | exact z0 | refine z1 ?_ | refine ⟨?_,?_⟩ | ((exact zbk rfl)) | exact z2)))⟩
   rw [zy99] at hlo ⊢;have hUe:zln s.config.part t (L++[z])=if z>t.recover then upS t s.config.part w else t:=by
    unfold zln;rw [List.getLast?_concat];dsimp only;rw [upS,setAt,hw]
   have hll:((L++[z]).map (fun n:Int=>[pi n])).length=L.length+1:=by simp
   have hLl:L.length<2 ^ 38:=by
    have:=hlo;rw [zy8] at this;simp only [zy6,zy12] at this;omega
   refine zac (zy10 zz0) (zw ?_);refine sFm ?_;refine zaj (f:=fun n:Int=>[pi n]) (a:=L) (b:=[]) (s:=z) rfl zz0 (zw ?_);refine sDm ?_;by_cases e0:z>t.recover
   case neg =>
    rw [zy0 e0] at hUe;refine zab (zy11 e0) (zw ?_);exact ⟨⟨⟩,(zog [950] [(2,some 2),(3,some 3),(4,some 4)] (by repeat' (first | exact z0 | refine z1 ?_ | refine ⟨?_,?_⟩ | ((rw [hUe])) | exact z2)))⟩
   rw [zy1 e0] at hUe;refine zac (zy10 e0) (zw ?_);have pc:=Paths.zjo t.paths zz0;rw [hch] at pc
   (refine cL ?_;refine dLm pc ?_)
   refine zaa zz6 (zw ?_);refine zam hw rfl (zw ?_)
   (refine cL ?_;refine dLm (Paths.zte w t.config.part) ?_)
   refine zaa zz6 (zw ?_);refine zam hw rfl (zw ?_);refine sDm ?_;refine sRm ?_;have hr:(t.paths.map Path.row).set (choose t) (Paths.zpk w t.config.part).row=(upS t t.config.part w).paths.map Path.row:=by rw [upS];dsimp only;rw [zy61]
   exact ⟨⟨⟩,(zog [950] [(2,some 2),(3,some 3),(4,some 4)] (by repeat' (first | exact z0 | refine z1 ?_ | refine ⟨?_,?_⟩ | ((rw [hUe,<- htp];exact congrArg (fun r=>zai.live (.cells 32 (ycf (upS t t.config.part w) (Sch.qs t.queue) (ints t.sched.had) (Sco.zdy t.out) (.p (.sl 7 r)) (ints t.mids) (ints t.fates)))) hr)) | exact z2)))⟩
 rintro ⟨⟩;have hu:=hU t hTS;generalize hug:zln s.config.part t K4=u at hT hu;(conv=>whnf);refine zhs.meet PUnit (fun _=>hs 215 [(2,.ptr 2 0),(3,.ptr 3 0),(4,.ptr 4 0)] (hrS c (zgv (decide (K2>s.cum)) u))) ?_ ?_
 . conv=>whnf
   (refine cP ?_;refine dLm (Sco.zlf u.out u.cum hu.fit.out.len) ?_)
   by_cases m1:K2>s.cum
   case neg =>
    have hv:zgv (decide (K2>s.cum)) u=u:=zy0 (fun h=>m1 (zy24 h.1));refine zab (zy11 m1) (zw ?_);exact ⟨⟨⟩,(zaz [(2,some 2),(3,some 3),(4,some 4)] zz61)⟩
   refine zac (zy10 m1) (zw ?_);by_cases m2:(Sco.zdx u.out u.cum).1>u.cum
   case neg =>
    have hv:zgv (decide (K2>s.cum)) u=u:=zy0 (fun h=>m2 h.2);refine zab (zy11 m2) (zw ?_);exact ⟨⟨⟩,(zaz [(2,some 2),(3,some 3),(4,some 4)] zz61)⟩
   have hv:zgv (decide (K2>s.cum)) u={u with forward:=true}:=zy1 ⟨zy10 m1,m2⟩;refine zac (zy10 m2) (zw ?_);exact ⟨⟨⟩,(zaz [(2,some 2),(3,some 3),(4,some 4)] zz61)⟩
 rintro ⟨⟩;have hv:=yew hu (b:=decide (K2>s.cum));generalize zgv (decide (K2>s.cum)) u=V at hT hv;have hvq:=hv.fit.queue;have hvo:=hv.fit.out.len;have hvf:=hv.fit.fates;(conv=>whnf);refine ⟨{x:List Int×List Int // V.fates=x.1++x.2},fun | ⟨(A,B),_⟩=>hs 215 [(2,.ptr 2 0),(3,.ptr 3 0),(4,.ptr 4 0),(17,.own 900),(159,ints V.fates),(160,i64 V.fates.length),(161,i64 A.length)] ((900,zxc (A.mapIdx fun id f=>settled V id f))::hrS c V),fun x=>x.1.2.length,⟨([],V.fates),rfl⟩,?_,?_⟩
 . exact (zbi [(2,some 2),(3,some 3),(4,some 4),(900,none)])
 rintro ⟨⟨A,B⟩,h⟩;dsimp only at h;refine zcd fun Q hQ=>?_
 (conv=>whnf);cases B with
 | nil =>
  have hz:=zbn h;rw [zy4] at h;refine sN ?_;refine hQ _ _ ?_;conv=>whnf
  subst hT;have he:(settle V).fates=V.fates.mapIdx fun id f=>settled V id f:=rfl
  rw [show settle V={V with fates:=A.mapIdx fun id f=>settled V id f} by rw [<- h];rfl]
  try rfl
 | cons f B =>
 have hz:=zbe h;have hmi:(A++[f]).mapIdx (fun id f=>settled V id f)=A.mapIdx (fun id f=>settled V id f)++[settled V A.length f]:=zy101;have hset:settled V A.length f=if f=1/\((V.queue.any fun m=>decide (m.id=(A.length:Int)))||V.out.any fun x=>decide (x.id=(A.length:Int))&&decide (x.state≠2))=false then 2 else f:=by
  unfold settled;simp only [Bool.or_eq_false_iff]
 refine sT ?_;refine zaj (f:=fun n:Int=>[pi n]) h rfl (zw ?_)
 (try refine sG ?_)
 refine ⟨{x:List zak×List zak // V.queue=x.1++x.2},fun | ⟨(a,b),_⟩=>hs 215 [(2,.ptr 2 0),(3,.ptr 3 0),(4,.ptr 4 0),(17,.own 900),(18,i64 A.length),(19,i64 f),(20,zbj (a.any fun m=>decide (m.id=(A.length:Int)))),(159,ints V.fates),(160,i64 V.fates.length),(161,i64 A.length),(167,Sch.qs V.queue),(168,i64 V.queue.length),(169,i64 a.length)] ((900,zxc (A.mapIdx fun id f=>settled V id f))::hrS c V),fun x=>x.1.2.length,⟨([],V.queue),rfl⟩,?_,?_⟩
 . exact (zbi [(2,some 2),(3,some 3),(4,some 4),(900,some 900)])
 rintro ⟨⟨a,b⟩,h'⟩;dsimp only at h';refine zcd fun Q2 hQ2=>?_
 (conv=>whnf);cases b with
 | cons m b =>
  have hz':=zbe h';have hany:(a++[m]).any (fun m=>decide (m.id=(A.length:Int)))=(a.any (fun m=>decide (m.id=(A.length:Int)))||(m.id==(A.length:Int))):=by rw [List.any_append,List.any_cons,List.any_nil,zy135];rfl
  refine sT ?_;refine zaj h' rfl (zw ?_)
  (try refine sG ?_)
  cases hb:a.any fun m=>decide (m.id=(A.length:Int)) with
  | true =>
   rw [hb] at hany;(conv=>whnf);refine sF ?_;refine hQ2 _ _ (zw ?_);exact ⟨⟨(a++[m],b),zag h'⟩,(zaz [(2,some 2),(3,some 3),(4,some 4),(900,some 900)] zz96),by simp⟩
  | false =>
   rw [hb,Bool.false_or] at hany;(conv=>whnf);refine sF ?_;refine hQ2 _ _ (zw ?_);exact ⟨⟨(a++[m],b),zag h'⟩,(zaz [(2,some 2),(3,some 3),(4,some 4),(900,some 900)] zz59),by simp⟩
 | nil =>
 have hz':=zbn h';rw [zy4] at h';refine sN ?_;refine hQ2 _ _ (zw ?_);obtain rfl:a=V.queue:=h'.symm;obtain ⟨q,hq⟩:∃ q,q=V.queue.any fun m=>decide (m.id=(A.length:Int)):=⟨_,rfl⟩
 rw [<- hq] at hset
 (try refine sG ?_)
 refine ⟨{x:List zbo×List zbo // V.out=x.1++x.2},fun | ⟨(a,b),_⟩=>hs 215 [(2,.ptr 2 0),(3,.ptr 3 0),(4,.ptr 4 0),(17,.own 900),(18,i64 A.length),(19,i64 f),(20,zbj (q||a.any fun x=>decide (x.id=(A.length:Int))&&decide (x.state≠2))),(159,ints V.fates),(160,i64 V.fates.length),(161,i64 A.length),(182,Sco.zdy V.out),(183,i64 V.out.length),(184,i64 a.length)] ((900,zxc (A.mapIdx fun id f=>settled V id f))::hrS c V),fun x=>x.1.2.length,⟨([],V.out),rfl⟩,?_,?_⟩
 . exact (zaz [(2,some 2),(3,some 3),(4,some 4),(900,some 900)] (by repeat' (first | exact z0 | refine z1 ?_ | refine ⟨?_,?_⟩ | ((rw [List.any_nil,zy135,hq])) | exact z2)))
 rintro ⟨⟨a',b⟩,h2'⟩;dsimp only at h2';refine zcd fun Q3 hQ3=>?_
 (conv=>whnf);cases b with
 | cons x b =>
  have hz2:=zbe h2';have hany:(q||(a'++[x]).any fun x=>decide (x.id=(A.length:Int))&&decide (x.state≠2))=((q||a'.any fun x=>decide (x.id=(A.length:Int))&&decide (x.state≠2))||((x.id==(A.length:Int))&&(x.state != 2))):=by
   rw [List.any_append,Bool.or_assoc];congr 2;rw [List.any_cons,List.any_nil,zy135,zy110];simp
  refine sT ?_;refine zaj h2' rfl (zw ?_)
  (try refine sG ?_)
  cases hb:(q||a'.any fun x=>decide (x.id=(A.length:Int))&&decide (x.state≠2)) with
  | true =>
   rw [hb] at hany;(conv=>whnf);refine sF ?_;refine hQ3 _ _ (zw ?_);exact ⟨⟨(a'++[x],b),zag h2'⟩,(zaz [(2,some 2),(3,some 3),(4,some 4),(900,some 900)] zz96),by simp⟩
  | false =>
   rw [hb,Bool.false_or] at hany;(conv=>whnf);by_cases e1:x.id=(A.length:Int)
   case pos =>
    rw [show (x.id==(A.length:Int))=true from zy15.2 e1,zy96] at hany;refine zac (zy15.2 e1) (zw ?_);exact yy122
   case neg =>
    rw [show (x.id==(A.length:Int))=false from zy5.2 e1,Bool.false_and] at hany;refine zab (zy5.2 e1) (zw ?_);exact yy122
 | nil =>
 have hz2:=zbn h2';rw [zy4] at h2';refine sN ?_;refine hQ3 _ _ (zw ?_);obtain rfl:a'=V.out:=h2'.symm
 (try refine sG ?_)
 by_cases d1:f=1
 case neg =>
  rw [zy0 (fun h=>d1 h.1)] at hset;refine zab (zy5.2 d1) (zw ?_);exact yy30
 refine zac (zy15.2 d1) (zw ?_);cases ho:(q||V.out.any fun x=>decide (x.id=(A.length:Int))&&decide (x.state≠2)) with
 | true =>
  rw [ho] at hset;rw [zy0 (fun h=>Bool.noConfusion h.2)] at hset;(conv=>whnf);exact yy30
 | false =>
  rw [ho] at hset;rw [zy1 ⟨d1,rfl⟩] at hset;(conv=>whnf);exact yy30
end Snd
namespace Ln
open Ser
theorem yvr (l A:List zau) (p:zau):zlv l (A++[p])=xaj (zlv l A) p:=by unfold zlv;rw [zy58];rfl
abbrev xca (l:List zau):zai:=.live (.row 110 3 (l.map zau.row))
theorem zwn (l ps:List zau) (hl:l.length<=40) (hp:ps.length<2 ^ 62):zan Tryz.prog 107 [pks l,pks ps] zad (pks (zlv l ps)) zad:=by
 refine zal mixed Tryz.func107 zz4 ?_;(conv=>whnf);refine zaa (c:=(([]:List (List PV)).length+(l.map zau.row).length)*40<=140737488355328) zz3 (zw ?_);refine ⟨{x:List zau×List zau // ps=x.1++x.2},fun | ⟨(A,B),_⟩=>hs 26 [(5,.own 900),(11,pks ps),(12,i64 ps.length),(13,i64 A.length)] [(900,xca (zlv l A))],fun x=>x.1.2.length,⟨([],ps),rfl⟩,?_,?_⟩
 . exact (zbi [(900,some 10)])
 rintro ⟨⟨A,B⟩,h⟩;dsimp only at h;(conv=>whnf);cases B with
 | cons p B =>
  have hz:=zbe h;have hn:=yvr l A p;have hle:=yki A l hl;refine sT ?_;refine zaj h rfl (zw ?_)
  (try refine sG ?_)
  by_cases c1:(zlv l A).length<40
  case pos =>
   rw [xaj,zy1 c1] at hn;refine zac (by rw [zy2,zy43];omega) (zw ?_);refine zaa (c:=(((zlv l A).map zau.row).length+1)*40<=140737488355328) zz6 (zw ?_);refine sF ?_;exact ⟨⟨(A++[p],B),zag h⟩,(zaz [(900,some 23)] (by repeat' (first | exact z0 | refine z1 ?_ | refine ⟨?_,?_⟩ | ((exact zbc (f:=zau.row) hn rfl)) | exact z2))),by simp⟩
  rw [xaj,zy0 c1] at hn;refine zab (by rw [zy2,zy28];omega) (zw ?_)
  (try refine sG ?_)
  refine sF ?_;exact ⟨⟨(A++[p],B),zag h⟩,(zaz [(900,some 900)] (by repeat' (first | exact z0 | refine z1 ?_ | refine ⟨?_,?_⟩ | ((rw [hn])) | exact z2))),by simp⟩
 | nil =>
  have hz:=zbn h;rw [zy4] at h;subst h
  ((refine yyn ?_;conv=>whnf);try refine sG ?_)
theorem zja (l ps:List zau) (hl:l.length<=40) (hp:ps.length<2 ^ 62) {rows:List (List PV)} (hr:rows=l.map zau.row):zan Tryz.prog 107 [.p (.sl 3 rows),pks ps] zad (pks (zlv l ps)) zad:=by
 subst hr;exact zwn l ps hl hp
abbrev xgw:List HV:=[i64 0,i64 0,i64 0,i64 0,i64 0,i64 0,i64 0,i64 0,zee,i64 0,i64 0,zee,zee,zee,i64 0,i64 0,i64 0,zee,zee,zbj false,i64 0,i64 0,i64 0,i64 0,i64 0,i64 0,i64 0,i64 0,i64 0,zee,zee,zee,zee,zee]
abbrev lnS (l:zem):zai:=lnB l.sender l.receiver (pks l.way)
abbrev rcH (y:zem) (p:zau):List (Nat×zai):=[(2,lnS y),(3,.live (.cells 110 p.cells)),(4,.live (.cells 40 xgw))]
theorem yqv {N M:Nat} (l:zem) (p:zau) (h:LI N M l) (hM:M+120<=2000000) (hp:p.bytes.length<=120):zan Tryz.prog 108 [l.hv,p.hv] zad (zhf l p).hv zad:=by
 obtain ⟨path,back,bytes⟩:=p;dsimp only at hp;generalize hT:zhf l ⟨path,back,bytes⟩=T;refine zal mixed Tryz.func108 zz4 ?_;have hw:=zvw bytes;have pp:=Pck.yhw bytes zz0;rw [zhf] at hT;dsimp only at hT;have hall:zkv l ⟨path,back,bytes⟩=(Pck.zgx bytes).1.foldl (zgj back) (l,false):=rfl;generalize Pck.zgx bytes=K at hT hw hall pp;obtain ⟨cs,e⟩:=K;dsimp only at hT hw hall pp;by_cases c1:e=0
 case neg =>
  rw [zy1 c1] at hT;subst hT;(conv=>whnf)
  (refine cP ?_;refine dL pp ?_)
  refine zac (zy77.2 c1) (zw ?_)
  try rfl
 subst c1;rw [zy0 (fun h=>h rfl)] at hT;(conv=>whnf)
 (refine cP ?_;refine dL pp ?_)
 (try refine sG ?_)
 refine ⟨{x:(zem×Bool)×List Chunk×List Chunk // cs=x.2.1++x.2.2/\x.2.1.foldl (zgj back) (l,false)=x.1/\LI N (M+Rcv.wts x.2.1) x.1.1/\x.1.1.way=l.way},fun | ⟨((y,told),A,B),_⟩=>hs 75 [(2,.ptr 2 0),(3,.ptr 3 0),(4,.ptr 4 0),(7,zbj told),(21,.p (.sl 11 (cs.map Chunk.row))),(22,i64 cs.length),(23,i64 A.length)] (rcH y ⟨path,back,bytes⟩),fun x=>x.1.2.2.length,⟨((l,false),[],cs),rfl,rfl,by simpa [Rcv.wts] using h,rfl⟩,?_,?_⟩
 . exact (zbi [(2,some 2),(3,some 3),(4,some 4)])
 rintro ⟨⟨⟨y,told⟩,A,B⟩,k1,k2,k3,k4⟩;dsimp only at k1 k2 k3 k4;refine zcd fun Q hQ=>?_
 (conv=>whnf);cases B with
 | cons c B =>
  have hz:=zbe k1;obtain ⟨w1,w2⟩:=hw;have hcl:=ylg cs;have hc:=w2 c (zgf k1);have hsum:Rcv.wts cs=Rcv.wts A+(Rcv.wt c+Rcv.wts B):=by rw [k1,Rcv.ydf,Rcv.zlj]
  have hwt:Rcv.wt c=c.data.length+c.zbr.length+1:=rfl;have hnx:(A++[c]).foldl (zgj back) (l,false)=zgj back (y,told) c:=by rw [zy58,k2];rfl
  have hli:=yay (back:=back) (x:=(y,told)) (c:=c) k3 zz0;have hwy:=(yet back (y,told) c).trans k4;rw [show M+Rcv.wts A+Rcv.wt c=M+Rcv.wts (A++[c]) by rw [Rcv.ydf,Rcv.zlj];simp [Rcv.wts];omega] at hli;refine sT ?_;refine zaj k1 rfl (zw ?_)
  (try refine sG ?_)
  cases back with
  | true =>
   conv=>whnf
   (refine cP ?_;refine dL (Snd.yqx y.sender c k3.snd zz0) ?_)
   (try refine sG ?_)
   refine sF ?_;refine hQ _ _ ?_;conv=>whnf
   exact ⟨⟨(zgj true (y,told) c,A++[c],B),zag k1,hnx,hli,hwy⟩,(zbi [(2,some 2),(3,some 3),(4,some 4)]),by simp⟩
  | false =>
   conv=>whnf
   (try refine sG ?_)
   by_cases d1:c.kind=1
   case pos =>
    have e1:zgj false (y,told) c=({y with receiver:=Rcv.data y.receiver c},true):=by unfold zgj;rw [zy0 (by decide),zy1 d1]
    rw [e1] at hnx hli hwy;refine zac (zy15.2 d1) (zw ?_)
    (refine cP ?_;refine dL (Rcv.yqw y.receiver c k3.rcv zz0 zz0) ?_)
    (try refine sG ?_)
    refine sF ?_;refine hQ _ _ ?_;conv=>whnf
    exact ⟨⟨(({y with receiver:=Rcv.data y.receiver c},true),A++[c],B),zag k1,hnx,hli,hwy⟩,(zbi [(2,some 2),(3,some 3),(4,some 4)]),by simp⟩
   refine zab (zy5.2 d1) (zw ?_)
   (try refine sG ?_)
   by_cases d2:c.kind=3
   case pos =>
    have e1:zgj false (y,told) c=({y with receiver:=Rcv.forward y.receiver c},true):=by unfold zgj;rw [zy0 (by decide),zy0 d1,zy1 d2]
    rw [e1] at hnx hli hwy;refine zac (zy15.2 d2) (zw ?_)
    (refine cP ?_;refine dL (Rcv.ycr y.receiver c k3.rcv zz0 zz0) ?_)
    (try refine sG ?_)
    refine sF ?_;refine hQ _ _ ?_;conv=>whnf
    exact ⟨⟨(({y with receiver:=Rcv.forward y.receiver c},true),A++[c],B),zag k1,hnx,hli,hwy⟩,(zbi [(2,some 2),(3,some 3),(4,some 4)]),by simp⟩
   have e1:zgj false (y,told) c=(y,told):=by unfold zgj;rw [zy0 (by decide),zy0 d1,zy0 d2]
   rw [e1] at hnx hli hwy;refine zab (zy5.2 d2) (zw ?_)
   (try refine sG ?_)
   refine sF ?_;refine hQ _ _ ?_;conv=>whnf
   exact ⟨⟨((y,told),A++[c],B),zag k1,hnx,hli,hwy⟩,(zbi [(2,some 2),(3,some 3),(4,some 4)]),by simp⟩
 | nil =>
 have hz:=zbn k1;rw [zy4] at k1;rw [<- k1] at k2 k3;rw [hall,k2] at hT;dsimp only at hT;obtain ⟨w1,w2⟩:=hw;have hfit:=k3.rcv.fit zz0;refine sN ?_;refine hQ _ _ ?_;conv=>whnf
 cases told with
 | false =>
  rw [zy0 (by decide)] at hT;subst hT;(conv=>whnf)
  (try refine sG ?_)
  try rfl
 | true =>
 rw [zy1 rfl] at hT;(conv=>whnf)
 (try refine sG ?_)
 have hcb:=k3.rcv.cumB zz0
 (refine cP ?_;refine dL (Rcv.ylb y.receiver zz132 (by have:=hfit.pieces;omega) (by have:=hfit.bytes;omega) hcb.1 hcb.2 (k3.rcv.spansB zz0)) ?_)
 (refine cP ?_;refine dL (Pck.zjp [Rcv.zli y.receiver] 120 (zws _)) ?_)
 unfold Ln.told at hT;generalize Pck.zda [Rcv.zli y.receiver] 120=K2 at hT ⊢;obtain ⟨b,e⟩:=K2;dsimp only at hT;by_cases c3:e=0
 case pos =>
  rw [zy1 c3] at hT;subst hT c3;(conv=>whnf)
  (refine cP ?_;refine dL (zwn y.way [⟨path,true,b⟩] (by rw [k4];exact h.way) zz5) ?_)
  try rfl
 case neg =>
  rw [zy0 c3] at hT;subst hT;refine zab (zy5.2 c3) (zw ?_)
  try rfl
end Ln
namespace Snd
open Ser
theorem yha {α:Type} {o:List α} {c:α} {k:Nat} {f:α->α} (h:k<o.length):setAt (o++[c]) k f=setAt o k f++[c]:=by
 unfold setAt;rw [zy46 h];obtain ⟨x,hx⟩:∃ x,o[k]?=some x:=⟨_,zy3 h⟩
 rw [hx];dsimp only;rw [List.set_append_left _ _ h]
def ext (p:zfl):zfl:=⟨p.s,p.out++[[]]⟩
theorem yjc (p:zfl) (i path:Nat):(fly p i path).out.length=p.out.length:=by
 unfold fly;split
 . rfl
 . exact zfk _ _ _
theorem ymi (p:zfl) (i path:Nat):(fly p i path).s.paths.length=p.s.paths.length:=by
 unfold fly;split
 . rfl
 . exact zfk _ _ _
theorem yta {p:zfl} {i path:Nat} (h:path<p.out.length):fly (ext p) i path=ext (fly p i path):=by
 unfold fly ext;dsimp only;split
 . rfl
 . rw [yha h]
theorem yov {p:zfl} {i path:Nat} (h:path<p.out.length):zdh path (ext p) i=ext (zdh path p i):=by
 have h2:=yta (i:=i) h;unfold zdh;show (match p.s.out[i]? with | none=>ext p | some x=>if x.state=3/\opened p.s path=true then fly (ext p) i path else ext p)=_;cases p.s.out[i]? with
 | none=>rfl
 | some x =>
  dsimp only;by_cases c:x.state=3/\opened p.s path=true
  . rw [zy1 c,zy1 c];exact h2
  . rw [zy0 c,zy0 c]
theorem yow (p:zfl) (i path:Nat):(zdh path p i).out.length=p.out.length:=by
 unfold zdh;split
 . rfl
 . split
   . exact yjc _ _ _
   . rfl
theorem zqs {path:Nat}:∀ (L:List Nat) {p:zfl},path<p.out.length->L.foldl (zdh path) (ext p)=ext (L.foldl (zdh path) p)/\(L.foldl (zdh path) p).out.length=p.out.length
 | [],p,_=>⟨rfl,rfl⟩
 | i::L,p,h=>by
  have h1:=yow p i path;obtain ⟨h2,h3⟩:=zqs L (p:=zdh path p i) (by rw [h1];exact h);rw [zy52,zy52,yov h];exact ⟨h2,h3.trans h1⟩
theorem ysa {p:zfl} (h:choose p.s<p.out.length):again (ext p)=ext (again p):=(zqs _ h).1
theorem ysb {p:zfl} (h:choose p.s<p.out.length):(again p).out.length=p.out.length:=(zqs _ h).2
theorem yus {p:zfl} {k:Nat} {m:zak} {n:Int} (h:choose p.s<p.out.length):zlr (ext p) k m n=ext (zlr p k m n):=by
 unfold zlr;exact yta (p:=⟨_,p.out⟩) h
theorem yzn {p:zfl} (h:choose p.s<p.out.length):next (ext p)=(next p).map ext:=by
 unfold next;show (if zei p.s<0\/opened p.s (choose p.s)=false\/(p.s.out.length:Int)>=60 then none else match p.s.queue[(zei p.s).toNat]? with
  | none=>none
  | some m=>if zba p.s>0/\W (zba p.s+many p.s m)>p.s.room then none else some (zlr (ext p) (zei p.s).toNat m (many p.s m)))=_
 by_cases c1:zei p.s<0\/opened p.s (choose p.s)=false\/(p.s.out.length:Int)>=60
 . rw [zy1 c1,zy1 c1];rfl
 rw [zy0 c1,zy0 c1];cases p.s.queue[(zei p.s).toNat]? with
 | none=>rfl
 | some m =>
  dsimp only;by_cases c2:zba p.s>0/\W (zba p.s+many p.s m)>p.s.room
  . rw [zy1 c2,zy1 c2];rfl
  . rw [zy0 c2,zy0 c2,yus h];rfl
theorem yje {p:zfl} (h:choose p.s<p.out.length):forward (ext p)=ext (forward p):=by
 unfold forward;show (if p.s.forward=false\/(Sco.zdx p.s.out p.s.cum).1=p.s.cum then ext p else _)=_;by_cases c:p.s.forward=false\/(Sco.zdx p.s.out p.s.cum).1=p.s.cum
 . rw [zy1 c,zy1 c]
 . rw [zy0 c,zy0 c];unfold ext;dsimp only;rw [yha h]
theorem zsv (most:Int):∀ (k:Nat) (o:List (List Chunk)),zbs most k (o++[[]])=zbs most k o
 | k,[]=>rfl
 | k,l::o=>by
  show zfi most k l.length l++zbs most (k+1) (o++[[]])=_;rw [zsv most (k+1) o];rfl
def SL (s:zah):Prop:=0<=s.sched.last/\s.sched.last<s.sched.had.length
theorem ytj {s:zah} {id:Int} (h:SL s):SL (zfg s id):=by
 have e:(zfg s id).sched=if s.sched.hand=id then {s.sched with hand:=-1} else s.sched:=rfl
 unfold SL;rw [e];split<;>exact h
theorem xda {s:zah} {m:zak} (h:SL s):SL (zlm s m):=by unfold zlm;split;exact ytj h;exact h
theorem xdc {s:zah} {m:zbo} (h:SL s):SL (zhl s m):=by unfold zhl;split;exact ytj h;exact h
theorem ylz:∀ (q:List zak) {s:zah},SL s->SL (q.foldl zlm s)
 | [],_,h=>h
 | _::q,_,h=>ylz q (xda h)
theorem ymc:∀ (q:List zbo) {s:zah},SL s->SL (q.foldl zhl s)
 | [],_,h=>h
 | _::q,_,h=>ymc q (xdc h)
theorem yed {s:zah} (h:SL s):SL (expire s):=ymc _ (ylz _ h)
theorem yei (p:zfl) (i path:Nat):(fly p i path).s.sched=p.s.sched:=by unfold fly;split<;>rfl
theorem zpi (p:zfl):(forward p).s.sched=p.s.sched:=by unfold forward;split<;>rfl
theorem zpw {p q:zfl} (h:next p=some q):(p.s.out.length:Int)<60/\∃ (k:Nat) (m:zak),p.s.queue[k]?=some m/\q=zlr p k m (many p.s m):=by
 unfold next at h;by_cases c1:zei p.s<0\/opened p.s (choose p.s)=false\/(p.s.out.length:Int)>=60
 . rw [zy1 c1] at h;cases h
 rw [zy0 c1] at h;refine ⟨by omega,(zei p.s).toNat,?_⟩;cases hm:p.s.queue[(zei p.s).toNat]? with
 | none=>rw [hm] at h;cases h
 | some m =>
  rw [hm] at h;dsimp only at h;split at h
  . cases h
  . cases h;exact ⟨m,rfl,rfl⟩
theorem yuw {N:Nat} {p q:zfl} (hS:SI N p.s) (h:next p=some q):SL q.s:=by
 obtain ⟨-,k,m,hm,rfl⟩:=zpw h;have hq:=hS.queue m (zy21 hm);have hn:=hS.nhad;have h0:=hq.st0;have h1:=hq.st1;obtain ⟨ps,po⟩:=p;unfold SL;rw [zfx,yei];show 0<=m.message.stream/\m.message.stream<((Sch.had ps.sched _ _ _).had.length:Int);rw [ytk];dsimp only at hn h1;omega
theorem yzp {ps:zah} {a c:List Chunk} {q:zfl} (h:next ⟨ps,[a,c]⟩=some q):(ps.out.length:Int)<60/\q.out.length=2/\q.s.paths.length=ps.paths.length/\q.s.out.length=ps.out.length+1/\(yfw q.out).length<=a.length+1/\(ynp q.out).length<=c.length+1:=by
 obtain ⟨h1,k,m,hm,rfl⟩:=zpw h;refine ⟨h1,?_,?_,?_,?_⟩
 . rw [zfx,yjc];rfl
 . rw [zfx,ymi];rfl
 . rw [zfx];unfold fly;dsimp only;split<;>simp [zxe]
 . rw [zfx];unfold fly;dsimp only;split
   . exact ⟨by show a.length<=_;omega,by show c.length<=_;omega⟩
   . rcases hc:choose ps with _ | _ | n
     . constructor
       . show (a++[_]).length<=_;simp
       . show c.length<=_;omega
     . constructor
       . show a.length<=_;omega
       . show (c++[_]).length<=_;simp
     . constructor
       . show a.length<=_;omega
       . show c.length<=_;omega
end Snd
namespace Snd
open Ser
def OK2 (p:zfl):Prop:=∀ l∈p.out,∀ c∈l,Okc c
theorem xgu {np nf:Nat} {x:zbo} (h:XI np nf x):Okc x.chunk:=by unfold Okc;rw [h.zas,h.zbr];simp
theorem ywf {o:List (List Chunk)} {k:Nat} {x:Chunk} {l:List Chunk} (h:l∈setAt o k (·++[x])):l∈o\/∃ m∈o,l=m++[x]:=by
 unfold setAt at h;split at h
 . exact .inl h
 . rename_i y hy
   rcases zy66 h with h | h
   . exact .inl h
   . exact .inr ⟨y,zy21 hy,h⟩
theorem ynz {s:zah} {o:List (List Chunk)} {k:Nat} {x:Chunk} (h:OK2 ⟨s,o⟩) (hx:Okc x):∀ l∈setAt o k (·++[x]),∀ c∈l,Okc c:=by
 intro l hl c hc;rcases ywf hl with h1 | ⟨m,hm,rfl⟩
 . exact h l h1 c hc
 . rcases zy20.1 hc with h2 | h2
   . exact h m hm c h2
   . rw [zy25] at h2;subst h2;exact hx
theorem ytb {N:Nat} {p:zfl} (hS:SI N p.s) (h:OK2 p) (i path:Nat):OK2 (fly p i path):=by
 unfold fly;split
 . exact h
 . rename_i x hx
   exact ynz (s:=p.s) h (xgu (hS.out x (zy21 hx)))
theorem yox {N:Nat} {p:zfl} (hS:SI N p.s) (h:OK2 p) (path i:Nat):OK2 (zdh path p i):=by
 unfold zdh;split
 . exact h
 . split
   . exact ytb hS h _ _
   . exact h
theorem zxs {N path:Nat}:∀ (L:List Nat) {p:zfl},SI N p.s->path<p.s.paths.length->OK2 p->OK2 (L.foldl (zdh path) p)
 | [],_,_,_,h=>h
 | i::L,p,hS,hp,h=>by
  obtain ⟨h1,h2⟩:=zoy hS hp i;exact zxs L h1 (by rw [h2];exact hp) (yox hS h path i)
theorem ysc {N:Nat} {p:zfl} (hS:SI N p.s) (h:OK2 p):OK2 (again p):=zxs _ hS (choose_lt' hS) h
theorem yzo {N:Nat} {p q:zfl} (hS:SI N p.s) (h:OK2 p) (hq:next p=some q):OK2 q:=by
 obtain ⟨-,k,m,hm,rfl⟩:=zpw hq;obtain ⟨ps,po⟩:=p;rw [zfx];exact ytb (p:=⟨zxe ps k m,po⟩) (ysp hS hm) h _ _
theorem yft {N:Nat}:∀ (n:Nat) {p:zfl},SI N p.s->OK2 p->OK2 (zfu n p)
 | 0,_,_,h=>h
 | n+1,p,hS,h=>by
  rw [zfu];cases hq:next p with
  | none=>exact h
  | some q=>exact yft n (zvl hS hq) (yzo hS h hq)
theorem yjg {p:zfl} (h:OK2 p):OK2 (forward p):=by
 unfold forward;split
 . exact h
 . exact ynz (s:=p.s) h (ytf p.s)
theorem yfs {N:Nat}:∀ (n:Nat) {p:zfl},SI N p.s->p.out.length=p.s.paths.length->zfu n (ext p)=ext (zfu n p)
 | 0,_,_,_=>rfl
 | n+1,p,hS,hl=>by
  have hc:choose p.s<p.out.length:=by rw [hl];exact choose_lt' hS
  rw [zfu,zfu,yzn hc];cases hq:next p with
  | none=>rfl
  | some q =>
   obtain ⟨-,k,m,hm,he⟩:=zpw hq;have hql:q.out.length=q.s.paths.length:=by
    rw [he];obtain ⟨ps,po⟩:=p;rw [zfx,yjc,ymi];exact hl
   exact yfs n (zvl hS hq) hql
theorem yoy {N:Nat} {p:zfl} (hS:SI N p.s):(again p).s.paths.length=p.s.paths.length:=by
 have key:∀ (L:List Nat) (path:Nat) {p:zfl},SI N p.s->path<p.s.paths.length->(L.foldl (zdh path) p).s.paths.length=p.s.paths.length:=by
  intro L path
  induction L with
  | nil=>intro p _ _;rfl
  | cons i L ih =>
   intro p hS hp;obtain ⟨h1,h2⟩:=zoy hS hp i;rw [zy52,ih h1 (by rw [h2];exact hp),h2]
 exact key _ _ hS (choose_lt' hS)
theorem xai {N:Nat} {E:zah} (hE:SI N E) (hp:E.paths.length=1\/E.paths.length=2) (most:Int):(zfu 61 (again (forward ⟨E,[[],[]]⟩))).s=(zfu 61 (again (forward ⟨E,List.replicate E.paths.length []⟩))).s /\
 zbs most 0 (zfu 61 (again (forward ⟨E,[[],[]]⟩))).out=zbs most 0 (zfu 61 (again (forward ⟨E,List.replicate E.paths.length []⟩))).out:=by
 rcases hp with hp | hp
 . have e0:(⟨E,[[],[]]⟩:zfl)=ext ⟨E,[[]]⟩:=rfl
   have hc0:choose E<1:=by rw [<- hp];exact choose_lt' hE
   rw [hp,e0,yje (p:=⟨E,[[]]⟩) hc0];show _/\_=zbs most 0 (zfu 61 (again (forward ⟨E,[[]]⟩))).out;have hF:SI N (forward ⟨E,[[]]⟩).s:=zih hE;have hFo:(forward ⟨E,[[]]⟩).out.length=1:=by unfold forward;split<;>simp [zfk]
   have hFp:(forward ⟨E,[[]]⟩).s.paths.length=1:=by unfold forward;split<;>simp [zfk,hp]
   have hc1:choose (forward ⟨E,[[]]⟩).s<(forward ⟨E,[[]]⟩).out.length:=by rw [hFo,<- hFp];exact choose_lt' hF
   rw [ysa hc1,yfs 61 (ztn hF) (by rw [ysb hc1,yoy hF,hFo,hFp])];exact ⟨rfl,zsv most 0 _⟩
 . rw [hp];exact ⟨rfl,rfl⟩
theorem ygg (most path:Int):∀ (n:Nat) (l:List Chunk),(zfi most path n l).length<=n
 | 0,_=>zy23 _
 | n+1,l=>by
  unfold zfi;split
  . exact zy107 _
  . have h:=ygg most path n (l.drop (zca most l).toNat)
    have h1:(zls most path l).length<=1:=by unfold zls;split<;>simp
    rw [zy8];omega
theorem xgm (most:Int) (a c:List Chunk):zbs most 0 ([a,c].take 0)++zfi most 0 a.length a=zbs most 0 ([a,c].take (0+1)):=by simp [zbs]
theorem xgn (most:Int) (a c:List Chunk):zbs most 0 ([a,c].take 1)++zfi most 1 c.length c=zbs most 0 ([a,c].take (1+1)):=by simp [zbs]
theorem yvj (most:Int) (a c:List Chunk):(zbs most 0 ([a,c].take 0)).length=0:=rfl
theorem yvk (most:Int) (a c:List Chunk):(zbs most 0 ([a,c].take 1)).length<=a.length:=by
 have:=ygg most 0 a.length a
 simpa [zbs] using this
end Snd
namespace Snd
open Ser
theorem yhv (t:zah) (came life:Int):zan Tryz.prog 98 [i64 came,i64 life,.ptr 1000 0] (lk .free [(1000,scS t)]) (zbj (old t.clock came life)) (lk .free [(1000,scS t)]):=by
 refine zap mixed Tryz.func98 zz4 [1000] zbq ?_;(conv=>whnf);by_cases c1:life>0
 . refine sT ?_
   refine sR ?_
   try refine sT ?_
   (exact zcx [(1000,some 1000)] zz16)
 . refine sN ?_
   try refine sN ?_
   (exact zcx [(1000,some 1000)] zz16)
abbrev rpS (t:zah):List (Nat×zai):=[(1,scS t),(2,sc0)]
abbrev puH (E:zah) (p:zfl):List (Nat×zai):=[(1,scS E),(2,sc0),(96,pdP p.s 900 901),(900,zxb (yfw p.out)),(901,zxb (ynp p.out))]
theorem ybt:∀ {b:List zbo} {z:Int} {sk:List zdw},(∀ (i:Nat) s,b[i]?=some s->s.number=z+1+i)->z<=(Sco.zet z sk b).1
 | [],z,sk,_=>zy75 _
 | s::r,z,sk,h=>by
  have h0:=h 0 s rfl;have hr:∀ (i:Nat) t,r[i]?=some t->t.number=s.number+1+i:=by
   intro i t ht;have:=h (i+1) t (by simpa using ht);omega
  rw [Sco.zet];split
  . exact zy75 _
  . split
    . split
      . exact zy75 _
      . have:=ybt (sk:=Sco.skip s.chunk sk) hr;omega
    . have:=ybt (sk:=sk) hr;omega
theorem zkn {N:Nat} (s:zah) (hS:SI N s) (hL:SL s):zan Tryz.prog 40 [s.hv] zad (.tup [(zjs s).1.hv,.p (.sl 3 ((zjs s).2.map zau.row))]) zad:=by
 have hP:zjs s=(yde (zfu 61 (again (forward ⟨expire s,List.replicate s.paths.length []⟩))).s,zbs s.config.packet 0 (zfu 61 (again (forward ⟨expire s,List.replicate s.paths.length []⟩))).out):=rfl;generalize zjs s=P at hP ⊢;have hsq:=hS.fit.queue;refine zal mixed Tryz.func40 zz4 ?_;(conv=>whnf);refine ⟨{x:(List zak×List zak)×zah // s.queue=x.1.1++x.1.2/\x.1.1.foldl zlm s=x.2/\SI N x.2/\x.2.fates.length=s.fates.length},
  fun | ⟨((A,B),t),_⟩=>hs 331 [(1,.ptr 1 0),(2,.ptr 2 0),(4,.clo 98 [.ptr 1 0]),(27,Sch.qs s.queue),(28,i64 s.queue.length),(29,i64 A.length)] (rpS t),fun x=>x.1.1.2.length,⟨(([],s.queue),s),rfl,rfl,hS,rfl⟩,?_,?_⟩
 . exact (zbi [(1,some 1),(2,some 2)])
 rintro ⟨⟨⟨A,B⟩,t⟩,k1,k2,k3,k4⟩;dsimp only at k1 k2 k3 k4;refine zcd fun Q hQ=>?_
 (conv=>whnf);cases B with
 | cons m B =>
  have hz:=zbe k1;have zcq:(A++[m]).foldl zlm s=zlm t m:=by rw [zy58,k2];rfl
  have hq:=hS.queue m (zgf k1);have hm0:=hq.id0;have hm1:=hq.id1;obtain ⟨id,hid⟩:∃ k:Nat,m.id=k:=⟨m.id.toNat,by omega⟩
  have kn:=ysv k3 (m:=m) zz0;refine sT ?_;refine zaj k1 rfl (zw ?_)
  (refine zae [] [(1000,1)] [] ?_;(conv=>whnf);refine dG (yhv t m.came m.message.life) ?_)
  cases ho:old t.clock m.came m.message.life with
  | true =>
   rw [zlm,zy1 ho] at zcq kn;have pg:=zzo t id k3 zz0;rw [<- hid] at pg;(conv=>whnf)
   (try refine sG ?_)
   (refine cP ?_;refine dL pg ?_)
   refine sF ?_;refine hQ _ _ ?_;conv=>whnf
   exact ⟨⟨((A++[m],B),zfg t m.id),zag k1,zcq,kn.1,kn.2.trans k4⟩,(zbi [(1,some 1),(2,some 2)]),by simp⟩
  | false =>
   rw [zlm,zy0 (by rw [ho];decide)] at zcq;(conv=>whnf)
   (try refine sG ?_)
   refine sF ?_;refine hQ _ _ ?_;conv=>whnf
   exact ⟨⟨((A++[m],B),t),zag k1,zcq,k3,k4⟩,(zbi [(1,some 1),(2,some 2)]),by simp⟩
 | nil =>
 have hz:=zbn k1;rw [zy4] at k1;rw [<- k1] at k2;have hE2:t.out.foldl zhl t=expire s:=by rw [expire,k2]
 have hES:=(zuw hS).1;have hEL:=yed hL;have hER:=(yec hS.pf).2;generalize expire s=E at hE2 hES hEL hER hP;refine sN ?_;refine hQ _ _ ?_;conv=>whnf
 refine ⟨{x:(List zbo×List zbo)×zah // t.out=x.1.1++x.1.2/\x.1.1.foldl zhl t=x.2/\SI N x.2/\x.2.fates.length=t.fates.length},
  fun | ⟨((A,B),u),_⟩=>hs 331 [(1,.ptr 1 0),(2,.ptr 2 0),(4,.clo 98 [.ptr 1 0]),(46,Sco.zdy t.out),(47,i64 t.out.length),(48,i64 A.length)] (rpS u),fun x=>x.1.1.2.length,⟨(([],t.out),t),rfl,rfl,k3,rfl⟩,?_,?_⟩
 . exact (zbi [(1,some 1),(2,some 2)])
 have g4:=k3.out;have hto:=k3.fit.out.len;clear k4 k2 k1 hQ Q;rintro ⟨⟨⟨A,B⟩,u⟩,k1,k2,k3,k4⟩;dsimp only at k1 k2 k3 k4;refine zcd fun Q hQ=>?_
 (conv=>whnf);cases B with
 | cons x B =>
  have hz:=zbe k1;have zcq:(A++[x]).foldl zhl t=zhl u x:=by rw [zy58,k2];rfl
  have hm:=g4 x (zgf k1);have hm0:=hm.id0;have hm1:=hm.id1;obtain ⟨id,hid⟩:∃ k:Nat,x.id=k:=⟨x.id.toNat,by omega⟩
  have kn:=ysw k3 (m:=x) zz0;have hidl:id<u.fates.length:=by omega
  have pg:=zzo u id k3 hidl;rw [<- hid] at pg;obtain ⟨f,hf⟩:∃ f,u.fates[id]?=some f:=⟨_,zy3 hidl⟩
  have hdue:xcw u x=(decide (f=1)&&(decide (x.state≠2)&&(old u.clock x.came x.life||(decide (x.state=3)&&(decide (x.tries>0)&&decide (x.times>x.tries)))))):=by
   unfold xcw;rw [hid,zy22,hf];rfl
  refine sT ?_;refine zaj k1 rfl (zw ?_);refine zam hf zz0 (zw ?_);by_cases d1:f=1
  case neg =>
   refine zab ?_ ?_
   . simpa using d1
   conv=>whnf
   (try refine sG ?_)
   refine sF ?_;refine hQ _ _ ?_;conv=>whnf
   rw [zhl,zy0 (by rw [hdue];simp [d1])] at zcq;exact yy50
  refine zac ?_ ?_
  . simpa using d1
  (conv=>whnf);by_cases d2:x.state=2
  case pos =>
   refine zab ?_ ?_
   . simpa using d2
   conv=>whnf
   (try refine sG ?_)
   refine sF ?_;refine hQ _ _ ?_;conv=>whnf
   rw [zhl,zy0 (by rw [hdue];simp [d1,d2])] at zcq;exact yy50
  refine zac ?_ ?_
  . simpa using d2
  conv=>whnf
  (refine zae [] [(1000,1)] [] ?_;(conv=>whnf);refine dG (yhv u x.came x.life) ?_)
  cases d3:old u.clock x.came x.life with
  | true =>
   conv=>whnf
   (try refine sG ?_)
   (refine cP ?_;refine dL pg ?_)
   refine sF ?_;refine hQ _ _ ?_;conv=>whnf
   rw [zhl,zy1 (by rw [hdue];simp [d1,d2,d3])] at zcq kn;exact ⟨⟨((A++[x],B),zfg u x.id),zag k1,zcq,kn.1,kn.2.trans k4⟩,(zbi [(1,some 1),(2,some 2)]),by simp⟩
  | false =>
  (conv=>whnf);by_cases d4:x.state=3
  case neg =>
   refine zab ?_ ?_
   . simpa using d4
   conv=>whnf
   (try refine sG ?_)
   refine sF ?_;refine hQ _ _ ?_;conv=>whnf
   rw [zhl,zy0 (by rw [hdue];simp [d1,d2,d3,d4])] at zcq;exact yy50
  refine zac ?_ ?_
  . simpa using d4
  (conv=>whnf);by_cases d5:x.tries>0
  case neg =>
   refine zab ?_ ?_
   . simpa using d5
   conv=>whnf
   (try refine sG ?_)
   refine sF ?_;refine hQ _ _ ?_;conv=>whnf
   rw [zhl,zy0 (by rw [hdue];simp [d1,d2,d3,d4,d5])] at zcq;exact yy50
  refine zac ?_ ?_
  . simpa using d5
  (conv=>whnf);by_cases d6:x.times>x.tries
  case neg =>
   refine zab ?_ ?_
   . simpa using d6
   conv=>whnf
   (try refine sG ?_)
   refine sF ?_;refine hQ _ _ ?_;conv=>whnf
   rw [zhl,zy0 (by rw [hdue];simp [d1,d2,d3,d4,d5,d6])] at zcq;exact yy50
  refine zac ?_ ?_
  . simpa using d6
  conv=>whnf
  (try refine sG ?_)
  (refine cP ?_;refine dL pg ?_)
  refine sF ?_;refine hQ _ _ ?_;conv=>whnf
  rw [zhl,zy1 (by rw [hdue];simp [d1,d2,d3,d4,d5,d6])] at zcq kn;exact ⟨⟨((A++[x],B),zfg u x.id),zag k1,zcq,kn.1,kn.2.trans k4⟩,(zbi [(1,some 1),(2,some 2)]),by simp⟩
 | nil =>
 have hz:=zbn k1;rw [zy4] at k1;rw [<- k1,hE2] at k2;subst k2;refine sN ?_;refine hQ _ _ ?_;conv=>whnf
 have hfe:=hES.fit
 (refine cP ?_;refine dL (Sco.zlf E.out E.cum hfe.out.len) ?_)
 refine sDm ?_;have hpl:1<=E.paths.length/\E.paths.length<=2:=by have:=hES.npaths;have:=zde hES.cfg;omega
 obtain ⟨hch,hch2⟩:=zdm (s:=E) zz0;obtain ⟨w,hw⟩:∃ w,E.paths[choose E]?=some w:=⟨_,zy3 hch2⟩
 have hc01:choose E=0\/choose E=1:=by omega
 have hge:=ybt (sk:=[]) hES.nums;have pc:=Paths.zjo E.paths zz0;rw [hch] at pc;generalize hF:forward ⟨E,[[],[]]⟩=F;refine zhs.meet PUnit (fun _=>hs 331 [(1,.ptr 1 0),(2,.ptr 2 0),(9,.ptr 96 0)] (puH E F)) ?_ ?_
 . conv=>whnf
   by_cases f1:E.forward=true
   case neg =>
    rw [zsq (.inl (by simpa using f1))] at hF;subst hF;refine zab (by simpa using f1) (zw ?_);exact ⟨⟨⟩,(zbi [(1,some 1),(2,some 2),(96,some 96),(900,none),(901,none)])⟩
   refine zac f1 (zw ?_);by_cases f2:(Sco.zdx E.out E.cum).1>E.cum
   case neg =>
    rw [zsq (.inr (by unfold Sco.zdx at f2 ⊢;omega))] at hF;subst hF;refine zab (zy11 f2) (zw ?_);exact ⟨⟨⟩,(zbi [(1,some 1),(2,some 2),(96,some 96),(900,none),(901,none)])⟩
   refine zac (zy10 f2) (zw ?_);have fy:¬ (E.forward=false\/(Sco.zdx E.out E.cum).1=E.cum):=by rintro (h | h);rw [f1] at h;cases h;omega
   rcases hc01 with hc | hc
   . rw [zvc fy hw (l:=[]) (by rw [hc];rfl)] at hF
     rw [hc] at pc hw hF;subst hF
     (refine cL ?_;refine dL pc ?_)
     refine ⟨0,rfl,by decide,zw ?_⟩
     (refine cL ?_;refine dL (zcu _) ?_)
     refine zaa (c:=(1:Nat)*128<=140737488355328) zz4 (zw ?_);refine ⟨0,rfl,by decide,zw ?_⟩;refine sD ?_;refine zaa (c:=(([]:List (List PV)).length+(E.paths.map Path.row).length)*56<=140737488355328) zz3 (zw ?_)
     (try refine sG ?_)
     have hl:=(zy9.1 hw).1;refine sOm ?_;refine zam (l:=E.paths) hw rfl (zw ?_);by_cases c3:w.zcs=0
     case neg =>
      have hr:([]:List (List PV))++E.paths.map Path.row=(E.paths.set 0 (zcs E w)).map Path.row:=by rw [zpa c3,zkz hw];rfl
      refine zab (zy5.2 c3) (zw ?_);exact ⟨⟨⟩,(zog [158] [(1,some 1),(2,some 2),(96,some 96),(900,some 148),(901,none)] zz27)⟩
     have hr:(([]:List (List PV))++E.paths.map Path.row).set 0 ({w with zcs:=W (E.clock+w.wait)}:Path).row=(E.paths.set 0 (zcs E w)).map Path.row:=by rw [zly c3,zy61];rfl
     refine zac (zy15.2 c3) (zw ?_);refine sOm ?_;refine zam (l:=E.paths) hw rfl (zw ?_);refine sRm ?_;refine sOm ?_;refine zam (l:=E.paths) hw rfl (zw ?_);refine sDm ?_;exact ⟨⟨⟩,(zog [158] [(1,some 1),(2,some 2),(96,some 96),(900,some 148),(901,none)] zz27)⟩
   . rw [zvc fy hw (l:=[]) (by rw [hc];rfl)] at hF
     rw [hc] at pc hw hF;subst hF
     (refine cL ?_;refine dL pc ?_)
     refine ⟨1,rfl,by decide,zw ?_⟩
     (refine cL ?_;refine dL (zcu _) ?_)
     refine zaa (c:=(1:Nat)*128<=140737488355328) zz4 (zw ?_);refine ⟨1,rfl,by decide,zw ?_⟩;refine sD ?_;refine zaa (c:=(([]:List (List PV)).length+(E.paths.map Path.row).length)*56<=140737488355328) zz3 (zw ?_)
     (try refine sG ?_)
     have hl:=(zy9.1 hw).1;refine sOm ?_;refine zam (l:=E.paths) hw rfl (zw ?_);by_cases c3:w.zcs=0
     case neg =>
      have hr:([]:List (List PV))++E.paths.map Path.row=(E.paths.set 1 (zcs E w)).map Path.row:=by rw [zpa c3,zkz hw];rfl
      refine zab (zy5.2 c3) (zw ?_);exact ⟨⟨⟩,(zog [158] [(1,some 1),(2,some 2),(96,some 96),(900,none),(901,some 148)] zz28)⟩
     have hr:(([]:List (List PV))++E.paths.map Path.row).set 1 ({w with zcs:=W (E.clock+w.wait)}:Path).row=(E.paths.set 1 (zcs E w)).map Path.row:=by rw [zly c3,zy61];rfl
     refine zac (zy15.2 c3) (zw ?_);refine sOm ?_;refine zam (l:=E.paths) hw rfl (zw ?_);refine sRm ?_;refine sOm ?_;refine zam (l:=E.paths) hw rfl (zw ?_);refine sDm ?_;exact ⟨⟨⟩,(zog [158] [(1,some 1),(2,some 2),(96,some 96),(900,none),(901,some 148)] zz28)⟩
 rintro ⟨⟩;have hFs:SI N F.s:=hF ▸ zih hES;have hFL:SL F.s:=by unfold SL;rw [<- hF,zpi];exact hEL
 have hFo:F.out.length=2:=by rw [<- hF];unfold forward;split<;>simp [zfk]
 have hFp:F.s.paths.length=E.paths.length:=by rw [<- hF];unfold forward;split<;>simp [zfk]
 have hF01:(yfw F.out).length<=1/\(ynp F.out).length<=1:=by
  rw [<- hF];unfold forward;split
  . simp [yfw,ynp]
  . rcases hc01 with hc | hc<;>simp [hc,yfw,ynp,setAt]
 clear pc hge hw hc01 hch hch2 w;obtain ⟨hch,hch2⟩:=zdm (s:=F.s) zz0;have pc:=Paths.zjo F.s.paths zz0;rw [hch] at pc;have hc01:choose F.s=0\/choose F.s=1:=by omega
 generalize hcf:choose F.s=cf at pc hch2 hc01;have hFN:=hFs.len;have hNN:=hFs.few;have hFl:=hFs.fit.out.len;(conv=>whnf)
 (refine cL ?_;refine dL pc ?_)
 refine ⟨{x:Nat×zfl // x.1<=F.s.out.length/\(List.range x.1).foldl (zdh (cf)) F=x.2/\SI N x.2.s/\x.2.out.length=2/\x.2.s.paths.length=E.paths.length/\x.2.s.out.length=F.s.out.length/\(yfw x.2.out).length<=1+x.1/\(ynp x.2.out).length<=1+x.1/\SL x.2.s},fun | ⟨(i,p),_⟩=>hs 331 [(1,.ptr 1 0),(2,.ptr 2 0),(9,.ptr 96 0),(14,i64 (cf)),(196,i64 F.s.out.length),(197,i64 i)] (puH E p),fun x=>F.s.out.length-x.1.1,⟨(0,F),zy107 _,rfl,hFs,hFo,hFp,rfl,hF01.1,hF01.2,hFL⟩,?_,?_⟩
 . exact (zaz [(1,some 1),(2,some 2),(96,some 96),(900,some 900),(901,some 901)] (by repeat' (first | exact z0 | refine z1 ?_ | refine ⟨?_,?_⟩ | ((exact zbk (by simp))) | exact z2)))
 rintro ⟨⟨i,p⟩,k1,k2,k3,k4,k5,k6,k7,k8,k9⟩;dsimp only at k1 k2 k3 k4 k5 k6 k7 k8 k9;refine zcd fun Q hQ=>?_
 (conv=>whnf);by_cases hi:i<F.s.out.length
 case pos =>
  obtain ⟨x,hx⟩:∃ x,p.s.out[i]?=some x:=⟨_,zy3 zz0⟩
  obtain ⟨w,hw⟩:∃ w,p.s.paths[cf]?=some w:=⟨_,zy3 zz0⟩
  have hst:=zij (zdh (cf)) F i;rw [k2] at hst;obtain ⟨ps,po⟩:=p;obtain ⟨a,c,hac⟩:∃ a c,po=[a,c]:=⟨_,_,yxq k4⟩
  subst hac;have k7:a.length<=1+i:=k7;have k8:c.length<=1+i:=k8;dsimp only at hx hw k3 k5 k6 hst;have hno:=zoz (o:=[a,c]) (c:=cf) hx hw;have hyes:=fun l (hl:[a,c][cf]?=some l)=>zlx (o:=[a,c]) (c:=cf) (l:=l) hx hw hl
  refine sT ?_;refine zam hx rfl (zw ?_);by_cases d1:x.state=3
  case neg =>
   rw [hno fun h=>d1 h.1] at hst;refine zab (zy5.2 d1) (zw ?_);exact yy60
  refine zac (zy15.2 d1) (zw ?_);have po:=zzp ps a c (cf) w hw zz0;rw [show opened ps (cf)=decide (w.zba<w.window) by rw [opened,hw]] at po;by_cases d2:w.zba<w.window
  case neg =>
   rw [hno fun h=>d2 h.2] at hst;rw [zy11 d2] at po
   (refine zae [] [(1000,96),(1007,900),(1008,901)] [] ?_;(conv=>whnf);refine dG po ?_)
   exact yy60
  rw [zy10 d2] at po
  (refine zae [] [(1000,96),(1007,900),(1008,901)] [] ?_;(conv=>whnf);refine dG po ?_)
  have hyes:=fun l hl=>hyes l hl ⟨d1,d2⟩
  have hn:=zoy (p:=⟨ps,[a,c]⟩) k3 (path:=cf) (by show cf<ps.paths.length;omega) i;rcases hc01 with rfl | rfl
  . have hy:=hyes a rfl
    have hn1:=hn.1;have hn2:=hn.2;rw [hy] at hst hn1 hn2;have hfe:=zoc (p:=⟨ps,[a,c]⟩) (N:=N) (i:=i) (path:=0) (by rw [zyc hx hw (l:=a) rfl];exact hn1) hx hw;rw [zyc hx hw (l:=a) rfl] at hfe;have pf:=zzm false ps (zxg ps i 0 x w) a c i x hx hn1.fit.out zz0 hfe zz0
    (refine zae [] [(1000,96),(1007,900),(1008,901)] [(0,970)] ?_;(conv=>whnf);refine dG pf ?_)
    refine sF ?_;refine hQ _ _ ?_;conv=>whnf
    exact ⟨⟨(i+1,⟨zxg ps i 0 x w,[a++[x.chunk],c]⟩),by dsimp only;omega,hst,hn1,rfl,hn2.trans k5,by show (ps.out.set i _).length=_;rw [zy26];exact k6,by show (a++[x.chunk]).length<=1+(i+1);rw [zy8];simp only [zy6,zy12];omega,by show c.length<=1+(i+1);omega,k9⟩,(zbi [(1,some 1),(2,some 2),(96,some 96),(900,some 970),(901,some 901)]),by dsimp only;omega⟩
  . have hy:=hyes c rfl
    have hn1:=hn.1;have hn2:=hn.2;rw [hy] at hst hn1 hn2;have hfe:=zoc (p:=⟨ps,[a,c]⟩) (N:=N) (i:=i) (path:=1) (by rw [zyc hx hw (l:=c) rfl];exact hn1) hx hw;rw [zyc hx hw (l:=c) rfl] at hfe;have pf:=zzn false ps (zxg ps i 1 x w) a c i x hx hn1.fit.out zz0 hfe zz0
    (refine zae [] [(1000,96),(1007,900),(1008,901)] [(0,970)] ?_;(conv=>whnf);refine dG pf ?_)
    refine sF ?_;refine hQ _ _ ?_;conv=>whnf
    exact ⟨⟨(i+1,⟨zxg ps i 1 x w,[a,c++[x.chunk]]⟩),by dsimp only;omega,hst,hn1,rfl,hn2.trans k5,by show (ps.out.set i _).length=_;rw [zy26];exact k6,by show a.length<=1+(i+1);omega,by show (c++[x.chunk]).length<=1+(i+1);rw [zy8];simp only [zy6,zy12];omega,k9⟩,(zbi [(1,some 1),(2,some 2),(96,some 96),(900,some 900),(901,some 970)]),by dsimp only;omega⟩
 have hin:i=F.s.out.length:=by omega
 subst hin;have hag:again F=p:=by unfold again;rw [hcf];exact k2
 refine sN ?_;refine hQ _ _ ?_;conv=>whnf
 generalize hN61:zfu 61 p=R;refine ⟨{x:Nat×zfl // zfu x.1 x.2=R/\SI N x.2.s/\x.2.out.length=2/\x.2.s.paths.length=E.paths.length/\61<=x.1+x.2.s.out.length/\x.1<=61/\(yfw x.2.out).length+x.1<=62+F.s.out.length/\(ynp x.2.out).length+x.1<=62+F.s.out.length/\SL x.2.s},fun | ⟨(j,p),_⟩=>hs 331 [(1,.ptr 1 0),(2,.ptr 2 0),(9,.ptr 96 0)] (puH E p),fun x=>x.1.1,⟨(61,p),hN61,k3,k4,k5,by dsimp only;omega,by dsimp only;omega,by dsimp only;omega,by dsimp only;omega,k9⟩,?_,?_⟩
 . exact (zbi [(1,some 1),(2,some 2),(96,some 96),(900,some 900),(901,some 901)])
 clear hQ Q k1 k2 k3 k4 k5 k6 k7 k8 k9 hi;rintro ⟨⟨j,p'⟩,k1,k3,k4,k5,k6,k6',k7,k8,k9⟩;dsimp only at k1 k3 k4 k5 k6 k6' k7 k8 k9;refine zcd fun Q hQ=>?_
 (conv=>whnf);obtain ⟨ps,po⟩:=p';obtain ⟨a,c,hac⟩:∃ a c,po=[a,c]:=⟨_,_,yxq k4⟩
 subst hac;have k7:a.length+j<=62+F.s.out.length:=k7;have k8:c.length+j<=62+F.s.out.length:=k8;dsimp only at k3 k5 k6 k9;have pn:=zwm ps a c k3.pf.nfit (fun _=>k9) zz0 zz0 fun k m hm=>by
  have hc:=ysp k3 hm;have hx:(zxe ps k m).out[ps.out.length]?=some (⟨ps.next,m.id,0,0,0,0,m.came,m.message.life,m.message.tries,cut ps m (many ps m)⟩:zbo):=by
   show (ps.out++[_])[ps.out.length]?=_;rw [zy45 (zy23 _)];simp
  have hcl:=choose_lt' k3;obtain ⟨w,hw⟩:∃ w,ps.paths[choose ps]?=some w:=⟨_,zy3 hcl⟩
  have hfs:SI N (fly ⟨zxe ps k m,[a,c]⟩ ps.out.length (choose ps)).s:=ytc (p:=⟨zxe ps k m,[a,c]⟩) hc hx (by show (0:Int)≠1;decide) hcl;have hff:=zoc (p:=⟨zxe ps k m,[a,c]⟩) hfs hx hw;refine ⟨?_,hff⟩;have h:=hfs.fit.out;rw [<- hff] at h;exact h
 cases hnx:next ⟨ps,[a,c]⟩ with
 | some q =>
  rw [show nx ps [a,c]=(q,true) by rw [nx,hnx]] at pn;obtain ⟨t1,t2,t3,t4,t5,t6⟩:=yzp hnx;have hqs:=zvl (p:=⟨ps,[a,c]⟩) k3 hnx;have hql:=yuw (p:=⟨ps,[a,c]⟩) k3 hnx;obtain ⟨j,rfl⟩:∃ j',j=j'+1:=⟨j-1,by omega⟩
  rw [zfu,hnx] at k1
  (refine zae [] [(1000,96),(1007,900),(1008,901)] [(0,980),(1,981)] ?_;(conv=>whnf);refine dG pn ?_)
  refine hQ _ _ ?_;conv=>whnf
  exact ⟨⟨(j,q),k1,hqs,t2,t3.trans k5,by dsimp only;omega,by dsimp only;omega,by dsimp only;omega,by dsimp only;omega,hql⟩,(zbi [(1,some 1),(2,some 2),(96,some 96),(900,some 980),(901,some 981)]),by dsimp only;omega⟩
 | none =>
 rw [show nx ps [a,c]=(⟨ps,[a,c]⟩,false) by rw [nx,hnx]] at pn;rw [zrm hnx] at k1
 (refine zae [] [(1000,96),(1007,900),(1008,901)] [(0,980),(1,981)] ?_;(conv=>whnf);refine dG pn ?_)
 refine hQ _ _ ?_;conv=>whnf
 subst k1;have hout:=k3.fit.out.len;clear hQ Q pn
 (refine cP ?_;refine dL (Sco.zlf ps.out ps.cum hout) ?_)
 refine sD ?_;generalize hZ:(Sco.zdx ps.out ps.cum).1=Z;refine ⟨{x:List Path×List Path // ps.paths=x.1++x.2},fun | ⟨(A,B),_⟩=>hs 331 [(1,.ptr 1 0),(2,.ptr 2 0),(9,.ptr 96 0),(10,i64 Z),(16,.own 910),(240,zov ps.paths),(241,i64 ps.paths.length),(242,i64 A.length)] ((910,yxv (A.map (zfv ps Z)))::puH E ⟨ps,[a,c]⟩),fun x=>x.1.2.length,⟨([],ps.paths),rfl⟩,?_,?_⟩
 . exact (zbi [(1,some 1),(2,some 2),(96,some 96),(900,some 980),(901,some 981),(910,none)])
 rintro ⟨⟨A,B⟩,h⟩;dsimp only at h;have hpql:ps.paths.length=A.length+B.length:=by rw [h];simp
 refine zcd fun Q hQ=>?_
 (conv=>whnf);cases B with
 | cons x B =>
  have hz:=zbe h;refine sT ?_;refine zaj h rfl (zw ?_)
  (try refine sG ?_)
  by_cases f1:x.zba>0
  case pos =>
   refine zac (zy10 f1) (zw ?_);by_cases f2:x.zcs=0
   case pos =>
    have hwk:zfv ps Z x={x with zcs:=W (ps.clock+x.wait)}:=zy1 ⟨f1,f2⟩;refine zac (zy15.2 f2) (zw ?_);refine sR ?_;refine sD ?_;exact yy16
   have hwk:zfv ps Z x=x:=by unfold zfv;rw [zy0 (fun h=>f2 h.2),zy0 (fun h=>by omega)]
   refine zab (zy5.2 f2) (zw ?_)
   (try refine sG ?_)
   refine zab (zy5.2 zz0) (zw ?_)
   (try refine sG ?_)
   exact yy16
  refine zab (zy11 f1) (zw ?_)
  (try refine sG ?_)
  by_cases f3:x.zba=0
  case neg =>
   have hwk:zfv ps Z x=x:=by unfold zfv;rw [zy0 (fun h=>f1 h.1),zy0 (fun h=>f3 h.1)]
   refine zab (zy5.2 f3) (zw ?_)
   (try refine sG ?_)
   exact yy16
  refine zac (zy15.2 f3) (zw ?_);by_cases f4:Z=ps.cum
  case neg =>
   have hwk:zfv ps Z x=x:=by unfold zfv;rw [zy0 (fun h=>f1 h.1),zy0 (fun h=>f4 h.2)]
   refine zab (zy5.2 f4) (zw ?_)
   (try refine sG ?_)
   exact yy16
  have hwk:zfv ps Z x={x with zcs:=0}:=by unfold zfv;rw [zy0 (fun h=>f1 h.1),zy1 ⟨f3,f4⟩]
  refine zac (zy15.2 f4) (zw ?_)
  (try refine sG ?_)
  exact yy16
 | nil =>
 have hz:=zbn h;rw [zy4] at h;subst h;refine sN ?_;refine hQ _ _ ?_;conv=>whnf
 clear hQ Q;have hok0:OK2 ⟨E,[[],[]]⟩:=by
  intro l hl x hx;simp at hl;rw [hl] at hx;cases hx
 have hok:OK2 ⟨ps,[a,c]⟩:=by
  rw [<- hN61,<- hag,<- hF];exact yft 61 (ztn (zih hES)) (ysc (zih hES) (yjg hok0))
 have hP2:P=(yde ps,zbs E.config.packet 0 [a,c]):=by
  obtain ⟨e1,e2⟩:=xai hES zz0 E.config.packet;rw [hP,<- hER.paths,<- hER.config,<- e1,<- e2,hF,hag,hN61]
 have hka:∀ x∈a,Okc x:=hok a zz5;have hkc:∀ x∈c,Okc x:=hok c zz5;subst hZ;generalize hV:yde ps=V at hP2;refine ⟨{k:Nat // k<=2},fun | ⟨k,_⟩=>hs 331 [(1,.ptr 1 0),(2,.ptr 2 0),(9,.ptr 96 0),(19,.own 920),(289,.agg [.p (.sl 11 (a.map Chunk.row)),.p (.sl 11 (c.map Chunk.row))]),(290,i64 k)] [(1,scS E),(2,sc0),(96,.live (.cells 148 (pdC V (Sch.qs V.queue) (ints V.sched.had) (Sco.zdy V.out) (zov V.paths) (ints V.mids) (ints V.fates) (.p (.sl 11 (a.map Chunk.row))) (.p (.sl 11 (c.map Chunk.row)))))),(920,zhc (zbs E.config.packet 0 ([a,c].take k)))],fun k=>2-k.1,⟨0,by omega⟩,?_,?_⟩
 . subst hV
   exact (zog [900,901,910] [(1,some 1),(2,some 2),(96,some 96),(920,none)] (by repeat' (first | exact z0 | refine z1 ?_ | refine ⟨?_,?_⟩ | exact z2)))
 rintro ⟨k,hk⟩;refine zcd fun Q hQ=>?_
 (conv=>whnf);obtain rfl | rfl | rfl:k=0\/k=1\/k=2:=by omega
 . skip
   (try refine sG ?_)
   refine ⟨0,rfl,by decide,zw ?_⟩;refine ⟨{x:Nat×List Chunk×List zau // x.2.2++zfi E.config.packet 0 x.1 x.2.1=zbs E.config.packet 0 ([a,c].take (0+1))/\x.2.1.length<=x.1/\(∀ z∈x.2.1,Okc z)/\x.2.2.length+x.2.1.length<=2 ^ 36},fun | ⟨(n,L,acc),_⟩=>hs 331 [(1,.ptr 1 0),(2,.ptr 2 0),(9,.ptr 96 0),(19,.own 920),(20,i64 0),(21,.p (.sl 11 (L.map Chunk.row))),(289,.agg [.p (.sl 11 (a.map Chunk.row)),.p (.sl 11 (c.map Chunk.row))]),(290,i64 0)] [(1,scS E),(2,sc0),(96,.live (.cells 148 (pdC V (Sch.qs V.queue) (ints V.sched.had) (Sco.zdy V.out) (zov V.paths) (ints V.mids) (ints V.fates) (.p (.sl 11 (a.map Chunk.row))) (.p (.sl 11 (c.map Chunk.row)))))),(920,zhc acc)],fun x=>x.1.2.1.length,⟨(a.length,a,zbs E.config.packet 0 ([a,c].take 0)),xgm E.config.packet a c,zy23 _,hka,by have:=yvj E.config.packet a c;dsimp only at this ⊢;omega⟩,?_,?_⟩
   . exact (zbi [(1,some 1),(2,some 2),(96,some 96),(920,some 920)])
   rintro ⟨⟨n,L,acc⟩,i1,i2,i3,i4⟩;dsimp only at i1 i2 i3 i4;refine zcd fun Q2 hQ2=>?_
   (conv=>whnf);cases L with
   | nil =>
    rw [zmk,zy4] at i1;refine hQ2 _ _ (zw ?_);refine sF ?_;refine hQ _ _ ?_;conv=>whnf
    exact ⟨⟨0+1,by omega⟩,(zaz [(1,some 1),(2,some 2),(96,some 96),(920,some 920)] zz88),by dsimp only;omega⟩
   | cons z L =>
   obtain ⟨r,r1,r2,r3⟩:=zwa (most:=E.config.packet) (l:=z::L) zz5;obtain ⟨n,rfl⟩:∃ n',n=n'+1:=⟨n-1,by rw [zy6] at i2;omega⟩
   refine sT ?_
   (refine cL ?_;refine dLm (Pck.yht (z::L) E.config.packet ⟨by omega,i3⟩) ?_)
   refine zhs.meet PUnit (fun _=>hs 331 [(1,.ptr 1 0),(2,.ptr 2 0),(9,.ptr 96 0),(19,.own 920),(20,i64 0),(21,.p (.sl 11 ((z::L).map Chunk.row))),(22,i64 (zca E.config.packet (z::L))),(289,.agg [.p (.sl 11 (a.map Chunk.row)),.p (.sl 11 (c.map Chunk.row))]),(290,i64 0)] [(1,scS E),(2,sc0),(96,.live (.cells 148 (pdC V (Sch.qs V.queue) (ints V.sched.had) (Sco.zdy V.out) (zov V.paths) (ints V.mids) (ints V.fates) (.p (.sl 11 (a.map Chunk.row))) (.p (.sl 11 (c.map Chunk.row)))))),(920,zhc acc)]) ?_ ?_
   . conv=>whnf
     exact yy49
   rintro ⟨⟩;(conv=>whnf)
   (try refine sG ?_)
   refine zaa zz6 (zw ?_);refine zgc (l:=z::L) zz115 ?_;(conv=>whnf);have hrt:(((z::L).drop 0).take (zca E.config.packet (z::L)-0).toNat)=(z::L).take r:=by rw [zy100,r1];simp
   have pb:=Pck.zjp (((z::L).drop 0).take (zca E.config.packet (z::L)-0).toNat) E.config.packet zz100;generalize hK:Pck.zda (((z::L).drop 0).take (zca E.config.packet (z::L)-0).toNat) E.config.packet=K at pb;rw [hrt] at hK;obtain ⟨bts,er⟩:=K
   (refine cP ?_;refine dL pb ?_)
   refine sD ?_;have hpn:zfi E.config.packet 0 (n+1) (z::L)=(if er=0 then [(⟨0,false,bts⟩:zau)] else [])++zfi E.config.packet 0 n ((z::L).drop r):=by
    rw [zfi,zy0 (by simp),zls,r1,zy22,hK]
   rw [hpn] at i1;by_cases e:er=0
   case pos =>
    rw [zy1 e,<- zy27] at i1;refine zac (zy15.2 e) (zw ?_);refine zaa (c:=((acc.map zau.row).length+1)*40<=140737488355328) zz6 (zw ?_);have hr2:r=(zca E.config.packet (z::L)).toNat:=by rw [r1,zy22]
    refine zaa zz6 (zw ?_);refine zfh (l:=z::L) zz21 ?_;(conv=>whnf);refine hQ2 _ _ (zw ?_);exact ⟨⟨(n,(z::L).drop r,(acc++[⟨0,false,bts⟩])),i1,by dsimp only;rw [zy38];omega,fun x hx=>i3 x (zy64 hx),by dsimp only;rw [zy38];simp only [zy8,zy6,zy12] at i4 ⊢;omega⟩,(zaz [(1,some 1),(2,some 2),(96,some 96),(920,some 321)] zz43),by dsimp only;rw [zy38];omega⟩
   case neg =>
    exact yy35
 . skip
   (try refine sG ?_)
   refine ⟨1,rfl,by decide,zw ?_⟩;refine ⟨{x:Nat×List Chunk×List zau // x.2.2++zfi E.config.packet 1 x.1 x.2.1=zbs E.config.packet 0 ([a,c].take (1+1))/\x.2.1.length<=x.1/\(∀ z∈x.2.1,Okc z)/\x.2.2.length+x.2.1.length<=2 ^ 36},fun | ⟨(n,L,acc),_⟩=>hs 331 [(1,.ptr 1 0),(2,.ptr 2 0),(9,.ptr 96 0),(19,.own 920),(20,i64 1),(21,.p (.sl 11 (L.map Chunk.row))),(289,.agg [.p (.sl 11 (a.map Chunk.row)),.p (.sl 11 (c.map Chunk.row))]),(290,i64 1)] [(1,scS E),(2,sc0),(96,.live (.cells 148 (pdC V (Sch.qs V.queue) (ints V.sched.had) (Sco.zdy V.out) (zov V.paths) (ints V.mids) (ints V.fates) (.p (.sl 11 (a.map Chunk.row))) (.p (.sl 11 (c.map Chunk.row)))))),(920,zhc acc)],fun x=>x.1.2.1.length,⟨(c.length,c,zbs E.config.packet 0 ([a,c].take 1)),xgn E.config.packet a c,zy23 _,hkc,by have:=yvk E.config.packet a c;dsimp only at this ⊢;omega⟩,?_,?_⟩
   . exact (zbi [(1,some 1),(2,some 2),(96,some 96),(920,some 920)])
   rintro ⟨⟨n,L,acc⟩,i1,i2,i3,i4⟩;dsimp only at i1 i2 i3 i4;refine zcd fun Q2 hQ2=>?_
   (conv=>whnf);cases L with
   | nil =>
    rw [zmk,zy4] at i1;refine hQ2 _ _ (zw ?_);refine sF ?_;refine hQ _ _ ?_;conv=>whnf
    exact ⟨⟨1+1,by omega⟩,(zaz [(1,some 1),(2,some 2),(96,some 96),(920,some 920)] zz88),by dsimp only;omega⟩
   | cons z L =>
   obtain ⟨r,r1,r2,r3⟩:=zwa (most:=E.config.packet) (l:=z::L) zz5;obtain ⟨n,rfl⟩:∃ n',n=n'+1:=⟨n-1,by rw [zy6] at i2;omega⟩
   refine sT ?_
   (refine cL ?_;refine dLm (Pck.yht (z::L) E.config.packet ⟨by omega,i3⟩) ?_)
   refine zhs.meet PUnit (fun _=>hs 331 [(1,.ptr 1 0),(2,.ptr 2 0),(9,.ptr 96 0),(19,.own 920),(20,i64 1),(21,.p (.sl 11 ((z::L).map Chunk.row))),(22,i64 (zca E.config.packet (z::L))),(289,.agg [.p (.sl 11 (a.map Chunk.row)),.p (.sl 11 (c.map Chunk.row))]),(290,i64 1)] [(1,scS E),(2,sc0),(96,.live (.cells 148 (pdC V (Sch.qs V.queue) (ints V.sched.had) (Sco.zdy V.out) (zov V.paths) (ints V.mids) (ints V.fates) (.p (.sl 11 (a.map Chunk.row))) (.p (.sl 11 (c.map Chunk.row)))))),(920,zhc acc)]) ?_ ?_
   . conv=>whnf
     exact yy49
   rintro ⟨⟩;(conv=>whnf)
   (try refine sG ?_)
   refine zaa zz6 (zw ?_);refine zgc (l:=z::L) zz115 ?_;(conv=>whnf);have hrt:(((z::L).drop 0).take (zca E.config.packet (z::L)-0).toNat)=(z::L).take r:=by rw [zy100,r1];simp
   have pb:=Pck.zjp (((z::L).drop 0).take (zca E.config.packet (z::L)-0).toNat) E.config.packet zz100;generalize hK:Pck.zda (((z::L).drop 0).take (zca E.config.packet (z::L)-0).toNat) E.config.packet=K at pb;rw [hrt] at hK;obtain ⟨bts,er⟩:=K
   (refine cP ?_;refine dL pb ?_)
   refine sD ?_;have hpn:zfi E.config.packet 1 (n+1) (z::L)=(if er=0 then [(⟨1,false,bts⟩:zau)] else [])++zfi E.config.packet 1 n ((z::L).drop r):=by
    rw [zfi,zy0 (by simp),zls,r1,zy22,hK]
   rw [hpn] at i1;by_cases e:er=0
   case pos =>
    rw [zy1 e,<- zy27] at i1;refine zac (zy15.2 e) (zw ?_);refine zaa (c:=((acc.map zau.row).length+1)*40<=140737488355328) zz6 (zw ?_);have hr2:r=(zca E.config.packet (z::L)).toNat:=by rw [r1,zy22]
    refine zaa zz6 (zw ?_);refine zfh (l:=z::L) zz21 ?_;(conv=>whnf);refine hQ2 _ _ (zw ?_);exact ⟨⟨(n,(z::L).drop r,(acc++[⟨1,false,bts⟩])),i1,by dsimp only;rw [zy38];omega,fun x hx=>i3 x (zy64 hx),by dsimp only;rw [zy38];simp only [zy8,zy6,zy12] at i4 ⊢;omega⟩,(zaz [(1,some 1),(2,some 2),(96,some 96),(920,some 321)] zz43),by dsimp only;rw [zy38];omega⟩
   case neg =>
    exact yy35
 (try refine sG ?_)
 refine hQ _ _ ?_;conv=>whnf
 rw [hP2]
 try rfl
end Snd
namespace Snd
open Ser
theorem yrf (s:zah) (m:Message) (hs:Fit s) (hd:m.data.length<2 ^ 38) :
 zan Tryz.prog 32 [s.hv,m.hv] zad (.tup [(zon s m).1.hv,i64 (zon s m).2.1,i64 (zon s m).2.2]) zad:=by
 obtain ⟨h1,h2,h3,h4,h5,h6,h7⟩:=hs;refine zal mixed Tryz.func32 zz4 ?_;(conv=>whnf)
 (repeat' (first | (refine zce ?_;conv=>whnf) | (refine zaa ?_ ?_;(first | kernel_rfl | decide);conv=>whnf) | (refine zaw ?_ ?_;kernel_rfl;conv=>whnf) | (refine zhs.go ?_;conv=>whnf) | (refine zaf (fun h=>?_) (fun h=>?_)<;>conv=>whnf)))
 all_goals try simp only [zy44,zy47,zy15,zy5,zy43,zy28,zy2] at *
 all_goals first
  | (rw [zjm (e:=3) (by simp only [zep];(repeat' split)<;>first | rfl | omega) (by decide)];rfl)
  | (rw [zjm (e:=4) (by simp only [zep];(repeat' split)<;>first | rfl | omega) (by decide)];rfl)
  | (rw [zjm (e:=7) (by simp only [zep];(repeat' split)<;>first | rfl | omega) (by decide)];rfl)
  | rw [zqa (by simp only [zep];(repeat' split)<;>first | rfl | omega)]
 refine zaa (c:=(([]:List (List PV)).length+s.queue.length)*96<=140737488355328) zz3 (zw ?_);refine zaa (c:=((([]:List (List PV))++s.queue.map zak.row).length+1)*96<=140737488355328) zz3 (zw ?_);refine sD ?_;refine zaa (c:=(([]:List (List PV)).length+(s.fates.map fun n=>[pi n]).length)*8<=140737488355328) zz3 (zw ?_);refine zaa (c:=((([]:List (List PV))++s.fates.map fun n=>[pi n]).length+1)*8<=140737488355328) zz3 (zw ?_);have hq:(([]:List (List PV))++s.queue.map zak.row)++[(⟨s.fates.length,-1,s.clock,0,0,m⟩:zak).row]=(zhv s m).queue.map zak.row:=by simp [zhv]
 have hf:(([]:List (List PV))++s.fates.map fun n=>[pi n])++[[pi 1]]=(zhv s m).fates.map fun n=>[pi n]:=by simp [zhv]
 show HV.tup [.agg (ycf s (.p (.sl 10 ((([]:List (List PV))++s.queue.map zak.row)++[(⟨s.fates.length,-1,s.clock,0,0,m⟩:zak).row]))) (ints s.sched.had) (Sco.zdy s.out) (zov s.paths) (ints s.mids) (.p (.sl 1 ((([]:List (List PV))++s.fates.map fun n=>[pi n])++[[pi 1]])))),i64 s.fates.length,i64 0]=_;rw [hq,hf];rfl
def wrL (c:Config):List (Int×Int×Int):=[(c.streams,1,4),(c.paths,1,2),(c.part,1,16),(c.packet,40,120),(c.waiting,1,12),(c.first,0,65535)]
abbrev wrR (x:Int×Int×Int):List PV:=[pi x.1,pi x.2.1,pi x.2.2]
theorem xcg {c:Config} {x:Int×Int×Int} (hx:x∈wrL c) (h:x.1<x.2.1\/x.1>x.2.2):zju c=3:=by
 have:c.streams<1\/c.streams>4\/c.paths<1\/c.paths>2\/c.part<1\/c.part>16\/c.packet<40\/c.packet>120\/c.waiting<1\/c.waiting>12\/c.first<0\/c.first>=65536:=by
  simp only [wrL,zy13,List.not_mem_nil,or_false] at hx;rcases hx with rfl | rfl | rfl | rfl | rfl | rfl<;>dsimp only at h<;>omega
 unfold zju;rw [zy1 this]
theorem xhz {c:Config} (h:∀ x∈wrL c,¬ (x.1<x.2.1\/x.1>x.2.2)):zju c=if c.turns<1\/c.turns>5 then 1 else 0:=by
 have h1:=h (c.streams,1,4) zz140;have h2:=h (c.paths,1,2) zz140;have h3:=h (c.part,1,16) zz140;have h4:=h (c.packet,40,120) zz140;have h5:=h (c.waiting,1,12) zz140;have h6:=h (c.first,0,65535) zz140;dsimp only at h1 h2 h3 h4 h5 h6;unfold zju;rw [zy0 (by omega)]
theorem zhe (c:Config):zan Tryz.prog 59 [c.hv] zad (i64 (zju c)) zad:=by
 refine zal mixed Tryz.func59 zz4 ?_;(conv=>whnf);refine ⟨{x:List (Int×Int×Int)×List (Int×Int×Int) // wrL c=x.1++x.2/\∀ y∈x.1,¬ (y.1<y.2.1\/y.1>y.2.2)},fun | ⟨(A,B),_⟩=>hs 50 [(1,.ptr 1 0),(23,.own 900),(24,i64 (wrL c).length),(25,i64 A.length)] [(1,.live (.cells 24 c.cells)),(900,.live (.row 103 3 ((wrL c).map wrR)))],fun x=>x.1.2.length,⟨([],wrL c),rfl,by simp⟩,?_,?_⟩
 . exact (zbi [(1,some 1),(900,some 23)])
 rintro ⟨⟨A,B⟩,h,hA⟩;dsimp only at h hA;(conv=>whnf);cases B with
 | cons x B =>
  have hz:=zbe h;have hx:=zgf h;have h6:(wrL c).length=6:=rfl;refine sT ?_;refine sO ?_;refine zaj (f:=wrR) h rfl (zw ?_)
  (try refine sG ?_)
  refine ⟨0,rfl,by decide,zw ?_⟩;refine ⟨1,rfl,by decide,zw ?_⟩;by_cases c1:x.1<x.2.1
  case pos =>
   rw [xcg hx (.inl c1)];refine zac (zy10 c1) ?_;conv=>whnf
   try rfl
  refine zab (zy11 c1) (zw ?_);refine ⟨0,rfl,by decide,zw ?_⟩;refine ⟨2,rfl,by decide,zw ?_⟩;by_cases c2:x.1>x.2.2
  case pos =>
   rw [xcg hx (.inr c2)];refine zac (zy10 c2) ?_;conv=>whnf
   try rfl
  refine zab (zy11 c2) ?_;conv=>whnf
  (try refine sG ?_)
  refine sF ?_;exact ⟨⟨(A++[x],B),zag h,fun y hy=>by rcases zy20.1 hy with hy | hy;exact hA y hy;rw [zy25] at hy;subst hy;exact fun h=>h.elim c1 c2⟩,(zbi [(1,some 1),(900,some 900)]),by simp⟩
 | nil =>
  have hz:=zbn h;rw [zy4] at h;rw [<- h] at hA;rw [xhz hA];refine sN ?_;by_cases c1:c.turns<1
  case pos =>
   rw [zy1 (.inl c1)];refine zac (zy10 c1) ?_;conv=>whnf
   try rfl
  refine zab (zy11 c1) (zw ?_);by_cases c2:c.turns>5
  case pos =>
   rw [zy1 (.inr c2)];refine zac (zy10 c2) ?_;conv=>whnf
   try rfl
  rw [zy0 (fun h=>h.elim c1 c2)];refine zab (zy11 c2) ?_;conv=>whnf
  try rfl
theorem yrb (c:Config):zan Tryz.prog 27 [c.hv] zad (.tup [(yii c).1.hv,i64 (yii c).2]) zad:=by
 refine zal mixed Tryz.func27 zz4 ?_;(conv=>whnf)
 (refine cP ?_;refine dL (zhe c) ?_)
 by_cases c0:zju c=0
 case neg =>
  rw [yii,zy0 c0];refine zac (zy77.2 c0) (zw ?_)
  try rfl
 rw [yii,zy1 c0];refine zab (by simpa using c0) (zw ?_)
 (try refine sG ?_)
 obtain ⟨b1,b2,b3,b4,b5,b6,b7,b8,b9,b10,b11,b12,-⟩:=zde c0;refine zaq (z:=c.first-1) (zbu zz0 zz0) (zw ?_);refine zaq (z:=c.first-1) (zbu zz0 zz0) (zw ?_);refine zaq (z:=2*c.streams) (zbu zz0 zz0) (zw ?_);refine zaa (c:=0<=2*c.streams/\2*c.streams=2*c.streams/\2*c.streams*(8:Nat)<=140737488355328) ⟨by omega,rfl,by omega⟩ (zw ?_);refine zaq (z:=c.streams-1) (zbu zz0 zz0) (zw ?_);refine zaa (c:=0<=c.streams/\c.streams=c.streams/\c.streams*(8:Nat)<=140737488355328) ⟨by omega,rfl,by omega⟩ (zw ?_);refine sD ?_;have hsl:c.streams-1=(Sch.new c.streams).last:=(zbu zz0 zz0).symm;refine ⟨{i:Nat // (i:Int)<=c.paths},fun | ⟨i,_⟩=>hs 51 [(1,.ptr 1 0),(2,.ptr 2 0),(5,.ptr 5 0),(34,i64 c.paths),(35,i64 i)] [(1,.live (.cells 24 [i64 c.streams,i64 c.part,i64 c.packet,i64 c.paths,i64 (c).turns,i64 c.waiting,i64 c.first])),(2,sc0),(5,.live (.cells 32 (ycf (ydi c) zee (.own 901) zee (.own 900) (.own 902) zee))),(900,yxv (List.replicate i (Paths.new c.part))),(901,zxc (Sch.new c.streams).had),(902,zxc (List.replicate (2*c.streams).toNat 0))],fun i=>c.paths.toNat-i.1,⟨0,by omega⟩,?_,?_⟩
 . exact (zaz [(1,some 1),(2,some 2),(5,some 5),(900,none),(901,some 30),(902,some 24)] (by repeat' (first | exact z0 | refine z1 ?_ | refine ⟨?_,?_⟩ | ((exact zar (by rw [zy73];rfl))) | ((refine zar ?_;rw [show (Sch.new c.streams).had=List.replicate (max c.streams 0).toNat 0 from rfl,zy73,show max c.streams 0=c.streams by omega];rfl)) | ((exact congrArg (fun z=>zai.live (.cells 32 (ycf {ydi c with sched:=⟨z,-1,[]⟩} zee (.own 30) zee zee (.own 24) zee))) hsl)) | exact z2)))
 rintro ⟨i,k1⟩;(conv=>whnf);by_cases hi:(i:Int)<c.paths
 case pos =>
  refine sT ?_;refine sR ?_;refine sR ?_;refine zaa (c:=(((List.replicate i (Paths.new c.part)).map Path.row).length+1)*56<=140737488355328) zz3 (zw ?_);refine sF ?_;exact ⟨⟨i+1,by omega⟩,(zaz [(1,some 1),(2,some 2),(5,some 5),(900,some 47),(901,some 901),(902,some 902)] zz64),by dsimp only;omega⟩
 case neg =>
  have hin:c.paths.toNat=i:=by omega
  refine sN ?_;rw [show (ydi c)={ydi c with paths:=List.replicate i (Paths.new c.part)} by rw [<- hin];rfl]
  try rfl
end Snd
namespace Snd
open Ser
theorem SL.side {s t:zah} (h:SL s) (e:t.sched=s.sched):SL t:=by unfold SL;rw [e];exact h
theorem yhb (s:zah):(Snd.settle s).sched=s.sched:=rfl
theorem xdg {s:zah} (h:SL s) (c:Chunk):SL (yjo s c):=by
 unfold yjo;split
 . exact h
 split
 . exact h
 rw [ztu];refine h.side ?_;rw [yhb];unfold zgv;have hU:∀ p l,(zln p (zpl s c (Sco.zix s.out s.cum c s.paths.length)) l).sched=s.sched:=fun p l=>by
  unfold zln;split
  . rfl
  . split<;>rfl
 split
 . exact hU _ _
 . exact hU _ _
theorem zvh (part:Int):∀ (l:List Nat) (s:zah),(l.foldl (znq part) s).sched=s.sched
 | [],_=>rfl
 | i::l,s=>by
  rw [zy52,zvh part l];unfold znq;split
  . rfl
  split
  . rfl
  . dsimp only;split<;>rfl
theorem yxn {s:zah} (h:SL s):SL (tick s):=h.side (zvh _ _ _)
theorem zsi {path:Nat}:∀ (l:List Nat) (p:zfl),(l.foldl (zdh path) p).s.sched=p.s.sched
 | [],_=>rfl
 | i::l,p=>by
  rw [zy52,zsi l];unfold zdh;split
  . rfl
  . split
    . exact yei _ _ _
    . rfl
theorem yno {N:Nat}:∀ (n:Nat) {p:zfl},SI N p.s->SL p.s->SL (zfu n p).s
 | 0,_,_,h=>h
 | n+1,p,hS,h=>by
  rw [zfu];cases hq:next p with
  | none=>exact h
  | some q=>exact yno n (zvl hS hq) (yuw hS hq)
theorem xee {N:Nat} {s:zah} (hS:SI N s) (h:SL s):SL (zjs s).1:=by
 have h1:=yed h;have s1:=(zuw hS).1;have s2:=zih (o:=List.replicate s.paths.length []) s1;have h2:SL (forward ⟨expire s,List.replicate s.paths.length []⟩).s:=h1.side (zpi _);have h3:SL (again (forward ⟨expire s,List.replicate s.paths.length []⟩)).s:=h2.side (zsi _ _);exact (yno 61 (ztn s2) h3).side rfl
theorem xdr {c:Config} (h:zju c=0):SL (ydi c):=by
 have hw:=zde h;have e1:(ydi c).sched=Sch.new c.streams:=rfl;unfold SL;rw [e1];unfold Sch.new;dsimp only;rw [zbu (by omega) (by omega),zy70];omega
end Snd
namespace Ln
open Ser
theorem ymn {back:Bool}:∀ (cs:List Chunk) {x:zem×Bool},Snd.SL x.1.sender->Snd.SL (cs.foldl (zgj back) x).1.sender
 | [],_,h=>h
 | c::cs,x,h=>by
  refine ymn (back:=back) cs ?_;unfold zgj;split
  . exact Snd.xdg h c
  split
  . exact h
  split
  . exact h
  . exact h
theorem ysm {l:zem} (h:Snd.SL l.sender) (p:zau):Snd.SL (zhf l p).sender:=by
 have h2:Snd.SL (zkv l p).1.sender:=ymn (back:=p.back) _ (x:=(l,false)) h;unfold zhf;split
 . exact h
 split
 . unfold told;split<;>exact h2
 . exact h2
theorem zuv {N:Nat} {l:zem} (hS:Snd.SI N l.sender) (h:Snd.SL l.sender):Snd.SL (emit l).sender:=Snd.xee hS h
theorem xfo {N M:Nat} {l:zem} (h:LI N M l) (hl:Snd.SL l.sender) (x:Step) (hN:N+1<=2 ^ 20) (hM:M+120<=2000000):Snd.SL (doS l x).1.sender:=by
 unfold doS;split
 . split
   . rename_i e
     exact zuv (l:={l with sender:=Snd.zhv l.sender x.message}) (Snd.ybz h.snd e hN) (hl.side rfl)
   . exact hl
 split
 . split
   . exact hl
   split
   . exact hl
   rename_i p hp;have hb:=h.bytes p (zy21 hp);split
   . exact zuv (l:={l with way:=zlv l.way [p]}) h.snd hl
   . split
     . exact zuv (yai (l:={l with way:=l.way.eraseIdx x.n.toNat}) ⟨h.snd,h.rcv,h.small,by show (l.way.eraseIdx _).length<=40;have:=h.way;rw [zy81];split<;>omega,fun q hq=>h.bytes q (zy68 hq)⟩ hb hM).snd (ysm (l:={l with way:=l.way.eraseIdx x.n.toNat}) hl p)
     . exact zuv (l:={l with way:=l.way.eraseIdx x.n.toNat}) h.snd hl
 split
 . exact zuv (l:={l with sender:=Snd.tick l.sender}) (Snd.ycv h.snd) (Snd.yxn hl)
 . exact hl
theorem yhs {N M:Nat} (l:zem) (p:zau) (h:LI N M l) (hM:M+120<=2000000) (hp:p.bytes.length<=120) {rows:List (List PV)} (hr:rows=l.way.map zau.row) :
 zan Tryz.prog 108 [.agg (lnC l.sender l.receiver (.p (.sl 3 rows))),p.hv] zad (zhf l p).hv zad:=by
 subst hr;exact yqv l p h hM hp
theorem xaq {N M:Nat} (l:zem) (x:Step) (h:LI N M l) (hsl:Snd.SL l.sender) (hN:N+1<=2 ^ 20) (hM:M+120<=2000000) (hx:x.message.data.length<2 ^ 38) :
 zan Tryz.prog 44 [l.hv,x.hv] zad (.tup [(doS l x).1.hv,(doS l x).2.hv]) zad:=by
 have hway:=h.way;have hby:=h.bytes;generalize hT:doS l x=T;rw [doS] at hT;refine zal mixed Tryz.func44 zz4 ?_;(conv=>whnf)
 (try refine sG ?_)
 by_cases c1:x.kind=1
 case pos =>
  rw [zy1 c1] at hT;refine zac (zy15.2 c1) (zw ?_);have ps:=Snd.yrf l.sender x.message h.snd.fit hx;by_cases e1:Snd.zep l.sender x.message=0
  case pos =>
   rw [zy1 e1] at hT;rw [Snd.zqa e1] at ps;dsimp only at ps
   (refine cP ?_;refine dL ps ?_)
   (try refine sG ?_)
   have hy:=(show LI (N+1) M {l with sender:=Snd.zhv l.sender x.message} from ⟨Snd.ybz h.snd e1 hN,h.rcv,h.small,h.way,h.bytes⟩)
   have hyl:=(show Snd.SL (Snd.zhv l.sender x.message) from hsl.side rfl)
   have hyw:=hy.way;have pp:=Snd.zkn (({l with sender:=Snd.zhv l.sender x.message}:zem)).sender hy.snd hyl;have pu:=zja (({l with sender:=Snd.zhv l.sender x.message}:zem)).way (Snd.zjs (({l with sender:=Snd.zhv l.sender x.message}:zem)).sender).2 hyw (Snd.zhg hy.snd) (rows:=(l.way.map zau.row)) (rfl);unfold emit at hT;generalize Snd.zjs (({l with sender:=Snd.zhv l.sender x.message}:zem)).sender=PP at hT pp pu;exact yy29
  case neg =>
   rw [zy0 e1] at hT;subst hT;rw [Snd.zjm rfl e1] at ps;dsimp only at ps
   (refine cP ?_;refine dL ps ?_)
   refine zac (zy77.2 e1) (zw ?_)
   try rfl
 rw [zy0 c1] at hT;refine zab (zy5.2 c1) (zw ?_)
 (try refine sG ?_)
 by_cases c2:x.kind=2\/x.kind=3\/x.kind=4
 case neg =>
  rw [zy0 c2] at hT;have c2:=not_or.1 c2;have c3:=not_or.1 c2.2;refine zab (zy5.2 c2.1) (zw ?_)
  (try refine sG ?_)
  refine zab (zy5.2 c3.1) (zw ?_)
  (try refine sG ?_)
  refine zab (zy5.2 c3.2) (zw ?_)
  (try refine sG ?_)
  by_cases c5:x.kind=5
  case pos =>
   rw [zy1 c5] at hT;refine zac (zy15.2 c5) (zw ?_)
   (refine cP ?_;refine dL (Snd.yrg l.sender h.snd) ?_)
   have hy:=(show LI N M {l with sender:=Snd.tick l.sender} from ⟨Snd.ycv h.snd,h.rcv,h.small,h.way,h.bytes⟩)
   have hyl:=(Snd.yxn hsl)
   have hyw:=hy.way;have pp:=Snd.zkn (({l with sender:=Snd.tick l.sender}:zem)).sender hy.snd hyl;have pu:=zja (({l with sender:=Snd.tick l.sender}:zem)).way (Snd.zjs (({l with sender:=Snd.tick l.sender}:zem)).sender).2 hyw (Snd.zhg hy.snd) (rows:=(l.way.map zau.row)) (rfl);unfold emit at hT;generalize Snd.zjs (({l with sender:=Snd.tick l.sender}:zem)).sender=PP at hT pp pu;exact yy29
  case neg =>
   rw [zy0 c5] at hT;subst hT;refine zab (zy5.2 c5) (zw ?_)
   try rfl
 rw [zy1 c2] at hT;have c6:x.kind=2\/x.kind≠2/\(x.kind=3\/x.kind≠3/\x.kind=4):=by omega
 rcases c6 with c6 | ⟨c8,c6 | ⟨c7,c6⟩⟩
 . refine zac (zy15.2 c6) (zw ?_)
   (try refine sG ?_)
   try (refine zac (zy15.2 c6) ?_;conv=>whnf)
   by_cases n0:x.n<0
   case pos =>
    rw [zy1 n0] at hT;subst hT;refine zac (zy10 n0) (zw ?_)
    try rfl
   rw [zy0 n0] at hT;refine zab (zy11 n0) (zw ?_);cases hp:l.way[x.n.toNat]? with
   | none =>
    exact yy98
   | some p =>
   rw [hp] at hT;dsimp only at hT;have hlt:=(zy9.1 hp).1;have hpb:=hby p (zy21 hp);have her:l.way.eraseIdx x.n.toNat=l.way.take x.n.toNat++l.way.drop (x.n.toNat+1):=zy60 _ _;refine zab (zy11 zz6) (zw ?_)
   (try refine sG ?_)
   refine Snd.zam hp zz0 (zw ?_)
   (try refine sG ?_)
   rw [zy0 (by omega),zy1 c6] at hT;refine zab (zy5.2 zz0) (zw ?_);refine zaa zz6 (zw ?_);refine zgc (l:=l.way) zz139 ?_;(conv=>whnf);refine zaa (c:=(([]:List (List PV)).length+(((l.way.drop 0).take (x.n-0).toNat).map zau.row).length)*40<=140737488355328) zz120 (zw ?_);refine zaq (z:=x.n+1) (zbu zz0 zz0) (zw ?_);refine zaa zz6 (zw ?_);refine zfh (l:=l.way) zz77 ?_;(conv=>whnf);refine zaa (c:=((([]:List (List PV))++((l.way.drop 0).take (x.n-0).toNat).map zau.row).length+((l.way.drop (x.n+1).toNat).map zau.row).length)*40<=140737488355328) zz86 (zw ?_);refine sD ?_;have zpn:(([]:List (List PV))++((l.way.drop 0).take (x.n-0).toNat).map zau.row)++(l.way.drop (x.n+1).toNat).map zau.row=(l.way.eraseIdx x.n.toNat).map zau.row:=by
    rw [her,zy33,zy57,zy100,show (x.n-0).toNat=x.n.toNat by omega,show (x.n+1).toNat=x.n.toNat+1 by omega]
   have hli:LI N M {l with way:=l.way.eraseIdx x.n.toNat}:=⟨h.snd,h.rcv,h.small,by show (l.way.eraseIdx _).length<=40;rw [zy81];split<;>omega,fun q hq=>hby q (zy68 hq)⟩
   refine zac (zy15.2 c6) (zw ?_);have hcl:=yai hli hpb hM;have hcs:=ysm (l:={l with way:=l.way.eraseIdx x.n.toNat}) hsl p;have pc:=yhs {l with way:=l.way.eraseIdx x.n.toNat} p hli hM hpb zpn;generalize zhf {l with way:=l.way.eraseIdx x.n.toNat} p=Y at hT hcl hcs pc
   (refine cP ?_;refine dL pc ?_)
   have hy:=hcl;have hyl:=hcs;have hyw:=hy.way;have pp:=Snd.zkn (Y).sender hy.snd hyl;have pu:=zja (Y).way (Snd.zjs (Y).sender).2 hyw (Snd.zhg hy.snd) (rows:=(Y.way.map zau.row)) (rfl);unfold emit at hT;generalize Snd.zjs (Y).sender=PP at hT pp pu;exact yy29
 . refine zab (zy5.2 c8) (zw ?_)
   (try refine sG ?_)
   refine zac (zy15.2 c6) (zw ?_)
   (try refine sG ?_)
   try (refine zac (zy15.2 c6) ?_;conv=>whnf)
   by_cases n0:x.n<0
   case pos =>
    rw [zy1 n0] at hT;subst hT;refine zac (zy10 n0) (zw ?_)
    try rfl
   rw [zy0 n0] at hT;refine zab (zy11 n0) (zw ?_);cases hp:l.way[x.n.toNat]? with
   | none =>
    exact yy98
   | some p =>
   rw [hp] at hT;dsimp only at hT;have hlt:=(zy9.1 hp).1;have hpb:=hby p (zy21 hp);have her:l.way.eraseIdx x.n.toNat=l.way.take x.n.toNat++l.way.drop (x.n.toNat+1):=zy60 _ _;refine zab (zy11 zz6) (zw ?_)
   (try refine sG ?_)
   refine Snd.zam hp zz0 (zw ?_)
   (try refine sG ?_)
   rw [zy0 (by omega),zy0 c8] at hT;refine zab (zy5.2 zz0) (zw ?_);refine zaa zz6 (zw ?_);refine zgc (l:=l.way) zz139 ?_;(conv=>whnf);refine zaa (c:=(([]:List (List PV)).length+(((l.way.drop 0).take (x.n-0).toNat).map zau.row).length)*40<=140737488355328) zz120 (zw ?_);refine zaq (z:=x.n+1) (zbu zz0 zz0) (zw ?_);refine zaa zz6 (zw ?_);refine zfh (l:=l.way) zz77 ?_;(conv=>whnf);refine zaa (c:=((([]:List (List PV))++((l.way.drop 0).take (x.n-0).toNat).map zau.row).length+((l.way.drop (x.n+1).toNat).map zau.row).length)*40<=140737488355328) zz86 (zw ?_);refine sD ?_;have zpn:(([]:List (List PV))++((l.way.drop 0).take (x.n-0).toNat).map zau.row)++(l.way.drop (x.n+1).toNat).map zau.row=(l.way.eraseIdx x.n.toNat).map zau.row:=by
    rw [her,zy33,zy57,zy100,show (x.n-0).toNat=x.n.toNat by omega,show (x.n+1).toNat=x.n.toNat+1 by omega]
   have hli:LI N M {l with way:=l.way.eraseIdx x.n.toNat}:=⟨h.snd,h.rcv,h.small,by show (l.way.eraseIdx _).length<=40;rw [zy81];split<;>omega,fun q hq=>hby q (zy68 hq)⟩
   refine zab (zy5.2 c8) (zw ?_);have hy:=hli;have hyl:=hsl;have hyw:=hy.way;have pp:=Snd.zkn (({l with way:=l.way.eraseIdx x.n.toNat}:zem)).sender hy.snd hyl;have pu:=zja (({l with way:=l.way.eraseIdx x.n.toNat}:zem)).way (Snd.zjs (({l with way:=l.way.eraseIdx x.n.toNat}:zem)).sender).2 hyw (Snd.zhg hy.snd) (rows:=_) (zpn);unfold emit at hT;generalize Snd.zjs (({l with way:=l.way.eraseIdx x.n.toNat}:zem)).sender=PP at hT pp pu;exact yy29
 . refine zab (zy5.2 c8) (zw ?_)
   (try refine sG ?_)
   refine zab (zy5.2 c7) (zw ?_)
   (try refine sG ?_)
   refine zac (zy15.2 c6) (zw ?_)
   (try refine sG ?_)
   try (refine zac (zy15.2 c6) ?_;conv=>whnf)
   by_cases n0:x.n<0
   case pos =>
    rw [zy1 n0] at hT;subst hT;refine zac (zy10 n0) (zw ?_)
    try rfl
   rw [zy0 n0] at hT;refine zab (zy11 n0) (zw ?_);cases hp:l.way[x.n.toNat]? with
   | none =>
    exact yy98
   | some p =>
   rw [hp] at hT;dsimp only at hT;have hlt:=(zy9.1 hp).1;have hpb:=hby p (zy21 hp);have her:l.way.eraseIdx x.n.toNat=l.way.take x.n.toNat++l.way.drop (x.n.toNat+1):=zy60 _ _;refine zab (zy11 zz6) (zw ?_)
   (try refine sG ?_)
   refine Snd.zam hp zz0 (zw ?_)
   (try refine sG ?_)
   rw [zy1 c6] at hT;refine zac (zy15.2 c6) (zw ?_)
   (refine cP ?_;refine dL (zwn l.way [p] hway zz5) ?_)
   have yyp:LI N M {l with way:=zlv l.way [p]}:=ygo h fun q hq=>by rw [zy25] at hq;subst hq;exact hpb
   have hy:=yyp;have hyl:=hsl;have hyw:=hy.way;have pp:=Snd.zkn (({l with way:=zlv l.way [p]}:zem)).sender hy.snd hyl;have pu:=zja (({l with way:=zlv l.way [p]}:zem)).way (Snd.zjs (({l with way:=zlv l.way [p]}:zem)).sender).2 hyw (Snd.zhg hy.snd) (rows:=((zlv l.way [p]).map zau.row)) (rfl);unfold emit at hT;generalize Snd.zjs (({l with way:=zlv l.way [p]}:zem)).sender=PP at hT pp pu;exact yy29
end Ln
namespace Ln
open Ser
theorem yrc (c:Config):zan Tryz.prog 43 [c.hv] zad (.tup [(ztj c).1.hv,i64 (ztj c).2]) zad:=by
 refine zal mixed Tryz.func43 zz4 ?_;(conv=>whnf);have pn:=Snd.yrb c;by_cases c1:Snd.zju c=0
 case neg =>
  rw [show ztj c=(noL,Snd.zju c) from zy0 c1];rw [show Snd.yii c=(Snd.noS,Snd.zju c) from zy0 c1] at pn
  (refine cP ?_;refine dL pn ?_)
  refine zac (zy77.2 c1) (zw ?_)
  try rfl
 have hw:=Snd.zde c1;rw [show ztj c=(zkg c,0) from zy1 c1];rw [show Snd.yii c=(Snd.ydi c,0) from zy1 c1] at pn
 (refine cP ?_;refine dL pn ?_)
 (try refine sG ?_)
 (refine cP ?_;refine dL (Rcv.yra c zz0 zz0 zz0) ?_)
 ((refine zaw ?_ ?_;(· kernel_rfl);conv=>whnf);try refine sG ?_)
 try rfl
theorem ykx (c:Config) (l:List Step) (c1:Snd.zju c=0) (hb:∀ x∈l,x.message.data.length<2 ^ 38) :
 zan Tryz.prog 30 [c.hv,yxw l] zad (.tup [(znw (zkg c) (l.take 200)).1.hv,.p (.sl 2 ((znw (zkg c) (l.take 200)).2.map Answer.row))]) zad:=by
 refine zal mixed Tryz.func30 zz4 ?_;generalize hT:znw (zkg c) (l.take 200)=T;(conv=>whnf);have pn:=yrc c;rw [show ztj c=(zkg c,0) from zy1 c1] at pn
 (refine cP ?_;refine dL pn ?_)
 (try refine sG ?_)
 refine ⟨{x:(zem×List Answer)×List Step×List Step // l=x.2.1++x.2.2/\x.2.1.length<=200/\znw (zkg c) x.2.1=x.1/\LI x.2.1.length (120*x.2.1.length) x.1.1/\Snd.SL x.1.1.sender},fun | ⟨((y,az),A,B),_⟩=>hs 44 [(4,.ptr 4 0),(6,.ptr 6 0),(8,.own 900),(21,yxw l),(22,i64 l.length),(23,i64 A.length)] [(4,.live (.cells 40 xgv)),(6,lnL y),(900,xei az)],fun x=>x.1.2.2.length,⟨((zkg c,[]),[],l),rfl,by simp,rfl,yur c1,Snd.xdr c1⟩,?_,?_⟩
 . exact (zbi [(4,some 4),(6,some 6),(900,none)])
 rintro ⟨⟨⟨y,az⟩,A,B⟩,k1,k0,k2,k3,k4⟩;dsimp only at k1 k0 k2 k3 k4;refine zcd fun Q hQ=>?_
 (conv=>whnf);have hal:az.length=A.length:=by have:=zub A (zkg c);rw [k2] at this;exact this
 cases B with
 | cons x B =>
  have hz:=zbe k1;have hxd:=hb x (zgf k1);have hnx:=ygn (zkg c) A x;rw [k2] at hnx;dsimp only at hnx;refine sT ?_;refine zaj k1 rfl (zw ?_)
  (try refine sG ?_)
  by_cases c2:A.length=200
  case pos =>
   have ht:l.take 200=A:=by rw [k1,<- c2,zy133]
   rw [ht,k2] at hT;subst hT;refine zac (zy15.2 zz0) (zw ?_);refine hQ _ _ ?_;conv=>whnf
   try rfl
  have hli:=xbi k3 x zz0 zz0;have hsl:=xfo k3 k4 x zz0 zz0;have pd:=xaq y x k3 k4 zz0 zz0 hxd;generalize doS y x=D at hnx hli hsl pd;obtain ⟨z,a⟩:=D;dsimp only at hnx hli hsl pd;refine zab (zy5.2 zz0) (zw ?_)
  (try refine sG ?_)
  (refine cP ?_;refine dL pd ?_)
  refine zaa (c:=((az.map Answer.row).length+1)*16<=140737488355328) zz6 (zw ?_);refine sF ?_;refine hQ _ _ ?_;conv=>whnf
  exact ⟨⟨((z,az++[a]),A++[x],B),zag k1,by simp;omega,hnx,by rw [zy8,zy62,show 120*(A.length+1)=120*A.length+120 by omega];exact hli,hsl⟩,(zaz [(4,some 4),(6,some 6),(900,some 40)] zz73),by simp⟩
 | nil =>
  have hz:=zbn k1;rw [zy4] at k1;have ht:l.take 200=A:=by rw [k1,zy37 k0]
  rw [ht,k2] at hT;subst hT;refine sN ?_;refine hQ _ _ ?_;conv=>whnf
  try rfl
end Ln
namespace Snd
open Ser
end Snd
namespace Ln
open Ser
end Ln
namespace Gh
open Ser Snd Ln
def zxj:Message:=⟨0,true,0,0,[104,101,108,108,111]⟩
def ztg:zax:=⟨0,0,true,[104,101,108,108,111]⟩
def zlt:Step:=⟨1,0,zxj⟩
def xio:zem:=(doS (zkg yis) zlt).1
theorem xbq (y:zem):doS y (stp 1)=(y,⟨4,0⟩)\/doS y (stp 1)=(y,⟨3,0⟩):=by
 by_cases h:(0:Int)>=y.sender.config.streams
 . right
   unfold doS zep;simp [stp,h]
 . left
   unfold doS zep;simp [stp,h]
theorem xbp:(doS (zkg yis) zlt).2=⟨0,0⟩:=by kernel_rfl
theorem xbs:(doS (zkg yis) zlt).1.sender.fates=[1]:=by kernel_rfl
theorem xgc:znr [zlt,stp 1] (znw (zkg yis) [zlt,stp 1]).2=[zxj]:=by
 simp only [znw];rcases xbq xio with h | h
 . have h:doS (doS (zkg yis) zlt).1 (stp 1)=_:=h
   rw [h,xbp];rfl
 . have h:doS (doS (zkg yis) zlt).1 (stp 1)=_:=h
   rw [h,xbp];rfl
theorem xbr:(znw (zkg yis) [zlt,stp 1]).1.sender.fates=[1]:=by
 simp only [znw];rcases xbq xio with h | h
 . have h:doS (doS (zkg yis) zlt).1 (stp 1)=_:=h
   rw [h];exact xbs
 . have h:doS (doS (zkg yis) zlt).1 (stp 1)=_:=h
   rw [h];exact xbs
theorem yil {X:zem} {az:List Answer} (p0:zan Tryz.prog 58 [yis.hv,yxw [zlt,stp 1]] zad (.tup [msgs [zxj],i64 0]) zad) (p1:zan Tryz.prog 30 [yis.hv,yxw [zlt,stp 1]] zad (.tup [X.hv,xif az]) zad)
 (p2:zan Tryz.prog 61 [X.hv] zad (.agg [i64 1,i64 0,i64 0]) zad) (p3:zan Tryz.prog 62 [msgs [zxj],zqt [ztg]] zad (zbj true) zad)
 (p4:zan Tryz.prog 62 [msgs [],zqt [ztg]] zad (zbj false) zad) (p5:zan Tryz.prog 62 [msgs [zxj],zqt [ztg,ztg]] zad (zbj false) zad):zan Tryz.prog 64 [] zad (zbj true) zad:=by
 refine zal mixed Tryz.func64 zz4 ?_;(conv=>whnf)
 ((refine zaa ?_ ?_;(· first | kernel_rfl | exact om);conv=>whnf);try refine sG ?_)
 (refine cP ?_;refine dL p0 ?_)
 (refine cP ?_;refine dL p1 ?_)
 ((refine zaa ?_ ?_;(· first | kernel_rfl | exact om);conv=>whnf);try refine sG ?_)
 (refine cP ?_;refine dLm p2 ?_)
 refine ⟨by rfl,zw ?_⟩
 (refine cL ?_;refine dLm p3 ?_)
 (refine cL ?_;refine dLm p4 ?_)
 refine zaa (by decide +kernel) (zw ?_)
 (refine cL ?_;refine dLm p5 ?_)
 try rfl
theorem yhe:zan Tryz.prog 64 [] zad (zbj true) zad:=by
 have p0:=yrm yis [zlt,stp 1] zz4 zz4;have p1:=ykx yis [zlt,stp 1] zz4 zz4;rw [show zqo yis [zlt,stp 1]=([zxj],0) by rw [zqo,zy0 (by decide),zy0 (by decide),xgc]] at p0;rw [show ([zlt,stp 1]:List Step).take 200=[zlt,stp 1] from rfl] at p1;have p2:=yqk (znw (zkg yis) [zlt,stp 1]).1 (by rw [xbr];decide);rw [xbr] at p2;have p3:=zik [zxj] [ztg] zz4 zz4;have p4:=zik [] [ztg] zz4 zz4;have p5:=zik [zxj] [ztg,ztg] zz4 zz4;rw [show zia [zxj] [ztg]=true by decide +kernel] at p3;rw [show zia [] [ztg]=false by decide +kernel] at p4;rw [show zia [zxj] [ztg,ztg]=false by decide +kernel] at p5;exact yil p0 p1 p2 p3 p4 p5
end Gh
namespace Gh
open Ser Snd Ln
abbrev xhv (l:List zax):zai:=.live (.row 56 4 (l.map zax.row))
theorem xir (L:List zax) (o:zax):L++[o]=([]++L)++[o]:=rfl
theorem ypw (T:List Message) (L:List zax) (k:Int) (d:List UInt8) (hT:T.length<2 ^ 30) (hL:L.length<2 ^ 30):zan Tryz.prog 16 [msgs T,zqt L,i64 k,zxw d] zad (zbj true) zad:=by
 refine zal mixed Tryz.func16 zz4 ?_;(conv=>whnf)
 (refine cL ?_;refine dL yhe ?_)
 have p1:=zik T L zz0 zz0;generalize zia T L=w at p1
 (refine cL ?_;refine dLm p1 ?_)
 cases w with
 | false =>
  conv=>whnf
  try rfl
 | true =>
 (conv=>whnf);by_cases c1:k<0
 case pos =>
  refine zac (zy10 c1) ?_;conv=>whnf
  try rfl
 refine zab (zy11 c1) (zw ?_);by_cases c2:k>=L.length
 case pos =>
  rw [show decide (k>=((L.map zax.row).length:Int))=true from zy10 (by rw [zy2];omega)];(conv=>whnf)
  try rfl
 rw [show decide (k>=((L.map zax.row).length:Int))=false from zy11 (by rw [zy2];omega)];(conv=>whnf);obtain ⟨n,hn⟩:∃ n:Nat,k=n:=⟨k.toNat,by omega⟩
 subst hn;obtain ⟨a,ha⟩:∃ a,L[n]?=some a:=⟨_,zy3 zz0⟩
 have hmore:zia T (L++List.replicate (T.length+1) a)=false:=ysg zz0;have p2:=zik T (L++List.replicate (T.length+1) a) zz0 (by rw [zy8,zy70];omega);rw [hmore] at p2;refine zaa (c:=(0+(L.map zax.row).length)*48<=140737488355328) zz6 (zw ?_);refine sF ?_;refine ⟨{j:Nat // j<=T.length+1},fun | ⟨j,_⟩=>hs 89 [(0,msgs T),(1,zqt L),(2,i64 n),(3,zxw d),(9,.own 900),(34,i64 (T.length+1:Nat)),(35,i64 j)] [(900,xhv (L++List.replicate j a))],fun j=>T.length+1-j.1,⟨0,by omega⟩,?_,?_⟩
 . exact (zaz [(900,some 31)] (by repeat' (first | exact z0 | refine z1 ?_ | refine ⟨?_,?_⟩ | ((rw [zy120,zy4];rfl)) | exact z2)))
 rintro ⟨j,hj⟩;refine zcd fun Q hQ=>?_
 (conv=>whnf);by_cases c3:j<T.length+1
 case pos =>
  have hsn:L++List.replicate (j+1) a=(L++List.replicate j a)++[a]:=by rw [List.replicate_succ',zy27]
  refine zac (zy10 zz0) (zw ?_);refine zam ha rfl (zw ?_);refine zaa (c:=((((L++List.replicate j a).map zax.row).length+1)*48<=140737488355328)) (by rw [zy2,zy8,zy70];omega) (zw ?_);refine sF ?_;refine hQ _ _ ?_;conv=>whnf
  exact ⟨⟨j+1,by omega⟩,(zaz [(900,some 43)] (by repeat' (first | exact z0 | refine z1 ?_ | refine ⟨?_,?_⟩ | ((exact zbc (f:=zax.row) hsn rfl)) | exact z2))),by show T.length+1-(j+1)<T.length+1-j;omega⟩
 have hj2:j=T.length+1:=by omega
 subst hj2;refine zab (zy11 zz0) (zw ?_);refine hQ _ _ ?_;conv=>whnf
 refine zaa (c:=(0+(L.map zax.row).length)*48<=140737488355328) zz6 (zw ?_);refine zam ha rfl (zw ?_);refine zam ha rfl (zw ?_);refine zaa (c:=((([]++L.map zax.row).length+1)*48<=140737488355328)) (by rw [zy57,zy2];omega) (zw ?_);refine sD ?_;generalize hM:L++List.replicate (T.length+1) a=M at p2;refine ⟨{x:List Message×List Message // T=x.1++x.2/\∀ m∈x.1,m.data≠d},fun | ⟨(X,Y),_⟩=>hs 89 [(0,msgs T),(3,zxw d),(9,.own 900),(10,.own 901),(62,msgs T),(63,i64 T.length),(64,i64 X.length)] [(900,xhv M),(901,xhv (L++[⟨a.stream,0,a.ordered,d⟩]))],fun x=>x.1.2.length,⟨([],T),rfl,by simp⟩,?_,?_⟩
 . exact (zaz [(900,some 900),(901,some 61)] (by repeat' (first | exact z0 | refine z1 ?_ | refine ⟨?_,?_⟩ | ((rw [<- hM])) | ((exact zbc (f:=zax.row) (xir L _) rfl)) | exact z2)))
 rintro ⟨⟨X,Y⟩,g,hX⟩;dsimp only at g hX;refine zcd fun Q2 hQ2=>?_
 (conv=>whnf);cases Y with
 | nil =>
  have gz:=zbn g;rw [zy4] at g;have hother:zia T (L++[⟨a.stream,0,a.ordered,d⟩])=false:=ypb (fun m hm=>hX m (by rw [<- g];exact hm));have p3:=zik T (L++[⟨a.stream,0,a.ordered,d⟩]) zz0 (by rw [zy8,zy62];omega);rw [hother] at p3;refine sN ?_;refine hQ2 _ _ (zw ?_)
  (refine cL ?_;refine dLm p2 ?_)
  (refine cL ?_;refine dLm p3 ?_)
  try rfl
 | cons m Y =>
 have gz:=zbe g;refine sT ?_;refine zaj g rfl (zw ?_);refine zjf rfl (zw ?_);refine zjf rfl (zw ?_);rw [xcd];by_cases e1:m.data=d
 case pos =>
  rw [show decide (m.data=d)=true from zy10 e1];(conv=>whnf)
  (refine cL ?_;refine dLm p2 ?_)
  refine hQ2 _ _ (zw ?_)
  try rfl
 rw [show decide (m.data=d)=false from zy11 e1];(conv=>whnf)
 (try refine sG ?_)
 refine sF ?_;refine hQ2 _ _ (zw ?_);exact ⟨⟨(X++[m],Y),zag g,fun z hz=>by
  rcases zy20.1 hz with hz | hz
  . exact hX z hz
  . rw [zy25] at hz;subst hz;exact e1⟩,(zbi [(900,some 900),(901,some 901)]),by simp⟩
end Gh
end Go.HL
