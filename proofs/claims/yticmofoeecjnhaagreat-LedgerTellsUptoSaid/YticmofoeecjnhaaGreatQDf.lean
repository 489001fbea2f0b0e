/- Walks, contracts and laws of the law's functions: part 6. No condition. -/
import Derived.Test.YticmofoeecjnhaaGreatQDe
open Go.Proofs
set_option maxHeartbeats 32000000
set_option maxRecDepth 100000
set_option linter.unusedSimpArgs false
theorem yy64 {P:Prop} (h:P:=by
 (try refine sG ?_)
 refine zaa (c:=((C.map Path.row).length+1)*56<=140737488355328) zz6 (zw ?_);refine sF ?_;refine hQ _ _ ?_;conv=>whnf
 exact ⟨⟨((A++[p],B),t,C++[p]),zae h,by rw [hAl];exact hst,by rw [zy28];exact hk,hz3,by simp [hC]⟩,(zax [(1,some 1),(2,some 2),(900,some 84)] zz80),by simp⟩):P:=h
theorem yy111 {P:Prop} (h:P:=by
 (try refine sG ?_)
 refine sF ?_;refine hQ2 _ _ (zw ?_);exact ⟨⟨(a++[y],b),zae h'⟩,(zax [(1,some 1),(2,some 2),(5,some 5),(900,some 900),(902,some 902)] zz46),by simp⟩):P:=h
theorem yy8 {P:Prop} (h:P:=by
 refine zhw.meet (PLift (¬ (zba s>0/\W (zba s+many s m)>s.room))) (fun _=>hsP [1000,1007,1008] 298 [(0,.ptr 1000 0),(3,i64 (choose s)),(4,i64 k),(5,.ptr 5 0),(6,i64 (many s m))] (rnM s m a c)) ?_ hrest;(conv=>whnf);by_cases c7:m.mid<0
 case neg =>
  have hm1:zdg s m=m.mid:=zy0 c7;have hm2:zdt s m=s.mids:=zy0 c7;refine zab (zy11 c7) (zw ?_);exact ⟨⟨c6⟩,(zcc [(1000,some 1000),(1007,some 1007),(1008,some 1008),(5,some 5)] zz81)⟩
 obtain ⟨v,hv⟩:∃ v,s.mids[zgu s m]?=some v:=⟨_,zy3 (mf.at_ c7)⟩
 have hmo:zdg s m=v:=by rw [zdg,zy1 c7,hv];rfl
 have hms:zdt s m=s.mids.set (zgu s m) (W (v+1)):=by rw [zdt,zy1 c7,setAt,hv]
 have hml:=mf.at_ c7;refine zac (zy9 c7) (zw ?_);have hat:(m.message.stream+if m.message.ordered then 0 else s.config.streams)=(zgu s m:Int):=by unfold zgu;have:=mf.lo;have:=mf.lo2;split<;>omega
 have hfs:=mf.lo;have hfh:=mf.hi;have hfs2:=mf.lo2;have hfh2:=mf.hi2;have hmr:∀ j:Nat,j=zgu s m->(([]:List (List PV))++s.mids.map fun n=>[pi n]).set j [pi (W (v+1))]=(zdt s m).map fun n=>[pi n]:=fun j hj=>by rw [hj,hms];simp [zy62]
 (try refine sG ?_)
 cases ho:m.message.ordered with
 | true =>
  rw [ho,zy1 rfl] at hat;(conv=>whnf)
  (try refine sG ?_)
  refine zam hv zz0 (zw ?_);refine zaa (c:=(([]:List (List PV)).length+(s.mids.map fun n=>[pi n]).length)*8<=140737488355328) zz3 (zw ?_);refine sOm ?_;refine zam (l:=s.mids) hv zz0 (zw ?_);refine sRm ?_;refine sOm ?_;refine zam (l:=s.mids) hv zz0 (zw ?_);exact ⟨⟨c6⟩,(zop [146] [(1000,some 1000),(1007,some 1007),(1008,some 1008),(5,some 5)] zz10)⟩
 | false =>
  rw [ho,zy0 (by decide)] at hat;(conv=>whnf)
  (try refine sG ?_)
  refine sF ?_;refine zam hv zz0 (zw ?_);refine zaa (c:=(([]:List (List PV)).length+(s.mids.map fun n=>[pi n]).length)*8<=140737488355328) zz3 (zw ?_);refine sOm ?_;refine zam (l:=s.mids) hv zz0 (zw ?_);refine sRm ?_;refine sOm ?_;refine zam (l:=s.mids) hv zz0 (zw ?_);exact ⟨⟨c6⟩,(zop [146] [(1000,some 1000),(1007,some 1007),(1008,some 1008),(5,some 5)] zz10)⟩):P:=h
theorem yy63 {P:Prop} (h:P:=by
 subst hG
 (exact zci [(1000,some 1000),(1007,some 1007),(1008,some 1008),(0,some 1007),(1,some 1008)])):P:=h
theorem yy113 {P:Prop} (h:P:=by
 refine sF ?_;refine hQ _ _ ?_;conv=>whnf
 exact ⟨⟨(A++[x],B),zae h⟩,(zcc [(1000,some 1000),(1007,some 1007),(1008,some 1008),(5,some 5),(900,some 281)] zz87),by simp⟩):P:=h
theorem yy31 {P:Prop} (h:P:=by
 (try refine sG ?_)
 refine zaa (c:=(((A.mapIdx fun id f=>settled V id f).map fun n:Int=>[pi n]).length+1)*8<=140737488355328) zz72 (zw ?_);refine sF ?_;refine hQ _ _ ?_;conv=>whnf
 exact ⟨⟨(A++[f],B),zae h⟩,(zax [(2,some 2),(3,some 3),(4,some 4),(900,some 210)] zz37),by simp⟩):P:=h
theorem yy54 {P:Prop} (h:P:=by
 refine zaa (c:=(((A.mapIdx fun i p=>if K3[i]?.getD 0>0 then Paths.zka p (K3[i]?.getD 0) s.config.part (decide (K2>s.cum)) else p).map Path.row).length+1)*56<=140737488355328) zz72 (zw ?_);refine sF ?_;refine hQ _ _ ?_;conv=>whnf
 exact ⟨⟨(A++[p],B),zae h⟩,(zax [(2,some 2),(3,some 3),(4,some 4),(900,some 100)] zz86),by simp⟩):P:=h
theorem yy126 {P:Prop} (h:P:=by
 refine sF ?_;refine hQ3 _ _ (zw ?_);exact ⟨⟨(a'++[x],b),zae h2'⟩,(zax [(2,some 2),(3,some 3),(4,some 4),(900,some 900)] zz60),by simp⟩):P:=h
theorem yy17 {P:Prop} (h:P:=by
 refine zaa (c:=(((A.map (zfy ps Z)).map Path.row).length+1)*56<=140737488355328) zz76 (zw ?_);refine sF ?_;refine hQ _ _ ?_;conv=>whnf
 exact ⟨⟨(A++[x],B),zae h⟩,(zax [(1,some 1),(2,some 2),(96,some 96),(900,some 900),(901,some 901),(910,some 279)] zz13),by simp⟩):P:=h
theorem yy36 {P:Prop} (h:P:=by
 rw [zy0 e,zy58] at i1;refine zab (zy4.2 e) (zw ?_)
 (try refine sG ?_)
 have hr2:r=(zcb E.config.packet (z::L)).toNat:=by rw [r1,zy22]
 refine zaa zz6 (zw ?_);refine zfk (l:=z::L) zz21 ?_;(conv=>whnf);refine hQ2 _ _ (zw ?_);exact ⟨⟨(n,(z::L).drop r,acc),i1,by dsimp only;rw [zy38];omega,fun x hx=>i3 x (zy65 hx),by dsimp only;rw [zy38];simp only [zy10,zy6,zy12] at i4 ⊢;omega⟩,(zax [(1,some 1),(2,some 2),(96,some 96),(920,some 920)] zz56),by dsimp only;rw [zy38];omega⟩):P:=h
theorem yy51 {P:Prop} (h:P:=by
 obtain ⟨rf,g1,g2,-⟩:=Pck.yjl (z::L) E.config.packet;by_cases e:Pck.zft E.config.packet 0 0 (z::L)=0
 case pos =>
  refine zac (zy13.2 e) (zw ?_);exact ⟨⟨⟩,(zax [(1,some 1),(2,some 2),(96,some 96),(920,some 920)] zz67)⟩
 case neg =>
  refine zab (zy4.2 e) (zw ?_);exact ⟨⟨⟩,(zax [(1,some 1),(2,some 2),(96,some 96),(920,some 920)] zz66)⟩):P:=h
theorem yy52 {P:Prop} (h:P:=by
 exact ⟨⟨((A++[x],B),u),zae k1,zcq,k3,k4⟩,(zbe [(1,some 1),(2,some 2)]),by simp⟩):P:=h
theorem yy62 {P:Prop} (h:P:=by
 (try refine sG ?_)
 refine sF ?_;refine hQ _ _ ?_;conv=>whnf
 exact ⟨⟨(i+1,⟨ps,[a,c]⟩),by dsimp only;omega,hst,k3,rfl,k5,k6,by show a.length<=_;dsimp only;omega,by show c.length<=_;dsimp only;omega,k9⟩,(zbe [(1,some 1),(2,some 2),(96,some 96),(900,some 900),(901,some 901)]),by dsimp only;omega⟩):P:=h
theorem yy30 {P:Prop} (h:P:=by
 obtain ⟨PS,PK⟩:=PP;dsimp only at hT pp pu;subst hT
 (try refine sG ?_)
 (refine cP ?_;refine dL pp ?_)
 (refine cP ?_;refine dL pu ?_)
 refine sD ?_
 try rfl):P:=h
theorem yy102 {P:Prop} (h:P:=by
 rw [hp] at hT;dsimp only at hT;subst hT;have hge:=zy85.1 hp;refine zac (zy9 zz6) (zw ?_)
 try rfl):P:=h
namespace Go.HL
namespace Snd
open Ser
theorem ydd (out:List zbo) (cum:Int) (hl:out.length<2 ^ 38) {rows:List (List PV)} (hr:rows=out.map zbo.row) :
 zan Tryz.prog 89 [.p (.sl 20 rows),i64 cum] zad (.tup [i64 (Sco.zdy out cum).1,Sco.zbr (Sco.zdy out cum).2]) zad:=by
 subst hr;exact Sco.zll out cum hl
abbrev tkC (s t:zag):zai:=.live (.cells 32 (ycq {s with clock:=W (s.clock+1),forward:=t.forward} (Sch.qs s.queue) (ints s.sched.had) (Sco.zdz t.out) (zpe s.paths) (ints s.mids) (ints s.fates)))
abbrev tkR (s:zag) (f:Bool) (r:List (List PV)):zai:=.live (.cells 32 (ycq {s with clock:=W (s.clock+1),forward:=f} (Sch.qs s.queue) (ints s.sched.had) (.p (.sl 20 r)) (zpe s.paths) (ints s.mids) (ints s.fates)))
theorem yvh {i:Int} {y:zbo} (h:¬ (y.state=1/\y.path=i)):Sco.late i y=y:=zy0 h
theorem xaf {i:Int} {y:zbo} (h:y.state=1/\y.path=i):Sco.late i y={y with state:=3}:=zy1 h
theorem zwv {α:Type} {C B:List α} {p q:α} {i:Nat} (h:C.length=i):(C++p::B).set i q=C++q::B:=by
 subst h;simp
theorem ysd {N:Nat} (s:zag) (hS:SI N s):zan Tryz.prog 37 [s.hv] zad (tick s).hv zad:=by
 obtain ⟨h1,h2,h3,h4,h5,h6,h7⟩:=hS.fit;have hT:(List.range s.paths.length).foldl (zlc s.config.part) {s with clock:=W (s.clock+1)}=tick s:=rfl;generalize tick s=T at hT ⊢;refine zal mixed Tryz.func37 zz4 ?_;(conv=>whnf);refine sR ?_;refine ⟨{x:(List Path×List Path)×zag×List Path // s.paths=x.1.1++x.1.2/\(List.range x.1.1.length).foldl (zlc s.config.part) {s with clock:=W (s.clock+1)}=x.2.1/\x.2.1={s with clock:=W (s.clock+1),out:=x.2.1.out,paths:=x.2.2++x.1.2,forward:=x.2.1.forward}/\Sco.zev x.2.1.out/\x.2.2.length=x.1.1.length},
  fun | ⟨((A,B),t,C),_⟩=>hs 89 [(1,.ptr 1 0),(2,.ptr 2 0),(3,.own 900),(15,zpe s.paths),(16,i64 s.paths.length),(17,i64 A.length)] [(1,tkC s t),(2,sc0),(900,yyv C)],fun x=>x.1.1.2.length,⟨(([],s.paths),{s with clock:=W (s.clock+1)},[]),rfl,rfl,rfl,h3,rfl⟩,?_,?_⟩
 . exact (zbe [(1,some 1),(2,some 2),(900,none)])
 rintro ⟨⟨⟨A,B⟩,t,C⟩,h,ht,hk,hz3,hC⟩;dsimp only at h ht hk hz3 hC;have hql:s.paths.length=A.length+B.length:=by rw [h];simp
 refine zbx fun Q hQ=>?_
 (conv=>whnf);cases B with
 | nil =>
  have hz:=zbk h;rw [zy5] at h hk;subst h;rw [hT] at ht;subst ht;refine sN ?_;refine hQ _ _ ?_;conv=>whnf
  rw [hk]
  try rfl
 | cons p B =>
 have hz:=zay h;have hp:t.paths[A.length]?=some p:=by rw [hk];simp [<- hC]
 have hst:=zim (zlc s.config.part) {s with clock:=W (s.clock+1)} A.length;rw [ht] at hst;have hAl:(A++[p]).length=A.length+1:=by simp
 have hcl:t.clock=W (s.clock+1):=by rw [hk]
 have hcu:t.cum=s.cum:=by rw [hk]
 have hz1:=hz3.len;refine sT ?_;refine zaj h rfl (zw ?_)
 (try refine sG ?_)
 by_cases c1:p.zcs=0
 case pos =>
  rw [znl hp (.inl c1)] at hst;refine zab zz150 (zw ?_);exact yy64
 refine zac (zy76.2 c1) (zw ?_);by_cases c2:W (s.clock+1)<p.zcs
 case pos =>
  rw [znl hp (.inr (by rw [hcl];exact c2))] at hst;refine zab zz29 (zw ?_);exact yy64
 have hgo:=ynv (part:=s.config.part) hp (fun h=>h.elim c1 (by rw [hcl];exact c2));have hsz:=zzc A.length hz3;have hset:t.paths.set A.length (Paths.late p s.config.part)=(C++[Paths.late p s.config.part])++B:=by
  rw [hk];show (C++p::B).set _ _=_;rw [zwv hC];simp
 refine zac zz29 ?_;conv=>whnf
 refine zaa (c:=(([]:List (List PV)).length+(t.out.map zbo.row).length)*200<=140737488355328) zz3 (zw ?_);refine ⟨{x:List zbo×List zbo // t.out=x.1++x.2},fun | ⟨(a,b),_⟩=>hs 89 [(1,.ptr 1 0),(2,.ptr 2 0),(3,.own 900),(4,i64 A.length),(5,.ptr 5 0),(6,.own 902),(15,zpe s.paths),(16,i64 s.paths.length),(17,i64 A.length),(37,i64 t.out.length),(38,i64 a.length)] [(1,tkC s t),(2,sc0),(5,.live (.cells 86 p.cells)),(900,yyv C),(902,xfy (a.map (Sco.late A.length)++b))],fun x=>x.1.2.length,⟨([],t.out),rfl⟩,?_,?_⟩
 . exact (zbe [(1,some 1),(2,some 2),(5,some 5),(900,some 900),(902,some 35)])
 rintro ⟨⟨a,b⟩,h'⟩;dsimp only at h';refine zbx fun Q2 hQ2=>?_
 (conv=>whnf);cases b with
 | cons y b =>
  have hz':=zay h';have e0:(a++[y]).map (Sco.late A.length)++b=a.map (Sco.late A.length)++Sco.late A.length y::b:=by simp
  refine sT ?_;refine sO ?_;refine zaj (a:=a.map (Sco.late A.length)) (b:=b) (s:=y) rfl zz5 (zw ?_);by_cases d1:y.state=1
  case neg =>
   have e1:=yvh (i:=A.length) (y:=y) fun h=>d1 h.1
   refine zab (zy4.2 d1) (zw ?_);exact yy111
  refine zac (zy13.2 d1) (zw ?_);refine sO ?_;refine zaj (a:=a.map (Sco.late A.length)) (b:=b) (s:=y) rfl zz5 (zw ?_);by_cases d2:y.path=(A.length:Int)
  case neg =>
   have e1:=yvh (i:=A.length) (y:=y) fun h=>d2 h.2
   refine zab zz154 (zw ?_);exact yy111
  have e1:=xaf (i:=A.length) (y:=y) ⟨d1,d2⟩;refine zac zz154 (zw ?_);refine sO ?_;refine zaj (a:=a.map (Sco.late A.length)) (b:=b) (s:=y) rfl zz5 (zw ?_);refine sF ?_;refine hQ2 _ _ (zw ?_);exact ⟨⟨(a++[y],b),zae h'⟩,(zax [(1,some 1),(2,some 2),(5,some 5),(900,some 900),(902,some 902)] zz26),by simp⟩
 | nil =>
 have hz':=zbk h';rw [zy5] at h';subst h';have hpt:=ydd (rows:=(t.out.map (Sco.late A.length)++[]).map zbo.row) (t.out.map (Sco.late A.length)) s.cum hsz.len zz156;have zpw:((t.out.map (Sco.late A.length)++[]).map zbo.row)=(t.out.map (Sco.late A.length)).map zbo.row:=by rw [zy5]
 refine sN ?_;refine hQ2 _ _ (zw ?_)
 (refine cL ?_;refine dL (Paths.yrw p s.config.part) ?_)
 (refine cP ?_;refine dL hpt ?_)
 by_cases c3:(Sco.zdy (t.out.map (Sco.late A.length)) s.cum).1>s.cum
 case pos =>
  rw [zy1 (show (Sco.zdy (zrp s.config.part t A.length p).out t.cum).1>t.cum from by rw [hcu];exact c3)] at hgo;refine zac zz89 (zw ?_)
  (try refine sG ?_)
  refine zaa (c:=((C.map Path.row).length+1)*56<=140737488355328) zz6 (zw ?_);refine sF ?_;refine hQ _ _ ?_;conv=>whnf
  exact ⟨⟨((A++[p],B),{zrp s.config.part t A.length p with forward:=true},C++[Paths.late p s.config.part]),zae h,by rw [hAl,hst];exact hgo,by rw [<- hset];unfold zrp;rw [hk],hsz,by simp [hC]⟩,(zop [35,902] [(1,some 1),(2,some 2),(900,some 84)] (by repeat' (first | exact z0 | refine z1 ?_ | refine ⟨?_,?_⟩ | ((exact zbc (f:=Path.row) rfl rfl)) | ((exact congrArg (tkR s true) zpw)) | exact z2))),by simp⟩
 case neg =>
  rw [zy0 (show ¬ (Sco.zdy (zrp s.config.part t A.length p).out t.cum).1>t.cum from by rw [hcu];exact c3)] at hgo;refine zab zz89 (zw ?_)
  (try refine sG ?_)
  refine zaa (c:=((C.map Path.row).length+1)*56<=140737488355328) zz6 (zw ?_);refine sF ?_;refine hQ _ _ ?_;conv=>whnf
  exact ⟨⟨((A++[p],B),zrp s.config.part t A.length p,C++[Paths.late p s.config.part]),zae h,by rw [hAl,hst];exact hgo,by rw [<- hset];unfold zrp;rw [hk],hsz,by simp [hC]⟩,(zop [35,902] [(1,some 1),(2,some 2),(900,some 84)] (by repeat' (first | exact z0 | refine z1 ?_ | refine ⟨?_,?_⟩ | ((exact zbc (f:=Path.row) rfl rfl)) | ((exact congrArg (tkR s t.forward) zpw)) | exact z2))),by simp⟩
end Snd
namespace Snd
open Ser
def pdC (s:zag) (q h o p m f x y:HV):List HV:=[i64 s.config.streams,i64 s.config.part,i64 s.config.packet,i64 s.config.paths,i64 s.config.turns,i64 s.config.waiting,i64 s.config.first,i64 s.clock,q,i64 s.sched.last,i64 s.sched.hand,h,o,p,i64 s.cum,i64 s.next,i64 s.room,m,f,zbj s.forward,i64 s.recover,x,y]
abbrev pdS (s:zag) (q o p m:HV) (x y:Nat):zai:=.live (.cells 148 (pdC s q (ints s.sched.had) o p m (ints s.fates) (.own x) (.own y)))
abbrev pdP (s:zag) (x y:Nat):zai:=pdS s (Sch.qs s.queue) (Sco.zdz s.out) (zpe s.paths) (ints s.mids) x y
def xjl (b:Bool) (i:Nat) (v:HV):HV:=match b with
 | true=>.own i
 | false=>v
def xjf (b:Bool) (i:Nat) (x:zai) (l:List (Nat×zai)):List (Nat×zai):=match b with
 | true=>(i,x)::l
 | false=>l
abbrev pdH (b:Bool) (s:zag) (a c:List Chunk):List (Nat×zai) :=
 (1000,pdS s (xjl b 1001 (Sch.qs s.queue)) (Sco.zdz s.out) (zpe s.paths) (ints s.mids) 1007 1008)::(1007,zxt a)::(1008,zxt c) ::
  xjf b 1001 (xcx s.queue) []
abbrev pdD:List (Nat×zai):=[(1001,.dead)]
theorem ywl {b:Bool} {s:zag} {a c:List Chunk}:∀ i,lk .free (pdH b s a c) i=.free\/i∈[1000,1001,1007,1008]:=fun i=>by
 rcases zbq (L:=pdH b s a c) i with h | h
 . exact .inl h
 . right;cases b<;>simp [xjf] at h ⊢<;>omega
theorem yac (s:zag) (a c:List Chunk) (path:Nat) (w:Path) (hw:s.paths[path]?=some w) (_:s.paths.length<2 ^ 22) :
 zan Tryz.prog 101 [.ptr 1000 0,i64 path] (lk .free (pdH false s a c)) (zbj (opened s path)) (lk .free (pdH false s a c)):=by
 have hi:path<s.paths.length:=(zy8.1 hw).1;rw [opened,hw];refine zaq mixed Tryz.func101 zz4 [1000,1007,1008] zbq ?_;(conv=>whnf);refine zam hw rfl (zw ?_);refine zam hw rfl (zw ?_);refine sD ?_
 (exact zci [(1000,some 1000),(1007,some 1007),(1008,some 1008)])
theorem zzz (b:Bool) (s S:zag) (a c:List Chunk) (i:Nat) (x:zbo) (hx:s.out[i]?=some x) (ho:Sco.zev (s.out.set i (zsz x 0))) (hp:s.paths.length<2 ^ 22) (hS:zck {s with out:=s.out.set i (zsz x 0)}=S) (ha:a.length<2 ^ 30) :
 zan Tryz.prog 102 [.ptr 1000 0,i64 i,i64 0] (lk .free (pdH b s a c)) (.tup []) (lk .free ((1000,pdP S 0 1008)::(0,zxt (a++[x.chunk]))::(1008,zxt c)::(1007,.dead)::pdD)):=by
 have ho1:=ho.len;rw [zy26] at ho1;have hi:i<s.out.length:=(zy8.1 hx).1;have hf:=fun rows=>zjb (rows:=rows) {s with out:=s.out.set i (zsz x 0)} ho hp
 rw [hS] at hf;cases b<;>(
  refine zaq mixed Tryz.func102 zz4 [1000,1001,1007,1008] ywl ?_;(conv=>whnf);refine zaa (c:=(([]:List (List PV)).length+(s.out.map zbo.row).length)*200<=140737488355328) zz3 (zw ?_);refine sOm ?_;refine zam (l:=s.out) hx rfl (zw ?_);refine sR ?_;refine sOm ?_;refine zam (l:=s.out) hx rfl (zw ?_)
  (refine cP ?_;refine dL (hf _ (by rw [zy62];rfl)) ?_)
  refine ⟨0,rfl,by decide,zw ?_⟩;refine zaa (c:=((a.map Chunk.row).length+1)*128<=140737488355328) zz3 (zw ?_);refine ⟨0,rfl,by decide,zw ?_⟩;refine sD ?_
  (exact zcx [(1000,some 1000),(1001,some 1001),(1007,some 1007),(1008,some 1008),(0,some 55)] zz77))
theorem yaa (b:Bool) (s S:zag) (a c:List Chunk) (i:Nat) (x:zbo) (hx:s.out[i]?=some x) (ho:Sco.zev (s.out.set i (zsz x 1))) (hp:s.paths.length<2 ^ 22) (hS:zck {s with out:=s.out.set i (zsz x 1)}=S) (ha:c.length<2 ^ 30) :
 zan Tryz.prog 102 [.ptr 1000 0,i64 i,i64 1] (lk .free (pdH b s a c)) (.tup []) (lk .free ((1000,pdP S 1007 0)::(1007,zxt a)::(0,zxt (c++[x.chunk]))::(1008,.dead)::pdD)):=by
 have ho1:=ho.len;rw [zy26] at ho1;have hi:i<s.out.length:=(zy8.1 hx).1;have hf:=fun rows=>zjb (rows:=rows) {s with out:=s.out.set i (zsz x 1)} ho hp
 rw [hS] at hf;cases b<;>(
  refine zaq mixed Tryz.func102 zz4 [1000,1001,1007,1008] ywl ?_;(conv=>whnf);refine zaa (c:=(([]:List (List PV)).length+(s.out.map zbo.row).length)*200<=140737488355328) zz3 (zw ?_);refine sOm ?_;refine zam (l:=s.out) hx rfl (zw ?_);refine sR ?_;refine sOm ?_;refine zam (l:=s.out) hx rfl (zw ?_)
  (refine cP ?_;refine dL (hf _ (by rw [zy62];rfl)) ?_)
  refine ⟨1,rfl,by decide,zw ?_⟩;refine zaa (c:=((c.map Chunk.row).length+1)*128<=140737488355328) zz3 (zw ?_);refine ⟨1,rfl,by decide,zw ?_⟩;refine sD ?_
  (exact zcx [(1000,some 1000),(1001,some 1001),(1007,some 1007),(1008,some 1008),(0,some 55)] zz77))
end Snd
namespace Snd
open Ser
abbrev pdR (s:zag) (a c:List Chunk):List (Nat×zai):=[(1000,pdP s 0 1),(0,zxt a),(1,zxt c),(1007,.dead),(1008,.dead)]
abbrev cq (s:zag) (k:Nat) (m:zak):zag:={zxw s k m with queue:=s.queue}
def built (s:zag) (k:Nat) (m:zak) (A:List zak):List zak:=if decide (m.sent+many s m=m.message.data.length) then A.eraseIdx k else A.set k {m with mid:=zdg s m,sent:=m.sent+many s m,parts:=W (m.parts+1)}
theorem yjd {s:zag} {k:Nat} {m x:zak} {A:List zak} (h:A.length≠k):built s k m (A++[x])=built s k m A++[x]:=by
 unfold built;split
 . rcases zy143 h with h | h
   . rw [zy133 (by simp;omega),zy133 (by omega)]
   . rw [List.eraseIdx_append_of_lt_length (by omega)]
 . rcases zy143 h with h | h
   . rw [zy115 (by simp;omega),zy115 (by omega)]
   . rw [List.set_append_left _ _ (by omega)]
theorem ypw {s:zag} {m x:zak} {A:List zak} (ho:decide (m.sent+many s m=m.message.data.length)=true):built s A.length m (A++[x])=built s A.length m A:=by
 unfold built;rw [zy1 ho,zy1 ho,List.eraseIdx_append_of_length_le (zy24 _),zy133 (zy24 _)];simp
theorem ypv {s:zag} {m x:zak} {A:List zak} (ho:decide (m.sent+many s m=m.message.data.length)=false):built s A.length m (A++[x])=built s A.length m A++[{m with mid:=zdg s m,sent:=m.sent+many s m,parts:=W (m.parts+1)}]:=by
 unfold built;rw [zy0 (by rw [ho];decide),zy0 (by rw [ho];decide),zy152 _ _ (zy24 _),zy115 (zy24 _)];simp
theorem yte (s:zag) (k:Nat) (m:zak) (A:List zak):(built s k m A).length<=A.length:=by
 unfold built;split
 . exact List.length_eraseIdx_le _ _
 . simp
abbrev rnH (s:zag) (m:zak) (a c:List Chunk):List (Nat×zai):=[(1000,pdP s 1007 1008),(1007,zxt a),(1008,zxt c),(5,.live (.cells 117 m.cells))]
abbrev rnM (s:zag) (m:zak) (a c:List Chunk):List (Nat×zai):=[(1000,pdP {s with mids:=zdt s m} 1007 1008),(1007,zxt a),(1008,zxt c),(5,.live (.cells 117 ({m with mid:=zdg s m}:zak).cells))]
abbrev x0r (s:zag) (m:zak) (o:Bool):zbo:=⟨s.next,m.id,0,0,0,0,m.came,m.message.life,m.message.tries,⟨1,tag s.next,m.message.stream,tag (zdg s m),m.parts,o,m.message.ordered,(m.message.data.drop m.sent.toNat).take (many s m).toNat,[],0,[]⟩⟩
abbrev rnK (s:zag) (m:zak) (o:Bool) (r:List (List PV)):zai:=.live (.cells 148 (pdC {s with mids:=zdt s m,sched:=Sch.had s.sched {m with mid:=zdg s m} (many s m) o,next:=W (s.next+1)} (Sch.qs s.queue) (ints (Sch.had s.sched {m with mid:=zdg s m} (many s m) o).had) (.p (.sl 20 r)) (zpe s.paths) (ints (zdt s m)) (ints s.fates) (.own 1007) (.own 1008)))
theorem xis {s:zag} {k:Nat} {m:zak} {o:Bool} (h:o=decide (m.sent+many s m=m.message.data.length)) :
 rnK s m o ((([]:List (List PV))++s.out.map zbo.row)++[(x0r s m o).row])=pdS (cq s k m) (Sch.qs s.queue) (Sco.zdz (zxw s k m).out) (zpe s.paths) (ints (zdt s m)) 1007 1008:=by
 subst h;refine congrArg (rnK s m _) ?_;show _=(s.out++[_]).map zbo.row;rw [zy34];rfl
theorem ytf {s:zag} {k:Nat} {m:zak}:built s k m []=[]:=by unfold built;split<;>simp
theorem xbw {R P:Prop} (h:R->P) (r:R):P:=h r
theorem zxd (s:zag) (a c:List Chunk) (hs:xfr s) (hlast:0<s.sched.had.length->0<=s.sched.last/\s.sched.last<s.sched.had.length) (h2p:s.paths.length<=2) (hb:a.length+c.length<2 ^ 29)
 (hfl:∀ k m,s.queue[k]?=some m->Sco.zev ((zxw s k m).out.set s.out.length (zsz ⟨s.next,m.id,0,0,0,0,m.came,m.message.life,m.message.tries,cut s m (many s m)⟩ (choose s))) /\
  zck {zxw s k m with out:=(zxw s k m).out.set s.out.length (zsz ⟨s.next,m.id,0,0,0,0,m.came,m.message.life,m.message.tries,cut s m (many s m)⟩ (choose s))}=(zly ⟨s,[a,c]⟩ k m (many s m)).s) :
 zan Tryz.prog 103 [.ptr 1000 0] (lk .free (pdH false s a c)) (zbj (nx s [a,c]).2) (lk .free (pdR (nx s [a,c]).1.s (ygk (nx s [a,c]).1.out) (yog (nx s [a,c]).1.out))):=by
 obtain ⟨g,hp,hp1,hp2,hmsg⟩:=hs;obtain ⟨⟨f1,f2,f3,f4,f5,f6,f7⟩,g2,g3,g4⟩:=g;obtain ⟨hch,hch2⟩:=zdn hp;have pc:=Paths.zju s.paths zz0;rw [hch] at pc;obtain ⟨w,hw⟩:∃ w,s.paths[choose s]?=some w:=⟨_,zy3 hch2⟩
 have pn:=Sch.ysa s.config.turns s.sched s.queue zz0 zz0 hlast;have po:=yac s a c (choose s) w hw zz0;have hop:opened s (choose s)=decide (w.zba<w.window):=by rw [opened,hw]
 rw [hop] at po;generalize hG:nx s [a,c]=G;refine zaq mixed Tryz.func103 zz4 [1000,1007,1008] zbq ?_;(conv=>whnf)
 (refine cL ?_;refine dL pc ?_)
 by_cases c1:zec s<0
 case pos =>
  (refine cL ?_;refine dL pn ?_)
  refine sD ?_;refine zac ?_ ?_
  . exact zy9 c1
  (conv=>whnf);rw [yoh c1] at hG;exact yy63
 obtain ⟨k,hkl,hke⟩:=ydj (t:=s.config.turns) (s:=s.sched) (q:=s.queue) zz134;have hke':zec s=k:=hke;rw [hke] at pn;obtain ⟨m,hm⟩:∃ m,s.queue[k]?=some m:=⟨_,zy3 hkl⟩
 have hmf:=hmsg m (zy20 hm);obtain ⟨mf,mh,ms,ml,md⟩:=hmf;obtain ⟨n1,n2,n3⟩:=zrq (s:=s) (m:=m) hp1 hp2 ms ml md
 (refine cL ?_;refine dL pn ?_)
 refine sD ?_;by_cases c2:w.zba<w.window
 case neg =>
  rw [zy11 c2] at po
  (refine zaf [] [(1000,1000),(1007,1007),(1008,1008)] [] ?_;(conv=>whnf);refine dG po ?_)
  rw [yoi hw c2] at hG;exact yy63
 rw [zy9 c2] at po
 (refine zaf [] [(1000,1000),(1007,1007),(1008,1008)] [] ?_;(conv=>whnf);refine dG po ?_)
 by_cases c3:(s.out.length:Int)>=60
 case pos =>
  refine zac ?_ ?_
  . rw [zy2];exact zy9 c3
  (conv=>whnf);rw [yoj c3] at hG;exact yy63
 refine zab ?_ ?_
 . rw [zy2];exact zy11 c3
 conv=>whnf
 (try refine sG ?_)
 refine zam hm rfl (zw ?_);refine zbv (z':=(m.message.data.length:Int)-m.sent) ?_ ?_
 . show W _=_
   rw [zy2];exact zbt zz0 zz0
 (conv=>whnf);refine zhw.meet PUnit (fun _=>hsP [1000,1007,1008] 298 [(0,.ptr 1000 0),(3,i64 (choose s)),(4,i64 k),(5,.ptr 5 0),(6,i64 (many s m))] (rnH s m a c)) ?_ ?_
 . conv=>whnf
   refine zah (fun c=>?_) (fun c=>?_)
   . have c':(m.message.data.length:Int)-m.sent>s.config.part:=zy25 c
     (conv=>whnf);exact ⟨⟨⟩,(zcc [(1000,some 1000),(1007,some 1007),(1008,some 1008),(5,some 5)] zz71)⟩
   . have c':¬ (m.message.data.length:Int)-m.sent>s.config.part:=zy33 c
     (conv=>whnf);exact ⟨⟨⟩,(zcc [(1000,some 1000),(1007,some 1007),(1008,some 1008),(5,some 5)] zz71)⟩
 rintro ⟨⟩;(conv=>whnf);refine ⟨{x:List Path×List Path // s.paths=x.1++x.2},fun | ⟨(A,B),_⟩=>hsP [1000,1007,1008] 298 [(0,.ptr 1000 0),(3,i64 (choose s)),(4,i64 k),(5,.ptr 5 0),(6,i64 (many s m)),(7,i64 (A.foldl (fun n a=>W (n+a.zba)) 0)),(89,zpe s.paths),(90,i64 s.paths.length),(91,i64 A.length)] (rnH s m a c),fun x=>x.1.2.length,⟨([],s.paths),rfl⟩,?_,?_⟩
 . exact (zdj [(1000,some 1000),(1007,some 1007),(1008,some 1008),(5,some 5)])
 rintro ⟨⟨A,B⟩,h⟩;dsimp only at h;(conv=>whnf);cases B with
 | cons p B =>
  have hz:=zay h;refine sT ?_;refine zaj h rfl (zw ?_);refine sR ?_;refine sF ?_;exact ⟨⟨(A++[p],B),zae h⟩,(zcc [(1000,some 1000),(1007,some 1007),(1008,some 1008),(5,some 5)] zz48),by simp⟩
 | nil =>
 have hz:=zbk h;rw [zy5] at h;subst h;refine sNm ?_;have hWs:W (m.sent+many s m)=m.sent+many s m:=zbt zz0 zz0;apply xbw
 . intro hrest
   by_cases c4:zba s>0
   case neg =>
    have c6:¬ (zba s>0/\W (zba s+many s m)>s.room):=fun h=>c4 h.1
    refine zab (zy11 c4) (zw ?_);exact yy8
   refine zac (zy9 c4) (zw ?_);refine sRm ?_;by_cases c5:W (zba s+many s m)>s.room
   case pos =>
    refine zac (zy9 c5) (zw ?_);rw [yok hke' hm hw c2 c3 ⟨c4,c5⟩] at hG;exact yy63
   have c6:¬ (zba s>0/\W (zba s+many s m)>s.room):=fun h=>c5 h.2
   refine zab (zy11 c5) (zw ?_);exact yy8
 rintro ⟨c6⟩;rw [zwd hke' hm hw c2 c3 c6] at hG;subst hG;have hov:decide (m.sent+many s m>=((m.message.data.map zco).length:Int))=decide (m.sent+many s m=m.message.data.length):=by
  rw [zy2];by_cases h:m.sent+many s m=m.message.data.length
  . rw [zy9 h,zy9];omega
  . rw [zy11 h,zy11];omega
 (conv=>whnf);refine zao (z:=m.sent+many s m) hWs (zw ?_)
 (refine cP ?_;refine dL (Sch.yxx s.sched {m with mid:=zdg s m} (many s m) (decide (m.sent+many s m>=((m.message.data.map zco).length:Int))) zz0) ?_)
 refine sD ?_;refine zaa (c:=(([]:List (List PV)).length+(s.out.map zbo.row).length)*200<=140737488355328) zz3 (zw ?_)
 (refine cL ?_;refine dL (zcu s.next) ?_)
 (refine cL ?_;refine dL (zcu (zdg s m)) ?_)
 refine zao (z:=m.sent+many s m) hWs (zw ?_);refine zaa (c:=0<=m.sent/\m.sent<=m.sent+many s m/\m.sent+many s m<=((m.message.data.map zco).length:Int)) ⟨ms,by omega,by rw [zy2];omega⟩ ?_;refine zhf (o':=m.sent.toNat) (n':=(many s m).toNat) rfl (show (m.sent+many s m-m.sent).toNat=(many s m).toNat by rw [show m.sent+many s m-m.sent=many s m by omega]) ?_;refine zgh (f:=zco) (l:=m.message.data) (o:=m.sent.toNat) (n:=(many s m).toNat) zz0 ?_;(conv=>whnf);refine zaa (c:=((([]:List (List PV))++s.out.map zbo.row).length+1)*200<=140737488355328) zz3 (zw ?_);refine sD ?_;refine sR ?_;refine zao (z:=m.sent+many s m) hWs (zw ?_);refine sR ?_;refine ⟨{x:List zak×List zak // s.queue=x.1++x.2},fun | ⟨(A,B),_⟩=>hsP [1000,1007,1008] 298 [(0,.ptr 1000 0),(3,i64 (choose s)),(4,i64 k),(5,.ptr 5 0),(12,zbj (decide (m.sent+many s m=m.message.data.length))),(13,.own 900),(260,Sch.qs s.queue),(261,i64 s.queue.length),(262,i64 A.length)] [(1000,pdS (cq s k m) (Sch.qs s.queue) (Sco.zdz (zxw s k m).out) (zpe s.paths) (ints (zdt s m)) 1007 1008),(1007,zxt a),(1008,zxt c),(5,.live (.cells 117 ({m with mid:=zdg s m,sent:=m.sent+many s m,parts:=W (m.parts+1)}:zak).cells)),(900,xcx (built s k m A))],fun x=>x.1.2.length,⟨([],s.queue),rfl⟩,?_,?_⟩
 . exact (zop [234] [(1000,some 1000),(1007,some 1007),(1008,some 1008),(5,some 5),(900,none)] (by repeat' (first | exact z0 | refine z1 ?_ | refine ⟨?_,?_⟩ | ((exact congrArg zbj hov.symm)) | ((exact xis hov)) | ((show List.map zak.row (built s k m [])=[];rw [ytf];rfl)) | exact z2)))
 rintro ⟨⟨A,B⟩,h⟩;dsimp only at h;refine zbx fun Q hQ=>?_
 (conv=>whnf);cases B with
 | cons x B =>
  have hz:=zay h;have hbl:=yte s k m A;refine sT ?_;refine zaj h rfl (zw ?_)
  (try refine sG ?_)
  by_cases d:A.length=k
  case neg =>
   have hb:=yjd (s:=s) (m:=m) (x:=x) d;refine zab (zy4.2 zz0) (zw ?_)
   (try refine sG ?_)
   refine zac (zy76.2 zz0) (zw ?_);refine zaa (c:=(((built s k m A).map zak.row).length+1)*96<=140737488355328) zz6 (zw ?_);exact yy113
  refine zac (zy13.2 zz0) (zw ?_)
  (try refine sG ?_)
  refine zab (by simp [d]) (zw ?_);subst d;by_cases e:m.sent+many s m=m.message.data.length
  case pos =>
   have hb:=ypw (s:=s) (x:=x) (A:=A) (zy9 e);refine zab (by rw [zy9 e];rfl) (zw ?_)
   (try refine sG ?_)
   refine sF ?_;refine hQ _ _ ?_;conv=>whnf
   exact ⟨⟨(A++[x],B),zae h⟩,(zcc [(1000,some 1000),(1007,some 1007),(1008,some 1008),(5,some 5),(900,some 900)] (by repeat' (first | exact z0 | refine z1 ?_ | refine ⟨?_,?_⟩ | ((rw [hb])) | exact z2))),by simp⟩
  have hb:=ypv (s:=s) (x:=x) (A:=A) (zy11 e);refine zac (by rw [zy11 e];rfl) (zw ?_);refine zaa (c:=(((built s A.length m A).map zak.row).length+1)*96<=140737488355328) zz6 (zw ?_);exact yy113
 | nil =>
 have hz:=zbk h;rw [zy5] at h;subst h;obtain ⟨hsz,hfe⟩:=hfl k m hm;have hx:(zxw s k m).out[s.out.length]?=some (⟨s.next,m.id,0,0,0,0,m.came,m.message.life,m.message.tries,cut s m (many s m)⟩:zbo):=by
  show (s.out++[_])[s.out.length]?=_;rw [zy44 (zy24 _)];simp
 have hol:(zxw s k m).out.length=s.out.length+1:=by show (s.out++[_]).length=_;simp
 have hn1:zly ⟨s,[a,c]⟩ k m (many s m)=fly ⟨zxw s k m,[a,c]⟩ s.out.length (choose s):=zgc s [a,c] k m;refine sN ?_;refine hQ _ _ ?_;conv=>whnf
 refine zbv (z':=(s.out.length:Int)) ?_ ?_
 . show W ((((zxw s k m).out.map zbo.row).length:Int)-1)=_
   rw [zy2,hol,zbt (by omega) (by omega)];omega
 (conv=>whnf);have hc01:choose s=0\/choose s=1:=by omega
 rcases hc01 with hc | hc
 . have ho1:(zly ⟨s,[a,c]⟩ k m (many s m)).out=[a++[cut s m (many s m)],c]:=by
    rw [hn1,hc];simp only [fly,hx,setAt];rfl
   rw [hc] at hsz hfe;have pf:=zzz true (zxw s k m) (zly ⟨s,[a,c]⟩ k m (many s m)).s a c s.out.length (⟨s.next,m.id,0,0,0,0,m.came,m.message.life,m.message.tries,cut s m (many s m)⟩:zbo) hx hsz (by show s.paths.length<_;omega) hfe zz0;generalize zly ⟨s,[a,c]⟩ k m (many s m)=G at ho1 pf ⊢;rw [hc]
   (refine zaf [] [(1000,1000),(1001,900),(1007,1007),(1008,1008)] [(0,920)] ?_;(conv=>whnf);refine dG pf ?_)
   (exact zcx [(1000,some 1000),(1007,some 1007),(1008,some 1008),(0,some 920),(1,some 1008)] zz102)
 . have ho1:(zly ⟨s,[a,c]⟩ k m (many s m)).out=[a,c++[cut s m (many s m)]]:=by
    rw [hn1,hc];simp only [fly,hx,setAt];rfl
   rw [hc] at hsz hfe;have pf:=yaa true (zxw s k m) (zly ⟨s,[a,c]⟩ k m (many s m)).s a c s.out.length (⟨s.next,m.id,0,0,0,0,m.came,m.message.life,m.message.tries,cut s m (many s m)⟩:zbo) hx hsz (by show s.paths.length<_;omega) hfe zz0;generalize zly ⟨s,[a,c]⟩ k m (many s m)=G at ho1 pf ⊢;rw [hc]
   (refine zaf [] [(1000,1000),(1001,900),(1007,1007),(1008,1008)] [(0,920)] ?_;(conv=>whnf);refine dG pf ?_)
   (exact zcx [(1000,some 1000),(1007,some 1007),(1008,some 1008),(0,some 1007),(1,some 920)] zz102)
end Snd
namespace Snd
open Ser
abbrev hrS (c:Chunk) (V:zag):List (Nat×zai):=[(2,scS V),(3,.live (.cells 61 c.cells)),(4,sc0)]
theorem yrt {N:Nat} (s:zag) (c:Chunk) (hS:SI N s) (hsp:c.zas.length<2 ^ 60):zan Tryz.prog 35 [s.hv,c.hv] zad (yfg s c).hv zad:=by
 have hr:=hS.right;have hs':=hS.fit;obtain ⟨h1,h2,h3,h4,h5,h6,h7⟩:=hs';obtain ⟨q1,q2⟩:-(2 ^ 40)<=s.cum/\s.cum<=2 ^ 40:=by
  have:=hS.cum;have:=hS.nextle;have:=hS.next;have:=hS.few;have:=(zdf hS.cfg);omega
 generalize hT:yfg s c=T;have pnr:=zkq s.cum c.tag q1 q2;have hol:=h3.len;refine zal mixed Tryz.func35 zz4 ?_;by_cases c1:c.kind=2
 case neg =>
  rw [yfg,zy1 c1] at hT;subst hT;(conv=>whnf);refine zac zz39 ?_;conv=>whnf
  try rfl
 rw [yfg,zy0 (fun h=>h c1)] at hT;by_cases k1:zde s.cum c.tag<s.cum
 case pos =>
  rw [zy1 (.inl k1)] at hT;subst hT;generalize zde s.cum c.tag=nr at pnr k1;(conv=>whnf);refine zab zz39 (zw ?_)
  (try refine sG ?_)
  (refine cL ?_;refine dL pnr ?_)
  refine zac (zy9 k1) (zw ?_)
  try rfl
 by_cases k2:zde s.cum c.tag>s.cum+s.out.length
 case pos =>
  rw [zy1 (.inr k2)] at hT;subst hT;generalize zde s.cum c.tag=nr at pnr k1 k2;(conv=>whnf);refine zab zz39 (zw ?_)
  (try refine sG ?_)
  (refine cL ?_;refine dL pnr ?_)
  refine zab (zy11 k1) (zw ?_);refine sF ?_;refine zac (by rw [zy2];exact zy9 k2) (zw ?_)
  try rfl
 rw [zy0 (fun h=>h.elim k1 k2),zpu] at hT;have kk:¬ (zde s.cum c.tag<s.cum\/zde s.cum c.tag>s.cum+s.out.length):=fun h=>h.elim k1 k2
 have hks:=ztj h3 s.cum c s.paths.length;have hlo:(Sco.zin s.out s.cum c s.paths.length).2.2.2.length<=s.out.length:=by
  rw [Sco.zin,zy0 kk];dsimp only;rw [Sco.lost,zy2];refine zy94 (zy27 _ _) ?_;rw [Sco.left,zy2];exact zy27 _ _
 have hcl:(Sco.zin s.out s.cum c s.paths.length).2.2.1.length=s.paths.length:=by
  rw [Sco.zin,zy0 kk];simp only [Sco.znf];rfl
 have hU:=fun t (h:SI N t)=>yfj (N:=N) (s:=t) h (part:=s.config.part) (L:=(Sco.zin s.out s.cum c s.paths.length).2.2.2)
 have hTS:=yfi hS kk;have hk:zan Tryz.prog 84 [Sco.zdz s.out,i64 s.cum,c.hv,i64 ((s.paths.map Path.row).length:Nat)] zad (.tup [Sco.zdz (Sco.zin s.out s.cum c s.paths.length).1,i64 (Sco.zin s.out s.cum c s.paths.length).2.1,ints (Sco.zin s.out s.cum c s.paths.length).2.2.1,ints (Sco.zin s.out s.cum c s.paths.length).2.2.2]) zad:=by
  rw [zy2];exact Sco.ysb s.out s.cum c s.paths.length h3 hr hsp
 generalize Sco.zin s.out s.cum c s.paths.length=K at hk hT hks hlo hcl hU hTS;obtain ⟨K1,K2,K3,K4⟩:=K;dsimp only at hk hT hks hlo hcl hU hTS;clear kk;generalize zde s.cum c.tag=nr at pnr k1 k2;(conv=>whnf);refine zab zz39 (zw ?_)
 (try refine sG ?_)
 (refine cL ?_;refine dL pnr ?_)
 refine zab (zy11 k1) (zw ?_);refine sF ?_;refine zab (by rw [zy2];exact zy11 k2) (zw ?_)
 (try refine sG ?_)
 (refine cP ?_;refine dL hk ?_)
 refine sD ?_;refine ⟨{x:List Path×List Path // s.paths=x.1++x.2},fun | ⟨(A,B),_⟩=>hs 215 [(2,.ptr 2 0),(3,.ptr 3 0),(4,.ptr 4 0),(6,i64 s.cum),(8,i64 K2),(9,ints K3),(10,ints K4),(11,.own 900),(73,zpe s.paths),(74,i64 s.paths.length),(75,i64 A.length)] ((900,yyv (A.mapIdx fun i p=>if K3[i]?.getD 0>0 then Paths.zka p (K3[i]?.getD 0) s.config.part (decide (K2>s.cum)) else p))::hrS c {s with out:=K1,cum:=K2,room:=c.room}),fun x=>x.1.2.length,⟨([],s.paths),rfl⟩,?_,?_⟩
 . exact (zax [(2,some 2),(3,some 3),(4,some 4),(900,none)] (by repeat' (first | exact z0 | refine z1 ?_ | refine ⟨?_,?_⟩ | ((exact zbl (by rw [zy2]))) | exact z2)))
 rintro ⟨⟨A,B⟩,h⟩;dsimp only at h;refine zbx fun Q hQ=>?_
 (conv=>whnf);cases B with
 | cons p B =>
  have hz:=zay h;have hql:s.paths.length=A.length+(p::B).length:=by rw [h];simp
  obtain ⟨n,hn⟩:∃ n,K3[A.length]?=some n:=⟨_,zy3 (by rw [hcl,hql];simp)⟩
  have hm:(A++[p]).mapIdx (fun i p=>if K3[i]?.getD 0>0 then Paths.zka p (K3[i]?.getD 0) s.config.part (decide (K2>s.cum)) else p)=A.mapIdx (fun i p=>if K3[i]?.getD 0>0 then Paths.zka p (K3[i]?.getD 0) s.config.part (decide (K2>s.cum)) else p)++[if n>0 then Paths.zka p n s.config.part (decide (K2>s.cum)) else p]:=by
   rw [zy102,hn];rfl
  refine sT ?_;refine zaj h rfl (zw ?_)
  (try refine sG ?_)
  refine zam hn rfl (zw ?_);by_cases d1:n>0
  case pos =>
   rw [zy1 d1] at hm;refine zac (zy9 d1) (zw ?_);refine zam hn rfl (zw ?_)
   (refine cL ?_;refine dL (Paths.ylh p n s.config.part (decide (K2>s.cum))) ?_)
   refine sD ?_;exact yy54
  rw [zy0 d1] at hm;refine zab (zy11 d1) (zw ?_)
  (try refine sG ?_)
  exact yy54
 | nil =>
 have hz:=zbk h;rw [zy5] at h;subst h;refine sN ?_;refine hQ _ _ ?_;conv=>whnf
 have hcp:(s.paths.mapIdx fun i p=>if K3[i]?.getD 0>0 then Paths.zka p (K3[i]?.getD 0) s.config.part (decide (K2>s.cum)) else p).length=s.paths.length:=zy108;have hTe:zoe s c (K1,K2,K3,K4)=zck {s with out:=K1,cum:=K2,room:=c.room,paths:=s.paths.mapIdx fun i p=>if K3[i]?.getD 0>0 then Paths.zka p (K3[i]?.getD 0) s.config.part (decide (K2>s.cum)) else p}:=rfl;have htl:(zck {s with out:=K1,cum:=K2,room:=c.room,paths:=s.paths.mapIdx fun i p=>if K3[i]?.getD 0>0 then Paths.zka p (K3[i]?.getD 0) s.config.part (decide (K2>s.cum)) else p}).paths.length=s.paths.length:=by
  show (List.mapIdx _ _).length=_;rw [zy108];exact hcp
 have htc:(zck {s with out:=K1,cum:=K2,room:=c.room,paths:=s.paths.mapIdx fun i p=>if K3[i]?.getD 0>0 then Paths.zka p (K3[i]?.getD 0) s.config.part (decide (K2>s.cum)) else p}).cum=K2:=rfl;have htp:(zck {s with out:=K1,cum:=K2,room:=c.room,paths:=s.paths.mapIdx fun i p=>if K3[i]?.getD 0>0 then Paths.zka p (K3[i]?.getD 0) s.config.part (decide (K2>s.cum)) else p}).config.part=s.config.part:=rfl;have pf:=zoh {s with out:=K1,cum:=K2,room:=c.room,paths:=s.paths.mapIdx fun i p=>if K3[i]?.getD 0>0 then Paths.zka p (K3[i]?.getD 0) s.config.part (decide (K2>s.cum)) else p} hks zz83;rw [hTe] at hT hTS;generalize zck {s with out:=K1,cum:=K2,room:=c.room,paths:=s.paths.mapIdx fun i p=>if K3[i]?.getD 0>0 then Paths.zka p (K3[i]?.getD 0) s.config.part (decide (K2>s.cum)) else p}=t at pf hT hTS htl htc htp
 (refine zat [(0,950)]  ?_;(conv=>whnf);refine dOm pf ?_)
 have hpl:=hr.p0;obtain ⟨hch,hch2⟩:=zdn (s:=t) zz0;obtain ⟨w,hw⟩:∃ w,t.paths[choose t]?=some w:=⟨_,zy3 hch2⟩
 refine zhw.meet PUnit (fun _=>hs 215 [(2,.ptr 2 0),(3,.ptr 3 0),(4,.ptr 4 0),(6,i64 s.cum),(8,i64 K2)] (hrS c (zjk s.config.part t K4))) ?_ ?_
 . conv=>whnf
   rcases zy111 K4 with rfl | ⟨L,z,rfl⟩
   case inl =>
    (conv=>whnf);refine sDm ?_;exact ⟨⟨⟩,(zop [950] [(2,some 2),(3,some 3),(4,some 4)] (by repeat' (first | exact z0 | refine z1 ?_ | refine ⟨?_,?_⟩ | ((exact zbl rfl)) | exact z2)))⟩
   rw [zy99] at hlo ⊢;have hUe:zjk s.config.part t (L++[z])=if z>t.recover then upS t s.config.part w else t:=by
    unfold zjk;rw [List.getLast?_concat];dsimp only;rw [upS,setAt,hw]
   have hll:((L++[z]).map (fun n:Int=>[pi n])).length=L.length+1:=by simp
   have hLl:L.length<2 ^ 38:=by
    have:=hlo;rw [zy10] at this;simp only [zy6,zy12] at this;omega
   refine zac (zy9 zz0) (zw ?_);refine sFm ?_;refine zaj (f:=fun n:Int=>[pi n]) (a:=L) (b:=[]) (s:=z) rfl zz0 (zw ?_);refine sDm ?_;by_cases e0:z>t.recover
   case neg =>
    rw [zy0 e0] at hUe;refine zab (zy11 e0) (zw ?_);exact ⟨⟨⟩,(zop [950] [(2,some 2),(3,some 3),(4,some 4)] (by repeat' (first | exact z0 | refine z1 ?_ | refine ⟨?_,?_⟩ | ((rw [hUe])) | exact z2)))⟩
   rw [zy1 e0] at hUe;refine zac (zy9 e0) (zw ?_);have pc:=Paths.zju t.paths zz0;rw [hch] at pc
   (refine cL ?_;refine dLm pc ?_)
   refine zaa zz6 (zw ?_);refine zam hw rfl (zw ?_)
   (refine cL ?_;refine dLm (Paths.zto w t.config.part) ?_)
   refine zaa zz6 (zw ?_);refine zam hw rfl (zw ?_);refine sDm ?_;refine sRm ?_;have hr:(t.paths.map Path.row).set (choose t) (Paths.zpt w t.config.part).row=(upS t t.config.part w).paths.map Path.row:=by rw [upS];dsimp only;rw [zy62]
   exact ⟨⟨⟩,(zop [950] [(2,some 2),(3,some 3),(4,some 4)] (by repeat' (first | exact z0 | refine z1 ?_ | refine ⟨?_,?_⟩ | ((rw [hUe,<- htp];exact congrArg (fun r=>zai.live (.cells 32 (ycq (upS t t.config.part w) (Sch.qs t.queue) (ints t.sched.had) (Sco.zdz t.out) (.p (.sl 7 r)) (ints t.mids) (ints t.fates)))) hr)) | exact z2)))⟩
 rintro ⟨⟩;have hu:=hU t hTS;generalize hug:zjk s.config.part t K4=u at hT hu;(conv=>whnf);refine zhw.meet PUnit (fun _=>hs 215 [(2,.ptr 2 0),(3,.ptr 3 0),(4,.ptr 4 0)] (hrS c (zgp (decide (K2>s.cum)) u))) ?_ ?_
 . conv=>whnf
   (refine cP ?_;refine dLm (Sco.zll u.out u.cum hu.fit.out.len) ?_)
   by_cases m1:K2>s.cum
   case neg =>
    have hv:zgp (decide (K2>s.cum)) u=u:=zy0 (fun h=>m1 (zy25 h.1));refine zab (zy11 m1) (zw ?_);exact ⟨⟨⟩,(zax [(2,some 2),(3,some 3),(4,some 4)] zz62)⟩
   refine zac (zy9 m1) (zw ?_);by_cases m2:(Sco.zdy u.out u.cum).1>u.cum
   case neg =>
    have hv:zgp (decide (K2>s.cum)) u=u:=zy0 (fun h=>m2 h.2);refine zab (zy11 m2) (zw ?_);exact ⟨⟨⟩,(zax [(2,some 2),(3,some 3),(4,some 4)] zz62)⟩
   have hv:zgp (decide (K2>s.cum)) u={u with forward:=true}:=zy1 ⟨zy9 m1,m2⟩;refine zac (zy9 m2) (zw ?_);exact ⟨⟨⟩,(zax [(2,some 2),(3,some 3),(4,some 4)] zz62)⟩
 rintro ⟨⟩;have hv:=yfk hu (b:=decide (K2>s.cum));generalize zgp (decide (K2>s.cum)) u=V at hT hv;have hvq:=hv.fit.queue;have hvo:=hv.fit.out.len;have hvf:=hv.fit.fates;(conv=>whnf);refine ⟨{x:List Int×List Int // V.fates=x.1++x.2},fun | ⟨(A,B),_⟩=>hs 215 [(2,.ptr 2 0),(3,.ptr 3 0),(4,.ptr 4 0),(17,.own 900),(159,ints V.fates),(160,i64 V.fates.length),(161,i64 A.length)] ((900,zxu (A.mapIdx fun id f=>settled V id f))::hrS c V),fun x=>x.1.2.length,⟨([],V.fates),rfl⟩,?_,?_⟩
 . exact (zbe [(2,some 2),(3,some 3),(4,some 4),(900,none)])
 rintro ⟨⟨A,B⟩,h⟩;dsimp only at h;refine zbx fun Q hQ=>?_
 (conv=>whnf);cases B with
 | nil =>
  have hz:=zbk h;rw [zy5] at h;refine sN ?_;refine hQ _ _ ?_;conv=>whnf
  subst hT;have he:(settle V).fates=V.fates.mapIdx fun id f=>settled V id f:=rfl
  rw [show settle V={V with fates:=A.mapIdx fun id f=>settled V id f} by rw [<- h];rfl]
  try rfl
 | cons f B =>
 have hz:=zay h;have hmi:(A++[f]).mapIdx (fun id f=>settled V id f)=A.mapIdx (fun id f=>settled V id f)++[settled V A.length f]:=zy102;have hset:settled V A.length f=if f=1/\((V.queue.any fun m=>decide (m.id=(A.length:Int)))||V.out.any fun x=>decide (x.id=(A.length:Int))&&decide (x.state≠2))=false then 2 else f:=by
  unfold settled;simp only [Bool.or_eq_false_iff]
 refine sT ?_;refine zaj (f:=fun n:Int=>[pi n]) h rfl (zw ?_)
 (try refine sG ?_)
 refine ⟨{x:List zak×List zak // V.queue=x.1++x.2},fun | ⟨(a,b),_⟩=>hs 215 [(2,.ptr 2 0),(3,.ptr 3 0),(4,.ptr 4 0),(17,.own 900),(18,i64 A.length),(19,i64 f),(20,zbj (a.any fun m=>decide (m.id=(A.length:Int)))),(159,ints V.fates),(160,i64 V.fates.length),(161,i64 A.length),(167,Sch.qs V.queue),(168,i64 V.queue.length),(169,i64 a.length)] ((900,zxu (A.mapIdx fun id f=>settled V id f))::hrS c V),fun x=>x.1.2.length,⟨([],V.queue),rfl⟩,?_,?_⟩
 . exact (zbe [(2,some 2),(3,some 3),(4,some 4),(900,some 900)])
 rintro ⟨⟨a,b⟩,h'⟩;dsimp only at h';refine zbx fun Q2 hQ2=>?_
 (conv=>whnf);cases b with
 | cons m b =>
  have hz':=zay h';have hany:(a++[m]).any (fun m=>decide (m.id=(A.length:Int)))=(a.any (fun m=>decide (m.id=(A.length:Int)))||(m.id==(A.length:Int))):=by rw [List.any_append,List.any_cons,List.any_nil,zy132];rfl
  refine sT ?_;refine zaj h' rfl (zw ?_)
  (try refine sG ?_)
  cases hb:a.any fun m=>decide (m.id=(A.length:Int)) with
  | true =>
   rw [hb] at hany;(conv=>whnf);refine sF ?_;refine hQ2 _ _ (zw ?_);exact ⟨⟨(a++[m],b),zae h'⟩,(zax [(2,some 2),(3,some 3),(4,some 4),(900,some 900)] zz100),by simp⟩
  | false =>
   rw [hb,Bool.false_or] at hany;(conv=>whnf);refine sF ?_;refine hQ2 _ _ (zw ?_);exact ⟨⟨(a++[m],b),zae h'⟩,(zax [(2,some 2),(3,some 3),(4,some 4),(900,some 900)] zz60),by simp⟩
 | nil =>
 have hz':=zbk h';rw [zy5] at h';refine sN ?_;refine hQ2 _ _ (zw ?_);obtain rfl:a=V.queue:=h'.symm;obtain ⟨q,hq⟩:∃ q,q=V.queue.any fun m=>decide (m.id=(A.length:Int)):=⟨_,rfl⟩
 rw [<- hq] at hset
 (try refine sG ?_)
 refine ⟨{x:List zbo×List zbo // V.out=x.1++x.2},fun | ⟨(a,b),_⟩=>hs 215 [(2,.ptr 2 0),(3,.ptr 3 0),(4,.ptr 4 0),(17,.own 900),(18,i64 A.length),(19,i64 f),(20,zbj (q||a.any fun x=>decide (x.id=(A.length:Int))&&decide (x.state≠2))),(159,ints V.fates),(160,i64 V.fates.length),(161,i64 A.length),(182,Sco.zdz V.out),(183,i64 V.out.length),(184,i64 a.length)] ((900,zxu (A.mapIdx fun id f=>settled V id f))::hrS c V),fun x=>x.1.2.length,⟨([],V.out),rfl⟩,?_,?_⟩
 . exact (zax [(2,some 2),(3,some 3),(4,some 4),(900,some 900)] (by repeat' (first | exact z0 | refine z1 ?_ | refine ⟨?_,?_⟩ | ((rw [List.any_nil,zy132,hq])) | exact z2)))
 rintro ⟨⟨a',b⟩,h2'⟩;dsimp only at h2';refine zbx fun Q3 hQ3=>?_
 (conv=>whnf);cases b with
 | cons x b =>
  have hz2:=zay h2';have hany:(q||(a'++[x]).any fun x=>decide (x.id=(A.length:Int))&&decide (x.state≠2))=((q||a'.any fun x=>decide (x.id=(A.length:Int))&&decide (x.state≠2))||((x.id==(A.length:Int))&&(x.state != 2))):=by
   rw [List.any_append,Bool.or_assoc];congr 2;rw [List.any_cons,List.any_nil,zy132,zy110];simp
  refine sT ?_;refine zaj h2' rfl (zw ?_)
  (try refine sG ?_)
  cases hb:(q||a'.any fun x=>decide (x.id=(A.length:Int))&&decide (x.state≠2)) with
  | true =>
   rw [hb] at hany;(conv=>whnf);refine sF ?_;refine hQ3 _ _ (zw ?_);exact ⟨⟨(a'++[x],b),zae h2'⟩,(zax [(2,some 2),(3,some 3),(4,some 4),(900,some 900)] zz100),by simp⟩
  | false =>
   rw [hb,Bool.false_or] at hany;(conv=>whnf);by_cases e1:x.id=(A.length:Int)
   case pos =>
    rw [show (x.id==(A.length:Int))=true from zy13.2 e1,zy96] at hany;refine zac (zy13.2 e1) (zw ?_);exact yy126
   case neg =>
    rw [show (x.id==(A.length:Int))=false from zy4.2 e1,Bool.false_and] at hany;refine zab (zy4.2 e1) (zw ?_);exact yy126
 | nil =>
 have hz2:=zbk h2';rw [zy5] at h2';refine sN ?_;refine hQ3 _ _ (zw ?_);obtain rfl:a'=V.out:=h2'.symm
 (try refine sG ?_)
 by_cases d1:f=1
 case neg =>
  rw [zy0 (fun h=>d1 h.1)] at hset;refine zab (zy4.2 d1) (zw ?_);exact yy31
 refine zac (zy13.2 d1) (zw ?_);cases ho:(q||V.out.any fun x=>decide (x.id=(A.length:Int))&&decide (x.state≠2)) with
 | true =>
  rw [ho] at hset;rw [zy0 (fun h=>Bool.noConfusion h.2)] at hset;(conv=>whnf);exact yy31
 | false =>
  rw [ho] at hset;rw [zy1 ⟨d1,rfl⟩] at hset;(conv=>whnf);exact yy31
end Snd
namespace Ln
open Ser
theorem ywp (l A:List zau) (p:zau):zmb l (A++[p])=xbi (zmb l A) p:=by unfold zmb;rw [zy59];rfl
abbrev xcw (l:List zau):zai:=.live (.row 110 3 (l.map zau.row))
theorem zxe (l ps:List zau) (hl:l.length<=40) (hp:ps.length<2 ^ 62):zan Tryz.prog 107 [pks l,pks ps] zad (pks (zmb l ps)) zad:=by
 refine zal mixed Tryz.func107 zz4 ?_;(conv=>whnf);refine zaa (c:=(([]:List (List PV)).length+(l.map zau.row).length)*40<=140737488355328) zz3 (zw ?_);refine ⟨{x:List zau×List zau // ps=x.1++x.2},fun | ⟨(A,B),_⟩=>hs 26 [(5,.own 900),(11,pks ps),(12,i64 ps.length),(13,i64 A.length)] [(900,xcw (zmb l A))],fun x=>x.1.2.length,⟨([],ps),rfl⟩,?_,?_⟩
 . exact (zbe [(900,some 10)])
 rintro ⟨⟨A,B⟩,h⟩;dsimp only at h;(conv=>whnf);cases B with
 | cons p B =>
  have hz:=zay h;have hn:=ywp l A p;have hle:=yku A l hl;refine sT ?_;refine zaj h rfl (zw ?_)
  (try refine sG ?_)
  by_cases c1:(zmb l A).length<40
  case pos =>
   rw [xbi,zy1 c1] at hn;refine zac (by rw [zy2,zy42];omega) (zw ?_);refine zaa (c:=(((zmb l A).map zau.row).length+1)*40<=140737488355328) zz6 (zw ?_);refine sF ?_;exact ⟨⟨(A++[p],B),zae h⟩,(zax [(900,some 23)] (by repeat' (first | exact z0 | refine z1 ?_ | refine ⟨?_,?_⟩ | ((exact zbc (f:=zau.row) hn rfl)) | exact z2))),by simp⟩
  rw [xbi,zy0 c1] at hn;refine zab (by rw [zy2,zy30];omega) (zw ?_)
  (try refine sG ?_)
  refine sF ?_;exact ⟨⟨(A++[p],B),zae h⟩,(zax [(900,some 900)] (by repeat' (first | exact z0 | refine z1 ?_ | refine ⟨?_,?_⟩ | ((rw [hn])) | exact z2))),by simp⟩
 | nil =>
  have hz:=zbk h;rw [zy5] at h;subst h
  ((refine yun ?_;conv=>whnf);try refine sG ?_)
theorem zjc (l ps:List zau) (hl:l.length<=40) (hp:ps.length<2 ^ 62) {rows:List (List PV)} (hr:rows=l.map zau.row):zan Tryz.prog 107 [.p (.sl 3 rows),pks ps] zad (pks (zmb l ps)) zad:=by
 subst hr;exact zxe l ps hl hp
abbrev xhr:List HV:=[i64 0,i64 0,i64 0,i64 0,i64 0,i64 0,i64 0,i64 0,zeg,i64 0,i64 0,zeg,zeg,zeg,i64 0,i64 0,i64 0,zeg,zeg,zbj false,i64 0,i64 0,i64 0,i64 0,i64 0,i64 0,i64 0,i64 0,i64 0,zeg,zeg,zeg,zeg,zeg]
abbrev lnS (l:zem):zai:=lnB l.sender l.receiver (pks l.way)
abbrev rcH (y:zem) (p:zau):List (Nat×zai):=[(2,lnS y),(3,.live (.cells 110 p.cells)),(4,.live (.cells 40 xhr))]
theorem yrr {N M:Nat} (l:zem) (p:zau) (h:LI N M l) (hM:M+120<=2000000) (hp:p.bytes.length<=120):zan Tryz.prog 108 [l.hv,p.hv] zad (zgz l p).hv zad:=by
 obtain ⟨path,back,bytes⟩:=p;dsimp only at hp;generalize hT:zgz l ⟨path,back,bytes⟩=T;refine zal mixed Tryz.func108 zz4 ?_;have hw:=zwl bytes;have pp:=Pck.yil bytes zz0;rw [zgz] at hT;dsimp only at hT;have hall:zjj l ⟨path,back,bytes⟩=(Pck.zhc bytes).1.foldl (zgb back) (l,false):=rfl;generalize Pck.zhc bytes=K at hT hw hall pp;obtain ⟨cs,e⟩:=K;dsimp only at hT hw hall pp;by_cases c1:e=0
 case neg =>
  rw [zy1 c1] at hT;subst hT;(conv=>whnf)
  (refine cP ?_;refine dL pp ?_)
  refine zac (zy76.2 c1) (zw ?_)
  try rfl
 subst c1;rw [zy0 (fun h=>h rfl)] at hT;(conv=>whnf)
 (refine cP ?_;refine dL pp ?_)
 (try refine sG ?_)
 refine ⟨{x:(zem×Bool)×List Chunk×List Chunk // cs=x.2.1++x.2.2/\x.2.1.foldl (zgb back) (l,false)=x.1/\LI N (M+Rcv.wts x.2.1) x.1.1/\x.1.1.way=l.way},fun | ⟨((y,told),A,B),_⟩=>hs 75 [(2,.ptr 2 0),(3,.ptr 3 0),(4,.ptr 4 0),(7,zbj told),(21,.p (.sl 11 (cs.map Chunk.row))),(22,i64 cs.length),(23,i64 A.length)] (rcH y ⟨path,back,bytes⟩),fun x=>x.1.2.2.length,⟨((l,false),[],cs),rfl,rfl,by simpa [Rcv.wts] using h,rfl⟩,?_,?_⟩
 . exact (zbe [(2,some 2),(3,some 3),(4,some 4)])
 rintro ⟨⟨⟨y,told⟩,A,B⟩,k1,k2,k3,k4⟩;dsimp only at k1 k2 k3 k4;refine zbx fun Q hQ=>?_
 (conv=>whnf);cases B with
 | cons c B =>
  have hz:=zay k1;obtain ⟨w1,w2⟩:=hw;have hcl:=ylt cs;have hc:=w2 c (zgm k1);have hsum:Rcv.wts cs=Rcv.wts A+(Rcv.wt c+Rcv.wts B):=by rw [k1,Rcv.ydq,Rcv.zlp]
  have hwt:Rcv.wt c=c.data.length+c.zbr.length+1:=rfl;have hnx:(A++[c]).foldl (zgb back) (l,false)=zgb back (y,told) c:=by rw [zy59,k2];rfl
  have hli:=ybi (back:=back) (x:=(y,told)) (c:=c) k3 zz0;have hwy:=(yfh back (y,told) c).trans k4;rw [show M+Rcv.wts A+Rcv.wt c=M+Rcv.wts (A++[c]) by rw [Rcv.ydq,Rcv.zlp];simp [Rcv.wts];omega] at hli;refine sT ?_;refine zaj k1 rfl (zw ?_)
  (try refine sG ?_)
  cases back with
  | true =>
   conv=>whnf
   (refine cP ?_;refine dL (Snd.yrt y.sender c k3.snd zz0) ?_)
   (try refine sG ?_)
   refine sF ?_;refine hQ _ _ ?_;conv=>whnf
   exact ⟨⟨(zgb true (y,told) c,A++[c],B),zae k1,hnx,hli,hwy⟩,(zbe [(2,some 2),(3,some 3),(4,some 4)]),by simp⟩
  | false =>
   conv=>whnf
   (try refine sG ?_)
   by_cases d1:c.kind=1
   case pos =>
    have e1:zgb false (y,told) c=({y with receiver:=Rcv.data y.receiver c},true):=by unfold zgb;rw [zy0 (by decide),zy1 d1]
    rw [e1] at hnx hli hwy;refine zac (zy13.2 d1) (zw ?_)
    (refine cP ?_;refine dL (Rcv.yrs y.receiver c k3.rcv zz0 zz0) ?_)
    (try refine sG ?_)
    refine sF ?_;refine hQ _ _ ?_;conv=>whnf
    exact ⟨⟨(({y with receiver:=Rcv.data y.receiver c},true),A++[c],B),zae k1,hnx,hli,hwy⟩,(zbe [(2,some 2),(3,some 3),(4,some 4)]),by simp⟩
   refine zab (zy4.2 d1) (zw ?_)
   (try refine sG ?_)
   by_cases d2:c.kind=3
   case pos =>
    have e1:zgb false (y,told) c=({y with receiver:=Rcv.forward y.receiver c},true):=by unfold zgb;rw [zy0 (by decide),zy0 d1,zy1 d2]
    rw [e1] at hnx hli hwy;refine zac (zy13.2 d2) (zw ?_)
    (refine cP ?_;refine dL (Rcv.ydc y.receiver c k3.rcv zz0 zz0) ?_)
    (try refine sG ?_)
    refine sF ?_;refine hQ _ _ ?_;conv=>whnf
    exact ⟨⟨(({y with receiver:=Rcv.forward y.receiver c},true),A++[c],B),zae k1,hnx,hli,hwy⟩,(zbe [(2,some 2),(3,some 3),(4,some 4)]),by simp⟩
   have e1:zgb false (y,told) c=(y,told):=by unfold zgb;rw [zy0 (by decide),zy0 d1,zy0 d2]
   rw [e1] at hnx hli hwy;refine zab (zy4.2 d2) (zw ?_)
   (try refine sG ?_)
   refine sF ?_;refine hQ _ _ ?_;conv=>whnf
   exact ⟨⟨((y,told),A++[c],B),zae k1,hnx,hli,hwy⟩,(zbe [(2,some 2),(3,some 3),(4,some 4)]),by simp⟩
 | nil =>
 have hz:=zbk k1;rw [zy5] at k1;rw [<- k1] at k2 k3;rw [hall,k2] at hT;dsimp only at hT;obtain ⟨w1,w2⟩:=hw;have hfit:=k3.rcv.fit zz0;refine sN ?_;refine hQ _ _ ?_;conv=>whnf
 cases told with
 | false =>
  rw [zy0 (by decide)] at hT;subst hT;(conv=>whnf)
  (try refine sG ?_)
  try rfl
 | true =>
 rw [zy1 rfl] at hT;(conv=>whnf)
 (try refine sG ?_)
 have hcb:=k3.rcv.cumB zz0
 (refine cP ?_;refine dL (Rcv.ylo y.receiver zz137 (by have:=hfit.pieces;omega) (by have:=hfit.bytes;omega) hcb.1 hcb.2 (k3.rcv.spansB zz0)) ?_)
 (refine cP ?_;refine dL (Pck.zjv [Rcv.zlo y.receiver] 120 (zxj _)) ?_)
 unfold Ln.told at hT;generalize Pck.zdb [Rcv.zlo y.receiver] 120=K2 at hT ⊢;obtain ⟨b,e⟩:=K2;dsimp only at hT;by_cases c3:e=0
 case pos =>
  rw [zy1 c3] at hT;subst hT c3;(conv=>whnf)
  (refine cP ?_;refine dL (zxe y.way [⟨path,true,b⟩] (by rw [k4];exact h.way) zz5) ?_)
  try rfl
 case neg =>
  rw [zy0 c3] at hT;subst hT;refine zab (zy4.2 c3) (zw ?_)
  try rfl
end Ln
namespace Snd
open Ser
theorem yhp {α:Type} {o:List α} {c:α} {k:Nat} {f:α->α} (h:k<o.length):setAt (o++[c]) k f=setAt o k f++[c]:=by
 unfold setAt;rw [zy46 h];obtain ⟨x,hx⟩:∃ x,o[k]?=some x:=⟨_,zy3 h⟩
 rw [hx];dsimp only;rw [List.set_append_left _ _ h]
def ext (p:zew):zew:=⟨p.s,p.out++[[]]⟩
theorem yjn (p:zew) (i path:Nat):(fly p i path).out.length=p.out.length:=by
 unfold fly;split
 . rfl
 . exact zfo _ _ _
theorem ymy (p:zew) (i path:Nat):(fly p i path).s.paths.length=p.s.paths.length:=by
 unfold fly;split
 . rfl
 . exact zfo _ _ _
theorem yty {p:zew} {i path:Nat} (h:path<p.out.length):fly (ext p) i path=ext (fly p i path):=by
 unfold fly ext;dsimp only;split
 . rfl
 . rw [yhp h]
theorem ypo {p:zew} {i path:Nat} (h:path<p.out.length):zcz path (ext p) i=ext (zcz path p i):=by
 have h2:=yty (i:=i) h;unfold zcz;show (match p.s.out[i]? with | none=>ext p | some x=>if x.state=3/\opened p.s path=true then fly (ext p) i path else ext p)=_;cases p.s.out[i]? with
 | none=>rfl
 | some x =>
  dsimp only;by_cases c:x.state=3/\opened p.s path=true
  . rw [zy1 c,zy1 c];exact h2
  . rw [zy0 c,zy0 c]
theorem ypp (p:zew) (i path:Nat):(zcz path p i).out.length=p.out.length:=by
 unfold zcz;split
 . rfl
 . split
   . exact yjn _ _ _
   . rfl
theorem zrc {path:Nat}:∀ (L:List Nat) {p:zew},path<p.out.length->L.foldl (zcz path) (ext p)=ext (L.foldl (zcz path) p)/\(L.foldl (zcz path) p).out.length=p.out.length
 | [],p,_=>⟨rfl,rfl⟩
 | i::L,p,h=>by
  have h1:=ypp p i path;obtain ⟨h2,h3⟩:=zrc L (p:=zcz path p i) (by rw [h1];exact h);rw [zy50,zy50,ypo h];exact ⟨h2,h3.trans h1⟩
theorem ysy {p:zew} (h:choose p.s<p.out.length):again (ext p)=ext (again p):=(zrc _ h).1
theorem ysz {p:zew} (h:choose p.s<p.out.length):(again p).out.length=p.out.length:=(zrc _ h).2
theorem yvr {p:zew} {k:Nat} {m:zak} {n:Int} (h:choose p.s<p.out.length):zly (ext p) k m n=ext (zly p k m n):=by
 unfold zly;exact yty (p:=⟨_,p.out⟩) h
theorem xam {p:zew} (h:choose p.s<p.out.length):next (ext p)=(next p).map ext:=by
 unfold next;show (if zec p.s<0\/opened p.s (choose p.s)=false\/(p.s.out.length:Int)>=60 then none else match p.s.queue[(zec p.s).toNat]? with
  | none=>none
  | some m=>if zba p.s>0/\W (zba p.s+many p.s m)>p.s.room then none else some (zly (ext p) (zec p.s).toNat m (many p.s m)))=_
 by_cases c1:zec p.s<0\/opened p.s (choose p.s)=false\/(p.s.out.length:Int)>=60
 . rw [zy1 c1,zy1 c1];rfl
 rw [zy0 c1,zy0 c1];cases p.s.queue[(zec p.s).toNat]? with
 | none=>rfl
 | some m =>
  dsimp only;by_cases c2:zba p.s>0/\W (zba p.s+many p.s m)>p.s.room
  . rw [zy1 c2,zy1 c2];rfl
  . rw [zy0 c2,zy0 c2,yvr h];rfl
theorem yjp {p:zew} (h:choose p.s<p.out.length):forward (ext p)=ext (forward p):=by
 unfold forward;show (if p.s.forward=false\/(Sco.zdy p.s.out p.s.cum).1=p.s.cum then ext p else _)=_;by_cases c:p.s.forward=false\/(Sco.zdy p.s.out p.s.cum).1=p.s.cum
 . rw [zy1 c,zy1 c]
 . rw [zy0 c,zy0 c];unfold ext;dsimp only;rw [yhp h]
theorem ztf (most:Int):∀ (k:Nat) (o:List (List Chunk)),zbs most k (o++[[]])=zbs most k o
 | k,[]=>rfl
 | k,l::o=>by
  show zfm most k l.length l++zbs most (k+1) (o++[[]])=_;rw [ztf most (k+1) o];rfl
def SL (s:zag):Prop:=0<=s.sched.last/\s.sched.last<s.sched.had.length
theorem yui {s:zag} {id:Int} (h:SL s):SL (zfc s id):=by
 have e:(zfc s id).sched=if s.sched.hand=id then {s.sched with hand:=-1} else s.sched:=rfl
 unfold SL;rw [e];split<;>exact h
theorem xdu {s:zag} {m:zak} (h:SL s):SL (zkx s m):=by unfold zkx;split;exact yui h;exact h
theorem xdw {s:zag} {m:zbo} (h:SL s):SL (zhd s m):=by unfold zhd;split;exact yui h;exact h
theorem ymo:∀ (q:List zak) {s:zag},SL s->SL (q.foldl zkx s)
 | [],_,h=>h
 | _::q,_,h=>ymo q (xdu h)
theorem yms:∀ (q:List zbo) {s:zag},SL s->SL (q.foldl zhd s)
 | [],_,h=>h
 | _::q,_,h=>yms q (xdw h)
theorem yeo {s:zag} (h:SL s):SL (expire s):=yms _ (ymo _ h)
theorem yew (p:zew) (i path:Nat):(fly p i path).s.sched=p.s.sched:=by unfold fly;split<;>rfl
theorem zpr (p:zew):(forward p).s.sched=p.s.sched:=by unfold forward;split<;>rfl
theorem zqf {p q:zew} (h:next p=some q):(p.s.out.length:Int)<60/\∃ (k:Nat) (m:zak),p.s.queue[k]?=some m/\q=zly p k m (many p.s m):=by
 unfold next at h;by_cases c1:zec p.s<0\/opened p.s (choose p.s)=false\/(p.s.out.length:Int)>=60
 . rw [zy1 c1] at h;cases h
 rw [zy0 c1] at h;refine ⟨by omega,(zec p.s).toNat,?_⟩;cases hm:p.s.queue[(zec p.s).toNat]? with
 | none=>rw [hm] at h;cases h
 | some m =>
  rw [hm] at h;dsimp only at h;split at h
  . cases h
  . cases h;exact ⟨m,rfl,rfl⟩
theorem yvt {N:Nat} {p q:zew} (hS:SI N p.s) (h:next p=some q):SL q.s:=by
 obtain ⟨-,k,m,hm,rfl⟩:=zqf h;have hq:=hS.queue m (zy20 hm);have hn:=hS.nhad;have h0:=hq.st0;have h1:=hq.st1;obtain ⟨ps,po⟩:=p;unfold SL;rw [zgc,yew];show 0<=m.message.stream/\m.message.stream<((Sch.had ps.sched _ _ _).had.length:Int);rw [yuj];dsimp only at hn h1;omega
theorem xao {ps:zag} {a c:List Chunk} {q:zew} (h:next ⟨ps,[a,c]⟩=some q):(ps.out.length:Int)<60/\q.out.length=2/\q.s.paths.length=ps.paths.length/\q.s.out.length=ps.out.length+1/\(ygk q.out).length<=a.length+1/\(yog q.out).length<=c.length+1:=by
 obtain ⟨h1,k,m,hm,rfl⟩:=zqf h;refine ⟨h1,?_,?_,?_,?_⟩
 . rw [zgc,yjn];rfl
 . rw [zgc,ymy];rfl
 . rw [zgc];unfold fly;dsimp only;split<;>simp [zxw]
 . rw [zgc];unfold fly;dsimp only;split
   . exact ⟨by show a.length<=_;omega,by show c.length<=_;omega⟩
   . rcases hc:choose ps with _ | _ | n
     . constructor
       . show (a++[_]).length<=_;simp
       . show c.length<=_;omega
     . constructor
       . show a.length<=_;omega
       . show (c++[_]).length<=_;simp
     . constructor
       . show a.length<=_;omega
       . show c.length<=_;omega
end Snd
namespace Snd
open Ser
def OK2 (p:zew):Prop:=∀ l∈p.out,∀ c∈l,Okc c
theorem xhp {np nf:Nat} {x:zbo} (h:XI np nf x):Okc x.chunk:=by unfold Okc;rw [h.zas,h.zbr];simp
theorem yxc {o:List (List Chunk)} {k:Nat} {x:Chunk} {l:List Chunk} (h:l∈setAt o k (·++[x])):l∈o\/∃ m∈o,l=m++[x]:=by
 unfold setAt at h;split at h
 . exact .inl h
 . rename_i y hy
   rcases zy57 h with h | h
   . exact .inl h
   . exact .inr ⟨y,zy20 hy,h⟩
theorem yos {s:zag} {o:List (List Chunk)} {k:Nat} {x:Chunk} (h:OK2 ⟨s,o⟩) (hx:Okc x):∀ l∈setAt o k (·++[x]),∀ c∈l,Okc c:=by
 intro l hl c hc;rcases yxc hl with h1 | ⟨m,hm,rfl⟩
 . exact h l h1 c hc
 . rcases zy21.1 hc with h2 | h2
   . exact h m hm c h2
   . rw [zy23] at h2;subst h2;exact hx
theorem ytz {N:Nat} {p:zew} (hS:SI N p.s) (h:OK2 p) (i path:Nat):OK2 (fly p i path):=by
 unfold fly;split
 . exact h
 . rename_i x hx
   exact yos (s:=p.s) h (xhp (hS.out x (zy20 hx)))
theorem ypq {N:Nat} {p:zew} (hS:SI N p.s) (h:OK2 p) (path i:Nat):OK2 (zcz path p i):=by
 unfold zcz;split
 . exact h
 . split
   . exact ytz hS h _ _
   . exact h
theorem zyi {N path:Nat}:∀ (L:List Nat) {p:zew},SI N p.s->path<p.s.paths.length->OK2 p->OK2 (L.foldl (zcz path) p)
 | [],_,_,_,h=>h
 | i::L,p,hS,hp,h=>by
  obtain ⟨h1,h2⟩:=zph hS hp i;exact zyi L h1 (by rw [h2];exact hp) (ypq hS h path i)
theorem yta {N:Nat} {p:zew} (hS:SI N p.s) (h:OK2 p):OK2 (again p):=zyi _ hS (choose_lt' hS) h
theorem xan {N:Nat} {p q:zew} (hS:SI N p.s) (h:OK2 p) (hq:next p=some q):OK2 q:=by
 obtain ⟨-,k,m,hm,rfl⟩:=zqf hq;obtain ⟨ps,po⟩:=p;rw [zgc];exact ytz (p:=⟨zxw ps k m,po⟩) (ytl hS hm) h _ _
theorem ygh {N:Nat}:∀ (n:Nat) {p:zew},SI N p.s->OK2 p->OK2 (zfl n p)
 | 0,_,_,h=>h
 | n+1,p,hS,h=>by
  rw [zfl];cases hq:next p with
  | none=>exact h
  | some q=>exact ygh n (zvz hS hq) (xan hS h hq)
theorem yjr {p:zew} (h:OK2 p):OK2 (forward p):=by
 unfold forward;split
 . exact h
 . exact yos (s:=p.s) h (yud p.s)
theorem ygg {N:Nat}:∀ (n:Nat) {p:zew},SI N p.s->p.out.length=p.s.paths.length->zfl n (ext p)=ext (zfl n p)
 | 0,_,_,_=>rfl
 | n+1,p,hS,hl=>by
  have hc:choose p.s<p.out.length:=by rw [hl];exact choose_lt' hS
  rw [zfl,zfl,xam hc];cases hq:next p with
  | none=>rfl
  | some q =>
   obtain ⟨-,k,m,hm,he⟩:=zqf hq;have hql:q.out.length=q.s.paths.length:=by
    rw [he];obtain ⟨ps,po⟩:=p;rw [zgc,yjn,ymy];exact hl
   exact ygg n (zvz hS hq) hql
theorem ypr {N:Nat} {p:zew} (hS:SI N p.s):(again p).s.paths.length=p.s.paths.length:=by
 have key:∀ (L:List Nat) (path:Nat) {p:zew},SI N p.s->path<p.s.paths.length->(L.foldl (zcz path) p).s.paths.length=p.s.paths.length:=by
  intro L path
  induction L with
  | nil=>intro p _ _;rfl
  | cons i L ih =>
   intro p hS hp;obtain ⟨h1,h2⟩:=zph hS hp i;rw [zy50,ih h1 (by rw [h2];exact hp),h2]
 exact key _ _ hS (choose_lt' hS)
theorem xbh {N:Nat} {E:zag} (hE:SI N E) (hp:E.paths.length=1\/E.paths.length=2) (most:Int):(zfl 61 (again (forward ⟨E,[[],[]]⟩))).s=(zfl 61 (again (forward ⟨E,List.replicate E.paths.length []⟩))).s /\
 zbs most 0 (zfl 61 (again (forward ⟨E,[[],[]]⟩))).out=zbs most 0 (zfl 61 (again (forward ⟨E,List.replicate E.paths.length []⟩))).out:=by
 rcases hp with hp | hp
 . have e0:(⟨E,[[],[]]⟩:zew)=ext ⟨E,[[]]⟩:=rfl
   have hc0:choose E<1:=by rw [<- hp];exact choose_lt' hE
   rw [hp,e0,yjp (p:=⟨E,[[]]⟩) hc0];show _/\_=zbs most 0 (zfl 61 (again (forward ⟨E,[[]]⟩))).out;have hF:SI N (forward ⟨E,[[]]⟩).s:=zik hE;have hFo:(forward ⟨E,[[]]⟩).out.length=1:=by unfold forward;split<;>simp [zfo]
   have hFp:(forward ⟨E,[[]]⟩).s.paths.length=1:=by unfold forward;split<;>simp [zfo,hp]
   have hc1:choose (forward ⟨E,[[]]⟩).s<(forward ⟨E,[[]]⟩).out.length:=by rw [hFo,<- hFp];exact choose_lt' hF
   rw [ysy hc1,ygg 61 (ztw hF) (by rw [ysz hc1,ypr hF,hFo,hFp])];exact ⟨rfl,ztf most 0 _⟩
 . rw [hp];exact ⟨rfl,rfl⟩
theorem ygu (most path:Int):∀ (n:Nat) (l:List Chunk),(zfm most path n l).length<=n
 | 0,_=>zy24 _
 | n+1,l=>by
  unfold zfm;split
  . exact zy107 _
  . have h:=ygu most path n (l.drop (zcb most l).toNat)
    have h1:(zlz most path l).length<=1:=by unfold zlz;split<;>simp
    rw [zy10];omega
theorem xhg (most:Int) (a c:List Chunk):zbs most 0 ([a,c].take 0)++zfm most 0 a.length a=zbs most 0 ([a,c].take (0+1)):=by simp [zbs]
theorem xhh (most:Int) (a c:List Chunk):zbs most 0 ([a,c].take 1)++zfm most 1 c.length c=zbs most 0 ([a,c].take (1+1)):=by simp [zbs]
theorem ywg (most:Int) (a c:List Chunk):(zbs most 0 ([a,c].take 0)).length=0:=rfl
theorem ywh (most:Int) (a c:List Chunk):(zbs most 0 ([a,c].take 1)).length<=a.length:=by
 have:=ygu most 0 a.length a
 simpa [zbs] using this
end Snd
namespace Snd
open Ser
theorem yik (t:zag) (came life:Int):zan Tryz.prog 98 [i64 came,i64 life,.ptr 1000 0] (lk .free [(1000,scS t)]) (zbj (old t.clock came life)) (lk .free [(1000,scS t)]):=by
 refine zaq mixed Tryz.func98 zz4 [1000] zbq ?_;(conv=>whnf);by_cases c1:life>0
 . refine sT ?_
   refine sR ?_
   try refine sT ?_
   (exact zcx [(1000,some 1000)] zz16)
 . refine sN ?_
   try refine sN ?_
   (exact zcx [(1000,some 1000)] zz16)
abbrev rpS (t:zag):List (Nat×zai):=[(1,scS t),(2,sc0)]
abbrev puH (E:zag) (p:zew):List (Nat×zai):=[(1,scS E),(2,sc0),(96,pdP p.s 900 901),(900,zxt (ygk p.out)),(901,zxt (yog p.out))]
theorem ycf:∀ {b:List zbo} {z:Int} {sk:List zdx},(∀ (i:Nat) s,b[i]?=some s->s.number=z+1+i)->z<=(Sco.zeu z sk b).1
 | [],z,sk,_=>zy70 _
 | s::r,z,sk,h=>by
  have h0:=h 0 s rfl;have hr:∀ (i:Nat) t,r[i]?=some t->t.number=s.number+1+i:=by
   intro i t ht;have:=h (i+1) t (by simpa using ht);omega
  rw [Sco.zeu];split
  . exact zy70 _
  . split
    . split
      . exact zy70 _
      . have:=ycf (sk:=Sco.skip s.chunk sk) hr;omega
    . have:=ycf (sk:=sk) hr;omega
theorem zkr {N:Nat} (s:zag) (hS:SI N s) (hL:SL s):zan Tryz.prog 40 [s.hv] zad (.tup [(zjp s).1.hv,.p (.sl 3 ((zjp s).2.map zau.row))]) zad:=by
 have hP:zjp s=(ydp (zfl 61 (again (forward ⟨expire s,List.replicate s.paths.length []⟩))).s,zbs s.config.packet 0 (zfl 61 (again (forward ⟨expire s,List.replicate s.paths.length []⟩))).out):=rfl;generalize zjp s=P at hP ⊢;have hsq:=hS.fit.queue;refine zal mixed Tryz.func40 zz4 ?_;(conv=>whnf);refine ⟨{x:(List zak×List zak)×zag // s.queue=x.1.1++x.1.2/\x.1.1.foldl zkx s=x.2/\SI N x.2/\x.2.fates.length=s.fates.length},
  fun | ⟨((A,B),t),_⟩=>hs 331 [(1,.ptr 1 0),(2,.ptr 2 0),(4,.clo 98 [.ptr 1 0]),(27,Sch.qs s.queue),(28,i64 s.queue.length),(29,i64 A.length)] (rpS t),fun x=>x.1.1.2.length,⟨(([],s.queue),s),rfl,rfl,hS,rfl⟩,?_,?_⟩
 . exact (zbe [(1,some 1),(2,some 2)])
 rintro ⟨⟨⟨A,B⟩,t⟩,k1,k2,k3,k4⟩;dsimp only at k1 k2 k3 k4;refine zbx fun Q hQ=>?_
 (conv=>whnf);cases B with
 | cons m B =>
  have hz:=zay k1;have zcq:(A++[m]).foldl zkx s=zkx t m:=by rw [zy59,k2];rfl
  have hq:=hS.queue m (zgm k1);have hm0:=hq.id0;have hm1:=hq.id1;obtain ⟨id,hid⟩:∃ k:Nat,m.id=k:=⟨m.id.toNat,by omega⟩
  have kn:=ytr k3 (m:=m) zz0;refine sT ?_;refine zaj k1 rfl (zw ?_)
  (refine zaf [] [(1000,1)] [] ?_;(conv=>whnf);refine dG (yik t m.came m.message.life) ?_)
  cases ho:old t.clock m.came m.message.life with
  | true =>
   rw [zkx,zy1 ho] at zcq kn;have pg:=yab t id k3 zz0;rw [<- hid] at pg;(conv=>whnf)
   (try refine sG ?_)
   (refine cP ?_;refine dL pg ?_)
   refine sF ?_;refine hQ _ _ ?_;conv=>whnf
   exact ⟨⟨((A++[m],B),zfc t m.id),zae k1,zcq,kn.1,kn.2.trans k4⟩,(zbe [(1,some 1),(2,some 2)]),by simp⟩
  | false =>
   rw [zkx,zy0 (by rw [ho];decide)] at zcq;(conv=>whnf)
   (try refine sG ?_)
   refine sF ?_;refine hQ _ _ ?_;conv=>whnf
   exact ⟨⟨((A++[m],B),t),zae k1,zcq,k3,k4⟩,(zbe [(1,some 1),(2,some 2)]),by simp⟩
 | nil =>
 have hz:=zbk k1;rw [zy5] at k1;rw [<- k1] at k2;have hE2:t.out.foldl zhd t=expire s:=by rw [expire,k2]
 have hES:=(zvg hS).1;have hEL:=yeo hL;have hER:=(yen hS.pf).2;generalize expire s=E at hE2 hES hEL hER hP;refine sN ?_;refine hQ _ _ ?_;conv=>whnf
 refine ⟨{x:(List zbo×List zbo)×zag // t.out=x.1.1++x.1.2/\x.1.1.foldl zhd t=x.2/\SI N x.2/\x.2.fates.length=t.fates.length},
  fun | ⟨((A,B),u),_⟩=>hs 331 [(1,.ptr 1 0),(2,.ptr 2 0),(4,.clo 98 [.ptr 1 0]),(46,Sco.zdz t.out),(47,i64 t.out.length),(48,i64 A.length)] (rpS u),fun x=>x.1.1.2.length,⟨(([],t.out),t),rfl,rfl,k3,rfl⟩,?_,?_⟩
 . exact (zbe [(1,some 1),(2,some 2)])
 have g4:=k3.out;have hto:=k3.fit.out.len;clear k4 k2 k1 hQ Q;rintro ⟨⟨⟨A,B⟩,u⟩,k1,k2,k3,k4⟩;dsimp only at k1 k2 k3 k4;refine zbx fun Q hQ=>?_
 (conv=>whnf);cases B with
 | cons x B =>
  have hz:=zay k1;have zcq:(A++[x]).foldl zhd t=zhd u x:=by rw [zy59,k2];rfl
  have hm:=g4 x (zgm k1);have hm0:=hm.id0;have hm1:=hm.id1;obtain ⟨id,hid⟩:∃ k:Nat,x.id=k:=⟨x.id.toNat,by omega⟩
  have kn:=yts k3 (m:=x) zz0;have hidl:id<u.fates.length:=by omega
  have pg:=yab u id k3 hidl;rw [<- hid] at pg;obtain ⟨f,hf⟩:∃ f,u.fates[id]?=some f:=⟨_,zy3 hidl⟩
  have hdue:xdq u x=(decide (f=1)&&(decide (x.state≠2)&&(old u.clock x.came x.life||(decide (x.state=3)&&(decide (x.tries>0)&&decide (x.times>x.tries)))))):=by
   unfold xdq;rw [hid,zy22,hf];rfl
  refine sT ?_;refine zaj k1 rfl (zw ?_);refine zam hf zz0 (zw ?_);by_cases d1:f=1
  case neg =>
   refine zab ?_ ?_
   . simpa using d1
   conv=>whnf
   (try refine sG ?_)
   refine sF ?_;refine hQ _ _ ?_;conv=>whnf
   rw [zhd,zy0 (by rw [hdue];simp [d1])] at zcq;exact yy52
  refine zac ?_ ?_
  . simpa using d1
  (conv=>whnf);by_cases d2:x.state=2
  case pos =>
   refine zab ?_ ?_
   . simpa using d2
   conv=>whnf
   (try refine sG ?_)
   refine sF ?_;refine hQ _ _ ?_;conv=>whnf
   rw [zhd,zy0 (by rw [hdue];simp [d1,d2])] at zcq;exact yy52
  refine zac ?_ ?_
  . simpa using d2
  conv=>whnf
  (refine zaf [] [(1000,1)] [] ?_;(conv=>whnf);refine dG (yik u x.came x.life) ?_)
  cases d3:old u.clock x.came x.life with
  | true =>
   conv=>whnf
   (try refine sG ?_)
   (refine cP ?_;refine dL pg ?_)
   refine sF ?_;refine hQ _ _ ?_;conv=>whnf
   rw [zhd,zy1 (by rw [hdue];simp [d1,d2,d3])] at zcq kn;exact ⟨⟨((A++[x],B),zfc u x.id),zae k1,zcq,kn.1,kn.2.trans k4⟩,(zbe [(1,some 1),(2,some 2)]),by simp⟩
  | false =>
  (conv=>whnf);by_cases d4:x.state=3
  case neg =>
   refine zab ?_ ?_
   . simpa using d4
   conv=>whnf
   (try refine sG ?_)
   refine sF ?_;refine hQ _ _ ?_;conv=>whnf
   rw [zhd,zy0 (by rw [hdue];simp [d1,d2,d3,d4])] at zcq;exact yy52
  refine zac ?_ ?_
  . simpa using d4
  (conv=>whnf);by_cases d5:x.tries>0
  case neg =>
   refine zab ?_ ?_
   . simpa using d5
   conv=>whnf
   (try refine sG ?_)
   refine sF ?_;refine hQ _ _ ?_;conv=>whnf
   rw [zhd,zy0 (by rw [hdue];simp [d1,d2,d3,d4,d5])] at zcq;exact yy52
  refine zac ?_ ?_
  . simpa using d5
  (conv=>whnf);by_cases d6:x.times>x.tries
  case neg =>
   refine zab ?_ ?_
   . simpa using d6
   conv=>whnf
   (try refine sG ?_)
   refine sF ?_;refine hQ _ _ ?_;conv=>whnf
   rw [zhd,zy0 (by rw [hdue];simp [d1,d2,d3,d4,d5,d6])] at zcq;exact yy52
  refine zac ?_ ?_
  . simpa using d6
  conv=>whnf
  (try refine sG ?_)
  (refine cP ?_;refine dL pg ?_)
  refine sF ?_;refine hQ _ _ ?_;conv=>whnf
  rw [zhd,zy1 (by rw [hdue];simp [d1,d2,d3,d4,d5,d6])] at zcq kn;exact ⟨⟨((A++[x],B),zfc u x.id),zae k1,zcq,kn.1,kn.2.trans k4⟩,(zbe [(1,some 1),(2,some 2)]),by simp⟩
 | nil =>
 have hz:=zbk k1;rw [zy5] at k1;rw [<- k1,hE2] at k2;subst k2;refine sN ?_;refine hQ _ _ ?_;conv=>whnf
 have hfe:=hES.fit
 (refine cP ?_;refine dL (Sco.zll E.out E.cum hfe.out.len) ?_)
 refine sDm ?_;have hpl:1<=E.paths.length/\E.paths.length<=2:=by have:=hES.npaths;have:=zdf hES.cfg;omega
 obtain ⟨hch,hch2⟩:=zdn (s:=E) zz0;obtain ⟨w,hw⟩:∃ w,E.paths[choose E]?=some w:=⟨_,zy3 hch2⟩
 have hc01:choose E=0\/choose E=1:=by omega
 have hge:=ycf (sk:=[]) hES.nums;have pc:=Paths.zju E.paths zz0;rw [hch] at pc;generalize hF:forward ⟨E,[[],[]]⟩=F;refine zhw.meet PUnit (fun _=>hs 331 [(1,.ptr 1 0),(2,.ptr 2 0),(9,.ptr 96 0)] (puH E F)) ?_ ?_
 . conv=>whnf
   by_cases f1:E.forward=true
   case neg =>
    rw [zta (.inl (by simpa using f1))] at hF;subst hF;refine zab (by simpa using f1) (zw ?_);exact ⟨⟨⟩,(zbe [(1,some 1),(2,some 2),(96,some 96),(900,none),(901,none)])⟩
   refine zac f1 (zw ?_);by_cases f2:(Sco.zdy E.out E.cum).1>E.cum
   case neg =>
    rw [zta (.inr (by unfold Sco.zdy at f2 ⊢;omega))] at hF;subst hF;refine zab (zy11 f2) (zw ?_);exact ⟨⟨⟩,(zbe [(1,some 1),(2,some 2),(96,some 96),(900,none),(901,none)])⟩
   refine zac (zy9 f2) (zw ?_);have fy:¬ (E.forward=false\/(Sco.zdy E.out E.cum).1=E.cum):=by rintro (h | h);rw [f1] at h;cases h;omega
   rcases hc01 with hc | hc
   . rw [zvm fy hw (l:=[]) (by rw [hc];rfl)] at hF
     rw [hc] at pc hw hF;subst hF
     (refine cL ?_;refine dL pc ?_)
     refine ⟨0,rfl,by decide,zw ?_⟩
     (refine cL ?_;refine dL (zcu _) ?_)
     refine zaa (c:=(1:Nat)*128<=140737488355328) zz4 (zw ?_);refine ⟨0,rfl,by decide,zw ?_⟩;refine sD ?_;refine zaa (c:=(([]:List (List PV)).length+(E.paths.map Path.row).length)*56<=140737488355328) zz3 (zw ?_)
     (try refine sG ?_)
     have hl:=(zy8.1 hw).1;refine sOm ?_;refine zam (l:=E.paths) hw rfl (zw ?_);by_cases c3:w.zcs=0
     case neg =>
      have hr:([]:List (List PV))++E.paths.map Path.row=(E.paths.set 0 (zcs E w)).map Path.row:=by rw [zpj c3,zlf hw];rfl
      refine zab (zy4.2 c3) (zw ?_);exact ⟨⟨⟩,(zop [158] [(1,some 1),(2,some 2),(96,some 96),(900,some 148),(901,none)] zz27)⟩
     have hr:(([]:List (List PV))++E.paths.map Path.row).set 0 ({w with zcs:=W (E.clock+w.wait)}:Path).row=(E.paths.set 0 (zcs E w)).map Path.row:=by rw [zme c3,zy62];rfl
     refine zac (zy13.2 c3) (zw ?_);refine sOm ?_;refine zam (l:=E.paths) hw rfl (zw ?_);refine sRm ?_;refine sOm ?_;refine zam (l:=E.paths) hw rfl (zw ?_);refine sDm ?_;exact ⟨⟨⟩,(zop [158] [(1,some 1),(2,some 2),(96,some 96),(900,some 148),(901,none)] zz27)⟩
   . rw [zvm fy hw (l:=[]) (by rw [hc];rfl)] at hF
     rw [hc] at pc hw hF;subst hF
     (refine cL ?_;refine dL pc ?_)
     refine ⟨1,rfl,by decide,zw ?_⟩
     (refine cL ?_;refine dL (zcu _) ?_)
     refine zaa (c:=(1:Nat)*128<=140737488355328) zz4 (zw ?_);refine ⟨1,rfl,by decide,zw ?_⟩;refine sD ?_;refine zaa (c:=(([]:List (List PV)).length+(E.paths.map Path.row).length)*56<=140737488355328) zz3 (zw ?_)
     (try refine sG ?_)
     have hl:=(zy8.1 hw).1;refine sOm ?_;refine zam (l:=E.paths) hw rfl (zw ?_);by_cases c3:w.zcs=0
     case neg =>
      have hr:([]:List (List PV))++E.paths.map Path.row=(E.paths.set 1 (zcs E w)).map Path.row:=by rw [zpj c3,zlf hw];rfl
      refine zab (zy4.2 c3) (zw ?_);exact ⟨⟨⟩,(zop [158] [(1,some 1),(2,some 2),(96,some 96),(900,none),(901,some 148)] zz28)⟩
     have hr:(([]:List (List PV))++E.paths.map Path.row).set 1 ({w with zcs:=W (E.clock+w.wait)}:Path).row=(E.paths.set 1 (zcs E w)).map Path.row:=by rw [zme c3,zy62];rfl
     refine zac (zy13.2 c3) (zw ?_);refine sOm ?_;refine zam (l:=E.paths) hw rfl (zw ?_);refine sRm ?_;refine sOm ?_;refine zam (l:=E.paths) hw rfl (zw ?_);refine sDm ?_;exact ⟨⟨⟩,(zop [158] [(1,some 1),(2,some 2),(96,some 96),(900,none),(901,some 148)] zz28)⟩
 rintro ⟨⟩;have hFs:SI N F.s:=hF ▸ zik hES;have hFL:SL F.s:=by unfold SL;rw [<- hF,zpr];exact hEL
 have hFo:F.out.length=2:=by rw [<- hF];unfold forward;split<;>simp [zfo]
 have hFp:F.s.paths.length=E.paths.length:=by rw [<- hF];unfold forward;split<;>simp [zfo]
 have hF01:(ygk F.out).length<=1/\(yog F.out).length<=1:=by
  rw [<- hF];unfold forward;split
  . simp [ygk,yog]
  . rcases hc01 with hc | hc<;>simp [hc,ygk,yog,setAt]
 clear pc hge hw hc01 hch hch2 w;obtain ⟨hch,hch2⟩:=zdn (s:=F.s) zz0;have pc:=Paths.zju F.s.paths zz0;rw [hch] at pc;have hc01:choose F.s=0\/choose F.s=1:=by omega
 generalize hcf:choose F.s=cf at pc hch2 hc01;have hFN:=hFs.len;have hNN:=hFs.few;have hFl:=hFs.fit.out.len;(conv=>whnf)
 (refine cL ?_;refine dL pc ?_)
 refine ⟨{x:Nat×zew // x.1<=F.s.out.length/\(List.range x.1).foldl (zcz (cf)) F=x.2/\SI N x.2.s/\x.2.out.length=2/\x.2.s.paths.length=E.paths.length/\x.2.s.out.length=F.s.out.length/\(ygk x.2.out).length<=1+x.1/\(yog x.2.out).length<=1+x.1/\SL x.2.s},fun | ⟨(i,p),_⟩=>hs 331 [(1,.ptr 1 0),(2,.ptr 2 0),(9,.ptr 96 0),(14,i64 (cf)),(196,i64 F.s.out.length),(197,i64 i)] (puH E p),fun x=>F.s.out.length-x.1.1,⟨(0,F),zy107 _,rfl,hFs,hFo,hFp,rfl,hF01.1,hF01.2,hFL⟩,?_,?_⟩
 . exact (zax [(1,some 1),(2,some 2),(96,some 96),(900,some 900),(901,some 901)] (by repeat' (first | exact z0 | refine z1 ?_ | refine ⟨?_,?_⟩ | ((exact zbl (by simp))) | exact z2)))
 rintro ⟨⟨i,p⟩,k1,k2,k3,k4,k5,k6,k7,k8,k9⟩;dsimp only at k1 k2 k3 k4 k5 k6 k7 k8 k9;refine zbx fun Q hQ=>?_
 (conv=>whnf);by_cases hi:i<F.s.out.length
 case pos =>
  obtain ⟨x,hx⟩:∃ x,p.s.out[i]?=some x:=⟨_,zy3 zz0⟩
  obtain ⟨w,hw⟩:∃ w,p.s.paths[cf]?=some w:=⟨_,zy3 zz0⟩
  have hst:=zim (zcz (cf)) F i;rw [k2] at hst;obtain ⟨ps,po⟩:=p;obtain ⟨a,c,hac⟩:∃ a c,po=[a,c]:=⟨_,_,yyq k4⟩
  subst hac;have k7:a.length<=1+i:=k7;have k8:c.length<=1+i:=k8;dsimp only at hx hw k3 k5 k6 hst;have hno:=zpi (o:=[a,c]) (c:=cf) hx hw;have hyes:=fun l (hl:[a,c][cf]?=some l)=>zmd (o:=[a,c]) (c:=cf) (l:=l) hx hw hl
  refine sT ?_;refine zam hx rfl (zw ?_);by_cases d1:x.state=3
  case neg =>
   rw [hno fun h=>d1 h.1] at hst;refine zab (zy4.2 d1) (zw ?_);exact yy62
  refine zac (zy13.2 d1) (zw ?_);have po:=yac ps a c (cf) w hw zz0;rw [show opened ps (cf)=decide (w.zba<w.window) by rw [opened,hw]] at po;by_cases d2:w.zba<w.window
  case neg =>
   rw [hno fun h=>d2 h.2] at hst;rw [zy11 d2] at po
   (refine zaf [] [(1000,96),(1007,900),(1008,901)] [] ?_;(conv=>whnf);refine dG po ?_)
   exact yy62
  rw [zy9 d2] at po
  (refine zaf [] [(1000,96),(1007,900),(1008,901)] [] ?_;(conv=>whnf);refine dG po ?_)
  have hyes:=fun l hl=>hyes l hl ⟨d1,d2⟩
  have hn:=zph (p:=⟨ps,[a,c]⟩) k3 (path:=cf) (by show cf<ps.paths.length;omega) i;rcases hc01 with rfl | rfl
  . have hy:=hyes a rfl
    have hn1:=hn.1;have hn2:=hn.2;rw [hy] at hst hn1 hn2;have hfe:=zol (p:=⟨ps,[a,c]⟩) (N:=N) (i:=i) (path:=0) (by rw [zyr hx hw (l:=a) rfl];exact hn1) hx hw;rw [zyr hx hw (l:=a) rfl] at hfe;have pf:=zzz false ps (zxy ps i 0 x w) a c i x hx hn1.fit.out zz0 hfe zz0
    (refine zaf [] [(1000,96),(1007,900),(1008,901)] [(0,970)] ?_;(conv=>whnf);refine dG pf ?_)
    refine sF ?_;refine hQ _ _ ?_;conv=>whnf
    exact ⟨⟨(i+1,⟨zxy ps i 0 x w,[a++[x.chunk],c]⟩),by dsimp only;omega,hst,hn1,rfl,hn2.trans k5,by show (ps.out.set i _).length=_;rw [zy26];exact k6,by show (a++[x.chunk]).length<=1+(i+1);rw [zy10];simp only [zy6,zy12];omega,by show c.length<=1+(i+1);omega,k9⟩,(zbe [(1,some 1),(2,some 2),(96,some 96),(900,some 970),(901,some 901)]),by dsimp only;omega⟩
  . have hy:=hyes c rfl
    have hn1:=hn.1;have hn2:=hn.2;rw [hy] at hst hn1 hn2;have hfe:=zol (p:=⟨ps,[a,c]⟩) (N:=N) (i:=i) (path:=1) (by rw [zyr hx hw (l:=c) rfl];exact hn1) hx hw;rw [zyr hx hw (l:=c) rfl] at hfe;have pf:=yaa false ps (zxy ps i 1 x w) a c i x hx hn1.fit.out zz0 hfe zz0
    (refine zaf [] [(1000,96),(1007,900),(1008,901)] [(0,970)] ?_;(conv=>whnf);refine dG pf ?_)
    refine sF ?_;refine hQ _ _ ?_;conv=>whnf
    exact ⟨⟨(i+1,⟨zxy ps i 1 x w,[a,c++[x.chunk]]⟩),by dsimp only;omega,hst,hn1,rfl,hn2.trans k5,by show (ps.out.set i _).length=_;rw [zy26];exact k6,by show a.length<=1+(i+1);omega,by show (c++[x.chunk]).length<=1+(i+1);rw [zy10];simp only [zy6,zy12];omega,k9⟩,(zbe [(1,some 1),(2,some 2),(96,some 96),(900,some 900),(901,some 970)]),by dsimp only;omega⟩
 have hin:i=F.s.out.length:=by omega
 subst hin;have hag:again F=p:=by unfold again;rw [hcf];exact k2
 refine sN ?_;refine hQ _ _ ?_;conv=>whnf
 generalize hN61:zfl 61 p=R;refine ⟨{x:Nat×zew // zfl x.1 x.2=R/\SI N x.2.s/\x.2.out.length=2/\x.2.s.paths.length=E.paths.length/\61<=x.1+x.2.s.out.length/\x.1<=61/\(ygk x.2.out).length+x.1<=62+F.s.out.length/\(yog x.2.out).length+x.1<=62+F.s.out.length/\SL x.2.s},fun | ⟨(j,p),_⟩=>hs 331 [(1,.ptr 1 0),(2,.ptr 2 0),(9,.ptr 96 0)] (puH E p),fun x=>x.1.1,⟨(61,p),hN61,k3,k4,k5,by dsimp only;omega,by dsimp only;omega,by dsimp only;omega,by dsimp only;omega,k9⟩,?_,?_⟩
 . exact (zbe [(1,some 1),(2,some 2),(96,some 96),(900,some 900),(901,some 901)])
 clear hQ Q k1 k2 k3 k4 k5 k6 k7 k8 k9 hi;rintro ⟨⟨j,p'⟩,k1,k3,k4,k5,k6,k6',k7,k8,k9⟩;dsimp only at k1 k3 k4 k5 k6 k6' k7 k8 k9;refine zbx fun Q hQ=>?_
 (conv=>whnf);obtain ⟨ps,po⟩:=p';obtain ⟨a,c,hac⟩:∃ a c,po=[a,c]:=⟨_,_,yyq k4⟩
 subst hac;have k7:a.length+j<=62+F.s.out.length:=k7;have k8:c.length+j<=62+F.s.out.length:=k8;dsimp only at k3 k5 k6 k9;have pn:=zxd ps a c k3.pf.nfit (fun _=>k9) zz0 zz0 fun k m hm=>by
  have hc:=ytl k3 hm;have hx:(zxw ps k m).out[ps.out.length]?=some (⟨ps.next,m.id,0,0,0,0,m.came,m.message.life,m.message.tries,cut ps m (many ps m)⟩:zbo):=by
   show (ps.out++[_])[ps.out.length]?=_;rw [zy44 (zy24 _)];simp
  have hcl:=choose_lt' k3;obtain ⟨w,hw⟩:∃ w,ps.paths[choose ps]?=some w:=⟨_,zy3 hcl⟩
  have hfs:SI N (fly ⟨zxw ps k m,[a,c]⟩ ps.out.length (choose ps)).s:=yua (p:=⟨zxw ps k m,[a,c]⟩) hc hx (by show (0:Int)≠1;decide) hcl;have hff:=zol (p:=⟨zxw ps k m,[a,c]⟩) hfs hx hw;refine ⟨?_,hff⟩;have h:=hfs.fit.out;rw [<- hff] at h;exact h
 cases hnx:next ⟨ps,[a,c]⟩ with
 | some q =>
  rw [show nx ps [a,c]=(q,true) by rw [nx,hnx]] at pn;obtain ⟨t1,t2,t3,t4,t5,t6⟩:=xao hnx;have hqs:=zvz (p:=⟨ps,[a,c]⟩) k3 hnx;have hql:=yvt (p:=⟨ps,[a,c]⟩) k3 hnx;obtain ⟨j,rfl⟩:∃ j',j=j'+1:=⟨j-1,by omega⟩
  rw [zfl,hnx] at k1
  (refine zaf [] [(1000,96),(1007,900),(1008,901)] [(0,980),(1,981)] ?_;(conv=>whnf);refine dG pn ?_)
  refine hQ _ _ ?_;conv=>whnf
  exact ⟨⟨(j,q),k1,hqs,t2,t3.trans k5,by dsimp only;omega,by dsimp only;omega,by dsimp only;omega,by dsimp only;omega,hql⟩,(zbe [(1,some 1),(2,some 2),(96,some 96),(900,some 980),(901,some 981)]),by dsimp only;omega⟩
 | none =>
 rw [show nx ps [a,c]=(⟨ps,[a,c]⟩,false) by rw [nx,hnx]] at pn;rw [zrt hnx] at k1
 (refine zaf [] [(1000,96),(1007,900),(1008,901)] [(0,980),(1,981)] ?_;(conv=>whnf);refine dG pn ?_)
 refine hQ _ _ ?_;conv=>whnf
 subst k1;have hout:=k3.fit.out.len;clear hQ Q pn
 (refine cP ?_;refine dL (Sco.zll ps.out ps.cum hout) ?_)
 refine sD ?_;generalize hZ:(Sco.zdy ps.out ps.cum).1=Z;refine ⟨{x:List Path×List Path // ps.paths=x.1++x.2},fun | ⟨(A,B),_⟩=>hs 331 [(1,.ptr 1 0),(2,.ptr 2 0),(9,.ptr 96 0),(10,i64 Z),(16,.own 910),(240,zpe ps.paths),(241,i64 ps.paths.length),(242,i64 A.length)] ((910,yyv (A.map (zfy ps Z)))::puH E ⟨ps,[a,c]⟩),fun x=>x.1.2.length,⟨([],ps.paths),rfl⟩,?_,?_⟩
 . exact (zbe [(1,some 1),(2,some 2),(96,some 96),(900,some 980),(901,some 981),(910,none)])
 rintro ⟨⟨A,B⟩,h⟩;dsimp only at h;have hpql:ps.paths.length=A.length+B.length:=by rw [h];simp
 refine zbx fun Q hQ=>?_
 (conv=>whnf);cases B with
 | cons x B =>
  have hz:=zay h;refine sT ?_;refine zaj h rfl (zw ?_)
  (try refine sG ?_)
  by_cases f1:x.zba>0
  case pos =>
   refine zac (zy9 f1) (zw ?_);by_cases f2:x.zcs=0
   case pos =>
    have hwk:zfy ps Z x={x with zcs:=W (ps.clock+x.wait)}:=zy1 ⟨f1,f2⟩;refine zac (zy13.2 f2) (zw ?_);refine sR ?_;refine sD ?_;exact yy17
   have hwk:zfy ps Z x=x:=by unfold zfy;rw [zy0 (fun h=>f2 h.2),zy0 (fun h=>by omega)]
   refine zab (zy4.2 f2) (zw ?_)
   (try refine sG ?_)
   refine zab (zy4.2 zz0) (zw ?_)
   (try refine sG ?_)
   exact yy17
  refine zab (zy11 f1) (zw ?_)
  (try refine sG ?_)
  by_cases f3:x.zba=0
  case neg =>
   have hwk:zfy ps Z x=x:=by unfold zfy;rw [zy0 (fun h=>f1 h.1),zy0 (fun h=>f3 h.1)]
   refine zab (zy4.2 f3) (zw ?_)
   (try refine sG ?_)
   exact yy17
  refine zac (zy13.2 f3) (zw ?_);by_cases f4:Z=ps.cum
  case neg =>
   have hwk:zfy ps Z x=x:=by unfold zfy;rw [zy0 (fun h=>f1 h.1),zy0 (fun h=>f4 h.2)]
   refine zab (zy4.2 f4) (zw ?_)
   (try refine sG ?_)
   exact yy17
  have hwk:zfy ps Z x={x with zcs:=0}:=by unfold zfy;rw [zy0 (fun h=>f1 h.1),zy1 ⟨f3,f4⟩]
  refine zac (zy13.2 f4) (zw ?_)
  (try refine sG ?_)
  exact yy17
 | nil =>
 have hz:=zbk h;rw [zy5] at h;subst h;refine sN ?_;refine hQ _ _ ?_;conv=>whnf
 clear hQ Q;have hok0:OK2 ⟨E,[[],[]]⟩:=by
  intro l hl x hx;simp at hl;rw [hl] at hx;cases hx
 have hok:OK2 ⟨ps,[a,c]⟩:=by
  rw [<- hN61,<- hag,<- hF];exact ygh 61 (ztw (zik hES)) (yta (zik hES) (yjr hok0))
 have hP2:P=(ydp ps,zbs E.config.packet 0 [a,c]):=by
  obtain ⟨e1,e2⟩:=xbh hES zz0 E.config.packet;rw [hP,<- hER.paths,<- hER.config,<- e1,<- e2,hF,hag,hN61]
 have hka:∀ x∈a,Okc x:=hok a zz5;have hkc:∀ x∈c,Okc x:=hok c zz5;subst hZ;generalize hV:ydp ps=V at hP2;refine ⟨{k:Nat // k<=2},fun | ⟨k,_⟩=>hs 331 [(1,.ptr 1 0),(2,.ptr 2 0),(9,.ptr 96 0),(19,.own 920),(289,.agg [.p (.sl 11 (a.map Chunk.row)),.p (.sl 11 (c.map Chunk.row))]),(290,i64 k)] [(1,scS E),(2,sc0),(96,.live (.cells 148 (pdC V (Sch.qs V.queue) (ints V.sched.had) (Sco.zdz V.out) (zpe V.paths) (ints V.mids) (ints V.fates) (.p (.sl 11 (a.map Chunk.row))) (.p (.sl 11 (c.map Chunk.row)))))),(920,zhh (zbs E.config.packet 0 ([a,c].take k)))],fun k=>2-k.1,⟨0,by omega⟩,?_,?_⟩
 . subst hV
   exact (zop [900,901,910] [(1,some 1),(2,some 2),(96,some 96),(920,none)] (by repeat' (first | exact z0 | refine z1 ?_ | refine ⟨?_,?_⟩ | exact z2)))
 rintro ⟨k,hk⟩;refine zbx fun Q hQ=>?_
 (conv=>whnf);obtain rfl | rfl | rfl:k=0\/k=1\/k=2:=by omega
 . skip
   (try refine sG ?_)
   refine ⟨0,rfl,by decide,zw ?_⟩;refine ⟨{x:Nat×List Chunk×List zau // x.2.2++zfm E.config.packet 0 x.1 x.2.1=zbs E.config.packet 0 ([a,c].take (0+1))/\x.2.1.length<=x.1/\(∀ z∈x.2.1,Okc z)/\x.2.2.length+x.2.1.length<=2 ^ 36},fun | ⟨(n,L,acc),_⟩=>hs 331 [(1,.ptr 1 0),(2,.ptr 2 0),(9,.ptr 96 0),(19,.own 920),(20,i64 0),(21,.p (.sl 11 (L.map Chunk.row))),(289,.agg [.p (.sl 11 (a.map Chunk.row)),.p (.sl 11 (c.map Chunk.row))]),(290,i64 0)] [(1,scS E),(2,sc0),(96,.live (.cells 148 (pdC V (Sch.qs V.queue) (ints V.sched.had) (Sco.zdz V.out) (zpe V.paths) (ints V.mids) (ints V.fates) (.p (.sl 11 (a.map Chunk.row))) (.p (.sl 11 (c.map Chunk.row)))))),(920,zhh acc)],fun x=>x.1.2.1.length,⟨(a.length,a,zbs E.config.packet 0 ([a,c].take 0)),xhg E.config.packet a c,zy24 _,hka,by have:=ywg E.config.packet a c;dsimp only at this ⊢;omega⟩,?_,?_⟩
   . exact (zbe [(1,some 1),(2,some 2),(96,some 96),(920,some 920)])
   rintro ⟨⟨n,L,acc⟩,i1,i2,i3,i4⟩;dsimp only at i1 i2 i3 i4;refine zbx fun Q2 hQ2=>?_
   (conv=>whnf);cases L with
   | nil =>
    rw [zms,zy5] at i1;refine hQ2 _ _ (zw ?_);refine sF ?_;refine hQ _ _ ?_;conv=>whnf
    exact ⟨⟨0+1,by omega⟩,(zax [(1,some 1),(2,some 2),(96,some 96),(920,some 920)] zz90),by dsimp only;omega⟩
   | cons z L =>
   obtain ⟨r,r1,r2,r3⟩:=zwq (most:=E.config.packet) (l:=z::L) zz5;obtain ⟨n,rfl⟩:∃ n',n=n'+1:=⟨n-1,by rw [zy6] at i2;omega⟩
   refine sT ?_
   (refine cL ?_;refine dLm (Pck.yii (z::L) E.config.packet ⟨by omega,i3⟩) ?_)
   refine zhw.meet PUnit (fun _=>hs 331 [(1,.ptr 1 0),(2,.ptr 2 0),(9,.ptr 96 0),(19,.own 920),(20,i64 0),(21,.p (.sl 11 ((z::L).map Chunk.row))),(22,i64 (zcb E.config.packet (z::L))),(289,.agg [.p (.sl 11 (a.map Chunk.row)),.p (.sl 11 (c.map Chunk.row))]),(290,i64 0)] [(1,scS E),(2,sc0),(96,.live (.cells 148 (pdC V (Sch.qs V.queue) (ints V.sched.had) (Sco.zdz V.out) (zpe V.paths) (ints V.mids) (ints V.fates) (.p (.sl 11 (a.map Chunk.row))) (.p (.sl 11 (c.map Chunk.row)))))),(920,zhh acc)]) ?_ ?_
   . conv=>whnf
     exact yy51
   rintro ⟨⟩;(conv=>whnf)
   (try refine sG ?_)
   refine zaa zz6 (zw ?_);refine zgh (l:=z::L) zz120 ?_;(conv=>whnf);have hrt:(((z::L).drop 0).take (zcb E.config.packet (z::L)-0).toNat)=(z::L).take r:=by rw [zy100,r1];simp
   have pb:=Pck.zjv (((z::L).drop 0).take (zcb E.config.packet (z::L)-0).toNat) E.config.packet zz103;generalize hK:Pck.zdb (((z::L).drop 0).take (zcb E.config.packet (z::L)-0).toNat) E.config.packet=K at pb;rw [hrt] at hK;obtain ⟨bts,er⟩:=K
   (refine cP ?_;refine dL pb ?_)
   refine sD ?_;have hpn:zfm E.config.packet 0 (n+1) (z::L)=(if er=0 then [(⟨0,false,bts⟩:zau)] else [])++zfm E.config.packet 0 n ((z::L).drop r):=by
    rw [zfm,zy0 (by simp),zlz,r1,zy22,hK]
   rw [hpn] at i1;by_cases e:er=0
   case pos =>
    rw [zy1 e,<- zy28] at i1;refine zac (zy13.2 e) (zw ?_);refine zaa (c:=((acc.map zau.row).length+1)*40<=140737488355328) zz6 (zw ?_);have hr2:r=(zcb E.config.packet (z::L)).toNat:=by rw [r1,zy22]
    refine zaa zz6 (zw ?_);refine zfk (l:=z::L) zz21 ?_;(conv=>whnf);refine hQ2 _ _ (zw ?_);exact ⟨⟨(n,(z::L).drop r,(acc++[⟨0,false,bts⟩])),i1,by dsimp only;rw [zy38];omega,fun x hx=>i3 x (zy65 hx),by dsimp only;rw [zy38];simp only [zy10,zy6,zy12] at i4 ⊢;omega⟩,(zax [(1,some 1),(2,some 2),(96,some 96),(920,some 321)] zz43),by dsimp only;rw [zy38];omega⟩
   case neg =>
    exact yy36
 . skip
   (try refine sG ?_)
   refine ⟨1,rfl,by decide,zw ?_⟩;refine ⟨{x:Nat×List Chunk×List zau // x.2.2++zfm E.config.packet 1 x.1 x.2.1=zbs E.config.packet 0 ([a,c].take (1+1))/\x.2.1.length<=x.1/\(∀ z∈x.2.1,Okc z)/\x.2.2.length+x.2.1.length<=2 ^ 36},fun | ⟨(n,L,acc),_⟩=>hs 331 [(1,.ptr 1 0),(2,.ptr 2 0),(9,.ptr 96 0),(19,.own 920),(20,i64 1),(21,.p (.sl 11 (L.map Chunk.row))),(289,.agg [.p (.sl 11 (a.map Chunk.row)),.p (.sl 11 (c.map Chunk.row))]),(290,i64 1)] [(1,scS E),(2,sc0),(96,.live (.cells 148 (pdC V (Sch.qs V.queue) (ints V.sched.had) (Sco.zdz V.out) (zpe V.paths) (ints V.mids) (ints V.fates) (.p (.sl 11 (a.map Chunk.row))) (.p (.sl 11 (c.map Chunk.row)))))),(920,zhh acc)],fun x=>x.1.2.1.length,⟨(c.length,c,zbs E.config.packet 0 ([a,c].take 1)),xhh E.config.packet a c,zy24 _,hkc,by have:=ywh E.config.packet a c;dsimp only at this ⊢;omega⟩,?_,?_⟩
   . exact (zbe [(1,some 1),(2,some 2),(96,some 96),(920,some 920)])
   rintro ⟨⟨n,L,acc⟩,i1,i2,i3,i4⟩;dsimp only at i1 i2 i3 i4;refine zbx fun Q2 hQ2=>?_
   (conv=>whnf);cases L with
   | nil =>
    rw [zms,zy5] at i1;refine hQ2 _ _ (zw ?_);refine sF ?_;refine hQ _ _ ?_;conv=>whnf
    exact ⟨⟨1+1,by omega⟩,(zax [(1,some 1),(2,some 2),(96,some 96),(920,some 920)] zz90),by dsimp only;omega⟩
   | cons z L =>
   obtain ⟨r,r1,r2,r3⟩:=zwq (most:=E.config.packet) (l:=z::L) zz5;obtain ⟨n,rfl⟩:∃ n',n=n'+1:=⟨n-1,by rw [zy6] at i2;omega⟩
   refine sT ?_
   (refine cL ?_;refine dLm (Pck.yii (z::L) E.config.packet ⟨by omega,i3⟩) ?_)
   refine zhw.meet PUnit (fun _=>hs 331 [(1,.ptr 1 0),(2,.ptr 2 0),(9,.ptr 96 0),(19,.own 920),(20,i64 1),(21,.p (.sl 11 ((z::L).map Chunk.row))),(22,i64 (zcb E.config.packet (z::L))),(289,.agg [.p (.sl 11 (a.map Chunk.row)),.p (.sl 11 (c.map Chunk.row))]),(290,i64 1)] [(1,scS E),(2,sc0),(96,.live (.cells 148 (pdC V (Sch.qs V.queue) (ints V.sched.had) (Sco.zdz V.out) (zpe V.paths) (ints V.mids) (ints V.fates) (.p (.sl 11 (a.map Chunk.row))) (.p (.sl 11 (c.map Chunk.row)))))),(920,zhh acc)]) ?_ ?_
   . conv=>whnf
     exact yy51
   rintro ⟨⟩;(conv=>whnf)
   (try refine sG ?_)
   refine zaa zz6 (zw ?_);refine zgh (l:=z::L) zz120 ?_;(conv=>whnf);have hrt:(((z::L).drop 0).take (zcb E.config.packet (z::L)-0).toNat)=(z::L).take r:=by rw [zy100,r1];simp
   have pb:=Pck.zjv (((z::L).drop 0).take (zcb E.config.packet (z::L)-0).toNat) E.config.packet zz103;generalize hK:Pck.zdb (((z::L).drop 0).take (zcb E.config.packet (z::L)-0).toNat) E.config.packet=K at pb;rw [hrt] at hK;obtain ⟨bts,er⟩:=K
   (refine cP ?_;refine dL pb ?_)
   refine sD ?_;have hpn:zfm E.config.packet 1 (n+1) (z::L)=(if er=0 then [(⟨1,false,bts⟩:zau)] else [])++zfm E.config.packet 1 n ((z::L).drop r):=by
    rw [zfm,zy0 (by simp),zlz,r1,zy22,hK]
   rw [hpn] at i1;by_cases e:er=0
   case pos =>
    rw [zy1 e,<- zy28] at i1;refine zac (zy13.2 e) (zw ?_);refine zaa (c:=((acc.map zau.row).length+1)*40<=140737488355328) zz6 (zw ?_);have hr2:r=(zcb E.config.packet (z::L)).toNat:=by rw [r1,zy22]
    refine zaa zz6 (zw ?_);refine zfk (l:=z::L) zz21 ?_;(conv=>whnf);refine hQ2 _ _ (zw ?_);exact ⟨⟨(n,(z::L).drop r,(acc++[⟨1,false,bts⟩])),i1,by dsimp only;rw [zy38];omega,fun x hx=>i3 x (zy65 hx),by dsimp only;rw [zy38];simp only [zy10,zy6,zy12] at i4 ⊢;omega⟩,(zax [(1,some 1),(2,some 2),(96,some 96),(920,some 321)] zz43),by dsimp only;rw [zy38];omega⟩
   case neg =>
    exact yy36
 (try refine sG ?_)
 refine hQ _ _ ?_;conv=>whnf
 rw [hP2]
 try rfl
end Snd
namespace Snd
open Ser
theorem ysc (s:zag) (m:Message) (hs:Fit s) (hd:m.data.length<2 ^ 38) :
 zan Tryz.prog 32 [s.hv,m.hv] zad (.tup [(zox s m).1.hv,i64 (zox s m).2.1,i64 (zox s m).2.2]) zad:=by
 obtain ⟨h1,h2,h3,h4,h5,h6,h7⟩:=hs;refine zal mixed Tryz.func32 zz4 ?_;(conv=>whnf)
 (repeat' (first | (refine zce ?_;conv=>whnf) | (refine zaa ?_ ?_;(first | kernel_rfl | decide);conv=>whnf) | (refine zaw ?_ ?_;kernel_rfl;conv=>whnf) | (refine zhw.go ?_;conv=>whnf) | (refine zah (fun h=>?_) (fun h=>?_)<;>conv=>whnf)))
 all_goals try simp only [zy43,zy47,zy13,zy4,zy42,zy30,zy2] at *
 all_goals first
  | (rw [zjs (e:=3) (by simp only [zff];(repeat' split)<;>first | rfl | omega) (by decide)];rfl)
  | (rw [zjs (e:=4) (by simp only [zff];(repeat' split)<;>first | rfl | omega) (by decide)];rfl)
  | (rw [zjs (e:=7) (by simp only [zff];(repeat' split)<;>first | rfl | omega) (by decide)];rfl)
  | rw [zqk (by simp only [zff];(repeat' split)<;>first | rfl | omega)]
 refine zaa (c:=(([]:List (List PV)).length+s.queue.length)*96<=140737488355328) zz3 (zw ?_);refine zaa (c:=((([]:List (List PV))++s.queue.map zak.row).length+1)*96<=140737488355328) zz3 (zw ?_);refine sD ?_;refine zaa (c:=(([]:List (List PV)).length+(s.fates.map fun n=>[pi n]).length)*8<=140737488355328) zz3 (zw ?_);refine zaa (c:=((([]:List (List PV))++s.fates.map fun n=>[pi n]).length+1)*8<=140737488355328) zz3 (zw ?_);have hq:(([]:List (List PV))++s.queue.map zak.row)++[(⟨s.fates.length,-1,s.clock,0,0,m⟩:zak).row]=(zht s m).queue.map zak.row:=by simp [zht]
 have hf:(([]:List (List PV))++s.fates.map fun n=>[pi n])++[[pi 1]]=(zht s m).fates.map fun n=>[pi n]:=by simp [zht]
 show HV.tup [.agg (ycq s (.p (.sl 10 ((([]:List (List PV))++s.queue.map zak.row)++[(⟨s.fates.length,-1,s.clock,0,0,m⟩:zak).row]))) (ints s.sched.had) (Sco.zdz s.out) (zpe s.paths) (ints s.mids) (.p (.sl 1 ((([]:List (List PV))++s.fates.map fun n=>[pi n])++[[pi 1]])))),i64 s.fates.length,i64 0]=_;rw [hq,hf];rfl
def wrL (c:Config):List (Int×Int×Int):=[(c.streams,1,4),(c.paths,1,2),(c.part,1,16),(c.packet,40,120),(c.waiting,1,12),(c.first,0,65535)]
abbrev wrR (x:Int×Int×Int):List PV:=[pi x.1,pi x.2.1,pi x.2.2]
theorem xda {c:Config} {x:Int×Int×Int} (hx:x∈wrL c) (h:x.1<x.2.1\/x.1>x.2.2):zjf c=3:=by
 have:c.streams<1\/c.streams>4\/c.paths<1\/c.paths>2\/c.part<1\/c.part>16\/c.packet<40\/c.packet>120\/c.waiting<1\/c.waiting>12\/c.first<0\/c.first>=65536:=by
  simp only [wrL,zy14,List.not_mem_nil,or_false] at hx;rcases hx with rfl | rfl | rfl | rfl | rfl | rfl<;>dsimp only at h<;>omega
 unfold zjf;rw [zy1 this]
theorem xiv {c:Config} (h:∀ x∈wrL c,¬ (x.1<x.2.1\/x.1>x.2.2)):zjf c=if c.turns<1\/c.turns>5 then 1 else 0:=by
 have h1:=h (c.streams,1,4) zz145;have h2:=h (c.paths,1,2) zz145;have h3:=h (c.part,1,16) zz145;have h4:=h (c.packet,40,120) zz145;have h5:=h (c.waiting,1,12) zz145;have h6:=h (c.first,0,65535) zz145;dsimp only at h1 h2 h3 h4 h5 h6;unfold zjf;rw [zy0 (by omega)]
theorem zgl (c:Config):zan Tryz.prog 59 [c.hv] zad (i64 (zjf c)) zad:=by
 refine zal mixed Tryz.func59 zz4 ?_;(conv=>whnf);refine ⟨{x:List (Int×Int×Int)×List (Int×Int×Int) // wrL c=x.1++x.2/\∀ y∈x.1,¬ (y.1<y.2.1\/y.1>y.2.2)},fun | ⟨(A,B),_⟩=>hs 50 [(1,.ptr 1 0),(23,.own 900),(24,i64 (wrL c).length),(25,i64 A.length)] [(1,.live (.cells 24 c.cells)),(900,.live (.row 103 3 ((wrL c).map wrR)))],fun x=>x.1.2.length,⟨([],wrL c),rfl,by simp⟩,?_,?_⟩
 . exact (zbe [(1,some 1),(900,some 23)])
 rintro ⟨⟨A,B⟩,h,hA⟩;dsimp only at h hA;(conv=>whnf);cases B with
 | cons x B =>
  have hz:=zay h;have hx:=zgm h;have h6:(wrL c).length=6:=rfl;refine sT ?_;refine sO ?_;refine zaj (f:=wrR) h rfl (zw ?_)
  (try refine sG ?_)
  refine ⟨0,rfl,by decide,zw ?_⟩;refine ⟨1,rfl,by decide,zw ?_⟩;by_cases c1:x.1<x.2.1
  case pos =>
   rw [xda hx (.inl c1)];refine zac (zy9 c1) ?_;conv=>whnf
   try rfl
  refine zab (zy11 c1) (zw ?_);refine ⟨0,rfl,by decide,zw ?_⟩;refine ⟨2,rfl,by decide,zw ?_⟩;by_cases c2:x.1>x.2.2
  case pos =>
   rw [xda hx (.inr c2)];refine zac (zy9 c2) ?_;conv=>whnf
   try rfl
  refine zab (zy11 c2) ?_;conv=>whnf
  (try refine sG ?_)
  refine sF ?_;exact ⟨⟨(A++[x],B),zae h,fun y hy=>by rcases zy21.1 hy with hy | hy;exact hA y hy;rw [zy23] at hy;subst hy;exact fun h=>h.elim c1 c2⟩,(zbe [(1,some 1),(900,some 900)]),by simp⟩
 | nil =>
  have hz:=zbk h;rw [zy5] at h;rw [<- h] at hA;rw [xiv hA];refine sN ?_;by_cases c1:c.turns<1
  case pos =>
   rw [zy1 (.inl c1)];refine zac (zy9 c1) ?_;conv=>whnf
   try rfl
  refine zab (zy11 c1) (zw ?_);by_cases c2:c.turns>5
  case pos =>
   rw [zy1 (.inr c2)];refine zac (zy9 c2) ?_;conv=>whnf
   try rfl
  rw [zy0 (fun h=>h.elim c1 c2)];refine zab (zy11 c2) ?_;conv=>whnf
  try rfl
theorem yry (c:Config):zan Tryz.prog 27 [c.hv] zad (.tup [(yix c).1.hv,i64 (yix c).2]) zad:=by
 refine zal mixed Tryz.func27 zz4 ?_;(conv=>whnf)
 (refine cP ?_;refine dL (zgl c) ?_)
 by_cases c0:zjf c=0
 case neg =>
  rw [yix,zy0 c0];refine zac (zy76.2 c0) (zw ?_)
  try rfl
 rw [yix,zy1 c0];refine zab (by simpa using c0) (zw ?_)
 (try refine sG ?_)
 obtain ⟨b1,b2,b3,b4,b5,b6,b7,b8,b9,b10,b11,b12,-⟩:=zdf c0;refine zao (z:=c.first-1) (zbt zz0 zz0) (zw ?_);refine zao (z:=c.first-1) (zbt zz0 zz0) (zw ?_);refine zao (z:=2*c.streams) (zbt zz0 zz0) (zw ?_);refine zaa (c:=0<=2*c.streams/\2*c.streams=2*c.streams/\2*c.streams*(8:Nat)<=140737488355328) ⟨by omega,rfl,by omega⟩ (zw ?_);refine zao (z:=c.streams-1) (zbt zz0 zz0) (zw ?_);refine zaa (c:=0<=c.streams/\c.streams=c.streams/\c.streams*(8:Nat)<=140737488355328) ⟨by omega,rfl,by omega⟩ (zw ?_);refine sD ?_;have hsl:c.streams-1=(Sch.new c.streams).last:=(zbt zz0 zz0).symm;refine ⟨{i:Nat // (i:Int)<=c.paths},fun | ⟨i,_⟩=>hs 51 [(1,.ptr 1 0),(2,.ptr 2 0),(5,.ptr 5 0),(34,i64 c.paths),(35,i64 i)] [(1,.live (.cells 24 [i64 c.streams,i64 c.part,i64 c.packet,i64 c.paths,i64 (c).turns,i64 c.waiting,i64 c.first])),(2,sc0),(5,.live (.cells 32 (ycq (yby c) zeg (.own 901) zeg (.own 900) (.own 902) zeg))),(900,yyv (List.replicate i (Paths.new c.part))),(901,zxu (Sch.new c.streams).had),(902,zxu (List.replicate (2*c.streams).toNat 0))],fun i=>c.paths.toNat-i.1,⟨0,by omega⟩,?_,?_⟩
 . exact (zax [(1,some 1),(2,some 2),(5,some 5),(900,none),(901,some 30),(902,some 24)] (by repeat' (first | exact z0 | refine z1 ?_ | refine ⟨?_,?_⟩ | ((exact zar (by rw [zy74];rfl))) | ((refine zar ?_;rw [show (Sch.new c.streams).had=List.replicate (max c.streams 0).toNat 0 from rfl,zy74,show max c.streams 0=c.streams by omega];rfl)) | ((exact congrArg (fun z=>zai.live (.cells 32 (ycq {yby c with sched:=⟨z,-1,[]⟩} zeg (.own 30) zeg zeg (.own 24) zeg))) hsl)) | exact z2)))
 rintro ⟨i,k1⟩;(conv=>whnf);by_cases hi:(i:Int)<c.paths
 case pos =>
  refine sT ?_;refine sR ?_;refine sR ?_;refine zaa (c:=(((List.replicate i (Paths.new c.part)).map Path.row).length+1)*56<=140737488355328) zz3 (zw ?_);refine sF ?_;exact ⟨⟨i+1,by omega⟩,(zax [(1,some 1),(2,some 2),(5,some 5),(900,some 47),(901,some 901),(902,some 902)] zz65),by dsimp only;omega⟩
 case neg =>
  have hin:c.paths.toNat=i:=by omega
  refine sN ?_;rw [show (yby c)={yby c with paths:=List.replicate i (Paths.new c.part)} by rw [<- hin];rfl]
  try rfl
end Snd
namespace Snd
open Ser
theorem SL.side {s t:zag} (h:SL s) (e:t.sched=s.sched):SL t:=by unfold SL;rw [e];exact h
theorem yhq (s:zag):(Snd.settle s).sched=s.sched:=rfl
theorem xeb {s:zag} (h:SL s) (c:Chunk):SL (yfg s c):=by
 unfold yfg;split
 . exact h
 split
 . exact h
 rw [zpu];refine h.side ?_;rw [yhq];unfold zgp;have hU:∀ p l,(zjk p (zoe s c (Sco.zin s.out s.cum c s.paths.length)) l).sched=s.sched:=fun p l=>by
  unfold zjk;split
  . rfl
  . split<;>rfl
 split
 . exact hU _ _
 . exact hU _ _
theorem zvs (part:Int):∀ (l:List Nat) (s:zag),(l.foldl (zlc part) s).sched=s.sched
 | [],_=>rfl
 | i::l,s=>by
  rw [zy50,zvs part l];unfold zlc;split
  . rfl
  split
  . rfl
  . dsimp only;split<;>rfl
theorem yym {s:zag} (h:SL s):SL (tick s):=h.side (zvs _ _ _)
theorem zss {path:Nat}:∀ (l:List Nat) (p:zew),(l.foldl (zcz path) p).s.sched=p.s.sched
 | [],_=>rfl
 | i::l,p=>by
  rw [zy50,zss l];unfold zcz;split
  . rfl
  . split
    . exact yew _ _ _
    . rfl
theorem yof {N:Nat}:∀ (n:Nat) {p:zew},SI N p.s->SL p.s->SL (zfl n p).s
 | 0,_,_,h=>h
 | n+1,p,hS,h=>by
  rw [zfl];cases hq:next p with
  | none=>exact h
  | some q=>exact yof n (zvz hS hq) (yvt hS hq)
theorem xey {N:Nat} {s:zag} (hS:SI N s) (h:SL s):SL (zjp s).1:=by
 have h1:=yeo h;have s1:=(zvg hS).1;have s2:=zik (o:=List.replicate s.paths.length []) s1;have h2:SL (forward ⟨expire s,List.replicate s.paths.length []⟩).s:=h1.side (zpr _);have h3:SL (again (forward ⟨expire s,List.replicate s.paths.length []⟩)).s:=h2.side (zss _ _);exact (yof 61 (ztw s2) h3).side rfl
theorem xel {c:Config} (h:zjf c=0):SL (yby c):=by
 have hw:=zdf h;have e1:(yby c).sched=Sch.new c.streams:=rfl;unfold SL;rw [e1];unfold Sch.new;dsimp only;rw [zbt (by omega) (by omega),zy101];omega
end Snd
namespace Ln
open Ser
theorem yne {back:Bool}:∀ (cs:List Chunk) {x:zem×Bool},Snd.SL x.1.sender->Snd.SL (cs.foldl (zgb back) x).1.sender
 | [],_,h=>h
 | c::cs,x,h=>by
  refine yne (back:=back) cs ?_;unfold zgb;split
  . exact Snd.xeb h c
  split
  . exact h
  split
  . exact h
  . exact h
theorem yti {l:zem} (h:Snd.SL l.sender) (p:zau):Snd.SL (zgz l p).sender:=by
 have h2:Snd.SL (zjj l p).1.sender:=yne (back:=p.back) _ (x:=(l,false)) h;unfold zgz;split
 . exact h
 split
 . unfold told;split<;>exact h2
 . exact h2
theorem zvf {N:Nat} {l:zem} (hS:Snd.SI N l.sender) (h:Snd.SL l.sender):Snd.SL (emit l).sender:=Snd.xey hS h
theorem xgk {N M:Nat} {l:zem} (h:LI N M l) (hl:Snd.SL l.sender) (x:Step) (hN:N+1<=2 ^ 20) (hM:M+120<=2000000):Snd.SL (doS l x).1.sender:=by
 unfold doS;split
 . split
   . rename_i e
     exact zvf (l:={l with sender:=Snd.zht l.sender x.message}) (Snd.zwt h.snd e hN) (hl.side rfl)
   . exact hl
 split
 . split
   . exact hl
   split
   . exact hl
   rename_i p hp;have hb:=h.bytes p (zy20 hp);split
   . exact zvf (l:={l with way:=zmb l.way [p]}) h.snd hl
   . split
     . exact zvf (zvd (l:={l with way:=l.way.eraseIdx x.n.toNat}) ⟨h.snd,h.rcv,h.small,by show (l.way.eraseIdx _).length<=40;have:=h.way;rw [zy73];split<;>omega,fun q hq=>h.bytes q (zy63 hq)⟩ hb hM).snd (yti (l:={l with way:=l.way.eraseIdx x.n.toNat}) hl p)
     . exact zvf (l:={l with way:=l.way.eraseIdx x.n.toNat}) h.snd hl
 split
 . exact zvf (l:={l with sender:=Snd.tick l.sender}) (Snd.zxk h.snd) (Snd.yym hl)
 . exact hl
theorem yih {N M:Nat} (l:zem) (p:zau) (h:LI N M l) (hM:M+120<=2000000) (hp:p.bytes.length<=120) {rows:List (List PV)} (hr:rows=l.way.map zau.row) :
 zan Tryz.prog 108 [.agg (lnC l.sender l.receiver (.p (.sl 3 rows))),p.hv] zad (zgz l p).hv zad:=by
 subst hr;exact yrr l p h hM hp
theorem xbp {N M:Nat} (l:zem) (x:Step) (h:LI N M l) (hsl:Snd.SL l.sender) (hN:N+1<=2 ^ 20) (hM:M+120<=2000000) (hx:x.message.data.length<2 ^ 38) :
 zan Tryz.prog 44 [l.hv,x.hv] zad (.tup [(doS l x).1.hv,(doS l x).2.hv]) zad:=by
 have hway:=h.way;have hby:=h.bytes;generalize hT:doS l x=T;rw [doS] at hT;refine zal mixed Tryz.func44 zz4 ?_;(conv=>whnf)
 (try refine sG ?_)
 by_cases c1:x.kind=1
 case pos =>
  rw [zy1 c1] at hT;refine zac (zy13.2 c1) (zw ?_);have ps:=Snd.ysc l.sender x.message h.snd.fit hx;by_cases e1:Snd.zff l.sender x.message=0
  case pos =>
   rw [zy1 e1] at hT;rw [Snd.zqk e1] at ps;dsimp only at ps
   (refine cP ?_;refine dL ps ?_)
   (try refine sG ?_)
   have hy:=(show LI (N+1) M {l with sender:=Snd.zht l.sender x.message} from ⟨Snd.zwt h.snd e1 hN,h.rcv,h.small,h.way,h.bytes⟩)
   have hyl:=(show Snd.SL (Snd.zht l.sender x.message) from hsl.side rfl)
   have hyw:=hy.way;have pp:=Snd.zkr (({l with sender:=Snd.zht l.sender x.message}:zem)).sender hy.snd hyl;have pu:=zjc (({l with sender:=Snd.zht l.sender x.message}:zem)).way (Snd.zjp (({l with sender:=Snd.zht l.sender x.message}:zem)).sender).2 hyw (Snd.zhj hy.snd) (rows:=(l.way.map zau.row)) (rfl);unfold emit at hT;generalize Snd.zjp (({l with sender:=Snd.zht l.sender x.message}:zem)).sender=PP at hT pp pu;exact yy30
  case neg =>
   rw [zy0 e1] at hT;subst hT;rw [Snd.zjs rfl e1] at ps;dsimp only at ps
   (refine cP ?_;refine dL ps ?_)
   refine zac (zy76.2 e1) (zw ?_)
   try rfl
 rw [zy0 c1] at hT;refine zab (zy4.2 c1) (zw ?_)
 (try refine sG ?_)
 by_cases c2:x.kind=2\/x.kind=3\/x.kind=4
 case neg =>
  rw [zy0 c2] at hT;have c2:=not_or.1 c2;have c3:=not_or.1 c2.2;refine zab (zy4.2 c2.1) (zw ?_)
  (try refine sG ?_)
  refine zab (zy4.2 c3.1) (zw ?_)
  (try refine sG ?_)
  refine zab (zy4.2 c3.2) (zw ?_)
  (try refine sG ?_)
  by_cases c5:x.kind=5
  case pos =>
   rw [zy1 c5] at hT;refine zac (zy13.2 c5) (zw ?_)
   (refine cP ?_;refine dL (Snd.ysd l.sender h.snd) ?_)
   have hy:=(show LI N M {l with sender:=Snd.tick l.sender} from ⟨Snd.zxk h.snd,h.rcv,h.small,h.way,h.bytes⟩)
   have hyl:=(Snd.yym hsl)
   have hyw:=hy.way;have pp:=Snd.zkr (({l with sender:=Snd.tick l.sender}:zem)).sender hy.snd hyl;have pu:=zjc (({l with sender:=Snd.tick l.sender}:zem)).way (Snd.zjp (({l with sender:=Snd.tick l.sender}:zem)).sender).2 hyw (Snd.zhj hy.snd) (rows:=(l.way.map zau.row)) (rfl);unfold emit at hT;generalize Snd.zjp (({l with sender:=Snd.tick l.sender}:zem)).sender=PP at hT pp pu;exact yy30
  case neg =>
   rw [zy0 c5] at hT;subst hT;refine zab (zy4.2 c5) (zw ?_)
   try rfl
 rw [zy1 c2] at hT;have c6:x.kind=2\/x.kind≠2/\(x.kind=3\/x.kind≠3/\x.kind=4):=by omega
 rcases c6 with c6 | ⟨c8,c6 | ⟨c7,c6⟩⟩
 . refine zac (zy13.2 c6) (zw ?_)
   (try refine sG ?_)
   try (refine zac (zy13.2 c6) ?_;conv=>whnf)
   by_cases n0:x.n<0
   case pos =>
    rw [zy1 n0] at hT;subst hT;refine zac (zy9 n0) (zw ?_)
    try rfl
   rw [zy0 n0] at hT;refine zab (zy11 n0) (zw ?_);cases hp:l.way[x.n.toNat]? with
   | none =>
    exact yy102
   | some p =>
   rw [hp] at hT;dsimp only at hT;have hlt:=(zy8.1 hp).1;have hpb:=hby p (zy20 hp);have her:l.way.eraseIdx x.n.toNat=l.way.take x.n.toNat++l.way.drop (x.n.toNat+1):=zy61 _ _;refine zab (zy11 zz6) (zw ?_)
   (try refine sG ?_)
   refine Snd.zam hp zz0 (zw ?_)
   (try refine sG ?_)
   rw [zy0 (by omega),zy1 c6] at hT;refine zab (zy4.2 zz0) (zw ?_);refine zaa zz6 (zw ?_);refine zgh (l:=l.way) zz144 ?_;(conv=>whnf);refine zaa (c:=(([]:List (List PV)).length+(((l.way.drop 0).take (x.n-0).toNat).map zau.row).length)*40<=140737488355328) zz125 (zw ?_);refine zao (z:=x.n+1) (zbt zz0 zz0) (zw ?_);refine zaa zz6 (zw ?_);refine zfk (l:=l.way) zz79 ?_;(conv=>whnf);refine zaa (c:=((([]:List (List PV))++((l.way.drop 0).take (x.n-0).toNat).map zau.row).length+((l.way.drop (x.n+1).toNat).map zau.row).length)*40<=140737488355328) zz88 (zw ?_);refine sD ?_;have zpw:(([]:List (List PV))++((l.way.drop 0).take (x.n-0).toNat).map zau.row)++(l.way.drop (x.n+1).toNat).map zau.row=(l.way.eraseIdx x.n.toNat).map zau.row:=by
    rw [her,zy34,zy58,zy100,show (x.n-0).toNat=x.n.toNat by omega,show (x.n+1).toNat=x.n.toNat+1 by omega]
   have hli:LI N M {l with way:=l.way.eraseIdx x.n.toNat}:=⟨h.snd,h.rcv,h.small,by show (l.way.eraseIdx _).length<=40;rw [zy73];split<;>omega,fun q hq=>hby q (zy63 hq)⟩
   refine zac (zy13.2 c6) (zw ?_);have hcl:=zvd hli hpb hM;have hcs:=yti (l:={l with way:=l.way.eraseIdx x.n.toNat}) hsl p;have pc:=yih {l with way:=l.way.eraseIdx x.n.toNat} p hli hM hpb zpw;generalize zgz {l with way:=l.way.eraseIdx x.n.toNat} p=Y at hT hcl hcs pc
   (refine cP ?_;refine dL pc ?_)
   have hy:=hcl;have hyl:=hcs;have hyw:=hy.way;have pp:=Snd.zkr (Y).sender hy.snd hyl;have pu:=zjc (Y).way (Snd.zjp (Y).sender).2 hyw (Snd.zhj hy.snd) (rows:=(Y.way.map zau.row)) (rfl);unfold emit at hT;generalize Snd.zjp (Y).sender=PP at hT pp pu;exact yy30
 . refine zab (zy4.2 c8) (zw ?_)
   (try refine sG ?_)
   refine zac (zy13.2 c6) (zw ?_)
   (try refine sG ?_)
   try (refine zac (zy13.2 c6) ?_;conv=>whnf)
   by_cases n0:x.n<0
   case pos =>
    rw [zy1 n0] at hT;subst hT;refine zac (zy9 n0) (zw ?_)
    try rfl
   rw [zy0 n0] at hT;refine zab (zy11 n0) (zw ?_);cases hp:l.way[x.n.toNat]? with
   | none =>
    exact yy102
   | some p =>
   rw [hp] at hT;dsimp only at hT;have hlt:=(zy8.1 hp).1;have hpb:=hby p (zy20 hp);have her:l.way.eraseIdx x.n.toNat=l.way.take x.n.toNat++l.way.drop (x.n.toNat+1):=zy61 _ _;refine zab (zy11 zz6) (zw ?_)
   (try refine sG ?_)
   refine Snd.zam hp zz0 (zw ?_)
   (try refine sG ?_)
   rw [zy0 (by omega),zy0 c8] at hT;refine zab (zy4.2 zz0) (zw ?_);refine zaa zz6 (zw ?_);refine zgh (l:=l.way) zz144 ?_;(conv=>whnf);refine zaa (c:=(([]:List (List PV)).length+(((l.way.drop 0).take (x.n-0).toNat).map zau.row).length)*40<=140737488355328) zz125 (zw ?_);refine zao (z:=x.n+1) (zbt zz0 zz0) (zw ?_);refine zaa zz6 (zw ?_);refine zfk (l:=l.way) zz79 ?_;(conv=>whnf);refine zaa (c:=((([]:List (List PV))++((l.way.drop 0).take (x.n-0).toNat).map zau.row).length+((l.way.drop (x.n+1).toNat).map zau.row).length)*40<=140737488355328) zz88 (zw ?_);refine sD ?_;have zpw:(([]:List (List PV))++((l.way.drop 0).take (x.n-0).toNat).map zau.row)++(l.way.drop (x.n+1).toNat).map zau.row=(l.way.eraseIdx x.n.toNat).map zau.row:=by
    rw [her,zy34,zy58,zy100,show (x.n-0).toNat=x.n.toNat by omega,show (x.n+1).toNat=x.n.toNat+1 by omega]
   have hli:LI N M {l with way:=l.way.eraseIdx x.n.toNat}:=⟨h.snd,h.rcv,h.small,by show (l.way.eraseIdx _).length<=40;rw [zy73];split<;>omega,fun q hq=>hby q (zy63 hq)⟩
   refine zab (zy4.2 c8) (zw ?_);have hy:=hli;have hyl:=hsl;have hyw:=hy.way;have pp:=Snd.zkr (({l with way:=l.way.eraseIdx x.n.toNat}:zem)).sender hy.snd hyl;have pu:=zjc (({l with way:=l.way.eraseIdx x.n.toNat}:zem)).way (Snd.zjp (({l with way:=l.way.eraseIdx x.n.toNat}:zem)).sender).2 hyw (Snd.zhj hy.snd) (rows:=_) (zpw);unfold emit at hT;generalize Snd.zjp (({l with way:=l.way.eraseIdx x.n.toNat}:zem)).sender=PP at hT pp pu;exact yy30
 . refine zab (zy4.2 c8) (zw ?_)
   (try refine sG ?_)
   refine zab (zy4.2 c7) (zw ?_)
   (try refine sG ?_)
   refine zac (zy13.2 c6) (zw ?_)
   (try refine sG ?_)
   try (refine zac (zy13.2 c6) ?_;conv=>whnf)
   by_cases n0:x.n<0
   case pos =>
    rw [zy1 n0] at hT;subst hT;refine zac (zy9 n0) (zw ?_)
    try rfl
   rw [zy0 n0] at hT;refine zab (zy11 n0) (zw ?_);cases hp:l.way[x.n.toNat]? with
   | none =>
    exact yy102
   | some p =>
   rw [hp] at hT;dsimp only at hT;have hlt:=(zy8.1 hp).1;have hpb:=hby p (zy20 hp);have her:l.way.eraseIdx x.n.toNat=l.way.take x.n.toNat++l.way.drop (x.n.toNat+1):=zy61 _ _;refine zab (zy11 zz6) (zw ?_)
   (try refine sG ?_)
   refine Snd.zam hp zz0 (zw ?_)
   (try refine sG ?_)
   rw [zy1 c6] at hT;refine zac (zy13.2 c6) (zw ?_)
   (refine cP ?_;refine dL (zxe l.way [p] hway zz5) ?_)
   have yzo:LI N M {l with way:=zmb l.way [p]}:=yhc h fun q hq=>by rw [zy23] at hq;subst hq;exact hpb
   have hy:=yzo;have hyl:=hsl;have hyw:=hy.way;have pp:=Snd.zkr (({l with way:=zmb l.way [p]}:zem)).sender hy.snd hyl;have pu:=zjc (({l with way:=zmb l.way [p]}:zem)).way (Snd.zjp (({l with way:=zmb l.way [p]}:zem)).sender).2 hyw (Snd.zhj hy.snd) (rows:=((zmb l.way [p]).map zau.row)) (rfl);unfold emit at hT;generalize Snd.zjp (({l with way:=zmb l.way [p]}:zem)).sender=PP at hT pp pu;exact yy30
end Ln
namespace Ln
open Ser
theorem yrz (c:Config):zan Tryz.prog 43 [c.hv] zad (.tup [(ztr c).1.hv,i64 (ztr c).2]) zad:=by
 refine zal mixed Tryz.func43 zz4 ?_;(conv=>whnf);have pn:=Snd.yry c;by_cases c1:Snd.zjf c=0
 case neg =>
  rw [show ztr c=(noL,Snd.zjf c) from zy0 c1];rw [show Snd.yix c=(Snd.noS,Snd.zjf c) from zy0 c1] at pn
  (refine cP ?_;refine dL pn ?_)
  refine zac (zy76.2 c1) (zw ?_)
  try rfl
 have hw:=Snd.zdf c1;rw [show ztr c=(zmp c,0) from zy1 c1];rw [show Snd.yix c=(Snd.yby c,0) from zy1 c1] at pn
 (refine cP ?_;refine dL pn ?_)
 (try refine sG ?_)
 (refine cP ?_;refine dL (Rcv.yrx c zz0 zz0 zz0) ?_)
 ((refine zaw ?_ ?_;(· kernel_rfl);conv=>whnf);try refine sG ?_)
 try rfl
theorem yli (c:Config) (l:List Step) (c1:Snd.zjf c=0) (hb:∀ x∈l,x.message.data.length<2 ^ 38) :
 zan Tryz.prog 30 [c.hv,yyj l] zad (.tup [(zot (zmp c) (l.take 200)).1.hv,.p (.sl 2 ((zot (zmp c) (l.take 200)).2.map Answer.row))]) zad:=by
 refine zal mixed Tryz.func30 zz4 ?_;generalize hT:zot (zmp c) (l.take 200)=T;(conv=>whnf);have pn:=yrz c;rw [show ztr c=(zmp c,0) from zy1 c1] at pn
 (refine cP ?_;refine dL pn ?_)
 (try refine sG ?_)
 refine ⟨{x:(zem×List Answer)×List Step×List Step // l=x.2.1++x.2.2/\x.2.1.length<=200/\zot (zmp c) x.2.1=x.1/\LI x.2.1.length (120*x.2.1.length) x.1.1/\Snd.SL x.1.1.sender},fun | ⟨((y,az),A,B),_⟩=>hs 44 [(4,.ptr 4 0),(6,.ptr 6 0),(8,.own 900),(21,yyj l),(22,i64 l.length),(23,i64 A.length)] [(4,.live (.cells 40 xhq)),(6,lnL y),(900,xfc az)],fun x=>x.1.2.2.length,⟨((zmp c,[]),[],l),rfl,by simp,rfl,ybx c1,Snd.xel c1⟩,?_,?_⟩
 . exact (zbe [(4,some 4),(6,some 6),(900,none)])
 rintro ⟨⟨⟨y,az⟩,A,B⟩,k1,k0,k2,k3,k4⟩;dsimp only at k1 k0 k2 k3 k4;refine zbx fun Q hQ=>?_
 (conv=>whnf);have hal:az.length=A.length:=by have:=zqi A (zmp c);rw [k2] at this;exact this
 cases B with
 | cons x B =>
  have hz:=zay k1;have hxd:=hb x (zgm k1);have hnx:=yhb (zmp c) A x;rw [k2] at hnx;dsimp only at hnx;refine sT ?_;refine zaj k1 rfl (zw ?_)
  (try refine sG ?_)
  by_cases c2:A.length=200
  case pos =>
   have ht:l.take 200=A:=by rw [k1,<- c2,zy130]
   rw [ht,k2] at hT;subst hT;refine zac (zy13.2 zz0) (zw ?_);refine hQ _ _ ?_;conv=>whnf
   try rfl
  have hli:=yme k3 x zz0 zz0;have hsl:=xgk k3 k4 x zz0 zz0;have pd:=xbp y x k3 k4 zz0 zz0 hxd;generalize doS y x=D at hnx hli hsl pd;obtain ⟨z,a⟩:=D;dsimp only at hnx hli hsl pd;refine zab (zy4.2 zz0) (zw ?_)
  (try refine sG ?_)
  (refine cP ?_;refine dL pd ?_)
  refine zaa (c:=((az.map Answer.row).length+1)*16<=140737488355328) zz6 (zw ?_);refine sF ?_;refine hQ _ _ ?_;conv=>whnf
  exact ⟨⟨((z,az++[a]),A++[x],B),zae k1,by simp;omega,hnx,by rw [zy10,zy69,show 120*(A.length+1)=120*A.length+120 by omega];exact hli,hsl⟩,(zax [(4,some 4),(6,some 6),(900,some 40)] zz75),by simp⟩
 | nil =>
  have hz:=zbk k1;rw [zy5] at k1;have ht:l.take 200=A:=by rw [k1,zy35 k0]
  rw [ht,k2] at hT;subst hT;refine sN ?_;refine hQ _ _ ?_;conv=>whnf
  try rfl
end Ln
namespace Snd
open Ser
theorem ztu (m:Message):zan Tryz.prog 60 [m.hv,m.hv] zad (zbj true) zad:=by
 refine zal mixed Tryz.func60 zz4 ?_;(conv=>whnf)
 repeat' (first | (refine zac ?_ ?_;(· simp;done);conv=>whnf) | (refine zfu rfl ?_;conv=>whnf))
 rw [beq_self_eq_true]
end Snd
namespace Ln
open Ser
end Ln
namespace Gh
open Ser Snd Ln
theorem ykk (c:Config) (l:List Step) (T2:List Message) (L2:List zbf) (hb:∀ x∈l,x.message.data.length<2 ^ 38) (hl:l.length<2 ^ 38) (hT:T2.length<2 ^ 60) (hL:L2.length<2 ^ 60) :
 zan Tryz.prog 14 [c.hv,yyj l,msgs T2,zky L2] zad (zbj true) zad:=by
 refine zal mixed Tryz.func14 zz4 ?_;(conv=>whnf);have pt:=ysj c l hb hl;have pw:=Snd.zgl c;by_cases c3:Snd.zjf c=0
 case neg =>
  rw [show zlt c l=([],Snd.zjf c) from zy1 c3] at pt;dsimp only at pt;generalize Snd.zjf c=e at c3 pt pw
  (refine cP ?_;refine dL pt ?_)
  (refine cP ?_;refine dL pw ?_)
  refine zac (zy76.2 c3) (zw ?_);refine zac (beq_self_eq_true _) (zw ?_)
  try rfl
 rw [c3] at pw;by_cases c2:l.length>200
 case pos =>
  rw [show zlt c l=([],5) by rw [zlt,zy0 (fun h=>h c3),zy1 c2]] at pt;dsimp only at pt
  (refine cP ?_;refine dL pt ?_)
  (refine cP ?_;refine dL pw ?_)
  (try refine sG ?_)
  refine zac (zy9 zz6) (zw ?_)
  try rfl
 rw [show zlt c l=(zkv l (zot (zmp c) l).2,0) by rw [zlt,zy0 (fun h=>h c3),zy0 c2]] at pt;have pb:=yli c l c3 hb;rw [zy35 (by omega)] at pb;have hpl:=zqi l (zmp c);have hft:=yoq l (ybx c3) (fun f hf=>by simp [zmp,yby] at hf) zz0 zz0;have hli:=yor l (ybx c3) zz0 zz0;generalize zot (zmp c) l=P at pt pb hpl hft hli;obtain ⟨y,az⟩:=P;dsimp only at pt pb hpl hft hli;have pr:=yln l az hpl hl;have hTl:=zqy l az;generalize zkv l az=T at pt pr hTl;have pcn:=yrg y (by have:=hli.snd.many;omega);have hmany:=hli.snd.many;have p1:=yru T2 L2 hT hL;have p2:=ylm T2 L2 hT hL
 (refine cP ?_;refine dL pt ?_)
 (refine cP ?_;refine dL pw ?_)
 refine zab (zy11 zz6) (zw ?_)
 (try refine sG ?_)
 (refine cP ?_;refine dL pb ?_)
 (refine cP ?_;refine dL pr ?_)
 refine zab (bne_self_eq_false _) (zw ?_)
 (try refine sG ?_)
 refine ⟨{x:List Message×List Message // T=x.1++x.2},fun | ⟨(X,Y),_⟩=>hs 110 [(2,msgs T2),(3,zky L2),(9,msgs T),(12,.ptr 12 0),(14,msgs T),(65,msgs T),(66,i64 T.length),(67,i64 X.length)] [(12,lnL y)],fun x=>x.1.2.length,⟨([],T),rfl⟩,?_,?_⟩
 . exact (zbe [(12,some 12)])
 rintro ⟨⟨X,Y⟩,g⟩;dsimp only at g;refine zbx fun Q hQ=>?_
 (conv=>whnf);cases Y with
 | cons m Y =>
  have gz:=zay g;refine sT ?_;refine zaj g rfl (zw ?_);refine zaj g rfl (zw ?_)
  (refine cL ?_;refine dLm (Snd.ztu m) ?_)
  refine sD ?_
  (try refine sG ?_)
  refine sF ?_;refine hQ _ _ ?_;conv=>whnf
  exact ⟨⟨(X++[m],Y),zae g⟩,(zbe [(12,some 12)]),by simp⟩
 | nil =>
 have gz:=zbk g;refine sN ?_;refine hQ _ _ ?_;conv=>whnf
 refine ⟨{x:List Int×List Int // y.sender.fates=x.1++x.2},fun | ⟨(A,B),_⟩=>hs 110 [(2,msgs T2),(3,zky L2),(12,.ptr 12 0),(16,.ptr 16 0),(84,ints y.sender.fates),(85,i64 y.sender.fates.length),(86,i64 A.length)] [(12,lnL y),(16,.live (.cells 103 (ysq A)))],fun x=>x.1.2.length,⟨([],y.sender.fates),rfl⟩,?_,?_⟩
 . exact (zbe [(12,some 12),(16,some 16)])
 rintro ⟨⟨A,B⟩,g4⟩;dsimp only at g4;refine zbx fun Q4 hQ4=>?_
 (conv=>whnf);cases B with
 | cons v B =>
  have gz:=zay g4;have hv:=hft v (by rw [g4];simp);have n1:=yqs 1 A;have n2:=yqs 2 A;have n3:=yqs 3 A;refine sT ?_;refine zaj (f:=fun n:Int=>[pi n]) g4 rfl (zw ?_);obtain rfl | hv:=(show v=1\/(v=2\/v=3) by omega)
  case inl =>
   (conv=>whnf);refine zao (z:=1-1) (zbt zz4 zz4) (zw ?_);refine ⟨0,by decide,by decide,zw ?_⟩;refine sF ?_;refine ⟨0,by decide,by decide,zw ?_⟩
   (try refine sG ?_)
   refine sF ?_;refine hQ4 _ _ (zw ?_);exact ⟨⟨(A++[1],B),zae g4⟩,(zax [(12,some 12),(16,some 16)] zz104),by simp⟩
  obtain rfl | rfl:=hv
  case inl =>
   (conv=>whnf);refine zao (z:=2-1) (zbt zz4 zz4) (zw ?_);refine ⟨1,by decide,by decide,zw ?_⟩;refine sF ?_;refine ⟨1,by decide,by decide,zw ?_⟩
   (try refine sG ?_)
   refine sF ?_;refine hQ4 _ _ (zw ?_);exact ⟨⟨(A++[2],B),zae g4⟩,(zax [(12,some 12),(16,some 16)] zz105),by simp⟩
  case inr =>
   (conv=>whnf);refine zao (z:=3-1) (zbt zz4 zz4) (zw ?_);refine ⟨2,by decide,by decide,zw ?_⟩;refine sF ?_;refine ⟨2,by decide,by decide,zw ?_⟩
   (try refine sG ?_)
   refine sF ?_;refine hQ4 _ _ (zw ?_);exact ⟨⟨(A++[3],B),zae g4⟩,(zax [(12,some 12),(16,some 16)] zz106),by simp⟩
 | nil =>
 have gz:=zbk g4;rw [zy5] at g4;rw [g4] at pcn;refine sN ?_;refine hQ4 _ _ (zw ?_)
 (refine cP ?_;refine dLm pcn ?_)
 refine ⟨by rfl,zw ?_⟩;rw [show ((nF 1 A:Int)==nF 1 A&&((nF 2 A:Int)==nF 2 A&&((nF 3 A:Int)==nF 3 A&&true)))=true by simp];(conv=>whnf)
 (refine cL ?_;refine dLm p1 ?_)
 (refine cL ?_;refine dLm p2 ?_)
 refine sD ?_;rw [show (zls T2 L2==zls T2 L2)=true from beq_self_eq_true _]
 try rfl
end Gh
end Go.HL
