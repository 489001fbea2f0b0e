/- Walks, contracts and laws of the law's functions: part 3. No condition. -/
import Derived.Test.YtodkmlfmaenlpaaQBb
import Derived.Test.YtodkmlfmaenlpaaProg
import Derived.RangeFuncNested
import Derived.RangeFuncBound
import Derived.RangeFuncCalls
import Derived.RangeFuncLeaves
import Derived.RangeFuncBox
import Derived.Shelf.Abstract
import Derived.Shelf.RegionOpen
import Derived.WalkKit
import Derived.OwnWalkIn
import Derived.RegionIn
import Derived.TacticsIn
import Derived.TacticsInMore
import Derived.LoopNIn
import Derived.LoopIn
import Derived.Maps.AppendAt
open Go.Proofs
set_option maxHeartbeats 32000000
set_option maxRecDepth 100000
set_option linter.unusedSimpArgs false
theorem yy3 {P:Prop} (h:P:=by
 refine zbp [(1000,some 1000)] rfl rfl ⟨rfl,trivial⟩ rfl rfl ⟨⟨rfl,.inl ⟨1000,rfl,rfl⟩⟩,trivial⟩):P:=h
theorem yy18 {P:Prop} (h:P:=by
 refine sN ?_;refine zbp [(1000,some 1000)] rfl rfl ⟨rfl,trivial⟩ rfl rfl ⟨⟨rfl,.inl ⟨1000,rfl,?_⟩⟩,trivial⟩;exact zbb (by rw [hL',hmrg,gw];simp)):P:=h
theorem yy24 {P:Prop} (h:P:=by
 try refine sG ?_
 exact ⟨⟨(i,(i+j) / 2),g1,by dsimp only;omega,by dsimp only;omega⟩,(zpm [(1000,some 1000)]),by dsimp only;omega⟩):P:=h
theorem yy29 {P:Prop} (h:P:=by
 try refine sG ?_
 refine sF ?_;exact ⟨⟨((i+j) / 2+1,j),c2,g2,g3⟩,(zbx [(1000,some 1000)] zz2),by dsimp only;omega⟩):P:=h
theorem yy31 {P:Prop} (h:P:=by
 try refine sG ?_
 rw [hjv];refine zbp [(0,none)] rfl rfl trivial rfl rfl ⟨⟨rfl,.inr ⟨rfl,rfl⟩⟩,trivial⟩):P:=h
theorem yy34 {P:Prop} (h:P:=by
 (conv=>whnf);refine zbp [(0,some 7)] rfl rfl trivial rfl rfl ⟨⟨rfl,.inl ⟨7,rfl,?_⟩⟩,trivial⟩
 rfl):P:=h
theorem yy0 {P:Prop} (h:P:=by
 refine hK _ _ ?_;clear hK K;refine wpAnyIn_ready (rs:=[4]) zz5 zz1 ?_;refine AllReadyIn.cons rfl (fun K hK=>?_) ?_
 . refine zxi rfl ?_
   refine zen _ _ _ 26 rfl (w.heap.size+3) 22 i0 (.slice none 0 0) 1 24 Try.underlying26 hi hz0 hz1 hz2 rfl zz6 v pre.length vs rfl (hrow'.alloc _) ⟨w'.heap.size,0,none⟩ 1 1 [.slice (some ⟨g,0,none⟩) d.length c] rfl rfl (cell_one_new _ _ _) zz26 zz15 zz0 zz13 ?_;intro v' w1 hown' hgrow;obtain ⟨g',cap',rfl⟩:=ownsRow_succ hown';obtain ⟨hv1,hv2,hr2,hk2,hb2,hq2⟩:=appended hv' zz6 hrow' (n0:=w.heap.size) zz17 (zy19 _) zz0 hown' hgrow;have hc1:=hv1.cell;have hf1:=hv1.frozen;refine hK _ _ ?_;clear hK K;refine wpAnyIn_ready (rs:=[5]) zz5 zz1 ?_;refine AllReadyIn.cons rfl (fun K hK=>?_) ?_
   . go_simp
     refine hK _ _ ?_;clear hK K;refine wpAnyIn_done zz5 ?_ _;obtain ⟨rfl⟩:=hD;exact zqz hv zdq hels hB hs3 hg1 hg2 hg3 hg4 hg5 hg6 hr2 hv2 hk2 hb2 hq2
   exact AllReadyIn.nil
 exact AllReadyIn.nil):P:=h
namespace Go.HL
theorem mixed:Try.prog.follows .mixedOrders=true:=by kernel_rfl
structure Span where
 lo:Int
 hi:Int
def Span.row (x:Span):List PV:=[pi x.lo,pi x.hi]
structure yav where
 stream:Int
 mid:Int
 ordered:Bool
def yav.row (x:yav):List PV:=[pi x.stream,pi x.mid,pb x.ordered]
structure Chunk where
 kind:Int
 tag:Int
 stream:Int
 mid:Int
 part:Int
 last:Bool
 ordered:Bool
 data:List UInt8
 spans:List Span
 room:Int
 skips:List yav
structure zah where
 number:Int
 chunk:Chunk
def zah.row (x:zah):List PV:=[pi x.number,pi x.chunk.kind,pi x.chunk.tag,pi x.chunk.stream,pi x.chunk.mid,pi x.chunk.part,pb x.chunk.last,pb x.chunk.ordered,.sl 1 (x.chunk.data.map zdt),.sl 2 (x.chunk.spans.map Span.row),pi x.chunk.room,.sl 3 (x.chunk.skips.map yav.row)]
def zah.hv (x:zah):HV:=.agg [.p (pi x.number),.p (pi x.chunk.kind),.p (pi x.chunk.tag),.p (pi x.chunk.stream),.p (pi x.chunk.mid),.p (pi x.chunk.part),.p (pb x.chunk.last),.p (pb x.chunk.ordered),.p (.sl 1 (x.chunk.data.map zdt)),.p (.sl 2 (x.chunk.spans.map Span.row)),.p (pi x.chunk.room),.p (.sl 3 (x.chunk.skips.map yav.row))]
end Go.HL
namespace Go.HL
theorem zpt {rows:List (List PV)} {o n o' n':Nat} {K:List (List PV)->Prop} (ho:o=o') (hn:n=n') (h:zkb rows o' n' K):zkb rows o n K:=by subst ho;subst hn;exact h
theorem zlj {z:Int} (h1:0<=z) (h2:z<18446744073709551616):IntKind.u64.wrap z=z:=by
 unfold IntKind.wrap;simp [IntKind.bits,IntKind.signed];omega
theorem zdk {k:IntKind} {z z':Int} {K:Int->Prop} (h:k.wrap z=z') (hk:K z'):zgf k z K:=⟨z',h.symm,hk⟩
theorem yal {α:Type} {t n:Nat} {f:α->List PV} {a b:List α} {x:α} {r:List PV} (h:b=a++[x]) (hr:f x=r):zaa.live (.row t n (a.map f++[r]))=zaa.live (.row t n (b.map f)):=by
 rw [h,zy46,<- hr];rfl
theorem zbh {α:Type} {f:α->List PV} {l a b:List α} {s:α} {z:Int} {K:List PV->Prop} (h:l=a++s::b) (hz:z=a.length) (hk:K (f s)):zdq (l.map f) z K:=by
 subst h;exact ⟨_,by omega,by rw [hz,zy64,zy5,zy28 (zy19 _)];simp,hk⟩
theorem zxl {α:Type} {f:α->List PV} (hf:∀ x,1<=zct (f x)) (l:List α):l.length<=zef (l.map f):=by
 have:=zqs (rows:=l.map f) (fun r hr=>by obtain ⟨p,_,rfl⟩:=zy8.1 hr;exact hf p)
 rwa [zy6] at this
theorem zbb {t n:Nat} {a b:List (List PV)} (h:a=b):zaa.live (.row t n a)=zaa.live (.row t n b):=by rw [h]
theorem zbk {a b:Int} (h:a=b):i64 a=i64 b:=by rw [h]
theorem znf {P:Program} {f:FuncId} {fn:Func} (_:P.funcs[f]?=some fn) {args:List HV} {r r':HV} {L:List (Nat×zaa)} (h:zbl P f args zam r (lk .free L))
 (hk:zcf (lk .free L) r fun y _=>ziz (zft P fn.resultTypes.toList y) fun y=>y=r'):zbl P f args zam r' zam:=by
 intro Γ m w vals hok hargs h0;obtain ⟨h1,h2⟩:=h Γ m w vals hok hargs h0;refine ⟨h1,h2.mono fun e w' he=>?_⟩;obtain ⟨v,m',rfl,hok',hv,hp⟩:=he;obtain ⟨y,us,hy,hview⟩:=zdz _ hk;rw [zja] at hy;subst hy;have hws:=WS.frz hok' hview.frz;have hy:=hview.rep m' w' _ v (WS.kept hview.frz hws.ok) (hws.rep hv);have hRn:∀ b,RR Γ m' (zbe (lk .free L) us) w' b->RR Γ (fun _=>none) zam w' b:=fun b hb=>⟨hb.1,hb.2.1,zhd⟩
 refine ⟨v,fun _=>none,rfl,⟨hok'.size,hok'.os,hok'.tape,hok'.output,hok'.frame,fun _ _=>rfl,(fun id b hb=>by cases hb),(fun id b hb=>by cases hb),(fun id id' b b' l l' hb=>by cases hb),hok'.dom⟩,?_,fun id l _ hl=>?_⟩
 . refine zad.zft _ ?_
   refine zry (σ:=zia) (m:=m') (R:=RR Γ m' (zbe (lk .free L) us) w') (fun i j hj=>by cases hj) (fun i hj=>by cases hj) hRn _ v hview.noid ?_;rw [zml _ hview.noid];exact hy
 . rw [hok.free id rfl] at hl;cases hl
end Go.HL
namespace Go.HL
namespace Srt
section
variable {α:Type} (key:α->Int)
def ins (x:α):List α->List α
 | []=>[x]
 | y::r=>if key x<=key y then x::y::r else y::ins x r
def srt:List α->List α
 | []=>[]
 | x::r=>ins key x (srt r)
def mrg:List α->List α->List α
 | [],v=>v
 | x::u,[]=>x::u
 | x::u,y::v=>if key x<=key y then x::mrg u (y::v) else y::mrg (x::u) v
termination_by u v=>u.length+v.length
def Sd:List α->Prop
 | []=>True
 | x::r=>(∀ y∈r,key x<=key y)/\Sd r
variable {key}
theorem zus {x z:α}:∀ {l:List α},z∈ins key x l↔z=x\/z∈l
 | []=>by simp [ins]
 | y::r=>by
  rw [ins];split
  . simp
  . simp only [zy3,zus (l:=r)]
    constructor
    . rintro (h | h | h)
      . exact .inr (.inl h)
      . exact .inl h
      . exact .inr (.inr h)
    . rintro (h | h | h)
      . exact .inr (.inl h)
      . exact .inl h
      . exact .inr (.inr h)
theorem zrp {x:α}:∀ {l:List α},(ins key x l).Perm (x::l)
 | []=>List.Perm.refl _
 | y::r=>by
  rw [ins];split
  . exact List.Perm.refl _
  . exact ((zrp (l:=r)).cons y).trans (List.Perm.swap x y r)
theorem zim:∀ {l:List α},(srt key l).Perm l
 | []=>List.Perm.refl _
 | x::r=>zrp.trans ((zim (l:=r)).cons x)
theorem zec (l:List α):(srt key l).length=l.length:=zim.length_eq
theorem zyw {x:α}:∀ {l:List α},Sd key l->Sd key (ins key x l)
 | [],_=>by simp [ins,Sd]
 | y::r,h=>by
  rw [ins];split
  . rename_i c
    refine ⟨fun z hz=>?_,h⟩;rcases zy3.1 hz with rfl | hz
    . exact c
    . exact Int.le_trans c (h.1 z hz)
  . rename_i c
    refine ⟨fun z hz=>?_,zyw h.2⟩;rcases zus.1 hz with rfl | hz
    . omega
    . exact h.1 z hz
theorem zhz:∀ {l:List α},Sd key (srt key l)
 | []=>trivial
 | _::r=>zyw (zhz (l:=r))
theorem zfr:∀ (u:List α),mrg key u []=u
 | []=>by rw [mrg]
 | x::u=>by rw [mrg]
theorem zvc (x:α):∀ (v:List α),mrg key [x] v=ins key x v
 | []=>by rw [mrg,ins]
 | y::v=>by
  rw [mrg,ins];split
  . rw [mrg]
  . rw [zvc x v]
theorem zur {x:α} {l:List α} (h:∀ y∈l,key x<=key y):ins key x l=x::l:=by
 cases l with
 | nil=>rfl
 | cons y r=>rw [ins,zy12 (h y (by simp))]
theorem zvb {z:α} (u v:List α):z∈mrg key u v↔z∈u\/z∈v:=by
 fun_induction mrg key u v with
 | case1 v=>simp
 | case2 x u=>simp
 | case3 x u y v h ih =>
  have e:z∈x::mrg key u (y::v)↔z=x\/z∈u\/z=y\/z∈v:=by rw [zy3,ih,zy3]
  rw [e,zy3,zy3,or_assoc]
 | case4 x u y v h ih =>
  have e:z∈y::mrg key (x::u) v↔z=y\/(z=x\/z∈u)\/z∈v:=by rw [zy3,ih,zy3]
  rw [e,zy3,zy3,or_left_comm]
theorem zzz (x:α) (u v:List α) (hu:Sd key u) (hv:Sd key v):mrg key (ins key x u) v=ins key x (mrg key u v):=by
 fun_induction mrg key u v with
 | case1 v=>rw [ins,zvc]
 | case2 y u=>rw [zfr]
 | case3 y u z v h ih =>
  by_cases c:key x<=key y
  . rw [ins,zy12 c,mrg,zy12 (by omega),mrg,zy12 h,ins,zy12 c]
  . rw [ins,zy14 c,mrg,zy12 h,ih hu.2 hv,ins,zy14 c]
 | case4 y u z v h ih =>
  by_cases c:key x<=key z
  . have c2:key x<=key y:=by omega
    rw [ins,zy12 c2,mrg,zy12 c,mrg,zy14 h,ins,zy12 c]
  . have hi:=ih hu hv.2
    rw [show ins key x (z::mrg key (y::u) v)=z::ins key x (mrg key (y::u) v) by rw [ins,zy14 c],<- hi];by_cases c2:key x<=key y
    . rw [show ins key x (y::u)=x::y::u by rw [ins,zy12 c2],mrg,zy14 c]
    . rw [show ins key x (y::u)=y::ins key x u by rw [ins,zy14 c2],mrg,zy14 h]
theorem zvd (u v:List α) (hu:Sd key u) (hv:Sd key v):Sd key (mrg key u v):=by
 fun_induction mrg key u v with
 | case1 v=>exact hv
 | case2 y u=>exact hu
 | case3 y u z v h ih =>
  refine ⟨fun a ha=>?_,ih hu.2 hv⟩;rcases (zvb u (z::v)).1 ha with ha | ha
  . exact hu.1 a ha
  . rcases zy3.1 ha with rfl | ha
    . exact h
    . have:=hv.1 a ha;omega
 | case4 y u z v h ih =>
  refine ⟨fun a ha=>?_,ih hu hv.2⟩;rcases (zvb (y::u) v).1 ha with ha | ha
  . rcases zy3.1 ha with rfl | ha
    . omega
    . have:=hu.1 a ha;omega
  . exact hv.1 a ha
theorem zfs (v:List α):∀ (u:List α),mrg key (srt key u) (srt key v)=srt key (u++v)
 | []=>by rw [srt,mrg];rfl
 | x::u=>by rw [srt,zzz x _ _ zhz zhz,zfs v u];rfl
theorem zey {u2 v2:List α} (u1 v1:List α) (h1:∀ a∈u1,∀ b∈v2,key a<=key b) (h2:∀ b∈v1,∀ a∈u2,key b<key a) :
 mrg key (u1++u2) (v1++v2)=mrg key u1 v1++mrg key u2 v2:=by
 fun_induction mrg key u1 v1 with
 | case1 v =>
  clear h1
  induction v with
  | nil=>rfl
  | cons y v ih =>
   have ih:=ih (fun b hb=>h2 b (by simp [hb]));cases u2 with
   | nil=>simp [mrg]
   | cons a u =>
    have:=h2 y zz1 a zz1;rw [zy47,zy21,mrg,zy14 (by omega)];rw [zy47] at ih;rw [ih];rfl
 | case2 x u =>
  have hh:∀ u:List α,(∀ a∈u,∀ b∈v2,key a<=key b)->mrg key (u++u2) v2=u++mrg key u2 v2:=by
   intro u h
   induction u with
   | nil=>rfl
   | cons x u ih =>
    cases v2 with
    | nil=>rw [zfr,zfr]
    | cons b v =>
     rw [zy21,mrg,zy12 (h x (by simp) b (by simp)),ih (fun a ha=>h a (by simp [ha]))];rfl
  exact hh (x::u) h1
 | case3 x u y v h ih =>
  rw [zy21,zy21,mrg,zy12 h,zy21];rw [<- zy21,ih (fun a ha=>h1 a (by simp [ha])) h2]
 | case4 x u y v h ih =>
  rw [zy21,zy21,mrg,zy14 h,zy21];rw [<- zy21,ih h1 (fun b hb=>h2 b (by simp [hb]))]
theorem znx {a b:List α} {y:α} (h1:∀ x∈a,key x<=key y) (h2:∀ x∈b,key y<key x):mrg key (a++b) [y]=a++y::b:=by
 have e1:=zey (key:=key) (u2:=b) (v2:=[]) a [y] zz1 (by simpa using h2);have e2:=zey (key:=key) (u2:=[]) (v2:=[y]) a [] (by simpa using h1) zz1;rw [zy45,zy47,zfr,mrg] at e2;rw [zy45,zfr,e2] at e1
 simpa using e1
theorem zxp {a b:List α} {y:α} (h1:∀ x∈a,key x<key y) (h2:∀ x∈b,key y<=key x):mrg key [y] (a++b)=a++y::b:=by
 have e1:=zey (key:=key) (u2:=[y]) (v2:=b) [] a zz1 (by simpa using h1);have e2:=zey (key:=key) (u2:=[]) (v2:=b) [y] [] (by simpa using h2) zz1;rw [zy47,mrg] at e1;rw [zy45,zy47,zfr,mrg] at e2;rw [e1,e2];rfl
theorem zop:∀ {a b:List α},Sd key (a++b)↔Sd key a/\Sd key b/\∀ x∈a,∀ y∈b,key x<=key y
 | [],b=>by simp [Sd]
 | s::a,b=>by
  simp only [zy21,Sd,zop (a:=a) (b:=b),zy13,zy3]
  constructor
  . rintro ⟨h1,h2,h3,h4⟩
    exact ⟨⟨fun y hy=>h1 y (.inl hy),h2⟩,h3,fun x hx y hy=>by rcases hx with rfl | hx;exact h1 y (.inr hy);exact h4 x hx y hy⟩
  . rintro ⟨⟨h1,h2⟩,h3,h4⟩
    exact ⟨fun y hy=>by rcases hy with hy | hy;exact h1 y hy;exact h4 s (.inl rfl) y hy,h2,h3,fun x hx=>h4 x (.inr hx)⟩
theorem zlc {l:List α} (h:Sd key l) {i j:Nat} (hj:j<l.length) (hij:i<=j):key (l[i]'zz0)<=key l[j]:=by
 induction l generalizing i j with
 | nil=>simp at hj
 | cons _ r ih =>
  cases j with
  | zero =>
   obtain rfl:i=0:=by omega
   exact Int.le_refl _
  | succ j =>
   cases i with
   | zero=>simpa using h.1 _ (List.getElem_mem zz24)
   | succ i=>simpa using ih h.2 zz24 zz0
theorem zed:∀ {l:List α},Sd key l->srt key l=l
 | [],_=>rfl
 | x::r,h=>by rw [srt,zed h.2,zur h.1]
theorem zyi (u:List α) (x:α):srt key (u++[x])=mrg key (srt key u) [x]:=by rw [<- zfs];rfl
end
end Srt
namespace Srt
theorem zwa {α:Type} {A B:List α} {x y:α} {i:Nat} (h:i=A.length):(A++x::B).set i y=A++y::B:=by
 subst h
 induction A with
 | nil=>rfl
 | cons a A ih=>simp only [zy21,zy10,List.set_cons_succ,ih]
theorem zmm {α:Type} {t n:Nat} {f:α->List PV} {l l' A B C:List α} {x y:α} {i j:Nat} {r s:List PV} (h:l=A++x::(B++y::C)) (h':l'=A++y::(B++x::C)) (hi:i=A.length) (hj:j=A.length+1+B.length) (hr:f y=r) (hs:f x=s) :
 zaa.live (.row t n (((l.map f).set i r).set j s))=zaa.live (.row t n (l'.map f)):=by
 subst h h' hr hs;rw [<- List.map_set,<- List.map_set,zwa hi,show A++y::(B++y::C)=(A++y::B)++y::C by simp,zwa (by simp;omega)];simp
theorem zoj {α:Type} {t n:Nat} {f:α->List PV} {l l' A B C:List α} {x y:α} {i j:Nat} {r s:List PV} (h:l=A++x::(B++y::C)) (h':l'=A++y::(B++x::C)) (hi:i=A.length) (hj:j=A.length+1+B.length) (hr:f y=r) (hs:f x=s) :
 zaa.live (.row t n (((l.map f).set j s).set i r))=zaa.live (.row t n (l'.map f)):=by
 rw [List.set_comm _ _ (by omega)];exact zmm h h' hi hj hr hs
theorem zdj {α:Type} {f:α->List PV} {l A B:List α} {y:α} {i:Nat} {r:List PV} {z:Int} {K:List PV->Prop} (h:l=A++y::B) (hz:z=A.length) (hi:i≠A.length) (hk:K (f y)):zdq ((l.map f).set i r) z K :=
 ⟨f y,by omega,by rw [hz,zy64,List.getElem?_set_ne hi,h];simp,hk⟩
abbrev ck (p:zah):Int:=p.chunk.part
abbrev H1 (l:List zah):List (Nat×zaa):=[(1000,.live (.row 36 12 (l.map zah.row)))]
def cmp (a b:zah):Int:=if ck a<ck b then -1 else if ck a>ck b then 1 else 0
def zmu (g:FuncId):Prop:=∀ a b:zah,zbl Try.prog g [a.hv,b.hv] zam (i64 (cmp a b)) zam
theorem zes {a b:zah}:cmp a b<0↔ck a<ck b:=by unfold cmp;split<;>(try split)<;>omega
theorem zwf {g:FuncId} (P M Q X Y:List zah) (hxy:X.length=Y.length) (hb:(P++X++M++Y++Q).length<2 ^ 40) (a b n:Int) (ha:a=P.length) (hb':b=(P++X++M).length) (hn:n=X.length) :
 zbl Try.prog 22 [.own 1000,i64 a,i64 b,i64 n,.clo g []] (lk .free (H1 (P++X++M++Y++Q))) (.tup []) (lk .free (H1 (P++Y++M++X++Q))):=by
 refine zce mixed Try.func22 zz6 [1000] zek ?_;(conv=>whnf);refine ⟨{x:(List zah×List zah)×(List zah×List zah) // X=x.1.1++x.1.2/\Y=x.2.1++x.2.2/\x.1.1.length=x.2.1.length},fun | ⟨((X1,X2),(Y1,Y2)),_⟩=>hsP [1000] 38 [(0,.own 1000),(1,i64 a),(2,i64 b),(3,i64 n),(10,i64 X1.length)] (H1 (P++Y1++X2++M++X1++Y2++Q)),fun x=>x.1.1.2.length,⟨(([],X),([],Y)),rfl,rfl,rfl⟩,?_,?_⟩
 . exact (zbx [(1000,some 1000)] (by repeat' (first | exact z0 | refine z1 ?_ | refine ⟨?_,?_⟩ | ((exact zbb (by simp))) | exact z2)))
 rintro ⟨⟨⟨X1,X2⟩,⟨Y1,Y2⟩⟩,hX,hY,h12⟩;dsimp only at hX hY h12;have lX:X.length=X1.length+X2.length:=by rw [hX];simp
 have lY:Y.length=Y1.length+Y2.length:=by rw [hY];simp
 simp only [zy7] at hb hb';(conv=>whnf);cases X2 with
 | nil =>
  have:Y2=[]:=zy2 (by rw [zy22] at lX;omega);subst this;rw [zy22] at lX;rw [zy45] at hX hY;subst hX hY;refine sN ?_;refine zbp [(1000,some 1000)] rfl rfl ⟨rfl,trivial⟩ rfl rfl ⟨⟨rfl,.inl ⟨1000,rfl,?_⟩⟩,trivial⟩;exact zbb zz1
 | cons x X2 =>
  cases Y2 with
  | nil=>simp at lX lY;omega
  | cons y Y2 =>
   rw [zy10] at lX lY;have e1:P++Y1++x::X2++M++X1++y::Y2++Q=(P++Y1)++x::((X2++M++X1)++y::(Y2++Q)):=by simp
   have e2:P++Y1++x::X2++M++X1++y::Y2++Q=(P++Y1++x::X2++M++X1)++y::(Y2++Q):=by simp
   refine sT ?_;refine sF ?_;refine sF ?_;refine sF ?_;refine sO ?_;refine zbh e2 ?_ ?_
   . simp;omega
   (conv=>whnf);refine sF ?_;refine sO ?_;refine zbh e1 ?_ ?_
   . simp;omega
   (conv=>whnf);refine sO ?_;refine zbh e1 ?_ ?_
   . simp;omega
   (conv=>whnf);refine sO ?_;refine zdj e2 ?_ ?_ ?_
   . simp;omega
   . simp;omega
   (conv=>whnf);refine sD ?_;refine sF ?_;refine ⟨⟨((X1++[x],X2),(Y1++[y],Y2)),by rw [hX];simp,by rw [hY];simp,by simp;omega⟩,(zbx [(1000,some 1000)] (by repeat' (first | exact z0 | refine z1 ?_ | refine ⟨?_,?_⟩ | ((refine zmm e1 (by simp) ?_ ?_ rfl rfl<;>(simp;try omega))) | exact z2))),by simp⟩
theorem zez {g:FuncId} {L L':List zah} (P M Q X Y:List zah) (h1:L=P++X++M++Y++Q) (h2:L'=P++Y++M++X++Q) (hxy:X.length=Y.length) (hb:L.length<2 ^ 40) (a b n:Int) (ha:a=P.length) (hb':b=(P++X++M).length) (hn:n=X.length) :
 zbl Try.prog 22 [.own 1000,i64 a,i64 b,i64 n,.clo g []] (lk .free (H1 L)) (.tup []) (lk .free (H1 L')):=by
 subst h1 h2;exact zwf P M Q X Y hxy hb a b n ha hb' hn
theorem zqi {g:FuncId} (P Q U V:List zah) (hU:U≠[]) (hV:V≠[]) (hb:(P++U++V++Q).length<2 ^ 40) (a m b:Int) (ha:a=P.length) (hm:m=(P++U).length) (hb':b=(P++U++V).length) :
 zbl Try.prog 21 [.own 1000,i64 a,i64 m,i64 b,.clo g []] (lk .free (H1 (P++U++V++Q))) (.tup []) (lk .free (H1 (P++V++U++Q))):=by
 refine zce mixed Try.func21 zz6 [1000] zek ?_;simp only [zy7] at hb hm hb';have hU0:=zy11.2 hU;have hV0:=zy11.2 hV;generalize hT:P++V++U++Q=T;(conv=>whnf);refine sF ?_;refine sF ?_;refine ⟨{x:(List zah×List zah)×(List zah×List zah) // x.1.1++x.2.1++x.1.2++x.2.2=T/\x.1.1.length+x.1.2.length=P.length+U.length/\0<x.1.2.length/\0<x.2.1.length/\x.1.1.length+x.1.2.length+x.2.1.length+x.2.2.length=P.length+U.length+V.length+Q.length},
  fun | ⟨((P',U'),(V',Q')),_⟩=>hsP [1000] 58 [(0,.own 1000),(2,i64 m),(4,.clo g []),(10,i64 U'.length),(11,i64 V'.length)] (H1 (P'++U'++V'++Q')),fun x=>x.1.1.2.length+x.1.2.1.length,⟨((P,U),(V,Q)),by simpa using hT,rfl,hU0,hV0,rfl⟩,?_,?_⟩
 . exact (zbx [(1000,some 1000)] (by repeat' (first | exact z0 | refine z1 ?_ | refine ⟨?_,?_⟩ | ((exact zbk (by omega))) | exact z2)))
 clear hT hU hV;rintro ⟨⟨⟨P',U'⟩,⟨V',Q'⟩⟩,h1,h2,h3,h4,h5⟩;dsimp only at h1 h2 h3 h4 h5;subst hm;(conv=>whnf);by_cases c:U'.length=V'.length
 . refine sN ?_
   refine sF ?_
   (refine zbg [] [(1000,1000)] [] ?_;(conv=>whnf);refine dG (zez (L:=P'++U'++V'++Q') (L':=T) P' [] Q' U' V' zz1 (by rw [<- h1];simp) c zz3 _ _ _ zz3 zz3 rfl) ?_ ⟨rfl,rfl,rfl,⟨zz4,trivial⟩,trivial,rfl,rfl,rfl⟩)
   exact yy3
 . refine sT ?_
   by_cases c2:U'.length>V'.length
   . obtain ⟨A,B,rfl,hA⟩:∃ A B,U'=A++B/\A.length=V'.length:=⟨U'.take V'.length,U'.drop V'.length,by simp,by simp;omega⟩
     simp only [zy7] at h2 h3 h5 c c2;refine zat zz3 (zw ?_)
     try refine sG ?_
     refine sF ?_
     (refine zbg [] [(1000,1000)] [] ?_;(conv=>whnf);refine dG (zez (L:=P'++(A++B)++V'++Q') (L':=P'++V'++B++A++Q') P' B Q' A V' zz1 rfl hA om _ _ _ om om om) ?_ ⟨rfl,rfl,rfl,⟨zz4,trivial⟩,trivial,rfl,rfl,rfl⟩)
     refine sF ?_;refine ⟨⟨((P'++V',B),(A,Q')),by rw [<- h1];simp,by simp;omega,by dsimp only;omega,by dsimp only;omega,by simp;omega⟩,(zbx [(1000,some 1000)] zz2),by simp;omega⟩
   . obtain ⟨A,B,rfl,hB⟩:∃ A B,V'=A++B/\B.length=U'.length:=⟨V'.take (V'.length-U'.length),V'.drop (V'.length-U'.length),by simp,by simp;omega⟩
     simp only [zy7] at h2 h4 h5 c c2;refine zap zz3 (zw ?_)
     try refine sG ?_
     refine sF ?_;refine sF ?_;refine sF ?_
     (refine zbg [] [(1000,1000)] [] ?_;(conv=>whnf);refine dG (zez (L:=P'++U'++(A++B)++Q') (L':=P'++B++A++U'++Q') P' A Q' U' B zz1 rfl hB.symm om _ _ _ om om om) ?_ ⟨rfl,rfl,rfl,⟨zz4,trivial⟩,trivial,rfl,rfl,rfl⟩)
     refine sF ?_;refine ⟨⟨((P',B),(A,U'++Q')),by rw [<- h1];simp,by simp;omega,by dsimp only;omega,by dsimp only;omega,by simp;omega⟩,(zbx [(1000,some 1000)] (by repeat' (first | exact z0 | refine z1 ?_ | refine ⟨?_,?_⟩ | ((exact zbk om)) | ((exact zbb (by simp))) | exact z2))),by simp;omega⟩
theorem zjm {α:Type} (l:List α):l=[]\/∃ a x,l=a++[x]:=by
 rcases List.eq_nil_or_concat l with h | ⟨a,x,h⟩
 . exact .inl h
 . exact .inr ⟨a,x,by rw [h,List.concat_eq_append]⟩
theorem ztg {g:FuncId} (hg:zmu g) (P X Q:List zah) (hb:(P++X++Q).length<2 ^ 40) (a b:Int) (ha:a=P.length) (hb':b=(P++X).length) :
 zbl Try.prog 19 [.own 1000,i64 a,i64 b,.clo g []] (lk .free (H1 (P++X++Q))) (.tup []) (lk .free (H1 (P++srt ck X++Q))):=by
 refine zce mixed Try.func19 zz6 [1000] zek ?_;simp only [zy7] at hb hb';(conv=>whnf);refine sF ?_;cases X with
 | nil =>
  refine ⟨Unit,fun _=>hsP [1000] 53 [(0,.own 1000),(1,i64 a),(2,i64 b),(3,.clo g []),(8,i64 (a+1))] (H1 (P++[]++Q)),fun _=>0,(),?_,fun _=>?_⟩
  . exact (zpm [(1000,some 1000)])
  (conv=>whnf);refine zap (by simp at hb' ⊢;omega) (zw ?_)
  try refine sG ?_
  exact yy3
 | cons x0 X =>
  refine ⟨{x:List zah×List zah // x0::X=x.1++x.2/\0<x.1.length},fun | ⟨(A,B),_⟩=>hsP [1000] 53 [(0,.own 1000),(1,i64 a),(2,i64 b),(3,.clo g []),(8,i64 (P.length+A.length:Nat))] (H1 (P++srt ck A++B++Q)),fun x=>x.1.2.length,⟨([x0],X),rfl,by simp⟩,?_,?_⟩
  . exact (zbx [(1000,some 1000)] (by repeat' (first | exact z0 | refine z1 ?_ | refine ⟨?_,?_⟩ | ((exact zbk om)) | ((exact zbb (by simp [srt,ins]))) | exact z2)))
  rintro ⟨⟨A,B⟩,h,hA⟩;dsimp only at h hA;have hl:(x0::X).length=A.length+B.length:=by rw [h];simp
  rw [hl] at hb hb';have hS:=zec (key:=ck) A;(conv=>whnf);cases B with
  | nil =>
   rw [zy22] at hb hb';rw [zy45] at h;refine sN ?_;refine zbp [(1000,some 1000)] rfl rfl ⟨rfl,trivial⟩ rfl rfl ⟨⟨rfl,.inl ⟨1000,rfl,?_⟩⟩,trivial⟩;exact zbb (by rw [h];simp)
  | cons x B =>
   rw [zy10] at hb hb';refine zat zz3 (zw ?_)
   try refine sG ?_
   have hsd:=zhz (key:=ck) (l:=A);have hsn:=zyi (key:=ck) A x;obtain ⟨S,hSe⟩:∃ S,S=srt ck A:=⟨_,rfl⟩
   rw [<- hSe] at hS hsd hsn;refine ⟨{y:List zah×List zah // S=y.1++y.2/\∀ z∈y.2,ck x<ck z},fun | ⟨(S1,S2),_⟩=>hsP [1000] 53 [(0,.own 1000),(1,i64 a),(2,i64 b),(3,.clo g []),(8,i64 (P.length+A.length:Nat)),(9,i64 (P.length+S1.length:Nat))] (H1 (P++S1++x::(S2++B++Q))),fun y=>y.1.1.length,⟨(S,[]),by simp,by simp⟩,?_,?_⟩
   . exact (zbx [(1000,some 1000)] (by repeat' (first | exact z0 | refine z1 ?_ | refine ⟨?_,?_⟩ | ((exact zbk om)) | ((exact zbb (by simp [hSe]))) | exact z2)))
   rintro ⟨⟨S1,S2⟩,g1,g2⟩;dsimp only at g1 g2;have hSl:S.length=S1.length+S2.length:=by rw [g1];simp
   have fin:∀ (hle:∀ z∈S1,ck z<=ck x),srt ck (A++[x])=S1++x::S2:=fun hle=>by rw [hsn,g1];exact znx hle g2
   (conv=>whnf);rcases zjm S1 with rfl | ⟨S1,y,rfl⟩
   . refine zap zz3 (zw ?_)
     refine sD ?_;refine sF ?_;exact ⟨⟨(A++[x],B),by rw [h];simp,by simp⟩,(zbx [(1000,some 1000)] (by repeat' (first | exact z0 | refine z1 ?_ | refine ⟨?_,?_⟩ | ((exact zbk om)) | ((exact zbb (by rw [fin (by simp)];simp))) | exact z2))),by simp⟩
   . have e1:P++(S1++[y])++x::(S2++B++Q)=(P++S1)++y::([]++x::(S2++B++Q)):=by simp
     have e2:P++(S1++[y])++x::(S2++B++Q)=(P++S1++[y])++x::(S2++B++Q):=by simp
     simp only [zy7,zy10,zy22] at hSl;refine zat zz3 (zw ?_);refine sO ?_;refine zbh e2 zz3 (zw ?_);refine sF ?_;refine sO ?_;refine zbh e1 zz3 (zw ?_)
     (refine cZ ?_;refine dL (hg x y) ?_)
     refine sD ?_;by_cases c:cmp x y<0
     . refine sT ?_
       refine sF ?_;refine sF ?_;refine sO ?_;refine zbh e1 zz3 (zw ?_);refine sO ?_;refine zbh e2 zz3 (zw ?_);refine sO ?_;refine zbh e2 zz3 (zw ?_);refine sO ?_;refine zdj e1 zz3 zz3 (zw ?_);refine sD ?_;refine sF ?_;refine ⟨⟨(S1,y::S2),by rw [g1];simp,fun z hz=>?_⟩,(zbx [(1000,some 1000)] zz7),by simp⟩;rcases zy3.1 hz with rfl | hz
       . exact zes.1 c
       . exact g2 z hz
     . have hle:∀ z∈S1++[y],ck z<=ck x:=fun z hz=>by
        have h1:¬ ck x<ck y:=fun h=>c (zes.2 h)
        rw [g1] at hsd;have h2:=(zop.1 (zop.1 hsd).1).2.2;rcases zy13.1 hz with hz | hz
        . have:=h2 z hz y zz1;omega
        . rw [zy49.1 hz];omega
       refine sN ?_;refine sF ?_;exact ⟨⟨(A++[x],B),by rw [h];simp,by simp⟩,(zbx [(1000,some 1000)] (by repeat' (first | exact z0 | refine z1 ?_ | refine ⟨?_,?_⟩ | ((exact zbk om)) | ((exact zbb (by rw [fin hle];simp))) | exact z2))),by simp⟩
theorem zmb {α:Type} {f:α->List PV} {l A V B:List α} {z:Int} {K:List PV->Prop} (k:Nat) (h:l=A++V++B) (hk:k<V.length) (hz:z=A.length+k) (hK:K (f V[k])):zdq (l.map f) z K:=by
 subst h;refine ⟨_,by omega,?_,hK⟩;have:z.toNat=A.length+k:=by omega
 rw [this,zy5,zy37,zy28 (by omega),zy26 (by omega)];simp [hk]
theorem zvn (p:zah->Prop) [DecidablePred p]:∀ {V:List zah},(∀ i j (hj:j<V.length) (hij:i<=j),p V[j]->p (V[i]'zz0))->∃ V1 V2,V=V1++V2/\(∀ z∈V1,p z)/\∀ z∈V2,¬ p z
 | [],_=>⟨[],[],rfl,by simp,by simp⟩
 | y::V,h=>by
  by_cases c:p y
  . obtain ⟨V1,V2,e,h1,h2⟩:=zvn p (V:=V) fun i j hj hij hp=>by
     have:=h (i+1) (j+1) zz24 zz0 (by simpa using hp)
     simpa using this
    exact ⟨y::V1,V2,by rw [e];rfl,fun z hz=>by rcases zy3.1 hz with rfl | hz;exact c;exact h1 z hz,h2⟩
  . refine ⟨[],y::V,rfl,by simp,fun z hz hp=>?_⟩
    obtain ⟨j,hj,rfl⟩:=List.getElem_of_mem hz;exact c (h 0 j hj (zy79 _) hp)
theorem mem_left {V V1 V2:List zah} (h:V=V1++V2) {k:Nat} (hk:k<V.length) (h1:k<V1.length):V[k]∈V1:=by
 subst h;rw [List.getElem_append_left h1];exact List.getElem_mem h1
theorem znw {V V1 V2:List zah} (h:V=V1++V2) {k:Nat} (hk:k<V.length) (h1:¬ k<V1.length):V[k]∈V2:=by
 subst h;rw [List.getElem_append_right (by omega)];exact List.getElem_mem _
end Srt
namespace Srt
theorem zth {g:FuncId} (hg:zmu g) (P U V Q L L':List zah) (hL:L=P++U++V++Q) (hL':L'=P++mrg ck U V++Q) (hU:U≠[]) (hV:V≠[]) (sU:Sd ck U) (sV:Sd ck V) (hb:L.length<2 ^ 40) (a m b:Int) (ha:a=P.length) (hm:m=(P++U).length) (hb':b=(P++U++V).length) (c1:U.length=1) :
 zbl Try.prog 20 [.own 1000,i64 a,i64 m,i64 b,.clo g []] (lk .free (H1 L)) (.tup []) (lk .free (H1 L')):=by
 have hU0:=zy11.2 hU;have hV0:=zy11.2 hV;rw [hL] at hb;simp only [zy7] at hb hm hb';refine zce mixed Try.func20 zz6 [1000] zek ?_;(conv=>whnf);refine sF ?_;refine sT ?_;obtain ⟨x,rfl⟩:∃ x,U=[x]:=List.length_eq_one_iff.1 c1;obtain ⟨V1,V2,hVV,h1,h2⟩:=zvn (fun z=>ck z<ck x) (V:=V) fun i j hj hij hp=>by
  have:=zlc sV hj hij;omega
 have hmrg:mrg ck [x] V=V1++x::V2:=by rw [hVV];exact zxp h1 fun z hz=>by have:=h2 z hz;omega
 have hVl:V.length=V1.length+V2.length:=by rw [hVV];simp
 rw [zy75] at hb hm hb';refine ⟨{x:Nat×Nat // x.1<=V1.length/\V1.length<=x.2/\x.2<=V.length},fun | ⟨(i,j),_⟩=>hsP [1000] 220 [(0,.own 1000),(1,i64 a),(2,i64 m),(3,i64 b),(4,.clo g []),(10,i64 (P.length+1+i:Nat)),(11,i64 (P.length+1+j:Nat))] (H1 L),fun x=>x.1.2-x.1.1,⟨(0,V.length),by omega,by omega,zy19 _⟩,?_,?_⟩
 . exact (zbx [(1000,some 1000)] zz2)
 rintro ⟨⟨i,j⟩,g1,g2,g3⟩;dsimp only at g1 g2 g3;(conv=>whnf);by_cases c:i<j
 . have hlt:(i+j) / 2<V.length:=by omega
   refine sT ?_;refine sF ?_;refine zdk (zlj zz0 zz0) (zw ?_);refine zas zz6 (zw ?_);refine zdk (z':=((P.length+1+(i+j) / 2:Nat):Int)) ?_ ?_
   . show W ((((P.length+1+i:Nat):Int)+((P.length+1+j:Nat):Int)) / 2)=_
     rw [zoz (by omega) (by omega)];omega
   (conv=>whnf);refine zas zz20 (zw ?_);refine zmb ((i+j) / 2) (show L=(P++[x])++V++Q from hL) hlt om (zw ?_);refine zas zz20 (zw ?_);refine zbh (show L=P++x::(V++Q) by rw [hL];simp) zz3 (zw ?_)
   (refine cZ ?_;refine dL (hg _ x) ?_)
   refine sD ?_;by_cases c2:(i+j) / 2<V1.length
   . have hk:=h1 _ (mem_left hVV hlt c2)
     refine zat (zy61 (zes.2 hk)) (zw ?_);exact yy29
   . have hk:=h2 _ (znw hVV hlt c2)
     refine zap (decide_eq_false fun h=>hk (zes.1 h)) (zw ?_);exact yy24
 . obtain rfl:i=V1.length:=by omega
   refine sN ?_;refine ⟨{y:List zah×List zah // V1=y.1++y.2},fun | ⟨(W1,W2),_⟩=>hsP [1000] 220 [(0,.own 1000),(10,i64 (P.length+1+V1.length:Nat)),(13,i64 (P.length+W1.length:Nat))] (H1 (P++W1++x::(W2++V2++Q))),fun y=>y.1.2.length,⟨([],V1),rfl⟩,?_,?_⟩
   . exact (zbx [(1000,some 1000)] (by repeat' (first | exact z0 | refine z1 ?_ | refine ⟨?_,?_⟩ | ((exact zbk om)) | ((exact zbb (by rw [hL,hVV];simp))) | exact z2)))
   rintro ⟨⟨W1,W2⟩,gw⟩;dsimp only at gw;have hW:V1.length=W1.length+W2.length:=by rw [gw];simp
   (conv=>whnf);refine sF ?_;cases W2 with
   | nil =>
    rw [zy22] at hW;exact yy18
   | cons y W2 =>
    rw [zy10] at hW;have e1:P++W1++x::(y::W2++V2++Q)=(P++W1)++x::([]++y::(W2++V2++Q)):=by simp
    have e2:P++W1++x::(y::W2++V2++Q)=(P++W1++[x])++y::(W2++V2++Q):=by simp
    refine sT ?_;refine sF ?_;refine sF ?_;refine sO ?_;refine zbh e2 om (zw ?_);refine sO ?_;refine zbh e1 om (zw ?_);refine sO ?_;refine zbh e1 om (zw ?_);refine sO ?_;refine zdj e2 om om (zw ?_);refine sD ?_;refine sF ?_;exact ⟨⟨(W1++[y],W2),by rw [gw];simp⟩,(zbx [(1000,some 1000)] (by repeat' (first | exact z0 | refine z1 ?_ | refine ⟨?_,?_⟩ | ((exact zbk om)) | ((refine zmm e1 (by simp) ?_ ?_ rfl rfl<;>(simp;try omega))) | exact z2))),by simp⟩
end Srt
namespace Srt
theorem zti {g:FuncId} (hg:zmu g) (P U V Q L L':List zah) (hL:L=P++U++V++Q) (hL':L'=P++mrg ck U V++Q) (hU:U≠[]) (hV:V≠[]) (sU:Sd ck U) (sV:Sd ck V) (hb:L.length<2 ^ 40) (a m b:Int) (ha:a=P.length) (hm:m=(P++U).length) (hb':b=(P++U++V).length) (c1:¬ U.length=1) (c2:V.length=1) :
 zbl Try.prog 20 [.own 1000,i64 a,i64 m,i64 b,.clo g []] (lk .free (H1 L)) (.tup []) (lk .free (H1 L')):=by
 have hU0:=zy11.2 hU;have hV0:=zy11.2 hV;rw [hL] at hb;simp only [zy7] at hb hm hb';refine zce mixed Try.func20 zz6 [1000] zek ?_;(conv=>whnf);refine sF ?_;refine sN ?_;refine sF ?_;refine sT ?_;obtain ⟨y,rfl⟩:∃ y,V=[y]:=List.length_eq_one_iff.1 c2;obtain ⟨U1,U2,hUU,h1,h2⟩:=zvn (fun z=>ck z<=ck y) (V:=U) fun i j hj hij hp=>by
  have:=zlc sU hj hij;omega
 have hmrg:mrg ck U [y]=U1++y::U2:=by rw [hUU];exact znx h1 fun z hz=>by have:=h2 z hz;omega
 have hUl:U.length=U1.length+U2.length:=by rw [hUU];simp
 rw [zy75] at hb hb';refine ⟨{x:Nat×Nat // x.1<=U1.length/\U1.length<=x.2/\x.2<=U.length},fun | ⟨(i,j),_⟩=>hsP [1000] 220 [(0,.own 1000),(1,i64 a),(2,i64 m),(3,i64 b),(4,.clo g []),(14,i64 (P.length+i:Nat)),(15,i64 (P.length+j:Nat))] (H1 L),fun x=>x.1.2-x.1.1,⟨(0,U.length),by omega,by omega,zy19 _⟩,?_,?_⟩
 . exact (zbx [(1000,some 1000)] zz2)
 rintro ⟨⟨i,j⟩,g1,g2,g3⟩;dsimp only at g1 g2 g3;(conv=>whnf);by_cases c:i<j
 . have hlt:(i+j) / 2<U.length:=by omega
   refine sT ?_;refine sF ?_;refine zdk (zlj zz0 zz0) (zw ?_);refine zas zz6 (zw ?_);refine zdk (z':=((P.length+(i+j) / 2:Nat):Int)) ?_ ?_
   . show W ((((P.length+i:Nat):Int)+((P.length+j:Nat):Int)) / 2)=_
     rw [zoz (by omega) (by omega)];omega
   (conv=>whnf);refine zas zz20 (zw ?_);refine zbh (show L=(P++U)++y::Q by rw [hL];simp) om (zw ?_);refine zas zz20 (zw ?_);refine zmb ((i+j) / 2) (show L=P++U++([y]++Q) by rw [hL];simp) hlt om (zw ?_)
   (refine cZ ?_;refine dL (hg y _) ?_)
   refine sD ?_;by_cases c2:(i+j) / 2<U1.length
   . have hk:=h1 _ (mem_left hUU hlt c2)
     have hc:decide (cmp y U[(i+j) / 2]<0)=false:=decide_eq_false fun h=>by have:=zes.1 h;omega
     refine zat (by rw [hc];rfl) (zw ?_);exact yy29
   . have hk:=h2 _ (znw hUU hlt c2)
     have hc:decide (cmp y U[(i+j) / 2]<0)=true:=zy61 (zes.2 zz0);refine zap (by rw [hc];rfl) (zw ?_);exact yy24
 . obtain rfl:i=U1.length:=by omega
   refine sN ?_;refine ⟨{z:List zah×List zah // U2=z.1++z.2},fun | ⟨(W1,W2),_⟩=>hsP [1000] 220 [(0,.own 1000),(14,i64 (P.length+U1.length:Nat)),(17,i64 (P.length+U1.length+W1.length:Nat))] (H1 (P++U1++W1++y::(W2++Q))),fun z=>z.1.1.length,⟨(U2,[]),by simp⟩,?_,?_⟩
   . exact (zbx [(1000,some 1000)] (by repeat' (first | exact z0 | refine z1 ?_ | refine ⟨?_,?_⟩ | ((exact zbk om)) | ((exact zbb (by rw [hL,hUU];simp))) | exact z2)))
   rintro ⟨⟨W1,W2⟩,gw⟩;dsimp only at gw;have hW:U2.length=W1.length+W2.length:=by rw [gw];simp
   (conv=>whnf);rcases zjm W1 with rfl | ⟨W1,z,rfl⟩
   . rw [zy22] at hW
     exact yy18
   . simp only [zy7,zy10,zy22] at hW
     have e1:P++U1++(W1++[z])++y::(W2++Q)=(P++U1++W1)++z::([]++y::(W2++Q)):=by simp
     have e2:P++U1++(W1++[z])++y::(W2++Q)=(P++U1++W1++[z])++y::(W2++Q):=by simp
     refine zat zz3 (zw ?_)
     try refine sG ?_
     refine sF ?_;refine sF ?_;refine sO ?_;refine zbh e1 zz3 (zw ?_);refine sO ?_;refine zbh e2 zz3 (zw ?_);refine sO ?_;refine zbh e2 zz3 (zw ?_);refine sO ?_;refine zdj e1 zz3 zz3 (zw ?_);refine sD ?_;refine sF ?_;exact ⟨⟨(W1,z::W2),by rw [gw];simp⟩,(zbx [(1000,some 1000)] zz7),by simp⟩
end Srt
namespace Srt
structure Part (U V:List zah) (h s:Nat):Prop where
 hs:s<=h
 hv:h-s<=V.length
 hu:s<=U.length
 lo:∀ x∈U.take s,∀ z∈V.drop (h-s),ck x<=ck z
 hi:∀ z∈V.take (h-s),∀ x∈U.drop s,ck z<ck x
theorem zhx {α:Type} {l:List α} {n:Nat} {x:α} (h:x∈l.take n):∃ i,∃ hi:i<l.length,i<n/\x=l[i]:=by
 obtain ⟨i,hi,rfl⟩:=List.getElem_of_mem h;rw [zy32] at hi;exact ⟨i,by omega,by omega,by simp⟩
theorem zhw {α:Type} {l:List α} {n:Nat} {x:α} (h:x∈l.drop n):∃ i,∃ hi:i<l.length,n<=i/\x=l[i]:=by
 obtain ⟨i,hi,rfl⟩:=List.getElem_of_mem h;rw [zy34] at hi;exact ⟨n+i,by omega,by omega,by simp⟩
def LoB (U V:List zah) (h s:Nat):Prop:=∃ i j,∃ (h1:i<U.length) (h2:j<V.length),i+1=s/\j+s=h/\ck U[i]<=ck V[j]
def HiB (U V:List zah) (h s:Nat):Prop:=∃ i j,∃ (h1:i<U.length) (h2:j<V.length),i=s/\j+1+s=h/\ck V[j]<ck U[i]
theorem yah {U V:List zah} {h s s0 r0:Nat} (sU:Sd ck U) (sV:Sd ck V) (h0:s0<=s) (h1:s<=r0) (hr:r0<=h) (hru:r0<=U.length) (hv:h-s0<=V.length)
 (e0:s0=0\/h-s0=V.length) (e1:r0=h\/r0=U.length) (p0:s=s0\/LoB U V h s)
 (p1:s=r0\/HiB U V h s):Part U V h s:=by
 refine ⟨by omega,by omega,by omega,fun x hx z hz=>?_,fun z hz x hx=>?_⟩
 . obtain ⟨i,hi,hi2,rfl⟩:=zhx hx
   obtain ⟨j,hj,hj2,rfl⟩:=zhw hz;rcases p0 with p0 | ⟨i',j',k1,k2,k3,k4,k5⟩
   . rcases e0 with e0 | e0<;>omega
   . have a1:=zlc sU (i:=i) k1 zz0
     have a2:=zlc sV (i:=j') hj zz0;omega
 . obtain ⟨j,hj,hj2,rfl⟩:=zhx hz
   obtain ⟨i,hi,hi2,rfl⟩:=zhw hx;rcases p1 with p1 | ⟨i',j',k1,k2,k3,k4,k5⟩
   . rcases e1 with e1 | e1<;>omega
   . have a1:=zlc sU (i:=i') hi zz0
     have a2:=zlc sV (i:=j) k2 zz0;omega
theorem Part.merge {U V:List zah} {h s:Nat} (p:Part U V h s):mrg ck U V=mrg ck (U.take s) (V.take (h-s))++mrg ck (U.drop s) (V.drop (h-s)):=by
 have:=zey (key:=ck) (u2:=U.drop s) (v2:=V.drop (h-s)) (U.take s) (V.take (h-s)) p.lo p.hi
 rwa [zy25,zy25] at this
theorem zvz {l:List zah} (h:Sd ck l) (n:Nat):Sd ck (l.take n):=by
 rw [<- zy25 n l] at h;exact (zop.1 h).1
theorem zvy {l:List zah} (h:Sd ck l) (n:Nat):Sd ck (l.drop n):=by
 rw [<- zy25 n l] at h;exact (zop.1 h).2.1
theorem zkh {g:FuncId} {L L':List zah} (P Q U V:List zah) (h1:L=P++U++V++Q) (h2:L'=P++V++U++Q) (hU:U≠[]) (hV:V≠[]) (hb:L.length<2 ^ 40) (a m b:Int) (ha:a=P.length) (hm:m=(P++U).length) (hb':b=(P++U++V).length) :
 zbl Try.prog 21 [.own 1000,i64 a,i64 m,i64 b,.clo g []] (lk .free (H1 L)) (.tup []) (lk .free (H1 L')):=by
 subst h1 h2;exact zqi P Q U V hU hV hb a m b ha hm hb'
theorem zrv {U V:List zah} (h:U=[]\/V=[]):mrg ck U V=U++V:=by
 rcases h with rfl | rfl
 . rw [mrg];rfl
 . rw [zfr];simp
theorem zqb (U V:List zah):(mrg ck U V).length=U.length+V.length:=by
 fun_induction mrg ck U V<;>simp_all<;>omega
theorem zmo {g:FuncId} (hg:zmu g):∀ (n:Nat) (P U V Q L L':List zah) (_:L=P++U++V++Q) (_:L'=P++mrg ck U V++Q) (_:U.length+V.length<=n) (_:U≠[]) (_:V≠[]) (_:Sd ck U) (_:Sd ck V) (_:L.length<2 ^ 40) (a m b:Int) (_:a=P.length) (_:m=(P++U).length) (_:b=(P++U++V).length),
 zbl Try.prog 20 [.own 1000,i64 a,i64 m,i64 b,.clo g []] (lk .free (H1 L)) (.tup []) (lk .free (H1 L'))
 | 0,P,U,V,Q,L,L',hL,hL',hn,hU,hV,sU,sV,hb,a,m,b,ha,hm,hb'=>by
  have:=zy11.2 hU;omega
 | n+1,P,U,V,Q,L,L',hL,hL',hn,hU,hV,sU,sV,hb,a,m,b,ha,hm,hb'=>by
  by_cases c1:U.length=1
  . exact zth hg P U V Q L L' hL hL' hU hV sU sV hb a m b ha hm hb' c1
  by_cases c2:V.length=1
  . exact zti hg P U V Q L L' hL hL' hU hV sU sV hb a m b ha hm hb' c1 c2
  have ih:=zmo hg n;have hU0:=zy11.2 hU;have hV0:=zy11.2 hV;have hLl:L.length=P.length+U.length+V.length+Q.length:=by rw [hL];simp;omega
  rw [hLl] at hb;simp only [zy7] at hm hb';obtain ⟨h,hh⟩:∃ h,h=(U.length+V.length) / 2:=⟨_,rfl⟩
  refine zce mixed Try.func20 zz6 [1000] zek ?_;(conv=>whnf);refine sF ?_;refine sN ?_;refine sF ?_;refine sN ?_;refine sF ?_;refine zdk (zlj zz0 zz0) (zw ?_);refine zas zz6 (zw ?_);refine zdk (z':=((P.length+h:Nat):Int)) ?_ ?_
  . show W ((a+b) / 2)=_
    rw [zoz (by omega) (by omega)];omega
  (conv=>whnf);refine sFm ?_;refine zre.meet {x:Nat×Nat // x.1<=x.2/\x.2<=h/\x.2<=U.length/\h-x.1<=V.length/\(x.1=0\/h-x.1=V.length)/\(x.2=h\/x.2=U.length)} (fun | ⟨(s,r),_⟩=>hsP [1000] 220 [(0,.own 1000),(1,i64 a),(2,i64 m),(3,i64 b),(4,.clo g []),(18,i64 (P.length+h:Nat)),(19,i64 (2*P.length+h+U.length:Nat)),(20,i64 (P.length+s:Nat)),(21,i64 (P.length+r:Nat))] (H1 L)) ?_ ?_
  . by_cases c3:U.length>h
    . refine zat zz3 (zw ?_)
      refine sFm ?_;exact ⟨⟨(h-V.length,h),by dsimp only;omega⟩,(zbx [(1000,some 1000)] zz2)⟩
    . refine zap zz3 (zw ?_)
      exact ⟨⟨(0,U.length),by dsimp only;omega⟩,(zbx [(1000,some 1000)] zz2)⟩
  rintro ⟨⟨s0,r0⟩,k1,k2,k3,k4,k5,k6⟩;dsimp only at k1 k2 k3 k4 k5 k6;(conv=>whnf);refine sF ?_;refine ⟨{x:Nat×Nat // s0<=x.1/\x.1<=x.2/\x.2<=r0/\(x.1=s0\/LoB U V h x.1)/\(x.2=r0\/HiB U V h x.2)},
   fun | ⟨(s,r),_⟩=>hsP [1000] 220 [(0,.own 1000),(1,i64 a),(2,i64 m),(3,i64 b),(4,.clo g []),(18,i64 (P.length+h:Nat)),(19,i64 (2*P.length+h+U.length:Nat)),(20,i64 (P.length+s:Nat)),(21,i64 (P.length+r:Nat)),(22,i64 ((2*P.length+h+U.length:Nat)-1))] (H1 L),fun x=>x.1.2-x.1.1,⟨(s0,r0),zy19 _,k1,zy19 _,.inl rfl,.inl rfl⟩,?_,?_⟩
  . exact (zpm [(1000,some 1000)])
  rintro ⟨⟨s,r⟩,g1,g2,g3,g4,g5⟩;dsimp only at g1 g2 g3 g4 g5;(conv=>whnf);by_cases c:s<r
  . obtain ⟨k,hk⟩:∃ k,k=(s+r) / 2:=⟨_,rfl⟩
    obtain ⟨j,hj⟩:∃ j,j+1+k=h:=⟨h-1-k,by omega⟩
    have hkU:k<U.length:=by omega
    have hjV:j<V.length:=by omega
    refine sT ?_;refine sF ?_;refine zdk (zlj zz0 zz0) (zw ?_);refine zas zz6 (zw ?_);refine zdk (z':=((P.length+k:Nat):Int)) ?_ ?_
    . show W ((((P.length+s:Nat):Int)+((P.length+r:Nat):Int)) / 2)=_
      rw [zoz (by omega) (by omega)];omega
    (conv=>whnf);refine sF ?_;refine zas zz20 (zw ?_);refine zmb j (show L=(P++U)++V++Q from hL) hjV zz3 (zw ?_);refine zas zz20 (zw ?_);refine zmb k (show L=P++U++(V++Q) by rw [hL];simp) hkU zz0 (zw ?_)
    (refine cZ ?_;refine dL (hg V[j] U[k]) ?_)
    refine sD ?_;by_cases c3:ck V[j]<ck U[k]
    . have hc:decide (cmp V[j] U[k]<0)=true:=zy61 (zes.2 c3)
      refine zap (by rw [hc];rfl) (zw ?_)
      try refine sG ?_
      exact ⟨⟨(s,k),g1,by dsimp only;omega,by dsimp only;omega,g4,.inr ⟨k,j,hkU,hjV,rfl,hj,c3⟩⟩,(zpm [(1000,some 1000)]),by dsimp only;omega⟩
    . have hc:decide (cmp V[j] U[k]<0)=false:=decide_eq_false fun h=>c3 (zes.1 h)
      refine zat (by rw [hc];rfl) (zw ?_)
      try refine sG ?_
      refine sF ?_;exact ⟨⟨(k+1,r),by dsimp only;omega,by dsimp only;omega,g3,.inr ⟨k,j,hkU,hjV,rfl,by dsimp only;omega,by omega⟩,g5⟩,(zbx [(1000,some 1000)] zz2),by dsimp only;omega⟩
  . obtain rfl:s=r:=by omega
    have hp:=yah sU sV g1 g3 k2 k3 k4 k5 k6 g4 g5;have hmg:=hp.merge;obtain ⟨q1,q2,q3,-,-⟩:=hp;have sU1:=zvz sU s;have sU2:=zvy sU s;have sV1:=zvz sV (h-s);have sV2:=zvy sV (h-s);have lU1:(U.take s).length=s:=by simp;omega
    have lU2:(U.drop s).length=U.length-s:=by simp
    have lV1:(V.take (h-s)).length=h-s:=by simp;omega
    have lV2:(V.drop (h-s)).length=V.length-(h-s):=by simp
    have eU:U=U.take s++U.drop s:=by simp
    have eV:V=V.take (h-s)++V.drop (h-s):=by simp
    generalize U.take s=U1 at *
    generalize U.drop s=U2 at *
    generalize V.take (h-s)=V1 at *
    generalize V.drop (h-s)=V2 at *
    refine sN ?_;refine sFm ?_;have hlL:∀ A:List zah,A.length=U.length+V.length->(P++A++Q).length<2 ^ 40:=fun A hA=>by simp;omega
    refine zre.meet Unit (fun _=>hsP [1000] 220 [(0,.own 1000),(1,i64 a),(3,i64 b),(4,.clo g []),(18,i64 (P.length+h:Nat)),(20,i64 (P.length+s:Nat)),(24,i64 (P.length+U.length+(h-s):Nat))] (H1 (P++U1++V1++U2++V2++Q))) ?_ fun _=>?_
    . by_cases d1:s<U.length
      . refine sTm ?_
        by_cases d2:0<h-s
        . refine zat zz3 (zw ?_)
          (refine zbg [] [(1000,1000)] [] ?_;(conv=>whnf);refine dGm (zkh (L:=L) (L':=P++U1++V1++U2++V2++Q) (P++U1) (V2++Q) U2 V1 (by rw [hL,eU,eV];simp) zz1 (zy11.1 zz0) (zy11.1 zz0) zz0 _ _ _ zz3 zz3 zz3) ?_ ⟨rfl,rfl,rfl,⟨zz4,trivial⟩,trivial,rfl,rfl,rfl⟩)
          exact ⟨(),(zbx [(1000,some 1000)] zz2)⟩
        . have:V1=[]:=zy2 zz0
          refine zap zz3 (zw ?_);exact ⟨(),(zbx [(1000,some 1000)] zz8)⟩
      . have:U2=[]:=zy2 zz0
        refine sNm ?_;exact ⟨(),(zbx [(1000,some 1000)] zz8)⟩
    (conv=>whnf);refine zre.meet Unit (fun _=>hsP [1000] 220 [(0,.own 1000),(3,i64 b),(4,.clo g []),(18,i64 (P.length+h:Nat)),(24,i64 (P.length+U.length+(h-s):Nat))] (H1 (P++mrg ck U1 V1++U2++V2++Q))) ?_ fun _=>?_
    . by_cases d1:0<s
      . refine sTm ?_
        by_cases d2:s<h
        . refine zat zz3 (zw ?_)
          (refine zbg [] [(1000,1000)] [] ?_;(conv=>whnf);refine dGm (ih P U1 V1 (U2++V2++Q) (P++U1++V1++U2++V2++Q) (P++mrg ck U1 V1++U2++V2++Q) zz1 zz1 zz0 (zy11.1 zz0) (zy11.1 zz0) sU1 sV1 zz3 _ _ _ zz0 zz3 zz3) ?_ ⟨rfl,rfl,rfl,⟨zz4,trivial⟩,trivial,rfl,rfl,rfl⟩)
          exact ⟨(),(zpm [(1000,some 1000)])⟩
        . have:V1=[]:=zy2 zz0
          refine zap zz3 (zw ?_);exact ⟨(),(zbx [(1000,some 1000)] (by repeat' (first | exact z0 | refine z1 ?_ | refine ⟨?_,?_⟩ | ((exact zbb (by rw [zrv (.inr this)];simp))) | exact z2)))⟩
      . have:U1=[]:=zy2 zz0
        refine sNm ?_;exact ⟨(),(zbx [(1000,some 1000)] (by repeat' (first | exact z0 | refine z1 ?_ | refine ⟨?_,?_⟩ | ((exact zbb (by rw [zrv (.inl this)];simp))) | exact z2)))⟩
    (conv=>whnf);have hm1:=zqb U1 V1;have hout:L'=P++mrg ck U1 V1++mrg ck U2 V2++Q:=by rw [hL',hmg];simp
    by_cases d1:s<U.length
    . refine sT ?_
      by_cases d2:h-s<V.length
      . refine zat zz3 (zw ?_)
        (refine zbg [] [(1000,1000)] [] ?_;(conv=>whnf);refine dG (ih (P++mrg ck U1 V1) U2 V2 Q (P++mrg ck U1 V1++U2++V2++Q) L' zz1 hout zz0 (zy11.1 zz0) (zy11.1 zz0) sU2 sV2 zz3 _ _ _ zz3 zz3 zz3) ?_ ⟨rfl,rfl,rfl,⟨zz4,trivial⟩,trivial,rfl,rfl,rfl⟩)
        exact yy3
      . have:V2=[]:=zy2 zz0
        refine zap zz3 (zw ?_);refine zbp [(1000,some 1000)] rfl rfl ⟨rfl,trivial⟩ rfl rfl ⟨⟨rfl,.inl ⟨1000,rfl,?_⟩⟩,trivial⟩;exact zbb (by rw [hout,zrv (.inr this)];simp)
    . have:U2=[]:=zy2 zz0
      refine sN ?_;refine zbp [(1000,some 1000)] rfl rfl ⟨rfl,trivial⟩ rfl rfl ⟨⟨rfl,.inl ⟨1000,rfl,?_⟩⟩,trivial⟩;exact zbb (by rw [hout,zrv (.inl this)];simp)
end Srt
namespace Srt
def BS (s:Nat) (l:List zah):Prop:=∀ k,Sd ck ((l.drop (k*s)).take s)
theorem zyn (s:Nat):BS s []:=fun k=>by simp [Sd]
theorem zio {s k:Nat} {l blk:List zah} (h:BS s l) (hl:l.length=k*s) (hb:blk.length<=s) (hd:Sd ck blk):BS s (l++blk):=by
 intro j;rcases Nat.lt_trichotomy j k with hj | rfl | hj
 . have:j*s+s<=l.length:=by rw [hl];have:=zy33 s (show j+1<=k by omega);rw [zy17] at this;omega
   rw [List.drop_append_of_le_length (by omega),zy57 (by simp;omega)];exact h j
 . rw [<- hl,List.drop_left,zy27 hb];exact hd
 . have:l.length+blk.length<=j*s:=by rw [hl];have:=zy33 s (show k+1<=j by omega);rw [zy17] at this;omega
   rw [zy89 (by simp;omega)];simp [Sd]
theorem zze {s:Nat} {l:List zah} (h:BS s l) (n:Nat):BS s (l.drop (n*s)):=fun k=>by
 have:=h (n+k);rwa [List.drop_drop,<- zy17]
theorem zym {s:Nat} {l:List zah} (h:BS s l) (hl:l.length<=s):Sd ck l:=by
 have:=h 0;rwa [zy84,List.drop_zero,zy27 hl] at this
theorem zgl {A B B' C:List zah} (h:srt ck B=srt ck B'):srt ck (A++B++C)=srt ck (A++B'++C):=by
 rw [<- zfs C (A++B),<- zfs C (A++B'),<- zfs B A,<- zfs B' A,h]
theorem zsc (l:List zah):srt ck (srt ck l)=srt ck l:=zed zhz
theorem zwg {U V:List zah} (hU:Sd ck U) (hV:Sd ck V):srt ck (mrg ck U V)=srt ck (U++V):=by
 rw [zed (zvd U V hU hV),<- zfs,zed hU,zed hV]
theorem zgk {g:FuncId} (hg:zmu g) (P X Q L L':List zah) (h1:L=P++X++Q) (h2:L'=P++srt ck X++Q) (hb:L.length<2 ^ 40) (a b:Int) (ha:a=P.length) (hb':b=(P++X).length) :
 zbl Try.prog 19 [.own 1000,i64 a,i64 b,.clo g []] (lk .free (H1 L)) (.tup []) (lk .free (H1 L')):=by
 subst h1 h2;exact ztg hg P X Q hb a b ha hb'
theorem zqj {g:FuncId} (hg:zmu g) (l:List zah) (hb:l.length<2 ^ 39) (n:Int) (hn:n=l.length) :
 zbl Try.prog 16 [.own 1000,i64 n,.clo g []] (lk .free (H1 l)) (.tup []) (lk .free (H1 (srt ck l))):=by
 refine zce mixed Try.func16 zz6 [1000] zek ?_;(conv=>whnf);refine ⟨{x:(List zah×List zah)×Nat // x.1.1.length=x.2*20/\x.1.1.length+x.1.2.length=l.length/\BS 20 x.1.1/\srt ck (x.1.1++x.1.2)=srt ck l},fun | ⟨((D,R),k),_⟩=>hsP [1000] 63 [(0,.own 1000),(1,i64 n),(2,.clo g []),(6,i64 20),(7,i64 D.length),(8,i64 (D.length+20:Nat))] (H1 (D++R)),fun x=>x.1.1.2.length,⟨(([],l),0),by simp,by simp,zyn _,rfl⟩,?_,?_⟩
 . exact (zpm [(1000,some 1000)])
 rintro ⟨⟨⟨D,R⟩,k⟩,h1,h2,h3,h4⟩;dsimp only at h1 h2 h3 h4;(conv=>whnf);by_cases c:20<=R.length
 . obtain ⟨X,R,rfl,hX⟩:∃ X R',R=X++R'/\X.length=20:=⟨R.take 20,R.drop 20,by simp,by simp;omega⟩
   simp only [zy7] at h2 c;have hsX:=zec (key:=ck) X;refine sT ?_
   (refine zbg [] [(1000,1000)] [] ?_;(conv=>whnf);refine dG (zgk hg D X R (D++(X++R)) (D++srt ck X++R) zz1 rfl zz3 _ _ rfl zz3) ?_ ⟨rfl,rfl,rfl,⟨zz4,trivial⟩,trivial,rfl,rfl,rfl⟩)
   refine sF ?_;exact ⟨⟨((D++srt ck X,R),k+1),by simp;omega,by simp;omega,zio h3 h1 zz0 zhz,by dsimp only;rw [zgl (zsc X),zy37];exact h4⟩,(zbx [(1000,some 1000)] zz2),by simp;omega⟩
 . have hsR:=zec (key:=ck) R
   refine sN ?_
   (refine zbg [] [(1000,1000)] [] ?_;(conv=>whnf);refine dG (zgk hg D R [] (D++R) (D++srt ck R) zz1 zz1 zz3 _ _ rfl zz3) ?_ ⟨rfl,rfl,rfl,⟨zz4,trivial⟩,trivial,rfl,rfl,rfl⟩)
   have hBS:BS 20 (D++srt ck R):=zio h3 h1 zz0 zhz;have hsr:srt ck (D++srt ck R)=srt ck l:=by
    have:=zgl (A:=D) (C:=[]) (zsc R);rw [zy45,zy45] at this;rw [this];exact h4
   have hlen:(D++srt ck R).length=l.length:=by simp;omega
   obtain ⟨L,hL⟩:∃ L,L=D++srt ck R:=⟨_,rfl⟩
   rw [<- hL] at hBS hsr hlen;refine ⟨{x:List zah×Nat // BS x.2 x.1/\srt ck x.1=srt ck l/\x.1.length=l.length/\0<x.2/\x.2<2 ^ 41},fun | ⟨(L,s),_⟩=>hsP [1000] 63 [(0,.own 1000),(1,i64 n),(2,.clo g []),(6,i64 s)] (H1 L),fun x=>2 ^ 41-x.1.2,⟨(L,20),hBS,hsr,hlen,by omega,by omega⟩,?_,?_⟩
   . exact (zbx [(1000,some 1000)] (by repeat' (first | exact z0 | refine z1 ?_ | refine ⟨?_,?_⟩ | ((exact zbb (by rw [hL]))) | exact z2)))
   clear h1 h2 h3 h4 c hsR hBS hsr hlen hL;rintro ⟨⟨L,s⟩,h1,h2,h3,h4,h5⟩;dsimp only at h1 h2 h3 h4 h5;(conv=>whnf);by_cases c:s<l.length
   . refine sT ?_
     refine sF ?_;refine ⟨{x:(List zah×List zah)×Nat // x.1.1.length=x.2*(2*s)/\x.1.1.length+x.1.2.length=l.length/\BS (2*s) x.1.1/\BS s x.1.2/\srt ck (x.1.1++x.1.2)=srt ck l},fun | ⟨((D,R),k),_⟩=>hsP [1000] 63 [(0,.own 1000),(1,i64 n),(2,.clo g []),(6,i64 s),(7,i64 D.length),(8,i64 (D.length+2*s:Nat))] (H1 (D++R)),fun x=>x.1.1.2.length,⟨(([],L),0),by simp,by simpa using h3,zyn _,h1,h2⟩,?_,?_⟩
     . exact (zbx [(1000,some 1000)] zz2)
     rintro ⟨⟨⟨D,R⟩,k⟩,h1,h2,h3,h6,h7⟩;dsimp only at h1 h2 h3 h6 h7;(conv=>whnf);by_cases c2:2*s<=R.length
     . obtain ⟨U,V,R,rfl,hU,hV⟩:∃ U V R',R=U++V++R'/\U.length=s/\V.length=s:=⟨R.take s,(R.drop s).take s,R.drop (2*s),by
        rw [show 2*s=s+s by omega,<- List.drop_drop,zy37,zy25,zy25],by simp;omega,by simp;omega⟩
       have sU:Sd ck U:=by have:=h6 0;rwa [zy84,List.drop_zero,zy37,zy57 zz0,zy27 zz0] at this
       have sV:Sd ck V:=by have:=h6 1;rwa [Nat.one_mul,zy37,<- hU,List.drop_left,hU,zy57 zz0,zy27 zz0] at this
       have hR:BS s R:=by
        have:=zze h6 2
        rwa [List.drop_left' zz3] at this
       have hm:=zqb U V;simp only [zy7] at h2 c2;refine sT ?_;refine sF ?_
       (refine zbg [] [(1000,1000)] [] ?_;(conv=>whnf);refine dG (zmo hg (2*s) D U V R (D++(U++V++R)) (D++mrg ck U V++R) zz1 rfl zz0 (zy11.1 zz0) (zy11.1 zz0) sU sV zz3 _ _ _ rfl zz3 zz3) ?_ ⟨rfl,rfl,rfl,⟨zz4,trivial⟩,trivial,rfl,rfl,rfl⟩)
       refine sF ?_;refine sF ?_;exact ⟨⟨((D++mrg ck U V,R),k+1),by rw [zy17];simp;omega,by simp;omega,zio h3 h1 zz0 (zvd U V sU sV),hR,by dsimp only;rw [zgl (zwg sU sV),zy37,zy37,<- zy37 U];exact h7⟩,(zbx [(1000,some 1000)] zz2),by simp;omega⟩
     . refine sN ?_
       refine sF ?_;by_cases c3:s<R.length
       . obtain ⟨U,V,rfl,hU⟩:∃ U V,R=U++V/\U.length=s:=⟨R.take s,R.drop s,by simp,by simp;omega⟩
         have sU:Sd ck U:=by have:=h6 0;rwa [zy84,List.drop_zero,zy57 zz0,zy27 zz0] at this
         simp only [zy7] at h2 c2 c3;have sV:Sd ck V:=by have:=h6 1;rwa [Nat.one_mul,<- hU,List.drop_left,hU,zy27 zz0] at this
         have hm:=zqb U V;refine zat zz3 (zw ?_)
         try refine sG ?_
         (refine zbg [] [(1000,1000)] [] ?_;(conv=>whnf);refine dG (zmo hg (2*s) D U V [] (D++(U++V)) (D++mrg ck U V) zz1 zz1 zz0 (zy11.1 zz0) (zy11.1 zz0) sU sV zz3 _ _ _ rfl zz3 zz3) ?_ ⟨rfl,rfl,rfl,⟨zz4,trivial⟩,trivial,rfl,rfl,rfl⟩)
         refine sF ?_;have e1:=zgl (A:=D) (C:=[]) (zwg sU sV);rw [zy45,zy45] at e1;exact ⟨⟨(D++mrg ck U V,2*s),zio h3 h1 zz0 (zvd U V sU sV),by dsimp only;rw [e1];exact h7,by simp;omega,by dsimp only;omega,by dsimp only;omega⟩,(zbx [(1000,some 1000)] zz2),by dsimp only;omega⟩
       . refine zap zz3 (zw ?_)
         try refine sG ?_
         refine sF ?_;exact ⟨⟨(D++R,2*s),zio h3 h1 zz0 (zym h6 zz0),h7,by simp;omega,by dsimp only;omega,by dsimp only;omega⟩,(zbx [(1000,some 1000)] zz2),by dsimp only;omega⟩
   . have hsd:=zym h1 zz0
     rw [zed hsd] at h2;refine sN ?_;refine zbp [(1000,some 1000)] rfl rfl ⟨rfl,trivial⟩ rfl rfl ⟨⟨rfl,.inl ⟨1000,rfl,?_⟩⟩,trivial⟩;exact zbb (by rw [h2])
theorem zwe {g:FuncId} (hg:zmu g) (l:List zah) (hb:l.length<2 ^ 39) :
 zbl Try.prog 11 [.own 1000,.clo g []] (lk .free (H1 l)) (.tup []) (lk .free (H1 (srt ck l))):=by
 refine zce mixed Try.func11 zz6 [1000] zek ?_;(conv=>whnf)
 (refine zbg [] [(1000,1000)] [] ?_;(conv=>whnf);refine dG (zqj hg l hb _ zz1) ?_ ⟨rfl,rfl,rfl,⟨zz4,trivial⟩,trivial,rfl,rfl,rfl⟩)
 exact yy3
end Srt
namespace Jn
open Srt
def zex (n:Nat):Nat->List zah->Option (List UInt8)
 | _,[]=>some []
 | i,p::r=>if p.chunk.part=(i:Int)/\p.chunk.last=decide (i+1=n) then (zex n (i+1) r).map (p.chunk.data++·) else none
def join (l:List zah):Option (List UInt8):=if l=[] then none else zex l.length 0 (srt ck l)
def at_ (k:Nat) (p:zah):Bool:=decide (p.chunk.part=(k:Int))
def zdm (l:List zah) (n:Nat):Nat->Nat->Option (List UInt8)
 | _,0=>some []
 | k,m+1=>match l.filter (at_ k) with
  | [p]=>if p.chunk.last=decide (k+1=n) then (zdm l n (k+1) m).map (p.chunk.data++·) else none
  | _=>none
theorem filter_one {α:Type} {f:α->Bool} {l l':List α} (h:l.Perm l') (p:α):l.filter f=[p]↔l'.filter f=[p]:=by
 have:=h.filter f
 constructor
 . intro e;rw [e] at this;exact List.perm_singleton.1 this.symm
 . intro e;rw [e] at this;exact List.perm_singleton.1 this
theorem zqf {l l':List zah} (h:l.Perm l') (n:Nat):∀ (m k:Nat),zdm l n k m=zdm l' n k m
 | 0,k=>rfl
 | m+1,k=>by
  have hf:=fun p=>filter_one (f:=at_ k) h p
  rw [zdm,zdm];split
  . rename_i p hp
    rw [(hf p).1 hp,zqf h n m (k+1)]
  . rename_i hno
    split
    . rename_i p hp
      exact absurd ((hf p).2 hp) (hno p)
    . rfl
theorem zvt {l:List zah} {n:Nat}:∀ {m k:Nat} {b:List UInt8},zdm l n k m=some b->∀ i,k<=i->i<k+m->∃ p∈l,p.chunk.part=(i:Int)
 | 0,k,b,_,i,h1,h2=>by omega
 | m+1,k,b,h,i,h1,h2=>by
  rw [zdm] at h;split at h
  . rename_i p hp
    split at h
    . obtain ⟨c,hc,-⟩:=zy4.1 h
      by_cases he:i=k
      . subst he
        have:p∈l.filter (at_ i):=by rw [hp];simp
        rw [zy94] at this;exact ⟨p,this.1,by simpa [at_] using this.2⟩
      . exact zvt hc i zz0 zz0
    . cases h
  . cases h
def zva (l:List zah) (k:Nat):Nat:=l.countP fun p=>decide (p.chunk.part<(k:Int))
def ybe (l:List zah) (k:Nat):Nat:=l.countP fun p=>decide ((k:Int)<=p.chunk.part)
theorem zxn (l:List zah) (k:Nat):zva l k+ybe l k=l.length:=by
 induction l with
 | nil=>rfl
 | cons p l ih =>
  simp only [zva,ybe,zy90,zy10] at *
  by_cases h:p.chunk.part<(k:Int)
  . have h2:¬ (k:Int)<=p.chunk.part:=by omega
    simp [h,h2];omega
  . have h2:(k:Int)<=p.chunk.part:=by omega
    simp [h,h2];omega
theorem zru {l:List zah} {k:Nat} (h:∃ p∈l,p.chunk.part=(k:Int)):zva l k+1<=zva l (k+1):=by
 induction l with
 | nil=>simp at h
 | cons p l ih =>
  have mono:∀ l:List zah,l.countP (fun p=>decide (p.chunk.part<(k:Int)))<=l.countP (fun p=>decide (p.chunk.part<((k+1:Nat):Int))):=fun l=>List.countP_mono_left fun x _ hx=>by simp at hx ⊢;omega
  simp only [zva,zy90] at ih ⊢;by_cases he:p.chunk.part=(k:Int)
  . have:=mono l
    have h2:¬ p.chunk.part<(k:Int):=by omega
    have h3:p.chunk.part<((k+1:Nat):Int):=by omega
    rw [zy14 (by simpa using h2),zy12 (zy61 h3)];omega
  . have:∃ p∈l,p.chunk.part=(k:Int):=by
     obtain ⟨q,hq,e⟩:=h;rcases zy3.1 hq with rfl | hq
     . exact absurd e he
     . exact ⟨q,hq,e⟩
    have:=ih this;by_cases h2:p.chunk.part<(k:Int)
    . have h3:p.chunk.part<((k+1:Nat):Int):=by omega
      rw [zy12 (zy61 h2),zy12 (zy61 h3)];omega
    . have h3:¬ p.chunk.part<((k+1:Nat):Int):=by omega
      rw [zy14 (by simpa using h2),zy14 (fun h=>h3 (of_decide_eq_true h))];omega
theorem zyx {l:List zah} {n:Nat} (h:∀ i,i<n->∃ p∈l,p.chunk.part=(i:Int)):∀ k,k<=n->k<=zva l k
 | 0,_=>zy79 _
 | k+1,hk=>by have:=zyx h k zz0;have:=zru (h k zz0);omega
theorem zyy {l:List zah} {n:Nat} (hn:l.length=n) (h:∀ i,i<n->∃ p∈l,p.chunk.part=(i:Int)):∀ j,j<=n->zva l (n-j)<=n-j
 | 0,_=>by have:=zxn l n;simp only [Nat.sub_zero];omega
 | j+1,hj=>by
  have h1:=zyy hn h j zz0;have h2:=zru (h (n-(j+1)) zz0);rw [show n-(j+1)+1=n-j by omega] at h2;omega
theorem zmn:∀ {S:List zah} (_:Sd ck S) (k:Nat) (i:Nat) (hi:i<S.length),(S[i].chunk.part<(k:Int)↔i<zva S k)
 | x::S,h,k,0,hi=>by
  simp only [zva,zy90,List.getElem_cons_zero];by_cases hx:x.chunk.part<(k:Int)
  . simp [hx]
  . have:S.countP (fun p=>decide (p.chunk.part<(k:Int)))=0:=List.countP_eq_zero.2 fun y hy=>by have:=h.1 y hy;simp;simp only [ck] at this;omega
    simp [hx,this]
 | x::S,h,k,i+1,hi=>by
  have ih:=zmn h.2 k i (by simpa using hi);simp only [zva,zy90,List.getElem_cons_succ] at *
  by_cases hx:x.chunk.part<(k:Int)
  . simp [hx];exact ih
  . have:S.countP (fun p=>decide (p.chunk.part<(k:Int)))=0:=List.countP_eq_zero.2 fun y hy=>by have:=h.1 y hy;simp;simp only [ck] at this;omega
    rw [this] at ih ⊢;simp [hx];omega
theorem zpa {S:List zah} (hs:Sd ck S) (h:∀ i,i<S.length->∃ p∈S,p.chunk.part=(i:Int)) (i:Nat) (hi:i<S.length):S[i].chunk.part=(i:Int):=by
 have e:∀ k,k<=S.length->zva S k=k:=fun k hk=>by
  have h1:=zyx h k hk;have h2:=zyy rfl h (S.length-k) zz0;rw [show S.length-(S.length-k)=k by omega] at h2;omega
 have h1:=zmn hs i i hi;have h2:=zmn hs (i+1) i hi;rw [e i (by omega)] at h1;rw [e (i+1) (by omega)] at h2;omega
def ziq (i:Nat):List zah->Prop
 | []=>True
 | p::r=>p.chunk.part=(i:Int)/\ziq (i+1) r
theorem zjh:∀ {S:List zah} {i:Nat},(∀ j (hj:j<S.length),S[j].chunk.part=((i+j:Nat):Int))->ziq i S
 | [],_,_=>trivial
 | p::r,i,h=>⟨by have:=h 0 zz1;simp only [List.getElem_cons_zero,zy51] at this;exact this,zjh fun j hj=>by have:=h (j+1) zz24;rw [List.getElem_cons_succ] at this;rw [this];congr 1;omega⟩
theorem znr:∀ {S:List zah} {i:Nat},ziq i S->∀ p∈S,(i:Int)<=p.chunk.part
 | q::r,i,h,p,hp=>by
  rcases zy3.1 hp with rfl | hp
  . rw [h.1];omega
  . have:=znr h.2 p hp;omega
theorem zkr {n:Nat}:∀ {S:List zah} {i:Nat} {b:List UInt8},zex n i S=some b->ziq i S
 | [],_,_,_=>trivial
 | p::r,i,b,h=>by
  rw [zex] at h;split at h
  . rename_i c
    obtain ⟨d,hd,-⟩:=zy4.1 h;exact ⟨c.1,zkr hd⟩
  . cases h
theorem filter_none {A:List zah} {k:Nat} (h:∀ p∈A,p.chunk.part≠(k:Int)):A.filter (at_ k)=[] :=
 List.filter_eq_nil_iff.2 fun p hp=>by simpa [at_] using h p hp
theorem zmk {S:List zah} {n:Nat}:∀ {B A:List zah} {i:Nat},S=A++B->(∀ p∈A,p.chunk.part<(i:Int))->ziq i B->zdm S n i B.length=zex n i B
 | [],A,i,_,_,_=>rfl
 | p::B,A,i,hS,hA,hB=>by
  have hf:S.filter (at_ i)=[p]:=by
   rw [hS,List.filter_append,filter_none fun q hq=>by have:=hA q hq;omega,List.filter_cons,zy12 (by simpa [at_] using hB.1),filter_none fun q hq=>by have:=znr hB.2 q hq;omega]
   rfl
  rw [zy10,zdm,hf];have ih:=zmk (S:=S) (n:=n) (B:=B) (A:=A++[p]) (i:=i+1) (by rw [hS];simp) (fun q hq=>by
   rcases zy13.1 hq with hq | hq
   . have:=hA q hq;omega
   . rw [zy49.1 hq,hB.1];omega) hB.2
  dsimp only;rw [ih,zex];by_cases c:p.chunk.last=decide (i+1=n)
  . rw [zy12 c,zy12 ⟨hB.1,c⟩]
  . rw [zy14 c,zy14 fun h=>c h.2]
theorem ybt (l:List zah):zdm l l.length 0 l.length=zex l.length 0 (srt ck l):=by
 have hl:=zec (key:=ck) l;rw [zqf (zim (key:=ck) (l:=l)).symm];have hs:=zhz (key:=ck) (l:=l);generalize srt ck l=S at *
 rw [<- hl];clear hl;cases hr:zdm S S.length 0 S.length with
 | some b =>
  have:=zpa hs fun i hi=>zvt hr i zz0 zz0
  have ht:ziq 0 S:=zjh fun j hj=>by rw [this j hj];simp
  rw [<- hr];exact zmk (A:=[]) rfl zz1 ht
 | none =>
  cases hj:zex S.length 0 S with
  | none=>rfl
  | some b =>
   have:=zmk (S:=S) (n:=S.length) (A:=[]) rfl zz1 (zkr hj);rw [hr,hj] at this;cases this
def tot (l:List zah):Nat:=(l.map fun p=>p.chunk.data.length).sum
theorem zsg {l l':List zah} (h:l.Perm l'):tot l=tot l':=(h.map _).sum_nat
theorem zmq (p:zah) (l:List zah):tot (p::l)=p.chunk.data.length+tot l:=rfl
theorem zwh (a b:List zah):tot (a++b)=tot a+tot b:=by simp [tot]
def cat (l:List zah):List UInt8:=(l.map fun p=>p.chunk.data).flatten
theorem zqt (l:List zah) (p:zah):cat (l++[p])=cat l++p.chunk.data:=by simp [cat]
theorem zzi (l:List zah):(cat l).length=tot l:=by induction l with
 | nil=>rfl
 | cons p l ih=>rw [zmq,<- ih];simp [cat]
abbrev pieces (l:List zah):HV:=.p (.sl 12 (l.map zah.row))
theorem zld (n:Int):zbl Try.prog 17 [i64 n] zam (zbr false) zam:=by
 refine zcj mixed Try.func17 zz6 ?_;(conv=>whnf);simp
theorem zoq (a b:Int):zbl Try.prog 13 [i64 a,i64 b] zam (i64 (if a<b then -1 else if a>b then 1 else 0)) zam:=by
 refine zcj mixed Try.func13 zz6 ?_;(conv=>whnf)
 (refine cL ?_;refine dL (zld a) ?_)
 (refine cL ?_;refine dL (zld b) ?_)
 by_cases c:a<b
 . rw [zy12 c]
   ((refine ybd ?_;conv=>whnf);try refine sG ?_)
 rw [zy14 c];refine sN ?_;by_cases c2:a>b
 . rw [zy12 c2]
   ((refine ybd ?_;conv=>whnf);try refine sG ?_)
 rw [zy14 c2]
 ((refine ych ?_;conv=>whnf);try refine sG ?_)
theorem zyg:zmu 12:=fun a b=>by
 refine zcj mixed Try.func12 zz6 ?_;(conv=>whnf)
 (refine cL ?_;refine dL (zoq a.chunk.part b.chunk.part) ?_)
 rfl
theorem zwi {x:HV} {a b:Bool} (h:a=b):HV.tup [x,zbr a]=HV.tup [x,zbr b]:=by rw [h]
theorem zmz (l:List zah) (hb:l.length<2 ^ 39):zbl Try.prog 10 [.p (.sl 12 (l.map zah.row))] zam (.own 0) (lk .free [(0,.live (.row 36 12 (l.map zah.row)))]):=by
 refine zce mixed Try.func10 zz6 [] (fun _=>.inl rfl) ?_;(conv=>whnf);intro b hn;(conv=>whnf);refine zgb (fun c=>?_) (fun c=>?_)
 . conv=>whnf
   refine zbp [(0,none)] rfl rfl trivial rfl rfl ⟨⟨rfl,.inr ⟨rfl,hn c⟩⟩,trivial⟩
 . conv=>whnf
   refine zas (c:=(([]:List (List PV)).length+(l.map zah.row).length)*136<=140737488355328) zz3 ?_;exact yy34
theorem zwd (l:List zah) (hb:l.length<2 ^ 38) (ht:tot l<2 ^ 40) :
 zbl Try.prog 5 [pieces l] zam (.tup [.own 0,zbr (join l).isSome]) (lk .free [(0,.live (.row 5 1 (((join l).getD []).map zdt)))]):=by
 refine zce mixed Try.func5 zz6 [] (fun _=>.inl rfl) ?_;(conv=>whnf)
 (refine zub [(0,9)] ?_;(conv=>whnf);refine dO (zmz l zz0) ?_)
 (refine zbg [] [(1000,9)] [] ?_;(conv=>whnf);refine dG (zwe zyg l zz0) ?_)
 have hl:=zec (key:=ck) l;have ht2:tot (srt ck l)<2 ^ 40:=by rw [zsg zim];exact ht
 obtain ⟨S,hS⟩:∃ S,S=srt ck l:=⟨_,rfl⟩
 have hj:join l=if l=[] then none else zex S.length 0 S:=by rw [join,<- hS,<- hl,hS]
 rw [<- hS] at hl ht2;refine ⟨{x:List zah×List zah // S=x.1++x.2/\zex S.length 0 S=(zex S.length x.1.length x.2).map (cat x.1++·)},fun | ⟨(A,B),_⟩=>hs 45 [(4,.own 900),(5,.own 901),(12,.own 900),(13,i64 S.length),(14,i64 A.length)] [(900,.live (.row 36 12 (S.map zah.row))),(901,.live (.row 5 1 ((cat A).map zdt)))],fun x=>x.1.2.length,⟨([],S),rfl,by simp [cat]⟩,?_,?_⟩
 . exact (zss [(900,some 9),(901,none)] (by repeat' (first | exact z0 | refine z1 ?_ | refine ⟨?_,?_⟩ | ((exact zbk (by rw [zy6,hS]))) | ((exact zbb (by rw [hS]))) | exact z2)))
 rintro ⟨⟨A,B⟩,h,hr⟩;dsimp only at h hr;have hAB:S.length=A.length+B.length:=by rw [h];simp
 have htA:tot S=tot A+tot B:=by rw [h,zwh]
 (conv=>whnf);cases B with
 | nil =>
  rw [zy22] at hAB;rw [zex] at hr;have hcat:zex S.length 0 S=some (cat A):=by rw [hr];simp
  have h0:tot []=0:=rfl;refine sN ?_;by_cases hln:l=[]
  . subst hln
    have hl0:S.length=0:=hl;have:A=[]:=zy2 zz0;subst this;refine zbp [(0,some 901)] rfl rfl trivial rfl (zwi ?_) ⟨⟨rfl,.inl ⟨901,rfl,rfl⟩⟩,trivial⟩;rw [zy6,hl0];rfl
  . have:=zy11.2 hln
    have hjv:join l=some (cat A):=by rw [hj,zy14 hln,hcat]
    rw [hjv];refine zbp [(0,some 901)] rfl rfl trivial rfl (zwi ?_) ⟨⟨rfl,.inl ⟨901,rfl,rfl⟩⟩,trivial⟩;simp;omega
 | cons p B =>
  rw [zy10] at hAB;rw [zmq] at htA;rw [zex] at hr;have hca:=zzi A;have hln:l≠[]:=fun h=>by subst h;have hl0:S.length=0:=hl;omega
  rw [zy14 hln] at hj;refine sT ?_;refine sO ?_;refine zbh h zz1 (zw ?_);have e:((A.length:Int)==((S.map zah.row).length:Int)-1)=decide (A.length+1=S.length):=by
   rw [zy6,Bool.eq_iff_iff];simp;omega
  by_cases c1:p.chunk.part=(A.length:Int)
  . refine zap (by simp [c1]) (zw ?_)
    refine sF ?_;by_cases c2:p.chunk.last=decide (A.length+1=S.length)
    . rw [zy12 ⟨c1,c2⟩] at hr
      refine zap (by rw [e,c2];simp) (zw ?_)
      try refine sG ?_
      refine zas (c:=(((cat A).map zdt).length+(p.chunk.data.map zdt).length)*1<=140737488355328) zz3 (zw ?_)
      try refine sG ?_
      refine sF ?_;refine ⟨⟨(A++[p],B),by rw [h];simp,by dsimp only;rw [hr,Option.map_map,zy7,zy75];congr 1;funext x;simp [zqt]⟩,(zss [(900,some 900),(901,some 39)] (by repeat' (first | exact z0 | refine z1 ?_ | refine ⟨?_,?_⟩ | ((exact zbb (by rw [zqt];simp))) | exact z2))),by simp⟩
    . rw [zy14 fun h=>c2 h.2] at hr
      have hjv:join l=none:=by rw [hj,hr];rfl
      refine zat (by rw [e];cases hp:p.chunk.last<;>cases hd:decide (A.length+1=S.length)<;>simp_all) (zw ?_);exact yy31
  . rw [zy14 fun h=>c1 h.1] at hr
    have hjv:join l=none:=by rw [hj,hr];rfl
    refine zat zz28 ?_;conv=>whnf
    exact yy31
end Jn
namespace Pt
open Srt Jn
def cnt (L p:Nat):Nat:=(L+p-1) / p
def piece (b:List UInt8) (p k:Nat):List UInt8:=(b.drop (k*p)).take p
def split (b:List UInt8) (p:Nat):List (List UInt8):=(List.range (cnt b.length p)).map (piece b p)
theorem zku {L p k:Nat} (hp:0<p):k<cnt L p↔k*p<L:=by
 unfold cnt;rw [Nat.lt_iff_add_one_le,Nat.le_div_iff_mul_le hp,zy17];omega
theorem zlq (L:Nat):cnt L 0=0:=by simp [cnt]
theorem yay {L p n:Nat} (hp:0<p) (h1:∀ k,k<n->k*p<L) (h2:L<=n*p):n=cnt L p:=by
 have h3:¬ n<cnt L p:=fun h=>by have:=(zku hp).1 h;omega
 have h4:∀ k,k<n->k<cnt L p:=fun k hk=>(zku hp).2 (h1 k hk)
 cases n with
 | zero=>omega
 | succ n=>have:=h4 n zz0;omega
theorem zqv {L p:Nat}:cnt L p<=L:=by
 by_cases hp:0<p
 . by_cases h:L<cnt L p
   . have:=(zku hp).1 h
     have:=zy86 L hp;omega
   . omega
 . have:p=0:=by omega
   subst this;rw [zlq];omega
theorem znc (b:List UInt8) (p:Nat):∀ n:Nat,((List.range n).map (piece b p)).flatten=b.take (n*p)
 | 0=>by simp
 | n+1=>by
  rw [List.range_succ,zy46,zy39,znc b p n,zy17,Nat.one_mul,List.take_add];simp [piece]
theorem ztl (b:List UInt8) {p:Nat} (hp:0<p):(split b p).flatten=b:=by
 unfold split;rw [znc,zy27];have h:¬ cnt b.length p<cnt b.length p:=by omega
 rw [zku hp] at h;omega
theorem zvo (b:List UInt8) (p k:Nat):(piece b p k).length=min p (b.length-k*p):=by simp [piece]
def mk1 (b:List UInt8) (p n i:Nat):zah:=⟨i,⟨0,0,0,0,i,decide (i+1=n),false,piece b p i,[],0,[]⟩⟩
def mk (b:List UInt8) (p n:Nat):List zah:=(List.range n).map (mk1 b p n)
theorem zkv (b:List UInt8) (p n:Nat):(mk b p n).length=n:=by simp [mk]
theorem zzy (b:List UInt8) (p n:Nat):ziq 0 (mk b p n):=zjh fun j hj=>by simp [mk,mk1]
theorem zrt (b:List UInt8) (p n:Nat):∀ (m i:Nat),i+m=n->zex n i ((List.range' i m).map (mk1 b p n))=some ((List.range' i m).map (piece b p)).flatten
 | 0,i,_=>by simp [zex]
 | m+1,i,h=>by
  rw [List.range'_succ,zy18,zex,zy12 ⟨rfl,rfl⟩,zrt b p n m (i+1) (by omega)];simp [mk1]
theorem zuw {b:List UInt8} {p n:Nat} {l:List zah} (hn:0<n) (h:l.Perm (mk b p n)):join l=some (((List.range n).map (piece b p)).flatten):=by
 have hl:l.length=n:=by rw [h.length_eq,zkv]
 have hne:l≠[]:=by intro e;subst e;simp at hl;omega
 rw [join,zy14 hne,<- ybt,zqf h l.length l.length 0,hl];have h1:=zmk (S:=mk b p n) (n:=n) (A:=[]) (B:=mk b p n) (i:=0) rfl zz1 (zzy b p n);rw [zkv] at h1;rw [h1];have h2:=zrt b p n n 0 zz0;rw [<- List.range_eq_range'] at h2;exact h2
theorem zvs {l:List zah} {n:Nat}:∀ {m k:Nat} {b:List UInt8},zdm l n k m=some b->∀ i,k<=i->i<k+m->∃ q∈l,q.chunk.part=(i:Int)/\q.chunk.last=decide (i+1=n)
 | 0,k,b,_,i,h1,h2=>by omega
 | m+1,k,b,h,i,h1,h2=>by
  rw [zdm] at h;split at h
  . rename_i q hq
    split at h
    . rename_i hlast
      obtain ⟨c,hc,-⟩:=zy4.1 h;by_cases he:i=k
      . subst he
        have:q∈l.filter (at_ i):=by rw [hq];simp
        rw [zy94] at this;exact ⟨q,this.1,by simpa [at_] using this.2,hlast⟩
      . exact zvs hc i zz0 zz0
    . cases h
  . cases h
theorem zyz {b:List UInt8} {p n:Nat} {q:zah} (h:q∈mk b p n):∃ i,i<n/\q=mk1 b p n i:=by
 obtain ⟨i,hi,rfl⟩:=zy8.1 h;exact ⟨i,List.mem_range.1 hi,rfl⟩
theorem zxo (b:List UInt8) (p n:Nat):(mk b p n).Nodup:=by
 refine List.Pairwise.map _ (R:=fun a b=>a≠b) ?_ List.nodup_range;intro a c hac he;exact hac (by have:=congrArg (fun q:zah=>q.number) he;simp [mk1] at this;exact_mod_cast this)
theorem zuv {b:List UInt8} {p n:Nat} {q:zah} {l:List zah} (h:(q::l).Perm (mk b p n)):join l=none:=by
 have hlen:l.length+1=n:=by have:=h.length_eq;rw [zkv] at this;simpa using this
 by_cases hne:l=[]
 . rw [join,zy12 hne]
 have hnd:(q::l).Nodup:=h.nodup_iff.2 (zxo b p n);obtain ⟨j,hj,rfl⟩:=zyz (h.mem_iff.1 zy82);have hin:∀ r∈l,∃ i,i<n/\i≠j/\r=mk1 b p n i:=fun r hr=>by
  obtain ⟨i,hi,rfl⟩:=zyz (h.mem_iff.1 (zy76 _ hr));refine ⟨i,hi,?_,rfl⟩;rintro rfl;exact (zy63.1 hnd).1 hr
 rw [join,zy14 hne,<- ybt];cases hr:zdm l l.length 0 l.length with
 | none=>rfl
 | some c =>
  exfalso;have hpos:0<l.length:=zy11.2 hne;have hall:=zvs hr;by_cases hjn:j<l.length
  . obtain ⟨r,hr1,hr2,-⟩:=hall j zz0 zz0
    obtain ⟨i,-,hij,rfl⟩:=hin r hr1;simp [mk1] at hr2;exact hij zz0
  . obtain ⟨r,hr1,hr2,hr3⟩:=hall (l.length-1) zz0 zz0
    obtain ⟨i,-,hij,rfl⟩:=hin r hr1;simp [mk1] at hr2 hr3;omega
end Pt
end Go.HL
namespace Go.HL
open Go.Proofs Go.RowKit Go.Shelf
namespace Spl
open Pt
attribute [local go_sem] Oper.semAt_some
structure Hid (P:Prop):Prop where it:P
abbrev Ch (L p:Nat):={k:Nat // k*p<L}
abbrev enc (b off L p:Nat) (x:Ch L p):Array Value:=#[.slice (some ⟨b,off+x.1*p,none⟩) (min p (L-x.1*p)) (min p (L-x.1*p))]
structure Kx (B n:Nat) (A C:World):Prop where
 size:A.heap.size<=C.heap.size
 same:∀ k,k<n->k≠B->C.heap[k]?=A.heap[k]?
theorem Kx.refl (B n:Nat) (A:World):Kx B n A A:=⟨zy19 _,fun _ _ _=>rfl⟩
theorem Kx.trans {B n:Nat} {A C D:World} (h:Kx B n A C) (k:Kx B n C D):Kx B n A D:=⟨zy43 h.size k.size,fun i h1 h2=>(k.same i h1 h2).trans (h.same i h1 h2)⟩
theorem Kx.cell {B n:Nat} {A C:World} (h:Kx B n A C) {k o:Nat} (h1:k<n) (h2:k≠B):C.cell? ⟨k,o,none⟩=A.cell? ⟨k,o,none⟩:=World.cell?_of_block (h.same k h1 h2)
theorem ztw (F:Fence) (n:Nat) (hf:F.fn 18) (hro:F.round=none) (hn:1<=n) (l Bs Bn B n0 b off L cap p:Nat) (hp:0<p) (hp2:p<2 ^ 63) (hL:L<2 ^ 40) (hc:L<=cap)
 (h1:Bs<n0) (h2:Bs≠B) (h3:Bn<n0) (h4:Bn≠B) (J Jx:List (Ch L p)->World->Prop)
 (hJd:∀ pre W,J pre W->J pre W.drew) (hY:∀ pre x W,J pre W->pre.length<L->YieldAt F (n-1) Try.prog l (enc b off L p x) W fun e W' =>
  (e=.returned (.bool true)/\J (pre++[x]) W'/\Kx B n0 W W')\/(e=.returned (.bool false)/\Jx (pre++[x]) W'))
 (w:World) (hBs:w.cell? ⟨Bs,0,none⟩=some (.slice (some ⟨b,off,none⟩) L cap)) (hBn:w.cell? ⟨Bn,0,none⟩=some (.int .i64 p)) (h0:J [] w) :
 CallsIn F n Try.prog 18 #[.func (.yield l) #[] #[],.pointer (some ⟨Bs,0,none⟩),.pointer (some ⟨Bn,0,none⟩)] w fun e W'=>(∃ v,e=.returned v) /\
  ((∃ ys:List (Ch L p),ys.map (·.1)=List.range (cnt L p)/\J ys W')\/(∃ pre,True/\Jx pre W')):=by
 refine callsIn_of_wp Try.func18 rfl hf ?_ hro;simp only [Try.ntmps18,zy56,zy10,zy22,Nat.reduceAdd,Nat.reduceSub,zy65,zy66,zy71,zy68,zy47,zy21]
 gi_wp2
 gi_loopw [4] (fun i wr=>∃ pre:List (Ch L p),i=.int .i64 (pre.length*p:Nat)/\pre.map (·.1)=List.range pre.length/\pre.length*p<2 ^ 63/\(∀ k,k<pre.length->k*p<L)/\J pre wr/\Kx B n0 w wr)
  (fun i _=>L-(intOf i).toNat)
 case atStart=>exact ⟨[],by simp,rfl,by simp,by simp,h0,Kx.refl _ _ _⟩
 case round =>
  obtain ⟨pre,rfl,hpre,hlt,hall,hJ,hK⟩:=hrel;have hBs':=(hK.cell (o:=0) h1 h2).trans hBs;have hBn':=(hK.cell (o:=0) h3 h4).trans hBn;obtain ⟨a,ha⟩:∃ a,a=pre.length*p:=⟨_,rfl⟩
  rw [<- ha] at hlt ⊢;have hA:Hid (a=pre.length*p):=⟨ha⟩
  clear ha;by_cases hin:a<L
  . have hmx:Try.prog.follows .mixedOrders=true:=by kernel_rfl
    gi_wp2
    obtain ⟨m,hm⟩:∃ m,m=min p (L-a):=⟨_,rfl⟩
    have hmi:(if L-a<p then ((L-a:Nat):Int) else (p:Int))=(m:Int):=by split<;>omega
    have hm1:0<m:=by omega
    have hm2:a+m<=L:=by omega
    have hM:Hid (m=min p (L-a)):=⟨hm⟩
    clear hm;have hmI:Hid ((if L-a<p then ((L-a:Nat):Int) else (p:Int))=(m:Int)):=⟨hmi⟩
    clear hmi;refine wpIn_mono (Q:=fun e a' w'=>e=.normal/\a'={tmps:=#[Value.func (Fn.yield l) #[] #[],Value.pointer (some {block:=Bs,off:=0}),
     Value.pointer (some {block:=Bn,off:=0}),undef,Value.int IntKind.i64 ↑a,Value.int IntKind.i64 ↑m,Value.int IntKind.i64 ↑a,
     Value.slice (some {block:=b,off:=off}) L cap,Value.int IntKind.i64 ↑L,Value.bool true,u10,u11,u12,
     Value.int IntKind.i64 ↑p,Value.slice (some {block:=b,off:=off}) L cap,Value.int IntKind.i64 ↑a,
     Value.slice (some {block:=b,off:=off+a}) (L-a) (cap-a),Value.int IntKind.i64 ↑(L-a),
     Value.int IntKind.i64 ↑m,u19,u20,u21,u22,u23,u24,u25,u26,u27,u28,u29,u30],defers:=[]}/\w'=wr.drew) ?_ ?_
    . gi_region
      all_goals (rw [hmI.it];exact ⟨rfl,rfl,rfl⟩)
    . rintro _ _ _ ⟨rfl,rfl,rfl⟩
      obtain ⟨fn,tmps,assign,body,hy,hR⟩:=hY pre ⟨pre.length,by have:=hA.it;omega⟩ wr.drew (hJd _ _ hJ) (by have:=zy86 pre.length hp;have:=hA.it;omega);simp only [enc,<- hA.it,<- hM.it] at hy;have hap:a+p<2 ^ 63:=by
       have h5:=hA.it;rcases zy83 pre.length with h6 | h6
       . rw [h6,zy84] at h5;omega
       . have:=Nat.le_mul_of_pos_left p h6;omega
      gi_wp2
      refine hR.mono ?_;rintro e W' (⟨rfl,hJ3,hk3⟩ | ⟨rfl,hJx3⟩)
      . have hBs3:=(hk3.cell (o:=0) h1 h2).trans hBs'
        have hBn3:=(hk3.cell (o:=0) h3 h4).trans hBn'
        gi_wp2
        have e:∀ x:Ch L p,(pre++[x]).length*p=a+p:=fun x=>by have:=hA.it;simp [zy17];omega
        go_roundw
        case rel =>
         refine ⟨_,?_,?_,?_,?_,hJ3,hK.trans (Kx.trans (C:=wr.drew) ⟨zy19 _,fun _ _ _=>rfl⟩ hk3)⟩
         . rw [e];rfl
         . simp [hpre,List.range_succ]
         . rw [e];exact hap
         . intro k hk
           rw [zy7,zy75] at hk;by_cases hk2:k<pre.length
           . exact hall k hk2
           . have:k=pre.length:=by omega
             subst this;have:=hA.it;omega
        case measure=>simp [intOf];omega
      . gi_wp2
        refine bodyPost_ret (results_none rfl _ _ _) rfl ?_;exact ⟨⟨_,rfl⟩,.inr ⟨_,trivial,hJx3⟩⟩
  . gi_wp2
    go_end0
    refine ⟨⟨_,rfl⟩,.inl ⟨pre,?_,hJ⟩⟩;rw [hpre,<- yay hp hall (by have:=hA.it;omega)]
theorem zlp (F:Fence) (n:Nat) (hf:F.fn 18) (hro:F.round=none) (l Bs Bn cap:Nat) (o:Option Addr) (J:World->Prop)
 (w:World) (hBs:w.cell? ⟨Bs,0,none⟩=some (.slice o 0 cap)) (h0:J w) :
 CallsIn F n Try.prog 18 #[.func (.yield l) #[] #[],.pointer (some ⟨Bs,0,none⟩),.pointer (some ⟨Bn,0,none⟩)] w fun e W'=>(∃ v,e=.returned v)/\J W':=by
 refine callsIn_of_wp Try.func18 rfl hf ?_ hro;simp only [Try.ntmps18,zy56,zy10,zy22,Nat.reduceAdd,Nat.reduceSub,zy65,zy66,zy71,zy68,zy47,zy21]
 gi_wp2
 gi_loopw [4] (fun i wr=>i=.int .i64 0/\wr=w) (fun _ _=>0)
 case atStart=>exact ⟨rfl,rfl⟩
 case round =>
  obtain ⟨rfl,rfl⟩:=hrel
  gi_wp2
  go_end0
  exact ⟨⟨_,rfl⟩,h0⟩
theorem zqu (F:Fence) (n:Nat) (hf:F.fn 14) (hro:F.round=none) (o:Option Addr) (len cap p:Nat) (hp:0<p) (hp2:p<2 ^ 63) (w:World) :
 CallsIn F n Try.prog 14 #[.slice o len cap,.int .i64 p] w fun e w'=>e=.returned (.func (.func 18) #[] #[.pointer (some ⟨w.heap.size,0,none⟩),.pointer (some ⟨w.heap.size+1,0,none⟩)]) /\
  w'=(w.alloc (.cells #[.slice o len cap] 22)).alloc (.cells #[.int .i64 p] 3):=by
 refine callsIn_of_wp Try.func14 rfl hf ?_ hro;simp only [Try.ntmps14,zy56,zy10,zy22,Nat.reduceAdd,Nat.reduceSub,zy65,zy66,zy71,zy68,zy47,zy21]
 gi_wp2
 go_ret
 exact ⟨rfl,rfl⟩
end Spl
namespace Cl
theorem zpd (l:List UInt8) (hb:l.length<2 ^ 40):zbl Try.prog 15 [.p (.sl 1 (l.map zdt))] zam (.own 0) (lk .free [(0,.live (.row 5 1 (l.map zdt)))]):=by
 refine zce mixed Try.func15 zz6 [] (fun _=>.inl rfl) ?_;(conv=>whnf);intro b hn;(conv=>whnf);refine zgb (fun c=>?_) (fun c=>?_)
 . conv=>whnf
   refine zbp [(0,none)] rfl rfl trivial rfl rfl ⟨⟨rfl,.inr ⟨rfl,hn c⟩⟩,trivial⟩
 . conv=>whnf
   refine zas (c:=(([]:List (List PV)).length+(l.map zdt).length)*1<=140737488355328) zz3 ?_;exact yy34
end Cl
end Go.HL
namespace Go.HL
open Go.Proofs Go.RowKit Go.Shelf
namespace Spl
open Pt
attribute [local go_sem] Oper.semAt_some
theorem zfc (l:List UInt8):(l.map zdt).flatten=l.map fun x=>PV.v (.int .u8 x.toNat):=by
 induction l with
 | nil=>rfl
 | cons x l ih=>rw [zy18,zy55,ih];rfl
theorem zmy {w:World} {R:Nat->Prop} {data:List UInt8} {b o cap:Nat} (hcap:data.length<=cap) (hcm:cap<=maxLen) (hR:R b) (hc:∀ j x,data[j]?=some x->w.cell? ⟨b,o+j,none⟩=some (.int .u8 x.toNat)) :
 zcs w R (.sl 1 (data.map zdt)) (.slice (some ⟨b,o,none⟩) data.length cap):=by
 have h:=zcs.sl (w:=w) (R:=R) 1 (data.map zdt) b o cap (fun k=>.int .u8 (data[k]?.getD 0).toNat) (by simpa using hcap) hcm (fun r hr=>by obtain ⟨x,-,rfl⟩:=zy8.1 hr;rfl) hR
  (fun k x hk=>by
   rw [zfc,zy5,zy4] at hk;obtain ⟨y,hy,rfl⟩:=hk;rw [hc k y hy,hy];rfl)
  (fun k x hk=>by
   rw [zfc,zy5,zy4] at hk;obtain ⟨y,hy,rfl⟩:=hk;rw [hy];exact .v _ rfl)
 rw [zy6] at h;exact h
theorem zfn (w:World) (data:List UInt8) (b o cap:Nat) (hlen:data.length<2 ^ 40) (hne:data≠[]) (hcap:data.length<=cap) (hcm:cap<=maxLen) (hb:b<w.heap.size)
 (hc:∀ j x,data[j]?=some x->w.cell? ⟨b,o+j,none⟩=some (.int .u8 x.toNat)) :
 Calls Try.prog 15 #[.slice (some ⟨b,o,none⟩) data.length cap] w fun e w'=>∃ (g c:Nat) (arr:Array Value),e=.returned (.slice (some ⟨g,0,none⟩) data.length c)/\w.heap.size<=g/\data.length<=c/\c<=maxLen /\
  w'.heap[g]?=some (.cells arr 5 (0,0))/\(∀ (j:Nat) (x:UInt8),data[j]?=some x->arr[j]?=some (Value.int .u8 x.toNat))/\Below w.heap.size w w':=by
 have hok:zag ⟨fun k=>k=b,w,fun _=>False,fun _=>none⟩ (fun _=>none) zam w :=
  ⟨zy19 _,rfl,rfl,rfl,fun _ _ _=>rfl,fun _ _=>rfl,(fun _ _ h=>by cases h),(fun _ _ h=>by cases h),(fun _ _ _ _ _ _ h=>by cases h),(fun _ h=>h.elim)⟩
 have hargs:zae (fun _=>none) w (RR ⟨fun k=>k=b,w,fun _=>False,fun _=>none⟩ (fun _=>none) zam w) [.p (.sl 1 (data.map zdt))] [.slice (some ⟨b,o,none⟩) data.length cap]:=by
  simp only [zae,zad];exact ⟨_,_,rfl,zmy hcap hcm ⟨.inl rfl,hb,zhd⟩ hc,rfl⟩
 obtain ⟨-,h⟩:=Cl.zpd data hlen _ _ w _ hok hargs rfl;refine h.mono ?_;rintro e w' ⟨v,m',rfl,hok',hv,-⟩;simp only [zad] at hv;obtain ⟨l,hm,rfl⟩:=hv;obtain ⟨l',hm',hb',hl'⟩:=hok'.live 0 _ rfl;rw [hm] at hm';cases hm';obtain ⟨e1,-,⟨-,e2⟩ | ⟨hn,e3,e4,arr,e5,e6,e7⟩⟩:=hb'
 . exact absurd (List.map_eq_nil_iff.1 e2) hne
 . rw [zy6] at e1 e3
   refine ⟨l.blk,l.cap,arr,by rw [hdr,hn,e1];rfl,?_,e3,e4,e5,fun j x hj=>?_,⟨hok'.os,hok'.tape,hok'.output,hok'.size,fun k hk=>hok'.frame k hk fun h=>h⟩⟩
   . rcases (hl' hn).1 with h | h
     . exact h.elim
     . exact h
   . obtain ⟨cv,h1,h2⟩:=e7 j (.v (.int .u8 x.toNat)) (by rw [zfc,zy5,hj];rfl)
     cases h2;exact h1
end Spl
end Go.HL
namespace Go.HL
open Go.Proofs Go.RowKit Go.Shelf
namespace Spl
open Pt
attribute [local go_sem] Oper.semAt_some
def El (W:World) (n1:Nat) (data:List UInt8) (p k:Nat) (u:Value):Prop :=
 ∃ (g c:Nat) (arr:Array Value),u=.slice (some ⟨g,0,none⟩) (piece data p k).length c/\n1<=g/\(piece data p k).length<=c/\c<=maxLen/\W.heap[g]?=some (.cells arr 5 (0,0)) /\
  ∀ (j:Nat) (x:UInt8),(piece data p k)[j]?=some x->arr[j]?=some (Value.int .u8 x.toNat)
def Inv (data:List UInt8) (p L:Nat) (w:World) (pre:List (Ch L p)) (W:World):Prop :=
 ∃ v vs,Boxed W w.heap.size 26 v/\W.ownsRow (w.heap.size+3) 22 1 v pre.length vs/\(∀ (k:Nat) (x:Ch L p),pre[k]?=some x->∃ u,vs[k]?=some u/\El W (w.heap.size+3) data p x.1 u) /\
  Below w.heap.size w W/\w.heap.size+3<=W.heap.size
theorem El.kept {W W':World} {n1:Nat} {data:List UInt8} {p k:Nat} {u:Value} (h:El W n1 data p k u) (hk:∀ (g:Nat) (arr:Array Value),W.heap[g]?=some (Obj.cells arr 5 (0,0))->W'.heap[g]?=W.heap[g]?):El W' n1 data p k u:=by
 obtain ⟨g,c,arr,h1,h2,h3,h4,h5,h6⟩:=h;exact ⟨g,c,arr,h1,h2,h3,h4,(hk g arr h5).trans h5,h6⟩
theorem zut (data:List UInt8) (p L:Nat) (w:World):OwnFrom (w.heap.size+3) (Inv data p L w):=by
 rintro pre X Y row ⟨v,vs,h1,h2,h3,h5,h4⟩ hg hr;have hk:∀ {g:Nat} {o:Obj},X.heap[g]?=some o->o.isCells=true->some g≠row:=fun h hc e=>by
  obtain ⟨-,o',h6,h7⟩:=hr _ e.symm;rw [h] at h6;cases h6;rw [hc] at h7;cases h7
 refine ⟨v,vs,h1.kept hg (hk h1 rfl),h2.kept hg ?_,fun k x hx=>?_,h5.grown hg h5.size (fun k e=>by have:=(hr k e).1;omega),zy43 h4 hg.size⟩
 . rcases h2.2 with ⟨rfl,_⟩ | ⟨g,cap,cur,rfl,_,hgb,_⟩
   . exact .inl rfl
   . exact .inr fun e=>hk hgb rfl (by rw [<- e];rfl)
 . obtain ⟨u,hu,he⟩:=h3 k x hx
   exact ⟨u,hu,he.kept fun g arr h=>hg.block g (zy20.1 h).1 (hk h rfl)⟩
theorem zlv {W W':World} (h:Below W.heap.size W W'):W.grownBy W' none:=⟨h.os,h.tape,h.output,h.size,fun k hk _=>h.block k hk⟩
theorem ztu {W:World} {a c:Nat} {e:TypeId} {size:Nat} {v:Value} {k:Nat} {xs:List Value} (h:W.ownsRow c e size v k xs) (ha:a<=c):W.ownsRow a e size v k xs:=by
 refine ⟨h.1,?_⟩;rcases h.2 with h2 | ⟨g,cap,cur,h2,h3,h4⟩
 . exact .inl h2
 . exact .inr ⟨g,cap,cur,h2,zy43 ha h3,h4⟩
theorem appended {W w1:World} {n0 n1 B:Nat} {t e:TypeId} {size:Nat} {v v':Value} {k m:Nat} {xs ys:List Value} {tmp:Obj}
 (hv:Boxed W B t v) (hte:t≠e) (zdq:W.ownsRow n1 e size v k xs) (hn:n0<=W.heap.size) (hB:n0<=B) (h01:n0<=n1) (hown':w1.ownsRow n1 e size v' m ys) (hgrow:(W.alloc tmp).grownBy w1 v.ownBlock) :
 Boxed w1 B t v/\Boxed (w1.setCell ⟨B,0,none⟩ v') B t v'/\(w1.setCell ⟨B,0,none⟩ v').ownsRow n1 e size v' m ys/\KeepsOthers W (w1.setCell ⟨B,0,none⟩ v')/\Below n0 W (w1.setCell ⟨B,0,none⟩ v') /\
  ∀ g,g<W.heap.size->g≠B->some g≠v.ownBlock->(w1.setCell ⟨B,0,none⟩ v').heap[g]?=W.heap[g]?:=by
 obtain ⟨a1,a2,-,a4,a5⟩:=Boxed.appended hv hte (ztu zdq h01) hn hB (ztu hown' h01) hgrow;refine ⟨a1,a2,hown'.kept (grownBy_setCell' w1 B v') (.inr (a1.not_row hte hown').symm),a4,a5,fun g hg hgB hgo=>?_⟩;refine (Below.heap_setCell _ _ _ g hgB).trans ((hgrow.block g zz3 hgo).trans ?_);exact (World.grownBy_alloc W tmp none).block g hg zz1
theorem zen {F:Fence} {n:Nat} {P:Program} (w:World) {o:Oper} {a:Act} {K:Act->World->Prop} {Q:Exit->Act->World->Prop}
 (s x:Operand) (t:TypeId) (hop:o.op=Op.call {callee:=Callee.builtin Builtin.append,args:=#[s,x],argTypes:=#[t,t]})
 (base:Nat) (e:TypeId) (i:TypeInfo) (z:Value) (size bytes:Nat) (h1:P.underlying t=some (.slice e)) (h2:P.info? e=some i) (h3:i.zero=some z) (h4:i.size=size) (h5:i.bytes=bytes) (h6:z.cells.size=size) (h7:0<size)
 (v:Value) (k:Nat) (xs:List Value) (hs:a.eval s=v) (hown:w.ownsRow base e size v k xs) (ad:Addr) (m c:Nat) (news:List Value) (hx:a.eval x=.slice (some ad) m c) (hn:news.length=m*size)
 (hc:∀ j u,news[j]?=some u->w.cell? (ad.add j)=some u) (h1c:∀ u∈news,u.oneCell'=true) (b1:k+m<=maxLen) (b2:(k+m)*bytes<=140737488355328) (b3:base<=w.heap.size)
 (hK:∀ v' w',w'.ownsRow base e size v' (k+m) (xs++news)->w.grownBy w' v.ownBlock->K (a.put o.dst v') w'):Oper.wpIn F n P o a w K Q:=by
 obtain ⟨v',w',zbq,r1,r2,-⟩:=run_append_own (P:=P) w base t o.type e i z size bytes h1 h2 h3 h4 h5 h6 h7 v k xs hown ad m c news hn hc h1c b1 b2 b3;unfold Oper.wpIn;refine ⟨?_,?_⟩
 . simp [Oper.about,hop,resolve,Target.leads,Sem.run_pure]
 . rw [Oper.semAt_plain F _ _ (by rw [hop];intro c hc';cases hc')]
   simp [execOp,hop,resolve,invoke,builtin,hs,hx,zbq,Result.andThen];exact hK _ _ r1 r2
theorem zxi {c A B:Prop} [Decidable c] (h:c) (a:A):if c then A else B:=by rw [zy12 h];exact a
theorem zqz {data:List UInt8} {p L:Nat} {w W w' Z:World} {pre:List (Ch L p)} {x:Ch L p} {v v':Value} {vs:List Value} {g c N:Nat} {arr:Array Value}
 (hv:Boxed W w.heap.size 26 v) (zdq:W.ownsRow (w.heap.size+3) 22 1 v pre.length vs) (hels:∀ (k:Nat) (x:Ch L p),pre[k]?=some x->∃ u,vs[k]?=some u/\El W (w.heap.size+3) data p x.1 u)
 (hB:Below w.heap.size w W) (hs:w.heap.size+3<=W.heap.size) (hg1:W.heap.size<=g) (hg2:(piece data p x.1).length<=c) (hg3:c<=maxLen) (hg4:w'.heap[g]?=some (.cells arr 5 (0,0)))
 (hg5:∀ (j:Nat) (y:UInt8),(piece data p x.1)[j]?=some y->arr[j]?=some (Value.int .u8 y.toNat)) (hg6:Below W.heap.size W w')
 (hr2:Z.ownsRow (w.heap.size+3) 22 1 v' (pre.length+1) (vs++[.slice (some ⟨g,0,none⟩) (piece data p x.1).length c])) (hv2:Boxed Z w.heap.size 26 v') (hk2:KeepsOthers w' Z) (hb2:Below w.heap.size w' Z)
 (hq2:∀ g,g<w'.heap.size->g≠w.heap.size->some g≠v.ownBlock->Z.heap[g]?=w'.heap[g]?) :
 KeepsFrom N W Z/\Kx w.heap.size (w.heap.size+3) W Z/\Inv data p L w (pre++[x]) Z:=by
 have hbs:=hg6.size;have hown:∀ h,v.ownBlock=some h->w.heap.size+3<=h/\∃ cur,W.heap[h]?=some (.cells cur 22 (0,0)):=fun h e=>by
  rcases zdq.2 with ⟨rfl,_⟩ | ⟨h2,cap,cur,rfl,h3,h4,_⟩
  . cases e
  . have:h2=h:=by simpa [Value.ownBlock] using e
    subst this;exact ⟨h3,cur,h4⟩
 have hlen:vs.length=pre.length:=by have:=zdq.1;omega
 have key:∀ (h:Nat) (ar:Array Value),w'.heap[h]?=some (.cells ar 5 (0,0))->Z.heap[h]?=w'.heap[h]?:=fun h ar e=>by
  refine hq2 h (zy20.1 e).1 ?_ fun e2=>?_
  . rintro rfl
    rw [(hg6.block _ hv.lt).trans hv] at e;simp at e
  . obtain ⟨-,cur,e3⟩:=hown h e2.symm
    rw [(hg6.block _ (zy20.1 e3).1).trans e3] at e;simp at e
 refine ⟨(KeepsOthers.trans ⟨hg6.size,fun k o hk _=>(hg6.block k (zy20.1 hk).1).trans hk⟩ hk2).from _,⟨zy43 hg6.size hb2.size,fun k h1 h2=>?_⟩,
  v',_,hv2,by rw [zy7];exact hr2,fun k y hy=>?_,(hB.trans (hg6.mono zz0)).trans hb2,zy43 (zy43 hs hbs) hb2.size⟩
 . refine (hq2 k zz0 h2 fun e=>?_).trans (hg6.block k zz0)
   have:=(hown k e.symm).1;omega
 . by_cases hk:k<pre.length
   . rw [zy26 hk] at hy
     obtain ⟨u,h1,h2⟩:=hels k y hy;refine ⟨u,by rw [zy26 (by omega)];exact h1,?_⟩;have h3:=h2.kept (W':=w') fun h ar e=>hg6.block h (zy20.1 e).1
     exact h3.kept key
   . rw [zy28 (by omega)] at hy ⊢
     rw [hlen];have hk0:k-pre.length=0:=by
      rcases zy83 (k-pre.length) with h | h
      . exact h
      . rw [zy36 (by simp;omega)] at hy;cases hy
     rw [hk0] at hy ⊢;simp at hy;subst hy;refine ⟨_,rfl,El.kept (W:=w') ?_ key⟩;exact ⟨g,c,arr,rfl,by omega,hg2,hg3,hg4,hg5⟩
theorem ycl:(Try.prog.info? 22).map (fun i=>(i.zero,i.size,i.bytes))=some (some (.slice none 0 0),1,24):=by kernel_rfl
theorem zyh (w:World) (data:List UInt8) (b off cap p:Nat) (hp:0<p) (hp2:p<2 ^ 63) (hL:data.length<2 ^ 40) (hcap:data.length<=cap) (hb:b<w.heap.size)
 (hc:∀ j x,data[j]?=some x->w.cell? ⟨b,off+j,none⟩=some (.int .u8 x.toNat)) :
 Calls Try.prog 7 #[.slice (some ⟨b,off,none⟩) data.length cap,.int .i64 p] w fun e W'=>∃ v vs,e=.returned v/\W'.ownsRow (w.heap.size+3) 22 1 v (cnt data.length p) vs /\
  (∀ k,k<cnt data.length p->∃ u,vs[k]?=some u/\El W' (w.heap.size+3) data p k u)/\Below w.heap.size w W':=by
 refine (callsIn_wide (n:=3)).1 ?_;refine callsIn_of_wp_marks Try.func7 rfl trivial ?_ rfl;simp only [Try.ntmps7,zy56,zy10,zy22,Nat.reduceAdd,Nat.reduceSub,zy65,zy66,zy71,zy68,zy47,zy21]
 gi_wp2_with (refine ⟨trivial,?_⟩;gi_at_call 14;refine (zqu Fence.wide _ trivial rfl _ _ _ p hp hp2 _).mono ?_;rintro e w' ⟨rfl,rfl⟩)
 obtain ⟨W0,hW0⟩:∃ W0,((w.alloc (.cells #[.slice none 0 0] 26)).alloc (.cells #[.slice (some ⟨b,off,none⟩) data.length cap] 22)).alloc (.cells #[.int .i64 p] 3)=W0:=⟨_,rfl⟩
 rw [hW0];have hsz:W0.heap.size=w.heap.size+3:=by rw [<- hW0];simp
 have hB0:Below w.heap.size w W0:=by rw [<- hW0];exact (((Below.refl _ w).alloc (zy19 _) _).alloc zz1 _).alloc zz3 _
 have bO:Boxed W0 w.heap.size 26 (.slice none 0 0):=by rw [<- hW0];exact ((Boxed.new w _ _).alloc _).alloc _
 have bS:Boxed W0 (w.heap.size+1) 22 (.slice (some ⟨b,off,none⟩) data.length cap):=by
  have:=(Boxed.new (w.alloc (.cells #[.slice none 0 0] 26)) 22 (.slice (some ⟨b,off,none⟩) data.length cap)).alloc (.cells #[.int .i64 p] 3);rw [World.size_alloc,hW0] at this;exact this
 have bN:Boxed W0 (w.heap.size+2) 3 (.int .i64 p):=by
  have:=Boxed.new ((w.alloc (.cells #[.slice none 0 0] 26)).alloc (.cells #[.slice (some ⟨b,off,none⟩) data.length cap] 22)) 3 (.int .i64 p);rw [World.size_alloc,World.size_alloc,hW0] at this;exact this
 refine wpIn_rangeFunc_ownG rfl zz0 (gf:=18) (lb:=#[.pointer (some ⟨w.heap.size+1,0,none⟩),.pointer (some ⟨w.heap.size+2,0,none⟩)]) rfl trivial (enters_of Try.func18 zz5 rfl)
  (encs:=enc b off data.length p) (Kp:=Kx w.heap.size (w.heap.size+3)) (S:=fun ys=>ys.map (·.1)=List.range (cnt data.length p)) (Sp:=fun _=>True) (N:=data.length) (w0:=W0)
  ?seq (fun h k=>h.trans k) (fun W l o o' hl h hc hw=>⟨by simp,fun k hk _=>World.putObj_heap_other zz0⟩) (Below.refl _ _) (fun _=>rfl)
  (Inv data p data.length w) (fun _ _ _=>False) (hsz ▸ zut data p data.length w) (fun _ _ _ _ _ hs _ _=>hs)
  ⟨_,[],bO,World.ownsRow_nil _ _ _ _,by simp,hB0,by omega⟩
  (fun x=>{tmps:=#[.slice (some ⟨b,off,none⟩) data.length cap,.int .i64 p,undef,undef,.slice none 0 0,.pointer (some ⟨w.heap.size,0,none⟩),.slice (some ⟨b,off+x.1*p,none⟩) (min p (data.length-x.1*p)) (min p (data.length-x.1*p)),.int .i64 p,.bool (decide ((p:Int)<1)),
   .slice (some ⟨b,off,none⟩) data.length cap,.int .i64 p,.func (.func 18) #[] #[.pointer (some ⟨w.heap.size+1,0,none⟩),.pointer (some ⟨w.heap.size+2,0,none⟩)],.slice (some ⟨b,off+x.1*p,none⟩) (min p (data.length-x.1*p)) (min p (data.length-x.1*p)),undef,undef,undef,undef,undef,undef],defers:=[]}) ?assign ?body ?done ?stop
 case seq =>
  intro l J Jx W hW hJ _ hY h0;exact ztw Fence.wide _ trivial rfl zz0 l (w.heap.size+1) (w.heap.size+2) w.heap.size (w.heap.size+3) b off data.length cap p hp hp2 hL hcap zz0 zz0 zz0 zz0 J Jx
   (fun pre W h=>hJ pre W _ none h ⟨rfl,rfl,rfl,zy19 _,fun _ _ _=>rfl⟩ (fun _ e=>by cases e)) hY W ((hW.cell (p:=⟨w.heap.size+1,0,none⟩) zz3).trans bS.cell) ((hW.cell (p:=⟨w.heap.size+2,0,none⟩) zz3).trans bN.cell) h0
 case assign =>
  intro l x W K hK
  gi_wp2
  exact hK
 case body =>
  rintro l pre x W ⟨v,vs,hv,zdq,hels,hB,hs3⟩ hlt;have hcv:=hv.cell;have hmx:Try.prog.follows .mixedOrders=true:=by kernel_rfl
  obtain ⟨d,hd⟩:∃ d,d=piece data p x.1:=⟨_,rfl⟩
  have hm:min p (data.length-x.1*p)=d.length:=by rw [hd,zvo]
  have hx:=x.2;have hdn:d≠[]:=by intro e;rw [e] at hm;simp at hm;omega
  have hdl:d.length<2 ^ 40:=by omega
  have hdc:∀ j y,d[j]?=some y->W.cell? ⟨b,off+x.1*p+j,none⟩=some (.int .u8 y.toNat):=fun j y hj=>by
   refine (hB.cell (p:=⟨b,off+x.1*p+j,none⟩) hb).trans ?_;rw [zy70];refine hc _ _ ?_;rw [hd,piece,zy23] at hj;split at hj
   . rwa [zy29] at hj
   . cases hj
  rw [hm];have hbW:b<W.heap.size:=by have:=hB.size;omega
  have hD:Hid (d=piece data p x.1):=⟨hd⟩
  clear hd;obtain ⟨i0,hi,hz0,hz1,hz2⟩:=info_parts ycl
  gi_wp2
  refine wpIn_region_any (by assumption) ?_
  change wpAnyIn _ _ _ _ _ _ _ _ _ (World.drew _)
  refine wpAnyIn_ready (rs:=[0,1]) zz5 zz1 ?_;refine AllReadyIn.cons rfl (fun K hK=>?_) ?_
  . go_simp
    refine hK _ _ ?_;clear hK K;refine wpAnyIn_ready (rs:=[1]) zz5 zz1 ?_;refine AllReadyIn.cons rfl (fun K hK=>?_) ?_
    . go_simp
      refine hK _ _ ?_;clear hK K;refine wpAnyIn_ready (rs:=[2]) zz5 zz1 ?_;refine AllReadyIn.cons rfl (fun K hK=>?_) ?_
      . go_simp
        gi_wp2_with (refine ⟨trivial,?_⟩;gi_at_call 15;refine (CallsIn.inRound l (callsIn_wide.2 (zfn W.drew d b (off+x.1*p) d.length hdl hdn (zy19 _) zz15 hbW hdc))).mono ?_;rintro e w' ⟨g,c,arr,rfl,hg1,hg2,hg3,hg4,hg5,hg0⟩;have hg6:Below W.heap.size W w':=⟨hg0.os,hg0.tape,hg0.output,hg0.size,hg0.block⟩;have hv':Boxed w' w.heap.size 26 v:=(hg6.block _ hv.lt).trans hv;have hcv':=hv'.cell;have hrow':=zdq.kept (zlv hg6) zz32)
        refine wpAnyIn_ready (rs:=[3]) zz5 zz1 ?_;refine AllReadyIn.cons rfl (fun K hK=>?_) ?_
        . go_simp
          exact yy0
        exact AllReadyIn.nil
      exact AllReadyIn.nil
    exact AllReadyIn.nil
  refine AllReadyIn.cons rfl (fun K hK=>?_) ?_
  . go_simp
    refine hK _ _ ?_;clear hK K;refine wpAnyIn_ready (rs:=[0,2]) zz5 zz1 ?_;refine AllReadyIn.cons rfl (fun K hK=>?_) ?_
    . go_simp
      refine hK _ _ ?_;clear hK K;refine wpAnyIn_ready (rs:=[2]) zz5 zz1 ?_;refine AllReadyIn.cons rfl (fun K hK=>?_) ?_
      . go_simp
        gi_wp2_with (refine ⟨trivial,?_⟩;gi_at_call 15;refine (CallsIn.inRound l (callsIn_wide.2 (zfn W.drew d b (off+x.1*p) d.length hdl hdn (zy19 _) zz15 hbW hdc))).mono ?_;rintro e w' ⟨g,c,arr,rfl,hg1,hg2,hg3,hg4,hg5,hg0⟩;have hg6:Below W.heap.size W w':=⟨hg0.os,hg0.tape,hg0.output,hg0.size,hg0.block⟩;have hv':Boxed w' w.heap.size 26 v:=(hg6.block _ hv.lt).trans hv;have hcv':=hv'.cell;have hrow':=zdq.kept (zlv hg6) zz32)
        refine wpAnyIn_ready (rs:=[3]) zz5 zz1 ?_;refine AllReadyIn.cons rfl (fun K hK=>?_) ?_
        . go_simp
          exact yy0
        exact AllReadyIn.nil
      exact AllReadyIn.nil
    refine AllReadyIn.cons rfl (fun K hK=>?_) ?_
    . go_simp
      gi_wp2_with (refine ⟨trivial,?_⟩;gi_at_call 15;refine (CallsIn.inRound l (callsIn_wide.2 (zfn W.drew d b (off+x.1*p) d.length hdl hdn (zy19 _) zz15 hbW hdc))).mono ?_;rintro e w' ⟨g,c,arr,rfl,hg1,hg2,hg3,hg4,hg5,hg0⟩;have hg6:Below W.heap.size W w':=⟨hg0.os,hg0.tape,hg0.output,hg0.size,hg0.block⟩;have hv':Boxed w' w.heap.size 26 v:=(hg6.block _ hv.lt).trans hv;have hcv':=hv'.cell;have hrow':=zdq.kept (zlv hg6) zz32)
      refine wpAnyIn_ready (rs:=[0,3]) zz5 zz1 ?_;refine AllReadyIn.cons rfl (fun K hK=>?_) ?_
      . go_simp
        refine hK _ _ ?_;clear hK K;refine wpAnyIn_ready (rs:=[3]) zz5 zz1 ?_;refine AllReadyIn.cons rfl (fun K hK=>?_) ?_
        . go_simp
          exact yy0
        exact AllReadyIn.nil
      refine AllReadyIn.cons rfl (fun K hK=>?_) ?_
      . go_simp
        refine hK _ _ ?_;clear hK K;refine wpAnyIn_ready (rs:=[0]) zz5 zz1 ?_;refine AllReadyIn.cons rfl (fun K hK=>?_) ?_
        . have hcA:=(hv'.alloc (.cells #[.slice (some ⟨g,0,none⟩) d.length c] 22)).cell
          go_simp
          exact yy0
        exact AllReadyIn.nil
      exact AllReadyIn.nil
    exact AllReadyIn.nil
  exact AllReadyIn.nil
 case done =>
  rintro D ys W hD hS ⟨v,vs,hv,zdq,hels,hB,hs3⟩ hK;have hcv:=hv.cell;have hlen:ys.length=cnt data.length p:=by have:=congrArg List.length hS;simpa using this
  gi_wp2
  refine ⟨by simp,.inl ⟨_,_,rfl,run_takeDeferred hK,?_⟩⟩;refine ⟨_,results_tmp rfl _ _ _,v,vs,rfl,by rw [<- hlen];exact ownsRow_putObj zdq _ hK rfl,fun k hk=>?_,hB.trans (belowK_b (w:=w) (zy19 _) W D _ _ zz0 hK rfl rfl)⟩;obtain ⟨u,h1,h2⟩:=hels k ys[k] (zy15 zz0);have h3:ys[k].1=k:=by
   have:=congrArg (fun z:List Nat=>z[k]?) hS
   simpa [hk,hlen] using this
  rw [h3] at h2;refine ⟨u,h1,h2.kept fun g arr h=>World.putObj_heap_other ?_⟩;rintro rfl;rw [hK] at h;cases h
 case stop =>
  rintro D c pre W _ _ h _;exact h.elim
end Spl
end Go.HL
namespace Go.HL
open Go.Proofs Go.RowKit Go.Shelf
namespace Spl
open Pt
attribute [local go_sem] Oper.semAt_some
theorem zor (w:World) (o:Option Addr) (cap p:Nat) (hp:0<p) (hp2:p<2 ^ 63) :
 Calls Try.prog 7 #[.slice o 0 cap,.int .i64 p] w fun e W'=>∃ v vs,e=.returned v/\W'.ownsRow (w.heap.size+3) 22 1 v 0 vs/\Below w.heap.size w W':=by
 refine (callsIn_wide (n:=3)).1 ?_;refine callsIn_of_wp_marks Try.func7 rfl trivial ?_ rfl;simp only [Try.ntmps7,zy56,zy10,zy22,Nat.reduceAdd,Nat.reduceSub,zy65,zy66,zy71,zy68,zy47,zy21]
 gi_wp2_with (refine ⟨trivial,?_⟩;gi_at_call 14;refine (zqu Fence.wide _ trivial rfl _ _ _ p hp hp2 _).mono ?_;rintro e w' ⟨rfl,rfl⟩)
 obtain ⟨W0,hW0⟩:∃ W0,((w.alloc (.cells #[.slice none 0 0] 26)).alloc (.cells #[.slice o 0 cap] 22)).alloc (.cells #[.int .i64 p] 3)=W0:=⟨_,rfl⟩
 rw [hW0];have hsz:W0.heap.size=w.heap.size+3:=by rw [<- hW0];simp
 have hB0:Below w.heap.size w W0:=by rw [<- hW0];exact (((Below.refl _ w).alloc (zy19 _) _).alloc zz1 _).alloc zz3 _
 have bO:Boxed W0 w.heap.size 26 (.slice none 0 0):=by rw [<- hW0];exact ((Boxed.new w _ _).alloc _).alloc _
 have bS:Boxed W0 (w.heap.size+1) 22 (.slice o 0 cap):=by
  have:=(Boxed.new (w.alloc (.cells #[.slice none 0 0] 26)) 22 (.slice o 0 cap)).alloc (.cells #[.int .i64 p] 3);rw [World.size_alloc,hW0] at this;exact this
 refine wpIn_rangeFunc_ownG rfl zz0 (gf:=18) (lb:=#[.pointer (some ⟨w.heap.size+1,0,none⟩),.pointer (some ⟨w.heap.size+2,0,none⟩)]) rfl trivial (enters_of Try.func18 zz5 rfl)
  (encs:=enc 0 0 0 p) (Kp:=Kx w.heap.size (w.heap.size+3)) (S:=fun ys=>ys=[]) (Sp:=fun _=>True) (N:=0) (w0:=W0)
  ?seq (fun h k=>h.trans k) (fun W l o o' hl h hc hw=>⟨by simp,fun k hk _=>World.putObj_heap_other zz0⟩) (Below.refl _ _) (fun _=>rfl)
  (Inv [] p 0 w) (fun _ _ _=>False) (hsz ▸ zut [] p 0 w) (fun _ _ _ _ _ hs _ _=>hs)
  ⟨_,[],bO,World.ownsRow_nil _ _ _ _,by simp,hB0,by omega⟩
  (fun x=>{tmps:=#[.slice o 0 cap,.int .i64 p,undef,undef,.slice none 0 0,.pointer (some ⟨w.heap.size,0,none⟩),.slice (some ⟨0,0+x.1*p,none⟩) (min p (0-x.1*p)) (min p (0-x.1*p)),.int .i64 p,.bool (decide ((p:Int)<1)),
   .slice o 0 cap,.int .i64 p,.func (.func 18) #[] #[.pointer (some ⟨w.heap.size+1,0,none⟩),.pointer (some ⟨w.heap.size+2,0,none⟩)],.slice (some ⟨0,0+x.1*p,none⟩) (min p (0-x.1*p)) (min p (0-x.1*p)),undef,undef,undef,undef,undef,undef],defers:=[]}) ?assign ?body ?done ?stop
 case seq =>
  intro l J Jx W hW hJ _ hY h0;refine (zlp Fence.wide _ trivial rfl l (w.heap.size+1) (w.heap.size+2) cap o (J []) W ((hW.cell (p:=⟨w.heap.size+1,0,none⟩) zz3).trans bS.cell) h0).mono ?_;rintro e W' ⟨h1,h2⟩;exact ⟨h1,.inl ⟨[],rfl,h2⟩⟩
 case assign =>
  intro l x;exact absurd x.2 (Nat.not_lt_zero _)
 case body =>
  intro l pre x;exact absurd x.2 (Nat.not_lt_zero _)
 case done =>
  rintro D ys W hD rfl ⟨v,vs,hv,zdq,hels,hB,hs3⟩ hK;have hcv:=hv.cell
  gi_wp2
  refine ⟨by simp,.inl ⟨_,_,rfl,run_takeDeferred hK,?_⟩⟩;exact ⟨_,results_tmp rfl _ _ _,v,vs,rfl,ownsRow_putObj zdq _ hK rfl,hB.trans (belowK_b (w:=w) (zy19 _) W D _ _ zz0 hK rfl rfl)⟩
 case stop =>
  rintro D c pre W _ _ h _;exact h.elim
theorem zra {α:Type} (l:List α) (f:α->PV):(l.map fun c=>[f c]).flatten=l.map f:=by
 induction l with
 | nil=>rfl
 | cons x l ih=>rw [zy18,zy55,ih];rfl
abbrev parts (l:List (List UInt8)):HV:=.p (.sl 1 (l.map fun c=>[.sl 1 (c.map zdt)]))
theorem zle (b:List UInt8) (p:Int) (hb:b.length<2 ^ 40) (hp:p<2 ^ 63):zbl Try.prog 7 [.p (.sl 1 (b.map zdt)),i64 p] zam (parts (split b p.toNat)) zam:=by
 by_cases c:p<1
 . refine zcj mixed Try.func7 zz6 ?_
   (conv=>whnf);refine zat (by simpa using c) ?_;(conv=>whnf);have:p.toNat=0:=by omega
   rw [this,split,zlq];rfl
 . obtain ⟨q,rfl⟩:∃ q:Nat,p=q:=⟨p.toNat,by omega⟩
   rw [zy64];intro Γ m w vals hok hargs h0;refine ⟨enters_of Try.func7 zz5 rfl _ _,?_⟩;simp only [zae,zad] at hargs;obtain ⟨v1,r,rfl,h1,v2,r2,rfl,h2,rfl⟩:=hargs;cases h2;have fin:∀ W',Below w.heap.size w W'->zag Γ (fun _=>none) zam W':=fun W' hB =>
    ⟨zy43 hok.size hB.size,hB.os.trans hok.os,hB.tape.trans hok.tape,hB.output.trans hok.output,fun k hk ho=>(hB.block k (by have:=hok.size;omega)).trans (hok.frame k hk ho),fun _ _=>rfl,
     (fun _ _ h=>by cases h),(fun _ _ h=>by cases h),(fun _ _ _ _ _ _ h=>by cases h),hok.dom⟩
   have hmm:∀ id l,pin<=id->m id=some l->(fun _=>none:zbt) id=some l:=fun id l _ h=>by rw [hok.free id rfl] at h;cases h
   by_cases hne:b=[]
   . subst hne
     have:∃ o cap,v1=.slice o 0 cap:=by
      cases h1 with
      | sl0 _ a c _=>exact ⟨a,c,rfl⟩
      | sl _ _ b o c _ _ _ _ _ _ _=>exact ⟨_,c,rfl⟩
     obtain ⟨o,cap,rfl⟩:=this;refine (zor w o cap q zz0 zz0).mono ?_;rintro e W' ⟨v,vs,rfl,zdq,hB⟩;refine ⟨v,_,rfl,fin W' hB,?_,hmm⟩;have e0:split [] q=[]:=by rw [split,show cnt ([]:List UInt8).length q=0 from Nat.le_zero.1 zqv];rfl
     rw [e0];simp only [zad,List.map_nil];rcases zdq.2 with ⟨rfl,_⟩ | ⟨g,cap,cur,rfl,_,_,_,h3,_⟩
     . exact .sl0 _ _ _ (zy79 _)
     . exact .sl0 _ _ _ h3
   . have:∃ k off cap,v1=.slice (some ⟨k,off,none⟩) b.length cap/\b.length<=cap/\cap<=maxLen/\k<w.heap.size/\∀ (j:Nat) (x:UInt8),b[j]?=some x->w.cell? ⟨k,off+j,none⟩=some (Value.int .u8 x.toNat):=by
      generalize hr:b.map zdt=rows at h1;cases h1 with
      | sl0 _ a c _=>exact absurd (List.map_eq_nil_iff.1 hr) hne
      | sl _ _ k o c cv hc hm hn hR hcell hrep =>
       subst hr;refine ⟨k,o,c,by rw [zy6],by simpa using hc,hm,hR.2.1,fun j x hx=>?_⟩;have h3:(b.map zdt).flatten[j]?=some (.v (.int .u8 x.toNat)):=by rw [zfc,zy5,hx];rfl
       have h4:=hrep j _ h3;rw [hcell j _ h3];generalize cv j=z at h4;cases h4;rfl
     obtain ⟨k,off,cap,rfl,hc1,-,hk,hcells⟩:=this;refine (zyh w b k off cap q zz0 zz0 hb hc1 hk hcells).mono ?_;rintro e W' ⟨v,vs,rfl,zdq,hels,hB⟩;refine ⟨v,_,rfl,fin W' hB,?_,hmm⟩;simp only [zad];have hpos:0<cnt b.length q:=(zku zz0).2 (by rw [zy84];exact zy11.2 hne);have hlv:vs.length=cnt b.length q:=by have:=zdq.1;omega
     have hR:∀ g o,w.heap.size+3<=g->W'.heap[g]?=some o->RR Γ (fun _=>none) zam W' g:=fun g o h1 h2=>⟨.inr (by have:=hok.size;omega),(zy20.1 h2).1,zhd⟩
     rcases zdq.2 with ⟨_,h4⟩ | ⟨g,cap2,cur,rfl,hg1,hg2,hg3,hg4,_⟩
     . omega
     . have hsl:(split b q).length=cnt b.length q:=by simp [split]
       have h:=zcs.sl (w:=W') (R:=RR Γ (fun _=>none) zam W') 1 ((split b q).map fun c=>[.sl 1 (c.map zdt)]) g 0 cap2 (fun k=>vs[k]?.getD undef) (by simpa [hsl] using hg3) hg4 (fun r hr=>by obtain ⟨x,-,rfl⟩:=zy8.1 hr;rfl) (hR g _ hg1 hg2)
        (fun k x hx=>by
         rw [zra,zy5,zy4] at hx;obtain ⟨y,hy,rfl⟩:=hx;have hk:k<cnt b.length q:=by have:=(zy16.1 hy).1;omega
         obtain ⟨u,h1,h2⟩:=hels k hk;rw [h1];have h5:=zdq.cells (g:=g) rfl k u h1;cases k<;>simpa [Addr.add] using h5)
        (fun k x hx=>by
         rw [zra,zy5,zy4] at hx;obtain ⟨y,hy,rfl⟩:=hx;have hk:k<cnt b.length q:=by have:=(zy16.1 hy).1;omega
         have hy2:y=piece b q k:=by
          simp [split,hk] at hy;exact hy.symm
         subst hy2;obtain ⟨u,h1,g2,c2,arr,rfl,h3,h4,h5,h6,h7⟩:=hels k hk;rw [h1];exact zmy h4 h5 (hR g2 _ h3 h6) fun j x hj=>by simp [World.cell?,h6,h7 j x hj])
       rw [zy6,hsl] at h;exact h
end Spl
namespace Pt
open Srt Jn Spl
theorem zhl (l:List zah) (hb:l.length<2 ^ 38) (ht:tot l<2 ^ 40):zbl Try.prog 5 [pieces l] zam (.tup [zzh ((join l).getD []),zbr (join l).isSome]) zam:=by
 refine znf Try.func5 (zwd l hb ht) ?_;(conv=>whnf)
theorem ztf (L:Nat) (p:Int) (hL:L<2 ^ 40) (hp:inI p):zbl Try.prog 8 [i64 L,i64 p] zam (i64 (cnt L p.toNat)) zam:=by
 refine zcj mixed Try.func8 zz6 ?_;(conv=>whnf);by_cases c1:(L:Int)<1
 . refine zat zz28 ?_;conv=>whnf
   have h1:L=0:=by omega
   subst h1;rw [show cnt 0 p.toNat=0 from Nat.le_zero.1 zqv];rfl
 . refine zap zz28 (zw ?_)
   by_cases c2:p<1
   . refine zat (by simpa using c2) ?_;conv=>whnf
     rw [show p.toNat=0 by omega,zlq];rfl
   . refine zap (by simpa using c2) (zw ?_)
     obtain ⟨h1,h2⟩:=hp;obtain ⟨q,rfl⟩:∃ q:Nat,p=q:=⟨p.toNat,by omega⟩
     have h3:((L:Int)-1).tdiv q+1=(cnt L q:Nat):=by
      rw [show (L:Int)-1=(L-1:Nat) by omega,<- Int.ofNat_tdiv];have h4:=Nat.add_div_right (L-1) (show 0<q by omega);rw [show L-1+q=L+q-1 by omega] at h4;unfold cnt;rw [h4];rfl
     refine zdc (zw ?_);have h5:=zqv (L:=L) (p:=q);generalize ((L:Int)-1).tdiv q=D at h3 ⊢;refine ⟨by omega,?_⟩;refine zdc (zw ?_);refine zdc (zw ?_);rw [h3,zy64]
theorem zsm (l:List UInt8):l.length<=zef (l.map zdt):=zxl (f:=zdt) (fun x=>by simp [zdt,zct,PV.bulk]) l
end Pt
namespace Pt
open Srt Jn Spl
theorem ztr {ps:List (List UInt8)} {a b:zah} (h1:ps=[[97,98],[99,100],[101]]) (p1:zbl Try.prog 7 [zzh [97,98,99,100,101],i64 2] zam (parts ps) zam)
 (ha:a=⟨0,⟨0,0,0,0,1,true,false,[121],[],0,[]⟩⟩) (hb:b=⟨0,⟨0,0,0,0,0,false,false,[120],[],0,[]⟩⟩)
 (p2:zbl Try.prog 5 [pieces [a,b]] zam (.tup [zzh [120,121],zbr true]) zam) (p3:zbl Try.prog 8 [i64 5,i64 2] zam (i64 3) zam) :
 zbl Try.prog 9 [] zam (zbr true) zam:=by
 subst h1 ha hb;refine zcj mixed Try.func9 zz6 ?_;(conv=>whnf);refine ⟨by simp,zw ?_⟩;refine zdv (zw ?_);refine ⟨_,p1,rfl,zw ?_⟩;refine ⟨by simp,zw ?_⟩;refine ⟨by simp,zw ?_⟩;refine zdv (zw ?_);refine ⟨_,p2,rfl,zw ?_⟩;refine zgy (r:=[.sl 1 ([101].map zdt)]) zz6 rfl (zw ?_);refine zdh (bs:=[101]) rfl (zw ?_);refine zat (beq_self_eq_true _) (zw ?_);refine zgu (zw ?_);refine ⟨_,p3,rfl,zw ?_⟩;refine zdh (bs:=[120,121]) rfl (zw ?_);rw [show (({data:=#[120,121]}:ByteArray).toList==({data:=#[120,121]}:ByteArray).toList)=true from beq_self_eq_true _]
theorem zqh:zbl Try.prog 9 [] zam (zbr true) zam:=by
 have p1:=zle [97,98,99,100,101] 2 zz6 zz6;have p2:=zhl [⟨0,⟨0,0,0,0,1,true,false,[121],[],0,[]⟩⟩,⟨0,⟨0,0,0,0,0,false,false,[120],[],0,[]⟩⟩] zz6 zz6;have p3:=ztf 5 2 zz6 ⟨by decide,by decide⟩;rw [show join [⟨0,⟨0,0,0,0,1,true,false,[121],[],0,[]⟩⟩,⟨0,⟨0,0,0,0,0,false,false,[120],[],0,[]⟩⟩]=some [120,121] by decide +kernel] at p2;exact ztr (by decide +kernel) p1 rfl rfl p2 p3
theorem zza (b:List UInt8) (q n:Nat):∀ m:Nat,tot ((List.range m).map (mk1 b q n))=(((List.range m).map (piece b q)).flatten).length
 | 0=>rfl
 | m+1=>by
  rw [List.range_succ,zy46,zwh,zy46,zy39,zy7,zza b q n m];simp [tot,mk1]
theorem zzx {b:List UInt8} {q n k:Nat} (h:k<n):(mk b q n).take (k+1)=(mk b q n).take k++[mk1 b q n k]:=by
 rw [List.take_add_one,mk,zy5,zy59 h];rfl
theorem ycr (b:List UInt8) (p fr:Int) (t:Bool) (hb:b.length<2 ^ 22) (hp:inI p) (hf:inI fr):zbl Try.prog 4 [zzh b,i64 p,i64 fr,zbr t] zam (zbr true) zam:=by
 refine zcj mixed Try.func4 zz6 ?_;have q3:=zle b p zz0 (by have:=hp.2;omega);obtain ⟨hp1,hp2⟩:=hp;generalize hq:p.toNat=q at q3;(conv=>whnf);refine zgu (zw ?_);refine ⟨_,zqh,rfl,zw ?_⟩;by_cases c0:b=[]
 . subst c0
   conv=>whnf
 have hbl:=zy11.2 c0;refine zap (by simp;exact c0) (zw ?_);by_cases c1:p<1
 . refine zat zz28 ?_;conv=>whnf
 refine zap zz28 (zw ?_);refine zdv (zw ?_);refine ⟨_,q3,rfl,zw ?_⟩;obtain ⟨n,hn⟩:∃ n,n=cnt b.length q:=⟨_,rfl⟩
 have hsl:(split b q).length=n:=by simp [split,hn]
 have hn0:0<n:=by rw [hn];exact (zku zz0).2 zz0
 have hnb:=zqv (L:=b.length) (p:=q);rw [<- hn] at hnb;refine ⟨{x:Nat×List zah // x.1<=n/\x.2=(mk b q n).take x.1},fun | ⟨(k,l0),_⟩=>hs 126 [(0,zzh b),(2,i64 fr),(3,zbr t),(9,parts (split b q)),(10,.own 900),(28,parts (split b q)),(29,i64 (split b q).length),(30,i64 k)] [(900,.live (.row 36 12 (l0.map zah.row)))],fun x=>n-x.1.1,⟨(0,[]),zy79 _,rfl⟩,?_,?_⟩
 . exact (ybf [(900,none)])
 . rintro ⟨⟨k,l0⟩,hk,hl0⟩
   dsimp only at hk hl0;(conv=>whnf);refine zgb (fun c2=>?_) (fun c2=>?_)
   . have hlt:k<n:=by simpa [hsl] using c2
     (conv=>whnf);refine zpq (f:=fun c=>[PV.sl 1 (c.map zdt)]) (l:=split b q) k rfl zz0 ?_;conv=>whnf
     have hpe:(split b q)[k]=piece b q k:=by simp [split]
     rw [hpe];refine zdc (zw ?_);rw [show ((k:Int)==(((split b q).map fun c=>[PV.sl 1 (c.map zdt)]).length:Int)-1)=decide (k+1=n) by rw [zy6,hsl,Bool.eq_iff_iff,zy77,zy72];omega];refine zas (c:=((l0.map zah.row).length+1)*136<=140737488355328) (by rw [zy6,hl0,zy32];omega) (zw ?_);refine zdc (zw ?_);exact ⟨⟨(k+1,l0++[mk1 b q n k]),hlt,by rw [hl0,zzx hlt]⟩,(zss [(900,some 47)] (by repeat' (first | exact z0 | refine z1 ?_ | refine ⟨?_,?_⟩ | (exact yal (f:=zah.row) (x:=mk1 b q n k) rfl rfl) | exact z2))),by dsimp only;omega⟩
   . have hkn:k=n:=by
      have:¬ k<n:=by simpa [hsl] using c2
      omega
     subst hkn;rw [zy27 (by rw [zkv];exact zy19 _)] at hl0;have hlen:l0.length=k:=by rw [hl0,zkv]
     (conv=>whnf);refine zap (by rw [zy6,hlen];simp;omega) (zw ?_);by_cases c3:fr<0
     . refine zat (by simpa using c3) (zw ?_)
       rw [zy61 (show ((l0.map zah.row).length:Int)>0 by rw [zy6];omega)]
     refine zap (by simpa using c3) (zw ?_);by_cases c4:fr>=l0.length
     . refine zat (by rw [zy6];simpa using c4) (zw ?_)
       rw [zy61 (show ((l0.map zah.row).length:Int)>0 by rw [zy6];omega)]
     refine zap (by rw [zy6];simpa using c4) (zw ?_);obtain ⟨f,rfl⟩:∃ f:Nat,fr=f:=⟨fr.toNat,by omega⟩
     refine ⟨⟨by omega,by rw [zy6];omega,by omega⟩,zw ?_⟩;refine zpt (o':=f) (n':=l0.length-f) zz0 zz29 ?_;refine znq zz0 (zw ?_);refine zas (c:=(([]:List (List PV)).length+((l0.drop f).map zah.row).length)*136<=140737488355328) (by rw [zy6,zy34];simp;omega) (zw ?_);refine ⟨⟨by omega,by omega,by rw [zy6];omega⟩,zw ?_⟩;refine zpt (o':=0) (n':=f) (by rfl) zz0 ?_;refine zuo zz0 (zw ?_);refine zas (c:=((([]:List (List PV))++(l0.drop f).map zah.row).length+(((l0.drop 0).take f).map zah.row).length)*136<=140737488355328) zz3 (zw ?_);refine zjc zz5 (zw ?_);refine zre.meet {l:List zah // l.Perm l0} (fun | ⟨l2,_⟩=>hs 126 [(0,zzh b),(10,.own 900)] [(900,.live (.row 36 12 (l2.map zah.row)))]) ?_ ?_
     . conv=>whnf
       cases t with
       | false =>
        (conv=>whnf);exact ⟨⟨l0.drop f++l0.take f,List.perm_append_comm.trans (by rw [zy25])⟩,(zss [(900,some 73)] zz9)⟩
       | true =>
        (conv=>whnf);refine ⟨by decide,zw ?_⟩;have e0:([]++(l0.drop f).map zah.row++((l0.drop 0).take f).map zah.row).length=k:=by simp;omega
        rw [e0];obtain ⟨h,hh⟩:∃ h:Nat,h=k / 2:=⟨_,rfl⟩
        rw [show ((k:Nat):Int).tdiv 2=(h:Int) by rw [hh];exact (Int.ofNat_tdiv k 2).symm];refine zdc (zw ?_);refine ⟨{x:Nat×List zah // x.1<=h/\x.2.Perm l0},fun | ⟨(i,l),_⟩=>hs 126 [(0,zzh b),(10,.own 900),(77,i64 h),(78,i64 i)] [(900,.live (.row 36 12 (l.map zah.row)))],fun x=>h-x.1.1,
         ⟨(0,l0.drop f++l0.take f),zy79 _,List.perm_append_comm.trans (by rw [zy25])⟩,?_,?_⟩
        . exact (zss [(900,some 73)] zz9)
        rintro ⟨⟨i,l⟩,hi,hl⟩;dsimp only at hi hl;have hln:l.length=k:=by rw [hl.length_eq,hlen]
        (conv=>whnf);refine zgb (fun c5=>?_) (fun c5=>?_)
        . have c5:i<h:=by simpa using c5
          (conv=>whnf);refine zdc (zw ?_);refine zdc (zw ?_);refine zdc (zw ?_);refine zdc (zw ?_);refine ⟨by rw [zy6];omega,zw ?_⟩;refine zpq (f:=zah.row) (l:=l) (k-1-i) zz29 zz0 ?_;have hx:l[k-1-i]?=some l[k-1-i]:=zy15 zz0;generalize l[k-1-i]=x at hx ⊢;(conv=>whnf);refine ⟨by rw [zy6];omega,zw ?_⟩;refine zpq (f:=zah.row) (l:=l) i zz0 zz0 ?_;have hy:l[i]?=some l[i]:=zy15 zz0;generalize l[i]=y at hy ⊢;(conv=>whnf);refine ⟨by rw [zy6];omega,zw ?_⟩;refine zgy (r:=y.row) zz0 (by rw [show ((i:Int).toNat:Int).toNat=i by omega,zy5,hy];rfl) ?_;conv=>whnf
          refine ⟨by rw [zy81,zy6];omega,zw ?_⟩;have ej:((((l.map zah.row).length:Int)-1-i).toNat:Int).toNat=k-1-i:=by rw [zy6];omega
          refine zgy (r:=x.row) zz0 (by rw [ej,List.getElem?_set_ne (by omega),zy5,hx];rfl) ?_;conv=>whnf
          refine zwx [4] zz5 ?_ ?_
          . refine ⟨?_,trivial⟩
            refine And.intro trivial ?_;refine And.intro trivial ?_;refine And.intro ?_ trivial;refine And.intro rfl (And.intro ?_ (And.intro ?_ trivial))
            . conv=>whnf
              rw [zy81]
            . conv=>whnf
              rw [zy81,zy81]
          (conv=>whnf);refine zdc (zw ?_);have hpm:((l.set i x).set (k-1-i) y).Perm l:=by
           have h1:i<l.length:=by omega
           have h2:k-1-i<l.length:=by omega
           have e1:l[k-1-i]=x:=by rw [zy15 h2] at hx;exact Option.some.inj hx
           have e2:l[i]=y:=by rw [zy15 h1] at hy;exact Option.some.inj hy
           have:=List.set_set_perm h1 h2;rw [e1,e2] at this;exact this
          exact ⟨⟨(i+1,(l.set i x).set (k-1-i) y),c5,hpm.trans hl⟩,(zss [(900,some 900)] (by repeat' (first | exact z0 | refine z1 ?_ | refine ⟨?_,?_⟩ | (exact zbb (by rw [show (((l.map zah.row).length:Int)-1-i).toNat=k-1-i by (rw [zy6];omega),List.map_set,List.map_set];rfl)) | exact z2))),by dsimp only;omega⟩
        . conv=>whnf
          exact ⟨⟨l,hl⟩,(ybf [(900,some 900)])⟩
     . rintro ⟨l2,hl2⟩
       have hp3:l2.Perm (mk b q k):=by rw [<- hl0];exact hl2
       have hfl:((List.range k).map (piece b q)).flatten=b:=by rw [hn];exact ztl b zz0
       have j1:join l2=some b:=by rw [zuw hn0 hp3,hfl]
       have ht1:tot l2=b.length:=by rw [zsg hp3,mk,zza,hfl]
       have hl2n:l2.length=k:=by rw [hp3.length_eq,zkv]
       have q5:=zhl l2 zz0 zz0;rw [j1] at q5;(conv=>whnf);refine zdv (zw ?_);refine ⟨_,q5,rfl,zw ?_⟩;refine zdh rfl (zw ?_);refine zdh rfl (zw ?_);refine zap zz1 (zw ?_);have j2:join (l2.drop 1)=none:=by
        cases l2 with
        | nil=>simp at hl2n;omega
        | cons x l3=>exact zuv hp3
       have ht2:tot (l2.drop 1)<=tot l2:=by
        cases l2 with
        | nil=>exact zy19 _
        | cons x l3=>rw [List.drop_one,List.tail_cons,zmq];omega
       have q6:=zhl (l2.drop 1) (by rw [zy34];omega) zz0;rw [j2] at q6;refine ⟨⟨by omega,by rw [zy6];omega,by omega⟩,zw ?_⟩;refine zdv (zw ?_);refine zpt (o':=1) (n':=l2.length-1) (by rfl) zz29 ?_;refine znq zz0 (zw ?_);refine ⟨_,q6,rfl,zw ?_⟩
       rfl
end Pt
end Go.HL
