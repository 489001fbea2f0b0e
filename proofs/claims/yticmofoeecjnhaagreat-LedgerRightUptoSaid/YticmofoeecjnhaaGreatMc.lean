/- Walks, contracts and laws of the law's functions: part 3. No condition. -/
import Derived.Test.YticmofoeecjnhaaGreatMb
import Derived.Test.YticmofoeecjnhaaGreatRows
import Derived.Test.YticmofoeecjnhaaGreatProg
open Go.Proofs
set_option maxHeartbeats 32000000
set_option maxRecDepth 100000
set_option linter.unusedSimpArgs false
theorem yy43 {P:Prop} (h:P:=by
 have hre:ren []=zsv:=by funext i;rfl
 refine ⟨_,.zgk (B:=[]) (F:=F) (us:=us) (ms:=args.map fun _=>true) (args1:=a) (args':=a) (H':=zad) (r':=r') (H'':=lk .free L'')
  ⟨ydp (hv.loc H (fun _ _=>rfl) _ ⟨rfl,rfl⟩),h1,by rw [hre];exact hv.noid,by rw [hre];exact zki a hv.noid,fun _=>.inl rfl,by simp,by simp,by simp,zql h6,zfl h7.1,zfl h7.2,zpz h8,h9,rfl,by rw [yfg];rfl⟩,h10⟩):P:=h
theorem yy87 {P:Prop} (h:P:=by
 simp only [Cell.okWide,Cell.ok,hu] at hok;obtain ⟨b,rfl,_⟩:=h2;cases v<;>try exact hok.elim
 exact one rfl rfl):P:=h
theorem yy51 {P:Prop} (h:P:=by
 refine zap [(1000,some 1000)] rfl rfl ⟨rfl,trivial⟩ rfl rfl ⟨⟨rfl,.inl ⟨1000,rfl,rfl⟩⟩,trivial⟩):P:=h
theorem yy113 {P:Prop} (h:P:=by
 refine sN ?_;refine zap [(1000,some 1000)] rfl rfl ⟨rfl,trivial⟩ rfl rfl ⟨⟨rfl,.inl ⟨1000,rfl,?_⟩⟩,trivial⟩;exact zas (by rw [hL',hmrg,gw];simp)):P:=h
theorem yy128 {P:Prop} (h:P:=by
 try refine sG ?_
 exact ⟨⟨(i,(i+j) / 2),g1,by dsimp only;omega,by dsimp only;omega⟩,(zdm [(1000,some 1000)]),by dsimp only;omega⟩):P:=h
theorem yy138 {P:Prop} (h:P:=by
 try refine sG ?_
 refine sF ?_;exact ⟨⟨((i+j) / 2+1,j),c2,g2,g3⟩,(zcd [(1000,some 1000)] zz2),by dsimp only;omega⟩):P:=h
theorem yy5 {P:Prop} (h:P:=by
 (conv=>whnf);refine zah (fun h=>?_) (fun h=>?_)
 . have hlt:k<q.length:=by simpa using h
   (conv=>whnf);refine zcf (r:=(q[k]).row) zz5 zz115 ?_;(conv=>whnf);refine zgs (zw ?_);refine ⟨_,hg q[k],rfl,zw ?_⟩;rw [zy21 hlt] at hi;simp only [zca] at hi;refine zah (fun h=>?_) (fun h=>?_)
   . conv=>whnf
     rw [zy1 h] at hi;rw [<- hi]
   . conv=>whnf
     rw [zy0 (by rw [h];decide)] at hi;refine zao (zbs zz0 zz0) ?_;(conv=>whnf);exact ⟨⟨k+1,hlt,hi⟩,(zbi []),by dsimp only;omega⟩
 . conv=>whnf
   have hge:q.length<=k:=by simpa using h
   rw [zy22 hge] at hi;rw [<- hi];rfl):P:=h
theorem yy19 {P:Prop} (h:P:=by
 (conv=>whnf);refine zap [(0,some 7)] rfl rfl trivial rfl rfl ⟨⟨rfl,.inl ⟨7,rfl,?_⟩⟩,trivial⟩
 rfl):P:=h
theorem yy24 {P:Prop} (h:P:=by
 refine zap [(0,none)] rfl rfl trivial rfl rfl ⟨⟨rfl,.inr ⟨rfl,hn c⟩⟩,trivial⟩):P:=h
theorem yy100 {P:Prop} (h:P:=by
 conv=>whnf
 try refine sG ?_
 refine sF ?_;refine ⟨⟨((A++[v],B),K,G++[v]),by rw [h];simp,by rw [zy47,<- hK];simp [hv],by simp,by simp;omega⟩,(zcd [(1000,some 1000)] zz23),by simp⟩):P:=h
theorem yy111 {P:Prop} (h:P:=by
 rw [h1];(conv=>whnf)
 try refine sG ?_
 refine zap [(0,some 1000),(1000,some 1000)] rfl rfl ⟨rfl,trivial⟩ rfl rfl ⟨rfl,⟨rfl,.inl ⟨1000,rfl,rfl⟩⟩,trivial⟩):P:=h
theorem yy17 {P:Prop} (h:P:=by
 (conv=>whnf);refine ⟨{k:Nat // k<=ps.length/\zef k (ps.drop k)=zef 0 ps},fun k=>hs 17 [(5,.p (.sl 7 (ps.map Path.row))),(6,i64 (ps.map Path.row).length),(7,i64 k.1)] [],fun k=>ps.length-k.1,⟨0,by simp⟩,?_,?_⟩
 . exact zcn [] rfl rfl rfl rfl ⟨⟨rfl,rfl⟩,⟨rfl,rfl⟩,⟨rfl,rfl⟩,trivial⟩ trivial
 . rintro ⟨k,hk,hi⟩
   (conv=>whnf);refine zah (fun h=>?_) (fun h=>?_)
   . have hlt:k<ps.length:=by simpa using h
     (conv=>whnf);refine zcf (r:=(ps[k]).row) zz5 zz115 ?_;(conv=>whnf);rw [zy21 hlt] at hi;simp only [zef] at hi;refine zah (fun h=>?_) (fun h=>?_)
     . conv=>whnf
       rw [zy1 (by simp only [zy34] at h;omega)] at hi;rw [hi]
     . conv=>whnf
       refine zao (zbs zz3 zz3) ?_;(conv=>whnf);rw [zy0 (by simp only [zy35] at h;omega)] at hi;exact ⟨⟨k+1,hlt,hi⟩,zcn [] rfl rfl rfl rfl ⟨⟨rfl,rfl⟩,⟨rfl,rfl⟩,⟨rfl,by simp;rfl⟩,trivial⟩ trivial,by simp;omega⟩
   . conv=>whnf
     have hge:ps.length<=k:=by simpa using h
     rw [zy22 hge] at hi;rw [<- hi];rfl):P:=h
theorem yy65 {P:Prop} (h:P:=by
 (conv=>whnf);refine sF ?_;exact ⟨⟨(a++[s],b),zag h⟩,(zay [(900,some 900)] zz41),by simp⟩):P:=h
theorem yy54 {P:Prop} (h:P:=by
 have hge:c.zar.length<=k:=by simpa using c1
 refine ⟨⟨⟩,zcn [(1,some 1),(900,some 900)] rfl rfl rfl rfl ⟨⟨rfl,rfl⟩,⟨rfl,rfl⟩,trivial⟩ ⟨⟨rfl,.inl ⟨1,rfl,rfl⟩⟩,⟨rfl,.inl ⟨900,rfl,?_⟩⟩,trivial⟩⟩;show zmr (zbu c.tag++zbu c.room++zce (c.zar.take k))=zmr (body c);rw [body,zy0 k1,zy1 k2,zy31 hge]):P:=h
theorem yy57 {P:Prop} (h:P:=by
 have hge:c.zbm.length<=k:=by simpa using c1
 refine ⟨⟨⟩,zcn [(1,some 1),(900,some 900)] rfl rfl rfl rfl ⟨⟨rfl,rfl⟩,⟨rfl,rfl⟩,trivial⟩ ⟨⟨rfl,.inl ⟨1,rfl,rfl⟩⟩,⟨rfl,.inl ⟨900,rfl,?_⟩⟩,trivial⟩⟩;show zmr (zbu c.tag++skipBytes (c.zbm.take k))=zmr (body c);rw [body,zy0 k1,zy0 k2,zy31 hge]):P:=h
theorem yy73 {P:Prop} (h:P:=by
 have hlen:=zve h;(conv=>whnf);refine zdr (zw ?_);refine zdr (zw ?_);refine zaa (c:=(2+((body c).map zcs).length)*1<=140737488355328) zz3 (zw ?_);show HV.tup [.p (.sl 1 ([zcs (by8 c.kind),zcs (by8 ((body c).map zcs).length)]++(body c).map zcs)),i64 0]=_;rw [zy3,h]
 rfl):P:=h
theorem yy88 {P:Prop} (h:P:=by
 exact zap [(1000,some 1000)] rfl rfl ⟨rfl,trivial⟩ rfl rfl ⟨⟨rfl,.inl ⟨1000,rfl,rfl⟩⟩,trivial⟩):P:=h
theorem yy42 {P:Prop} (h:P:=by
 (conv=>whnf);refine zah (fun c5=>?_) (fun c5=>?_)
 . have c5:¬ w=0:=by simpa using c5
   rw [zy1 c5];(conv=>whnf)
   rfl
 . have c5:w=0:=by simpa using c5
   rw [zy0 (fun h=>h c5)];(conv=>whnf)
   rfl):P:=h
theorem yy48 {P:Prop} (h:P:=by
 have hbad:(zcz kind s).2=false:=by
  cases hok:ok with
  | false=>exact h.bad hok
  | true =>
   obtain ⟨i1,i2,i3,i4⟩:=h.good hok;exact xlb k1 k2 (.inr (.inl (by simp at i3;omega)))
 exact ⟨fun _=>⟨fun h2=>(by cases h2),fun _=>hbad,by simp [one,two] at hlen ⊢;omega⟩,fun _=>⟨fun h2=>(by cases h2),fun _=>hbad,by simp [one,two] at hlen ⊢;omega⟩⟩):P:=h
theorem yy116 {P:Prop} (h:P:=by
 show zai.live (.row _ 3 (acc.map zdv.row++[zdv.row ⟨A.1,D.1,B.1==1⟩]))=zai.live (.row _ 3 (List.map zdv.row (acc++[⟨A.1,D.1,B.1==1⟩])));rw [zy39]
 rfl):P:=h
theorem yy26 {P:Prop} (h:P:=by
 refine zah (fun c3=>?_) (fun c3=>?_)
 . have c3:zdi c≠0:=by simpa using c3
   rw [zy1 c3] at hi;(conv=>whnf);rw [hi,zy1 c3]
   rfl
 have c3:zdi c=0:=by simpa using c3
 rw [zy0 (fun h=>h c3)] at hi;(conv=>whnf);refine zaa (c:=(((zbv (l.take k)).map zcs).length+((Chk.bytes c).map zcs).length)*1<=140737488355328) zz3 (zw ?_);refine sFm ?_;refine ⟨⟨k+1,hlt,hi⟩,zcn [(900,some 30)] rfl rfl rfl rfl ⟨⟨rfl,rfl⟩,⟨rfl,rfl⟩,⟨rfl,rfl⟩,⟨rfl,rfl⟩,⟨rfl,by simp;rfl⟩,trivial⟩ ⟨⟨rfl,.inl ⟨30,rfl,?_⟩⟩,trivial⟩,by dsimp only;omega⟩;show zai.live (.row _ 1 ((zbv (l.take k)).map zcs++(Chk.bytes c).map zcs))=zmr (zbv (l.take (k+1)));rw [hsucc,zmr,zy39]):P:=h
theorem yy45 {P:Prop} (h:P:=by
 rw [zy22 hge] at hi;have hi:zcr l=0:=hi;have ht:l.take k=l:=zy31 hge;have hab:=zgy l;(conv=>whnf);refine zah (fun c3=>?_) (fun c3=>?_)
 . have c3:((zbv l).length:Int)>most:=by rw [ht] at c3;simpa using c3
   (conv=>whnf);rw [zy0 (fun h=>h hi),zy1 c3]
   rfl
 . have c3:¬ ((zbv l).length:Int)>most:=by rw [ht] at c3;simpa using c3
   (conv=>whnf);rw [zy0 (fun h=>h hi),zy0 c3,ht]):P:=h
namespace Go.HL
abbrev i64 (n:Int):HV:=.p (.v (.int .i64 n))
abbrev W (z:Int):Int:=IntKind.i64.wrap z
theorem zah {b:Bool} {A B:Prop} (h1:b=true->A) (h2:b=false->B):hif b A B:=by cases b<;>simp_all [hif]
theorem zac {b:Bool} {A B:Prop} (h:b=true) (ha:A):hif b A B:=by subst h;exact ha
theorem zab {b:Bool} {A B:Prop} (h:b=false) (hb:B):hif b A B:=by subst h;exact hb
theorem zcg {k:IntKind} {z:Int} {K:Int->Prop} (h:K (k.wrap z)):zop k z K:=⟨_,rfl,h⟩
theorem zao {k:IntKind} {z:Int} {K:Int->Prop} (hz:k.wrap z=z) (h:K z):zop k z K:=⟨z,hz.symm,h⟩
theorem zaa {c k:Prop} (h:c) (hk:k):zou c k:=⟨h,hk⟩
theorem zaw {P:Program} {s0:HS} {all:Array Oper} {labs:List Lab} {k:Prop} (h:zkf all labs=true) (hk:k):yti P s0 all labs k:=⟨.inl h,hk⟩
theorem zkc (ex:List Nat) {P:Program} {s0:HS} {all:Array Oper} {labs:List Lab} {k:Prop} (h:zle ex all labs=true) (h2:xhh (ybr P s0 all.toList labs) ex) (hk:k):yti P s0 all labs k:=⟨.inr ⟨ex,h,h2⟩,hk⟩
theorem zcf {rows:List (List PV)} {i:Int} {K:List PV->Prop} {r:List PV} (h0:0<=i) (h:rows[i.toNat]?=some r) (hk:K r):zqp rows i K:=⟨r,h0,h,hk⟩
theorem zue {rows:List (List PV)} {K:List UInt8->Prop} {bs:List UInt8} (h:rows=bs.map zcs) (hk:K bs):ypo rows K:=⟨bs,h,hk⟩
theorem zbs {z:Int} (h1:-9223372036854775808<=z) (h2:z<=9223372036854775807):W z=z:=by
 unfold W IntKind.wrap;simp [IntKind.bits,IntKind.signed];omega
section
variable {P:Program}
theorem zbf {f:FuncId} {args:List HV} {d:Nat} {H:Nat->zai} {K:Res->Prop} (h:zhi H args fun a us=>zks (normArgs P (ydv P f) a) fun a=>∃ r,zan P f a zad r zad/\yjm r=true/\K ⟨r,[],us.map (·.1)⟩) :
 ygz (CR P) f args d H K:=by
 obtain ⟨a,us,h,hv⟩:=zek _ h;rw [zha] at h;obtain ⟨r,h1,h2,h3⟩:=h;replace h1:=h1.args fun _ _ _ _ hx=>hx.normArgs _
 exact ⟨_,.lend ⟨hv.loc H (fun _ _=>rfl) _ ⟨rfl,rfl⟩,h1,h2,rfl,rfl⟩,h3⟩
theorem ydp {H:Nat->zai}:∀ {xs:List HV} {K:List HV->List (Nat×zai)->Prop},zhi H xs K->zml H (xs.map fun _=>true) xs K
 | [],K,h=>by simpa only [zy124,zml,zhi] using h
 | x::xs,K,h=>by
  simp only [zy40,zml];simp only [zhi] at h;obtain ⟨y,u,h1,hv⟩:=zlg x h;exact hv.loc H (fun _ _=>rfl) _ (ydp h1)
theorem zdj {f:FuncId} {args:List HV} {d:Nat} {H:Nat->zai} {K:Res->Prop} (h:zhi H args fun a us=>zks (normArgs P (ydv P f) a) fun a=>∃ r,zan P f a zad r zad/\zjz zsv r=true/\K ⟨r,us,[]⟩) :
 ygz (CR P) f args d H K:=by
 obtain ⟨a,us,h,hv⟩:=zek _ h;rw [zha] at h;obtain ⟨r,h1,h2,h3⟩:=h;replace h1:=h1.args fun _ _ _ _ hx=>hx.normArgs _
 have hre:ren []=zsv:=by funext i;rfl
 refine ⟨_,.zgk (B:=[]) (F:=[]) (us:=us) (ms:=args.map fun _=>true) (args1:=a) (args':=a) (H':=zad) (r':=r) (H'':=zad)
  ⟨ydp (hv.loc H (fun _ _=>rfl) _ ⟨rfl,rfl⟩),h1,by rw [hre];exact hv.noid,by rw [hre];exact zki a hv.noid,fun _=>.inl rfl,by simp,by simp,by simp,by simp,by simp,by simp,by simp,by
   show zjz (ren []) r=true;rw [hre];exact h2,by show r=rn (ren []) r;rw [hre];exact (yeb r h2).symm,by simp⟩,h3⟩
end
def xaw (σ:Ren) (s:HS):List (Nat×HV)->Prop
 | []=>True
 | (i,x)::r=>(zjz σ x=true/\rn σ x=s.slot i)/\xaw σ s r
def yfl (σ:Ren) (s:HS):List (Nat×zai)->Prop
 | []=>True
 | (id,b)::r=>(match b with
  | .free=>False
  | .dead=>(σ id).isSome=true
  | .live b=>zpo σ b=true/\((∃ j,σ id=some (some j)/\s.heap j=.live (rnB σ b))\/(σ id=some none/\xmf b))
  | .ro b=>zpo σ b=true/\∃ j,σ id=some (some j)/\(s.heap j=.live (rnB σ b)\/s.heap j=.ro (rnB σ b)))/\yfl σ s r
def zra (σ:Ren):List Nat->Prop
 | []=>True
 | i::r=>σ i=some (some i)/\zra σ r
def xfr:List (Nat×Option Nat)->List Nat
 | []=>[]
 | (_,some j)::r=>j::xfr r
 | (_,none)::r=>xfr r
def zff:List Nat->Bool
 | []=>true
 | x::r=>!(r.any (Nat.beq x))&&zff r
def zir (L:List (Nat×zai)):List (Nat×Option Nat)->Bool
 | []=>true
 | (i,_)::r=>L.any (fun p=>Nat.beq i p.1)&&zir L r
theorem ydm {α:Type} {d:α}:∀ {l:List (Nat×α)} {i:Nat},lk d l i=d\/∃ x,(i,x)∈l/\lk d l i=x
 | [],i=>.inl rfl
 | (j,x)::r,i=>by
  simp only [lk];cases hb:Nat.beq i j with
  | true=>have:=zy10 hb;subst this;exact .inr ⟨x,by simp,rfl⟩
  | false =>
   rcases ydm (d:=d) (l:=r) (i:=i) with h | ⟨y,h1,h2⟩
   . exact .inl h
   . exact .inr ⟨y,by simp [h1],h2⟩
theorem yrx {σ:Ren} {s:HS}:∀ {l:List (Nat×HV)} {i:Nat} {x:HV},xaw σ s l->(i,x)∈l->zjz σ x=true/\rn σ x=s.slot i
 | (j,y)::r,i,x,h,hm=>by
  simp only [xaw] at h;cases hm with
  | head=>exact h.1
  | tail _ hm=>exact yrx h.2 hm
theorem zxd {l:List (Nat×Option Nat)} {i:Nat} {o:Option Nat} (h:lkN l i=some o):(i,o)∈l:=by
 induction l with
 | nil=>cases h
 | cons p l ih =>
  obtain ⟨a,b⟩:=p;simp only [lkN] at h;cases hb:Nat.beq i a with
  | true=>rw [hb] at h;cases h;have:=zy10 hb;subst this;simp
  | false=>rw [hb] at h;simp [ih h]
theorem yam {L:List (Nat×zai)}:∀ {l:List (Nat×Option Nat)} {i:Nat} {o:Option Nat},zir L l=true->(i,o)∈l->∃ b,(i,b)∈L
 | (j,y)::r,i,o,h,hm=>by
  simp only [zir,zy16] at h;cases hm with
  | head =>
   obtain ⟨p,hp,hb⟩:=zy105.1 h.1;have:=zy10 hb;subst this;exact ⟨p.2,hp⟩
  | tail _ hm=>exact yam h.2 hm
theorem yyu {α:Type} {d:α}:∀ {l:List (Nat×α)} {i:Nat},(∀ x,(i,x)∉l)->lk d l i=d
 | [],i,_=>rfl
 | (j,x)::r,i,h=>by
  simp only [lk];cases hb:Nat.beq i j with
  | true=>have:=zy10 hb;subst this;exact absurd zz5 (h x)
  | false=>exact yyu fun y hy=>h y zz108
theorem ypw {σ:Ren} {s:HS}:∀ {l:List (Nat×zai)} {i:Nat} {x:zai},yfl σ s l->(i,x)∈l->yfl σ s [(i,x)]
 | (j,y)::r,i,x,h,hm=>by
  simp only [yfl] at h;cases hm with
  | head=>exact ⟨h.1,trivial⟩
  | tail _ hm=>exact ypw h.2 hm
theorem yfb:∀ {l:List (Nat×Option Nat)},zff (xfr l)=true->∀ {i i' j:Nat},(i,some j)∈l->(i',some j)∈l->i=i'
 | [],_,i,i',j,h,_=>by cases h
 | (a,none)::r,hn,i,i',j,h,h'=>by
  cases h with
  | tail _ h=>cases h' with
   | tail _ h'=>exact yfb (l:=r) hn h h'
 | (a,some b)::r,hn,i,i',j,h,h'=>by
  simp only [xfr,zff,zy16,zy45] at hn;have hin:∀ {r:List (Nat×Option Nat)} {i j:Nat},(i,some j)∈r->j∈xfr r:=by
   intro r
   induction r with
   | nil=>intro i j h;cases h
   | cons p r ih =>
    intro i j h;obtain ⟨a,o⟩:=p;cases h with
    | head=>simp [xfr]
    | tail _ h=>cases o<;>simp [xfr,ih h]
  have hno:∀ {i:Nat},(i,some b)∉r:=by
   intro i hi;have:=zy135.1 hn.1 b (hin hi);simp at this
  cases h with
  | head=>cases h' with
   | head=>rfl
   | tail _ h'=>exact absurd h' hno
  | tail _ h=>cases h' with
   | head=>exact absurd h hno
   | tail _ h'=>exact yfb hn.2 h h'
theorem ypt {s:HS} {heap:List (Nat×zai)} {pins:List Nat} (l:List (Nat×Option Nat)) (h1:zir heap l=true) (_:zra (lkN l) pins) (h5:yfl (lkN l) s heap):∀ id,match lk zai.free heap id with
 | .free=>lkN l id=none
 | .dead=>True
 | .live b=>zpo (lkN l) b=true/\((∃ j,lkN l id=some (some j)/\s.heap j=.live (rnB (lkN l) b))\/(lkN l id=some none/\xmf b))
 | .ro b=>zpo (lkN l) b=true/\∃ j,lkN l id=some (some j)/\(s.heap j=.live (rnB (lkN l) b)\/s.heap j=.ro (rnB (lkN l) b)):=by
 intro id;by_cases hm:∃ x,(id,x)∈heap
 . rcases ydm (d:=zai.free) (l:=heap) (i:=id) with h | ⟨x,hx,h⟩
   . exfalso
     obtain ⟨x,hx⟩:=hm;have gen:∀ {l:List (Nat×zai)} {σ:Ren},yfl σ s l->(∃ x,(id,x)∈l)->lk .free l id≠.free:=by
      intro l
      induction l with
      | nil=>intro σ _ ⟨x,hx⟩;cases hx
      | cons p l ih =>
       obtain ⟨a,y⟩:=p;intro σ h ⟨x,hx⟩;simp only [lk];cases hb:Nat.beq id a with
       | true =>
        show y≠.free;intro hy;subst hy;exact h.1
       | false =>
        refine ih h.2 ?_;cases hx with
        | head=>simp at hb
        | tail _ hx=>exact ⟨x,hx⟩
     exact gen h5 ⟨x,hx⟩ h
   . rw [h]
     have:=(ypw h5 hx).1;cases x<;>simp only at this ⊢
     . exact this
     . exact this
 . rw [yyu fun x hx=>hm ⟨x,hx⟩]
   show lkN l id=none;cases ho:lkN l id with
   | none=>rfl
   | some o=>exact absurd (yam h1 (zxd ho)) hm
theorem ypu {pins:List Nat} (l:List (Nat×Option Nat)) (h3:zra (lkN l) pins):∀ id∈pins,lkN l id=some (some id):=by
 intro id hid;have gen:∀ {r:List Nat},zra (lkN l) r->id∈r->lkN l id=some (some id):=by
  intro r
  induction r with
  | nil=>intro _ h;cases h
  | cons a r ih =>
   intro h hm;simp only [zra] at h;cases hm with
   | head=>exact h.1
   | tail _ hm=>exact ih h.2 hm
 exact gen h3 hid
def yfz (heap:List (Nat×zai)) (i:Nat):Bool:=match lk .free heap i with
 | .dead=>true
 | _=>false
def zmq (heap:List (Nat×zai)):List (Nat×Option Nat)->List Nat
 | []=>[]
 | (i,some j)::r=>bif yfz heap i then zmq heap r else j::zmq heap r
 | (_,none)::r=>zmq heap r
theorem ysd {heap:List (Nat×zai)}:∀ (l:List (Nat×Option Nat)),zmq heap l=xfr (l.filter fun p=>!yfz heap p.1)
 | []=>rfl
 | (i,o)::r=>by
  cases hd:yfz heap i<;>cases o<;>simp [zmq,xfr,zy46,hd,ysd r]
theorem ykp {heap:List (Nat×zai)} {l:List (Nat×Option Nat)} (h:zff (zmq heap l)=true) {i i' j:Nat} (h1:(i,some j)∈l) (h2:(i',some j)∈l) (d1:lk .free heap i≠.dead) (d2:lk .free heap i'≠.dead):i=i':=by
 rw [ysd] at h;have hd:∀ k,lk .free heap k≠.dead->yfz heap k=false:=by
  intro k hk;unfold yfz;split
  . rename_i he;exact absurd he hk
  . rfl
 exact yfb h (zy56.2 ⟨h1,by simp [hd i d1]⟩) (zy56.2 ⟨h2,by simp [hd i' d2]⟩)
theorem yxx {s:HS} {pins:List Nat} {n:Nat} {slots:List (Nat×HV)} {heap:List (Nat×zai)} (l:List (Nat×Option Nat)) (hn:n=s.n) (hp:pins=s.pins) (h1:zir heap l=true) (h2:zff (zmq heap l)=true)
 (h3:zra (lkN l) pins) (h4:xaw (lkN l) s slots) (h5:yfl (lkN l) s heap):xnd s (hsP pins n slots heap):=by
 refine ⟨hn,hp,lkN l,fun i=>?_,ypt l h1 h3 h5,fun id id' b j hb hd hj hj'=>ykp h2 (zxd hj) (zxd hj') zz116 hd,fun id hid=>ypu l h3 id (hp ▸ hid)⟩;rcases ydm (d:=HV.any) (l:=slots) (i:=i) with h | ⟨x,hx,h⟩
 . exact .inl h
 . right
   show zjz (lkN l) (lk .any slots i)=true/\rn (lkN l) (lk .any slots i)=s.slot i;rw [h];exact yrx h4 hx
theorem yxy {s:HS} {pins:List Nat} {n:Nat} {slots:List (Nat×HV)} {heap:List (Nat×zai)} (l:List (Nat×Option Nat)) (hn:n=s.n) (hp:pins=s.pins) (h1:zir heap l=true) (h2:zff (zmq heap l)=true)
 (h3:zra (lkN l) pins) (h4:xaw (lkN l) s slots) (h5:yfl (lkN l) s heap):HLe s (hsP pins n slots heap):=⟨[],by rw [yxl];exact yxx l hn hp h1 h2 h3 h4 h5⟩
theorem zcn {s:HS} {n:Nat} {slots:List (Nat×HV)} {heap:List (Nat×zai)} (l:List (Nat×Option Nat)) (hn:n=s.n) (hp:[]=s.pins) (h1:zir heap l=true) (h2:zff (zmq heap l)=true)
 (h4:xaw (lkN l) s slots) (h5:yfl (lkN l) s heap):HLe s (hs n slots heap):=yxy l hn hp h1 h2 trivial h4 h5
end Go.HL
namespace Go.HL
section
variable {P:Program}
def yxi (H:Nat->zai):List (Nat×Nat)->Prop
 | []=>True
 | p::r=>(Nat.blt p.1 pin=true/\H p.2=.free)/\yxi H r
def xih (σ:Ren) (H' H:Nat->zai):List (Nat×Nat)->Prop
 | []=>True
 | p::r=>(Nat.ble pin p.1=true/\∃ b,zpo σ b=true/\((H' p.1=.live b/\H p.2=.live (rnB σ b))\/(H' p.1=.ro b/\H p.2=.ro (rnB σ b))))/\xih σ H' H r
def ysk (σ:Ren) (H'':Nat->zai):List (Nat×Nat)->Bool
 | []=>true
 | p::r=>xjr σ (H'' p.1)&&ysk σ H'' r
def xky (σ:Ren) (H'':Nat->zai):List (Nat×Nat)->List (Nat×zai)
 | []=>[]
 | p::r=>(p.2,rnS σ (H'' p.1))::xky σ H'' r
def xdt (B:List (Nat×Nat)):List (Nat×zai)->Bool
 | []=>true
 | p::r=>B.any (fun q=>Nat.beq q.1 p.1)&&xdt B r
theorem yfg {σ:Ren} {H'':Nat->zai}:∀ {L:List (Nat×Nat)},xky σ H'' L=L.map fun p=>(p.2,rnS σ (H'' p.1))
 | []=>rfl
 | p::r=>by simp only [xky,zy40,yfg]
theorem zql {H:Nat->zai}:∀ {L:List (Nat×Nat)},yxi H L->∀ p∈L,p.1<pin/\H p.2=.free
 | q::r,h,p,hp=>by
  rcases zy18.1 hp with rfl | hp
  . exact ⟨by have:=h.1.1;simp only [Nat.blt,Nat.ble_eq] at this;exact this,h.1.2⟩
  . exact zql h.2 p hp
theorem ygy {σ:Ren} {H' H:Nat->zai}:∀ {L:List (Nat×Nat)},xih σ H' H L->∀ p∈L,pin<=p.1/\∃ b,zpo σ b=true/\((H' p.1=.live b/\H p.2=.live (rnB σ b))\/(H' p.1=.ro b/\H p.2=.ro (rnB σ b)))
 | q::r,h,p,hp=>by
  rcases zy18.1 hp with rfl | hp
  . exact ⟨zy43 h.1.1,h.1.2⟩
  . exact ygy h.2 p hp
theorem zpz {σ:Ren} {H'':Nat->zai}:∀ {L:List (Nat×Nat)},ysk σ H'' L=true->∀ p∈L,xjr σ (H'' p.1)=true
 | q::r,h,p,hp=>by
  simp only [ysk,zy16] at h;rcases zy18.1 hp with rfl | hp
  . exact h.1
  . exact zpz h.2 p hp
theorem zfl:∀ {l:List Nat},zff l=true->l.Nodup
 | [],_=>by simp
 | x::r,h=>by
  simp only [zff,zy16,zy45] at h;refine zy122.2 ⟨fun hm=>?_,zfl h.2⟩;have:=zy135.1 h.1 x hm;simp at this
theorem yal {B:List (Nat×Nat)}:∀ {L:List (Nat×zai)},xdt B L=true->∀ i,lk .free L i=.free\/∃ p∈B,p.1=i
 | [],_,i=>.inl rfl
 | q::r,h,i=>by
  simp only [xdt,zy16] at h;obtain ⟨a,b⟩:=q;simp only [lk];cases hb:Nat.beq i a with
  | true =>
   have:=zy10 hb;subst this;obtain ⟨p,hp,he⟩:=zy105.1 h.1;exact .inr ⟨p,hp,zy10 he⟩
  | false=>exact yal h.2 i
def xnx (P:Program) (f:FuncId) (H:Nat->zai) (B F:List (Nat×Nat)) (a1:List HV) (us:List (Nat×zai)) (K:Res->Prop):Prop :=
 ∃ args' L' r' L'',zan P f args' (lk .free L') r' (lk .free L'')/\(zpp (ren B) args'=true/\rnL (ren B) args'=a1/\xdt B L'=true/\xih (ren B) (lk .free L') (zeo H us) B/\yxi H F /\
  (zff (B.map (·.1))&&zff (B.map (·.2))&&zff (F.map (·.1))&&zff (F.map (·.2)))=true/\ysk (ren (B++F)) (lk .free L'') (B++F)=true/\zjz (ren (B++F)) r'=true) /\
  K ⟨rn (ren (B++F)) r',us++xky (ren (B++F)) (lk .free L'') (B++F),[]⟩
theorem zaf (ms:List Bool) (B F:List (Nat×Nat)) {f:FuncId} {args:List HV} {d:Nat} {H:Nat->zai} {K:Res->Prop} (h:zml H ms args fun a us=>zks a fun a=>xnx P f H B F a us K) :
 ygz (CR P) f args d H K:=by
 have h:=zjg _ _ h;obtain ⟨a,us,hg,hv⟩:=h;rw [zha] at hg;obtain ⟨args',L',r',L'',h1,⟨h2,h3,h4,h5,h6,h7,h8,h9⟩,h10⟩:=hg;simp only [zy16] at h7;refine ⟨_,.zgk (us:=us) (ms:=ms) (args1:=a) (B:=B) (F:=F) (args':=args') (H':=lk .free L') (r':=r') (H'':=lk .free L'')
  ⟨hv.loc H (fun _ _=>rfl) _ ⟨rfl,rfl⟩,h1,h2,h3,yal h4,ygy h5,zfl h7.1.1.1,zfl h7.1.1.2,zql h6,zfl h7.1.2,zfl h7.2,zpz h8,h9,rfl,by rw [yfg]⟩,h10⟩
theorem zat (F:List (Nat×Nat)) {f:FuncId} {args:List HV} {d:Nat} {H:Nat->zai} {K:Res->Prop}
 (h:zhi H args fun a us=>zks (normArgs P (ydv P f) a) fun a=>∃ r' L'',zan P f a zad r' (lk .free L'') /\
  (yxi H F/\(zff (F.map (·.1))&&zff (F.map (·.2)))=true/\ysk (ren F) (lk .free L'') F=true/\zjz (ren F) r'=true)/\K ⟨rn (ren F) r',us++xky (ren F) (lk .free L'') F,[]⟩) :
 ygz (CR P) f args d H K:=by
 obtain ⟨a,us,h,hv⟩:=zek _ h;rw [zha] at h;obtain ⟨r',L'',h1,⟨h6,h7,h8,h9⟩,h10⟩:=h;simp only [zy16] at h7;replace h1:=h1.args fun _ _ _ _ hx=>hx.normArgs _
 exact yy43
theorem xin (fz:List Nat) {pins:List Nat} {v r:HV} {H2:Nat->zai} {heap:List (Nat×zai)} (l:List (Nat×Option Nat)) (h1:zir heap l=true) (h2:zff (zmq heap l)=true) (h3:zra (lkN l) pins)
 (h4:zjz (lkN l) r=true) (h5:rn (lkN l) r=fzV fz H2 v) (h6:yfl (lkN l) (fzS fz (zuw [v] 1 H2 pins)) heap):xhf pins v H2 r (lk .free heap):=by
 refine ⟨fz,rfl,rfl,lkN l,fun i=>?_,?_,?_,?_⟩
 . cases i with
   | zero=>exact .inr ⟨h4,h5⟩
   | succ i =>
    refine .inr ⟨?_,?_⟩
    . show zjz (lkN l) ((nth [r] (i+1)).getD .und)=true
      simp [nth,zjz]
    . show rn (lkN l) ((nth [r] (i+1)).getD .und)=fzV fz H2 ((nth [v] (i+1)).getD .und)
      simp [nth,rn,fzV]
 . exact ypt l h1 h3 h6
 . intro id id' b j hb hd hj hj'
   exact ykp h2 (zxd hj) (zxd hj') zz116 hd
 . exact ypu l h3
theorem zap {pins:List Nat} {v r:HV} {H2:Nat->zai} {heap:List (Nat×zai)} (l:List (Nat×Option Nat)) (h1:zir heap l=true) (h2:zff (zmq heap l)=true) (h3:zra (lkN l) pins)
 (h4:zjz (lkN l) r=true) (h5:rn (lkN l) r=v) (h6:yfl (lkN l) (zuw [v] 1 H2 pins) heap):xhf pins v H2 r (lk .free heap) :=
 xin [] l h1 h2 h3 h4 (by rw [yma];exact h5) (by rw [yxl];exact h6)
end
end Go.HL
namespace Go.HL
section
variable {P:Program}
theorem zgs {f:FuncId} {args:List HV} {d:Nat} {H:Nat->zai} {K:Res->Prop} (h:zhi H args fun a us=>∃ r,zan P f a zad r zad/\yjm r=true/\K ⟨r,[],us.map (·.1)⟩) :
 ygz (CR P) f args d H K:=by
 obtain ⟨a,us,⟨r,h1,h2,h3⟩,hv⟩:=zek _ h;exact ⟨_,.lend ⟨hv.loc H (fun _ _=>rfl) _ ⟨rfl,rfl⟩,h1,h2,rfl,rfl⟩,h3⟩
def zca {α:Type} (p:α->Bool) (k:Nat):List α->Int
 | []=>-1
 | x::r=>if p x then k else zca p (k+1) r
theorem yvw {k n:Nat} (h:k<n) (hn:n<2 ^ 62):W ((k:Int)+1)=((k+1:Nat):Int):=by rw [zbs (by omega) (by omega)];push_cast;rfl
end
end Go.HL
namespace Go.HL
section
variable {P:Program}
theorem ytg (F:List (Nat×Nat)) {f:FuncId} {args:List HV} {d:Nat} {H:Nat->zai} {K:Res->Prop}
 (h:zhi H args fun a us=>∃ r' L'',zan P f a zad r' (lk .free L'') /\
  (yxi H F/\(zff (F.map (·.1))&&zff (F.map (·.2)))=true/\ysk (ren F) (lk .free L'') F=true/\zjz (ren F) r'=true)/\K ⟨rn (ren F) r',us++xky (ren F) (lk .free L'') F,[]⟩) :
 ygz (CR P) f args d H K:=by
 obtain ⟨a,us,h,hv⟩:=zek _ h;obtain ⟨r',L'',h1,⟨h6,h7,h8,h9⟩,h10⟩:=h;simp only [zy16] at h7;exact yy43
end
end Go.HL
namespace Go.HL
theorem zbt:∀ {L:List (Nat×zai)} (i:Nat),lk .free L i=.free\/i∈L.map (·.1)
 | [],i=>.inl rfl
 | (a,b)::r,i=>by
  simp only [lk,zy40,zy18];cases hb:Nat.beq i a with
  | true=>exact .inr (.inl (zy10 hb))
  | false =>
   rcases zbt (L:=r) i with h | h
   . exact .inl h
   . exact .inr (.inr h)
end Go.HL
namespace Go.HL
open Go.RowKit
mutual
def PV.bulk:PV->Nat
 | .v (.string s)=>s.size+1
 | .v _=>1
 | .sl _ rows=>zjy rows+1
def zhe:List PV->Nat
 | []=>0
 | x::r=>x.bulk+zhe r
def zjy:List (List PV)->Nat
 | []=>0
 | r::rs=>zhe r+zjy rs
end
mutual
def dwb {H:Type}:DataW H->Nat
 | .lit (.string bytes)=>bytes.length+1
 | .lit _=>1
 | .nil=>1
 | .ptr d=>dwb d+1
 | .slice elems spare=>zua elems+zua spare+1
 | .agg parts=>zua parts+1
 | .iface _ d=>dwb d+1
 | .map entries=>xlo entries+1
 | .held _=>1
def zua {H:Type}:List (DataW H)->Nat
 | []=>0
 | d::r=>dwb d+zua r
def xlo {H:Type}:List (Lit×DataW H)->Nat
 | []=>0
 | x::r=>xhw x+xlo r
def xhw {H:Type}:Lit×DataW H->Nat
 | (.string bytes,d)=>bytes.length+dwb d+1
 | (_,d)=>dwb d+1
end
def yko (P:Program) (S:TypeId->Bool):Nat->Nat->List Field->Bool
 | off,tot,[]=>Nat.beq off tot
 | off,tot,f::fs=>Nat.beq f.offset off&&S f.type&&yko P S (off+P.cellsOf f.type) tot fs
def xfp (P:Program):Nat->TypeId->Bool
 | 0,_=>false
 | n+1,t=>match P.underlying t with
  | some .bool=>true
  | some (.int _)=>true
  | some .string=>true
  | some (.slice e)=>xfp P n e&&Nat.blt 0 (P.cellsOf e)
  | some (.struct fs)=>yko P (xfp P n) 0 (P.cellsOf t) fs.toList
  | _=>false
def xkv (P:Program) (S:TypeId->List PV->Prop):List Field->List PV->Prop
 | [],pvs=>pvs=[]
 | f::fs,pvs=>∃ a b,pvs=a++b/\a.length=P.cellsOf f.type/\S f.type a/\xkv P S fs b
def shp (P:Program):Nat->TypeId->List PV->Prop
 | 0,_,_=>False
 | n+1,t,pvs=>match P.underlying t with
  | some .bool=>∃ b,pvs=[.v (.bool b)]
  | some (.int k)=>∃ z,pvs=[.v (.int k z)]/\(Lit.int k z).wf=true
  | some .string=>∃ s,pvs=[.v (.string s)]/\s.size<=maxLen
  | some (.slice e)=>∃ rows,pvs=[.sl (P.cellsOf e) rows]/\∀ r∈rows,shp P n e r
  | some (.struct fs)=>xkv P (shp P n) fs.toList pvs
  | _=>False
section
variable {H:Type} {enc:TypeId×Value->H} {P:Program} {W:World} {base:Nat} {sp:Nat->Bool} {held:Bool}
abbrev RW (W:World):Nat->Prop:=fun b=>b<W.heap.size
theorem zzv {a:Addr} {n:Nat} {cs:List Value} (h:W.cells? base a n=some cs):cs.length=n/\(∀ k v,cs[k]?=some v->W.cell? (a.add k)=some v):=by
 unfold World.cells? at h;split at h
 . have hl:=mapM_some_length h
   refine ⟨by simpa using hl,fun k v hv=>?_⟩;have hk:k<n:=by
    have:=(zy8.1 hv).1
    simpa [hl] using this
   have:=mapM_some_get h k k (by rw [zy114 hk]);rw [this];exact hv
 . cases h
theorem xhr {b o:Nat} {v:Value} (h:W.cell? ⟨b,o,none⟩=some v):b<W.heap.size:=by
 unfold World.cell? at h;cases hb:W.heap[b]? with
 | none=>simp only [hb] at h;cases h
 | some x=>exact (zy81.1 hb).1
theorem zty:∀ (a b:List PV),zhe (a++b)=zhe a+zhe b
 | [],b=>by simp [zhe]
 | x::a,b=>by simp [zhe,zty a b];omega
theorem ykr {fuel:Nat} {S:TypeId->Bool} {Sh:TypeId->List PV->Prop} {cs:List Value}
 (ih:∀ t cs d ps,S t=true->DataW.trod enc P W base sp held fuel t cs=some (d,ps)->∃ pvs,zfi W (RW W) pvs cs/\Sh t pvs/\zhe pvs<=dwb d) :
 ∀ (fs:List Field) (off:Nat) (xs:List (DataW H×List MemPlace)),yko P S off cs.length fs=true->off<=cs.length ->
  (∀ f∈fs,f.offset+P.cellsOf f.type<=cs.length) ->
  fs.mapM (fun f=>DataW.trod enc P W base sp held fuel f.type ((cs.drop f.offset).take (P.cellsOf f.type)))=some xs ->
  ∃ pvs,zfi W (RW W) pvs (cs.drop off)/\xkv P Sh fs pvs/\zhe pvs<=zua (xs.map (·.1))
 | [],off,xs,hs,hle,_,h=>by
  simp only [yko] at hs;have:=zy10 hs;subst this;simp only [List.mapM_nil,Option.pure_def,Option.some.injEq] at h;subst h;exact ⟨[],by rw [zy22 (zy28 _)];exact .nil,rfl,by simp [zhe,zua]⟩
 | f::fs,off,xs,hs,hle,hb,h=>by
  simp only [yko,zy16] at hs;obtain ⟨⟨h1,h2⟩,h3⟩:=hs;have h1:=zy10 h1;subst h1;simp only [List.mapM_cons,Option.bind_eq_bind,Option.pure_def] at h;cases hx:DataW.trod enc P W base sp held fuel f.type ((cs.drop f.offset).take (P.cellsOf f.type)) with
  | none=>rw [hx] at h;simp at h
  | some x =>
   obtain ⟨d,ps⟩:=x;rw [hx] at h;simp only [zy160] at h;cases hr:fs.mapM (fun f=>DataW.trod enc P W base sp held fuel f.type ((cs.drop f.offset).take (P.cellsOf f.type))) with
   | none=>rw [hr] at h;simp at h
   | some r =>
    rw [hr] at h;simp only [zy160,Option.some.injEq] at h;subst h;obtain ⟨pa,ha1,ha2,ha3⟩:=ih _ _ _ _ h2 hx;have hbf:=hb f zz5;obtain ⟨pb,hb1,hb2,hb3⟩:=ykr ih fs (f.offset+P.cellsOf f.type) r h3 hbf (fun g hg=>hb g (by simp [hg])) hr;have hl:=ha1.length;have htl:((cs.drop f.offset).take (P.cellsOf f.type)).length=P.cellsOf f.type:=by simp;omega
    refine ⟨pa++pb,?_,⟨pa,pb,rfl,by omega,ha2,hb2⟩,by rw [zty];simp only [zy40,zua];omega⟩;have:=ha1.append hb1;rw [<- zy123,zy33] at this;exact this
theorem ysc {S:TypeId->Bool} {tot:Nat}:∀ {fs:List Field} {off:Nat},yko P S off tot fs=true->off<=tot/\∀ f∈fs,f.offset+P.cellsOf f.type<=tot
 | [],off,h=>by simp only [yko] at h;have:=zy10 h;exact ⟨by omega,by simp⟩
 | f::fs,off,h=>by
  simp only [yko,zy16] at h;obtain ⟨⟨h1,h2⟩,h3⟩:=h;have h1:=zy10 h1;obtain ⟨h4,h5⟩:=ysc h3;refine ⟨by omega,fun g hg=>?_⟩;rcases zy18.1 hg with rfl | hg
  . omega
  . exact h5 g hg
theorem yfc:∀ (n fuel:Nat) (t:TypeId) (cs:List Value) (d:DataW H) (ps:List MemPlace),xfp P n t=true->DataW.trod enc P W base sp held fuel t cs=some (d,ps) ->
 ∃ pvs,zfi W (RW W) pvs cs/\shp P n t pvs/\zhe pvs<=dwb d
 | 0,fuel,t,cs,d,ps,hs,h=>by cases hs
 | n+1,0,t,cs,d,ps,hs,h=>by simp [DataW.trod] at h
 | n+1,fuel+1,t,cs,d,ps,hs,h=>by
  simp only [xfp] at hs;simp only [shp];unfold DataW.trod at h;cases hu:P.underlying t with
  | none=>rw [hu] at hs;cases hs
  | some u =>
   rw [hu] at hs h;cases u with
   | bool =>
    rcases cs with _ | ⟨c,_ | ⟨c2,cs⟩⟩
    . cases h
    . cases c<;>try cases h
      rename_i b;exact ⟨[.v (.bool b)],.cons (.v _ rfl) .nil,⟨b,rfl⟩,by simp [zhe,PV.bulk,dwb]⟩
    . cases c<;>first | cases h | simp at h
   | int k =>
    rcases cs with _ | ⟨c,_ | ⟨c2,cs⟩⟩
    . cases h
    . cases c<;>try cases h
      rename_i k' z;simp only at h;split at h
      . rename_i hw
        obtain ⟨rfl,hw⟩:=hw;cases h;exact ⟨[.v (.int k' z)],.cons (.v _ rfl) .nil,⟨z,rfl,hw⟩,by simp [zhe,PV.bulk,dwb]⟩
      . cases h
    . cases c<;>first | cases h | simp at h
   | string =>
    rcases cs with _ | ⟨c,_ | ⟨c2,cs⟩⟩
    . cases h
    . cases c<;>try cases h
      rename_i s;simp only at h;split at h
      . rename_i hw
        cases h;exact ⟨[.v (.string s)],.cons (.v _ rfl) .nil,⟨s,rfl,hw⟩,by simp only [zhe,PV.bulk,dwb,Array.length_toList,zy90];exact zy28 _⟩
      . cases h
    . cases c<;>first | cases h | simp at h
   | slice e =>
    simp only [zy16] at hs;obtain ⟨hs,hpos⟩:=hs;have hpos:0<P.cellsOf e:=zy43 hpos;rcases cs with _ | ⟨c,_ | ⟨c2,cs⟩⟩
    . cases h
    . cases c<;>try cases h
      rename_i a len cap;cases a with
      | none =>
       cases len with
       | zero=>cases cap with
        | zero =>
         cases h;exact ⟨[.sl (P.cellsOf e) []],.cons (.sl0 _ _ _ (zy103 _)) .nil,⟨[],rfl,by simp⟩,by simp [zhe,PV.bulk,zjy,dwb]⟩
        | succ cap=>cases h
       | succ len=>cases h
      | some a =>
       simp only at h;split at h
       . rename_i hb
         obtain ⟨hb,hlc,hcm⟩:=hb;cases he:(List.range len).mapM (fun i=>(W.cells? base (a.add (i*P.cellsOf e)) (P.cellsOf e)).bind (DataW.trod enc P W base sp held fuel e)) with
         | none=>rw [he] at h;simp at h
         | some elems =>
          rw [he] at h;simp only [zy160] at h;have hle:=mapM_some_length he;simp only [List.length_range] at hle;have hd:zua (elems.map (·.1))+1<=dwb d:=by
           obtain ⟨rest,hr,hx⟩:=zy32.1 h;cases hx;simp only [dwb];omega
          -- each element
          have hat:∀ i,i<len->∃ cs x,W.cells? base (a.add (i*P.cellsOf e)) (P.cellsOf e)=some cs/\elems[i]?=some x/\DataW.trod enc P W base sp held fuel e cs=some x:=by
           intro i hi;have hg:=mapM_some_get he i i (by rw [zy114 hi]);obtain ⟨x,hx⟩:∃ x,elems[i]?=some x:=⟨_,zy2 zz0⟩
           rw [hx] at hg;cases hc:W.cells? base (a.add (i*P.cellsOf e)) (P.cellsOf e) with
           | none=>rw [hc] at hg;simp at hg
           | some cs=>rw [hc] at hg;exact ⟨cs,x,rfl,hx,by simpa using hg⟩
          cases len with
          | zero =>
           have:elems=[]:=zy20 hle;subst this;refine ⟨[.sl (P.cellsOf e) []],.cons (.sl0 _ _ _ hcm) .nil,⟨[],rfl,by simp⟩,?_⟩;simp [zhe,PV.bulk,zjy] at hd ⊢;omega
          | succ len =>
           have hspot:a=⟨a.block,a.off,none⟩:=by
            obtain ⟨cs0,x0,h1,_,_⟩:=hat 0 zz0;obtain ⟨hl0,hc0⟩:=zzv h1;have h2:=hc0 0 (cs0[0]'zz0) (zy2 zz0);simp only [Nat.zero_mul,Addr.add,if_true] at h2;obtain ⟨blk,off,spot⟩:=a;unfold World.cell? at h2;split at h2
            . split at h2
              . cases h2
              . rename_i hsn
                cases spot with
                | none=>rfl
                | some x=>simp at hsn
            . cases h2
           obtain ⟨blk,off,spot⟩:=a;simp only [Addr.mk.injEq,true_and] at hspot;subst hspot;have hadd:∀ off j,(⟨blk,off,none⟩:Addr).add j=⟨blk,off+j,none⟩:=by
            intro off j;unfold Addr.add;split
            . rename_i h0;subst h0;rfl
            . rfl
           have zqp:∀ i,i<len+1->∃ r:List PV,r.length=P.cellsOf e/\shp P n e r/\(∃ x,elems[i]?=some x/\zhe r<=dwb x.1)/\∀ (k:Nat) y,r[k]?=some y->∃ cv,W.cell? ⟨blk,off+(i*P.cellsOf e+k),none⟩=some cv/\ziv W (RW W) y cv:=by
            intro i hi;obtain ⟨cs,x,h1,h2,h3⟩:=hat i hi;obtain ⟨r,h4,h5,h6⟩:=yfc n fuel e cs x.1 x.2 hs h3;obtain ⟨h7,h8⟩:=zzv h1;refine ⟨r,by rw [<- h7];exact h4.length.symm,h5,⟨x,h2,h6⟩,fun k y hk=>?_⟩;obtain ⟨v,hv,hp⟩:=h4.get k y hk;have h9:=h8 k v hv;rw [hadd,hadd] at h9;exact ⟨v,by rw [<- h9,zy99],hp⟩
           let row:Nat->List PV:=fun i=>if hi:i<len+1 then Classical.choose (zqp i hi) else []
           have hrowi:∀ i (hi:i<len+1),(row i).length=P.cellsOf e/\shp P n e (row i)/\(∃ x,elems[i]?=some x/\zhe (row i)<=dwb x.1)/\∀ (k:Nat) y,(row i)[k]?=some y->∃ cv,W.cell? ⟨blk,off+(i*P.cellsOf e+k),none⟩=some cv/\ziv W (RW W) y cv:=by
            intro i hi;have:=Classical.choose_spec (zqp i hi);simp only [row,dif_pos hi];exact this
           let rows:=(List.range (len+1)).map row
           have hrl:rows.length=len+1:=by simp [rows]
           have hmem:∀ r∈rows,∃ i,i<len+1/\r=row i:=by
            intro r hr;obtain ⟨i,hi,rfl⟩:=zy27.1 hr;exact ⟨i,List.mem_range.1 hi,rfl⟩
           have hlens:∀ r∈rows,r.length=P.cellsOf e:=by
            intro r hr;obtain ⟨i,hi,rfl⟩:=hmem r hr;exact (hrowi i hi).1
           have hcell:∀ k y,rows.flatten[k]?=some y->∃ cv,W.cell? ⟨blk,off+k,none⟩=some cv/\ziv W (RW W) y cv:=by
            intro k y hk;obtain ⟨i,j,r,e1,hj,hr,hy⟩:=zgf hlens hk;have hi:i<len+1:=by
             have:=(zy8.1 hr).1;rw [hrl] at this;exact this
            have hre:r=row i:=by
             simp only [rows,zy19,zy114 hi,zy73,Option.some.injEq] at hr;exact hr.symm
            subst hre;obtain ⟨cv,h1,h2⟩:=(hrowi i hi).2.2.2 j y hy;exact ⟨cv,by rw [e1];exact h1,h2⟩
           have hblk:blk<W.heap.size:=by
            obtain ⟨hl0,_,_,hc0⟩:=hrowi 0 zz0;obtain ⟨cv,h1,_⟩:=hc0 0 ((row 0)[0]'zz0) (zy2 zz0);exact xhr h1
           have hprep:ziv W (RW W) (.sl (P.cellsOf e) rows) (.slice (some ⟨blk,off,none⟩) (len+1) cap):=by
            have:=ziv.sl (w:=W) (R:=RW W) (P.cellsOf e) rows blk off cap (fun k=>(W.cell? ⟨blk,off+k,none⟩).getD undef) zz0 hcm hlens hblk
             (fun k y hk=>by obtain ⟨cv,h1,_⟩:=hcell k y hk;simp only [h1];rfl) (fun k y hk=>by obtain ⟨cv,h1,h2⟩:=hcell k y hk;simp only [h1];exact h2)
            rw [hrl] at this;exact this
           refine ⟨[.sl (P.cellsOf e) rows],.cons hprep .nil,⟨rows,rfl,fun r hr=>?_⟩,?_⟩
           . obtain ⟨i,hi,rfl⟩:=hmem r hr
             exact (hrowi i hi).2.1
           . have hbr:∀ (es:List (DataW H×List MemPlace)) (g:Nat->List PV) (m:Nat),es.length=m->(∀ i,i<m->∃ x,es[i]?=some x/\zhe (g i)<=dwb x.1)->zjy ((List.range m).map g)<=zua (es.map (·.1)):=by
              intro es
              induction es with
              | nil=>intro g m hm _;simp at hm;subst hm;simp [zjy,zua]
              | cons x es ih =>
               intro g m hm hg;simp at hm;subst hm;rw [List.range_succ_eq_map];simp only [zy40,zy117,zjy,zua];obtain ⟨x0,h1,h2⟩:=hg 0 zz0;simp at h1;subst h1;have:=ih (g∘Nat.succ) es.length rfl fun i hi=>by
                obtain ⟨y,h3,h4⟩:=hg (i+1) zz0;exact ⟨y,by simpa using h3,h4⟩
               omega
             have:zjy rows<=zua (elems.map (·.1)):=hbr elems row (len+1) hle fun i hi=>(hrowi i hi).2.2.1
             simp only [zhe,PV.bulk];show zjy rows+1+0<=dwb d;omega
       . cases h
    . cases c<;>first | cases h | simp at h
   | struct fs =>
    simp only at h;split at h
    . rename_i hl
      obtain ⟨xs,hx,hx2⟩:=zy32.1 h;cases hx2;rw [<- hl] at hs;obtain ⟨h1,h2⟩:=ysc hs;obtain ⟨pvs,h3,h4,h5⟩:=ykr (S:=xfp P n) (Sh:=shp P n) (fun t cs d ps=>yfc n fuel t cs d ps) fs.toList 0 xs hs h1 h2 hx;exact ⟨pvs,by simpa using h3,h4,by simp only [dwb];omega⟩
    . cases h
   | _=>cases hs
def yld (P:Program) (t:TypeId) (pvs:List PV):HV:=match P.underlying t with
 | some (.struct _)=>.agg (pvs.map .p)
 | _=>match pvs with | [x]=>.p x | _=>.any
theorem xaa {m:zgb} {R:Nat->Prop} {pvs:List PV} {vs:List Value} (h:zfi W R pvs vs):zbe m W R (pvs.map .p) vs:=by
 induction h with
 | nil=>simp only [zy124,zbe]
 | cons h _ ih=>simp only [zy40,zbe];exact ⟨_,_,rfl,by simp only [zbc];exact h,ih⟩
theorem xhl {n:Nat} {t:TypeId} {v:Value} {d:DataW H} {ps:List MemPlace} {r:Reach} {b0:Nat} {m:zgb} (hs:xfp P n t=true) (hok:Value.okWide P W r b0 t v) (h:DataW.Trod enc P W base sp held t v d ps) :
 ∃ pvs,shp P n t pvs/\zhe pvs<=dwb d/\zbc m W (RW W) (yld P t pvs) v:=by
 obtain ⟨fuel,h⟩:=h;obtain ⟨pvs,h1,h2,h3⟩:=yfc n fuel t _ d ps hs h;refine ⟨pvs,h2,h3,?_⟩;cases n with
 | zero=>cases hs
 | succ n =>
  have one:∀ {x:PV},pvs=[x]->v.cells=#[v]->zbc m W (RW W) (.p x) v:=by
   intro x hx hv;subst hx;rw [hv] at h1;cases h1 with
   | cons h _=>simp only [zbc];exact h
  simp only [xfp] at hs;simp only [shp] at h2;simp only [Value.okWide] at hok;unfold yld;cases hu:P.underlying t with
  | none=>rw [hu] at hs;cases hs
  | some u =>
   rw [hu] at hs h2 hok;cases u with
   | bool =>
    simp only [Cell.okWide,Cell.ok,hu] at hok;obtain ⟨b,rfl⟩:=h2;cases v<;>try exact hok.elim
    exact one rfl rfl
   | int k =>
    exact yy87
   | string =>
    exact yy87
   | slice e =>
    exact yy87
   | struct fs =>
    obtain ⟨cs,rfl,_,_⟩:=hok;simp only [zbc];exact ⟨cs,rfl,xaa h1⟩
   | _=>cases hs
def xkw (P:Program) (n:Nat):List TypeId->List (List PV)->Prop
 | [],[]=>True
 | t::ts,x::xs=>shp P n t x/\xkw P n ts xs
 | _,_=>False
def zwc (P:Program):List TypeId->List (List PV)->List HV
 | t::ts,x::xs=>yld P t x::zwc P ts xs
 | _,_=>[]
theorem yog {n:Nat} {r:Reach} {b0:Nat} {m:zgb}:∀ {ts:List TypeId} {vs:List Value} {ds:List (DataW H)} {ps:List MemPlace},(∀ t∈ts,xfp P n t=true)->(∀ (j:Nat) t v,ts[j]?=some t->vs[j]?=some v->Value.okWide P W r b0 t v) ->
 DataW.TrodAll enc P W base sp held ts vs ds ps->∃ L,xkw P n ts L/\zjy L<=zua ds/\zbe m W (RW W) (zwc P ts L) vs/\ds.length=ts.length
 | [],[],[],ps,_,_,_=>⟨[],trivial,by simp [zjy,zua],by simp only [zwc,zbe],rfl⟩
 | t::ts,v::vs,d::ds,ps,hs,hok,h=>by
  obtain ⟨p,q,h1,h2,rfl⟩:=h;obtain ⟨x,h3,h4,h5⟩:=xhl (m:=m) (hs t zz5) (hok 0 t v rfl rfl) h1;obtain ⟨L,h6,h7,h8,h9⟩:=yog (fun t ht=>hs t (by simp [ht])) (fun j t v hj hv=>hok (j+1) t v zz128 zz121) h2;exact ⟨x::L,⟨h3,h6⟩,by simp only [zjy,zua];omega,by simp only [zwc,zbe];exact ⟨v,vs,rfl,h5,h8⟩,by simp [h9]⟩
 | [],[],_::_,_,_,_,h=>h.elim
 | [],_::_,_,_,_,_,h=>h.elim
 | _::_,[],_,_,_,_,h=>h.elim
 | _::_,_::_,[],_,_,_,h=>h.elim
theorem zrt (hl:laidOutB P=true) {W':World} (hb:Below W.heap.size W W'):∀ {ts:List TypeId} {vs:List Value} {ds:List (DataW H)} {ps:List MemPlace},(∀ t∈ts,P.readableRec t=true/\t<P.types.size) ->
 DataW.TrodAll enc P W 0 (fun _=>true) true ts vs ds ps->(∀ x∈ps,x.block<W.heap.size)->DataW.TrodAll enc P W' 0 (fun b=>decide (b<W.heap.size)) true ts vs ds ps
 | [],[],[],ps,_,h,_=>h
 | t::ts,v::vs,d::ds,ps,hr,h,hlt=>by
  obtain ⟨p,q,h1,h2,rfl⟩:=h;exact ⟨p,q,Below.trod hl (hr t zz5).1 (hr t zz5).2 h1 hb fun x hx=>hlt x zz52,zrt hl hb (fun t ht=>hr t (by simp [ht])) h2 fun x hx=>hlt x zz52,rfl⟩
 | [],[],_::_,_,_,h,_=>h.elim
 | [],_::_,_,_,_,h,_=>h.elim
 | _::_,[],_,_,_,h,_=>h.elim
 | _::_,_::_,[],_,_,h,_=>h.elim
theorem yht {f:FuncId} {fn:Func} {s:ChangeSpec} {args:Array Value} {ds gs:List (DataW H)} {before:List MemPlace} {b0:Nat} {tb:TypeId} (n:Nat) (hl:laidOutB P=true)
 (hsupp:fn.params.toList.all (xfp P n)=true) (hread:fn.params.toList.all (fun t=>P.readableRec t&&decide (t<P.types.size))=true)
 (hrt:fn.resultTypes=#[tb]) (htb:P.underlying tb=some .bool) (hvars:s.vars=[]) (hfn:∀ ds:List (DataW H),ds.length=fn.params.toList.length->(s.fn H ds).results=[.lit (.bool true)]/\(s.fn H ds).args=ds/\(s.fn H ds).vars=[])
 (hval:∀ (j:Nat) t v,fn.params[j]?=some t->args[j]?=some v->Value.okWide P W .any b0 t v)
 (hW:DataW.Whole enc P fn.params.toList s.vars false W args.toList ds gs before)
 (hspec:∀ L,xkw P n fn.params.toList L->zjy L<=zua ds->zan P f (zwc P fn.params.toList L) zad (zbj true) zad) :
 Calls P f args W fun e W'=>∃ v,e=.returned v/\s.post enc P fn false true false false W args v W':=by
 have hW':=hW;obtain ⟨p,q,hA,hV,rfl,hfz,hnd⟩:=hW;have hVe:gs=[]/\q=[]:=by
  rw [hvars] at hV;cases gs with
  | nil=>exact ⟨rfl,hV⟩
  | cons=>exact hV.elim
 obtain ⟨rfl,rfl⟩:=hVe;obtain ⟨L,h1,h2,h3,h4⟩:=yog (m:=fun _=>none) (n:=n) (fun t ht=>zy65.1 hsupp t ht) (fun j t v hj hv=>hval j t v zz128 zz121) hA
 let Γ:Ctx:=⟨fun _=>True,W,fun _=>False,fun _=>none⟩
 have hok:zbn Γ (fun _=>none) zad W:=⟨zy28 _,rfl,rfl,rfl,fun _ _ _=>rfl,fun _ _=>rfl,(fun id b hb=>by cases hb),(fun id b hb=>by cases hb),(fun id id' b b' l l' hb=>by cases hb),fun b hb=>hb.elim⟩
 have hrep:zbe (fun _=>none) W (RR Γ (fun _=>none) zad W) (zwc P fn.params.toList L) args.toList:=zbe.mono (.refl _) (fun b hb=>⟨rfl,.inl trivial,hb,ydq⟩) _ _ h3;obtain ⟨-,hcalls⟩:=hspec L h1 h2 Γ _ W args.toList hok hrep rfl;have hat:args.toList.toArray=args:=by simp
 rw [hat] at hcalls;refine hcalls.mono fun e W1 he=>?_
 obtain ⟨v,m',rfl,hok',hv,_⟩:=he;have hvb:=ziw hv;subst hvb;have hb:Below W.heap.size W W1:=⟨hok'.os,hok'.tape,hok'.output,hok'.size,fun k hk=>hok'.frame k hk fun h=>h⟩
 obtain ⟨hf1,hf2,hf3⟩:=hfn (ds++[]) (by simp [h4]);refine ⟨_,rfl,ds,[],p++[],[],p,[],hW',?_,?_,?_,hb.frame _,fun h=>by cases h⟩
 . rw [hf1,hrt]
   have:(Value.bool true).resultList (#[tb]:Array TypeId).size=[.bool true]:=by simp [Value.resultList]
   rw [this];exact ⟨[],[],⟨1,by simp [DataW.trod,htb,Value.cells]⟩,rfl,rfl⟩
 . rw [hf2]
   have hlt:∀ x∈p,x.block<W.heap.size:=fun x hx=>by simpa using hW'.lt x zz113
   have:=zrt hl hb (fun t ht=>by
    have:=zy65.1 hread t ht;simp only [zy16,zy34] at this;exact this) hA hlt
   simpa using this
 . rw [hvars,hf3]
   rfl
end
end Go.HL
namespace Go.HL
section
variable {P:Program} {n:Nat} {t e:TypeId} {pvs:List PV}
theorem zhv {k:IntKind} (hu:P.underlying t=some (.int k)) (h:shp P n t pvs):∃ z,pvs=[.v (.int k z)]/\(Lit.int k z).wf=true:=by
 cases n with
 | zero=>exact h.elim
 | succ n=>simpa only [shp,hu] using h
theorem xfi (hu:P.underlying t=some .bool) (h:shp P n t pvs):∃ b,pvs=[.v (.bool b)]:=by
 cases n with
 | zero=>exact h.elim
 | succ n=>simpa only [shp,hu] using h
theorem xau (hu:P.underlying t=some (.slice e)) (h:shp P n t pvs):∃ rows,pvs=[.sl (P.cellsOf e) rows]/\∀ r∈rows,shp P (n-1) e r:=by
 cases n with
 | zero=>exact h.elim
 | succ n=>simpa only [shp,hu,Nat.add_sub_cancel] using h
theorem ztf {fs:Array Field} (hu:P.underlying t=some (.struct fs)) (h:shp P n t pvs):xkv P (shp P (n-1)) fs.toList pvs:=by
 cases n with
 | zero=>exact h.elim
 | succ n=>simpa only [shp,hu,Nat.add_sub_cancel] using h
theorem zem {S:TypeId->List PV->Prop} {f:Field} {fs:List Field} (h:xkv P S (f::fs) pvs):∃ a b,pvs=a++b/\S f.type a/\xkv P S fs b:=by
 obtain ⟨a,b,h1,_,h2,h3⟩:=h;exact ⟨a,b,h1,h2,h3⟩
theorem xaj {β:Type} {row:β->List PV} {Q:β->Prop}:∀ {rows:List (List PV)},(∀ r∈rows,∃ x,r=row x/\Q x)->∃ xs:List β,rows=xs.map row/\∀ x∈xs,Q x
 | [],_=>⟨[],rfl,by simp⟩
 | r::rows,h=>by
  obtain ⟨x,rfl,hx⟩:=h r zz5;obtain ⟨xs,rfl,hxs⟩:=xaj (rows:=rows) fun r hr=>h r (by simp [hr])
  exact ⟨x::xs,rfl,by intro y hy;rcases zy18.1 hy with rfl | hy;exact hx;exact hxs y hy⟩
theorem yol:∀ {rows:List (List PV)},(∀ r∈rows,1<=zhe r)->rows.length<=zjy rows
 | [],_=>by simp [zjy]
 | r::rows,h=>by
  have h1:=h r zz5;have h2:=yol (rows:=rows) fun r hr=>h r (by simp [hr])
  simp only [zjy,zy6];omega
theorem wf_i64 {z:Int} (h:(Lit.int .i64 z).wf=true):-9223372036854775808<=z/\z<=9223372036854775807:=by
 simpa [Lit.wf,IntKind.min,IntKind.max,IntKind.signed,IntKind.bits] using h
theorem yjq {ts:List TypeId} {L:List (List PV)} (h:xkw P n (t::ts) L):∃ x xs,L=x::xs/\shp P n t x/\xkw P n ts xs:=by
 cases L with
 | nil=>exact h.elim
 | cons x xs=>exact ⟨x,xs,rfl,h.1,h.2⟩
theorem xfg {L:List (List PV)} (h:xkw P n [] L):L=[]:=by
 cases L with
 | nil=>rfl
 | cons x xs=>exact h.elim
end
end Go.HL
namespace Go.HL
abbrev pi (n:Int):PV:=.v (.int .i64 n)
abbrev pb (b:Bool):PV:=.v (.bool b)
abbrev ints (l:List Int):HV:=.p (.sl 1 (l.map fun n=>[pi n]))
def inI (z:Int):Prop:=-9223372036854775808<=z/\z<=9223372036854775807
section
variable {P:Program} {n c:Nat} {t e:TypeId} {pvs:List PV}
theorem zmi {z:Int} (h:(Lit.int .i64 z).wf=true):inI z:=wf_i64 h
theorem yru {α:Type} {row:α->List PV} {Q:α->Prop} (hu:P.underlying t=some (.slice e)) (hc:P.cellsOf e=c) (he:∀ r,shp P (n-1) e r->∃ x,r=row x/\Q x) (h:shp P n t pvs) :
 ∃ l:List α,pvs=[.sl c (l.map row)]/\∀ y∈l,Q y:=by
 obtain ⟨rows,h1,h2⟩:=xau hu h;obtain ⟨l,h3,h4⟩:=xaj (row:=row) (Q:=Q) fun r hr=>he r (h2 r hr)
 exact ⟨l,by rw [h1,h3,hc],h4⟩
theorem xat (hu:P.underlying t=some (.slice e)) (hi:P.underlying e=some (.int .u8)) (hc:P.cellsOf e=1) (h:shp P n t pvs):∃ l:List UInt8,pvs=[.sl 1 (l.map zcs)]:=by
 obtain ⟨l,h1,-⟩:=yru (row:=zcs) (Q:=fun _=>True) hu hc (fun r hr=>by
  obtain ⟨z,h1,h2⟩:=zhv hi hr;have h3:0<=z/\z<=255:=by simpa [Lit.wf,IntKind.min,IntKind.max,IntKind.signed,IntKind.bits] using h2
  refine ⟨UInt8.ofNat z.toNat,?_,trivial⟩;rw [h1];have:((UInt8.ofNat z.toNat).toNat:Int)=z:=by
   rw [UInt8.toNat_ofNat'];omega
  simp only [zcs,this]) h
 exact ⟨l,h1⟩
theorem ywg {rows:List (List PV)} {k:Nat} (hu:P.underlying t=some (.slice e)):yld P t [.sl k rows]=.p (.sl k rows):=by unfold yld;rw [hu]
end
end Go.HL
namespace Go.HL
theorem zcb {α:Type} {f:α->List PV} {l:List α} {z:Int} {K:List PV->Prop} (k:Nat) (hz:z=k) (h:k<l.length) (hk:K (f l[k])):zqp (l.map f) z K :=
 ⟨_,by omega,by rw [hz,zy24,zy19,zy2 h];rfl,hk⟩
theorem zjn {b:List UInt8} {z:Int} {K:List PV->Prop} (k:Nat) (hz:z=k) (h:k<b.length) (hk:K (zcs (b[k]?.getD 0))):zqp (b.map zcs) z K :=
 ⟨_,by omega,by rw [hz,zy24,zy19,zy2 h];rfl,hk⟩
theorem zgt {α:Type} {f:α->List PV} {l:List α} {o n:Nat} {K:List (List PV)->Prop} (h:o+n<=l.length) (hk:K (((l.drop o).take n).map f)):zsl (l.map f) o n K :=
 ⟨_,rfl,by rw [zy3];exact h,by rw [<- zy113,<- zy132];exact hk⟩
theorem zft {α:Type} {f:α->List PV} {l:List α} {o n:Nat} {K:List (List PV)->Prop} (h:o+n=l.length) (hk:K ((l.drop o).map f)):zsl (l.map f) o n K:=by
 refine zgt zz0 ?_;rw [zy31 (by rw [zy42];omega)];exact hk
end Go.HL
namespace Go.HL
def by8 (z:Int):UInt8:=UInt8.ofNat (z % 256).toNat
theorem zgl (z:Int):((by8 z).toNat:Int)=z % 256:=by
 unfold by8;rw [UInt8.toNat_ofNat'];omega
theorem xmx (z:Int):IntKind.u8.wrap z=((by8 z).toNat:Int):=by
 rw [zgl];unfold IntKind.wrap;simp [IntKind.bits,IntKind.signed]
theorem zdr {z:Int} {K:Int->Prop} (h:K ((by8 z).toNat:Int)):zop .u8 z K:=⟨_,(xmx z).symm,h⟩
abbrev yfv (l:List UInt8):HV:=.p (.sl 1 (l.map zcs))
def zbu (n:Int):List UInt8:=[by8 (n / 256),by8 n]
def zhd (a b:UInt8):Int:=a.toNat*256+b.toNat
theorem zmw {n:Int} (h0:0<=n) (h1:n<65536):zhd (by8 (n / 256)) (by8 n)=n:=by
 unfold zhd;rw [zgl,zgl];omega
theorem zzu (b:UInt8):by8 (b.toNat:Int)=b:=by
 apply UInt8.toNat_inj.1;have h1:=zgl (b.toNat:Int);have h2:=b.toNat_lt;have:(b.toNat:Int) % 256=b.toNat:=by omega
 omega
theorem zmx (a b:UInt8):zbu (zhd a b)=[a,b]:=by
 have ha:=a.toNat_lt;have hb:=b.toNat_lt;unfold zbu zhd;have e1:((a.toNat:Int)*256+b.toNat) / 256=a.toNat:=by omega
 rw [e1,zzu];have e2:by8 ((a.toNat:Int)*256+b.toNat)=b:=by
  apply UInt8.toNat_inj.1;have h1:=zgl ((a.toNat:Int)*256+b.toNat);have:((a.toNat:Int)*256+b.toNat) % 256=b.toNat:=by omega
  omega
 rw [e2]
end Go.HL
namespace Go.HL
theorem yrf (a:Nat) (ha:a<2 ^ 64):(BitVec.ofInt 64 (a:Int)).toNat=a:=by
 rw [BitVec.ofInt_natCast,BitVec.toNat_ofNat];exact Nat.mod_eq_of_lt zz0
theorem xej (a b:Nat) (ha:a<256) (hb:b<256):bits .or .i64 ((a:Int)*256) (b:Int)=(a:Int)*256+b:=by
 have e:∀ z:Int,z=(a:Int)*256->z=((a <<< 8:Nat):Int):=by intro z hz;rw [Nat.shiftLeft_eq,hz];omega
 have h1:a <<< 8<2 ^ 64:=by rw [Nat.shiftLeft_eq];omega
 show IntKind.i64.wrap ((BitVec.ofInt 64 ((a:Int)*256) ||| BitVec.ofInt 64 (b:Int)).toNat:Int)=_;rw [e _ rfl,BitVec.toNat_or,yrf _ h1,yrf b (by omega),<- Nat.shiftLeft_add_eq_or_of_lt (by omega:b<2 ^ 8),Nat.shiftLeft_eq];have:=zbs (z:=((a*2 ^ 8+b:Nat):Int)) zz0 zz0;rw [show IntKind.i64.wrap ((a*2 ^ 8+b:Nat):Int)=W ((a*2 ^ 8+b:Nat):Int) from rfl,this];omega
theorem xjb (a:Nat) (ha:a<256):(BitVec.ofInt 8 (a:Int)).toNat=a:=by
 rw [BitVec.ofInt_natCast,BitVec.toNat_ofNat];exact Nat.mod_eq_of_lt zz0
theorem xhi (b:UInt8):bits .and .u8 (b.toNat:Int) 1=((b.toNat % 2:Nat):Int):=by
 have hb:=b.toNat_lt;show IntKind.u8.wrap ((BitVec.ofInt 8 (b.toNat:Int) &&& BitVec.ofInt 8 1).toNat:Int)=_;have h1:(BitVec.ofInt 8 1).toNat=2 ^ 1-1:=by decide
 rw [BitVec.toNat_and,xjb _ (by omega),h1,Nat.and_two_pow_sub_one_eq_mod,xmx,zgl];omega
theorem xhk (b:UInt8) (h:b.toNat<=3):bits .and .u8 (b.toNat:Int) 2=((b.toNat / 2*2:Nat):Int):=by
 generalize b.toNat=n at h ⊢
 match n,h with
 | 0,_=>decide
 | 1,_=>decide
 | 2,_=>decide
 | 3,_=>decide
theorem xhj (n:Int):bits .and .i64 n 65535=n % 65536:=by
 have h127:(BitVec.ofInt 64 65535).toNat=2 ^ 16-1:=by decide
 have key:(BitVec.ofInt 64 n &&& BitVec.ofInt 64 65535).toNat=(n % ((2 ^ 64:Nat):Int)).toNat % 2 ^ 16:=by
  rw [BitVec.toNat_and,BitVec.toNat_ofInt,h127,Nat.and_two_pow_sub_one_eq_mod]
 show IntKind.i64.wrap ((BitVec.ofInt 64 n &&& BitVec.ofInt 64 65535).toNat:Nat)=n % 65536;rw [key];rw [show IntKind.i64.wrap (((n % ((2 ^ 64:Nat):Int)).toNat % 2 ^ 16:Nat):Int)=W (((n % ((2 ^ 64:Nat):Int)).toNat % 2 ^ 16:Nat):Int) from rfl,zbs (by omega) (by omega)];omega
end Go.HL
namespace Go.HL
theorem zlw {α:Type} {d:α} {i:Nat} {x:α} {L:List (Nat×α)}:lk d ((i,x)::L)=upd (lk d L) i x:=by
 funext j;simp only [lk,upd]
theorem xcd {α:Type} (f:Nat->α) (i:Nat) (x y:α):upd (upd f i x) i y=upd f i y:=by
 funext j
 by_cases h:j=i
 . subst h;rw [zbg,zbg]
 . rw [zbo _ _ h,zbo _ _ h,zbo _ _ h]
section
variable {P:Program}
theorem xda {f:FuncId} {args:List HV} {d:Nat} {H:Nat->zai} {K:Res->Prop} {r:Res} (h:Ov P f args H r) (k:K r):ygz (CR P) f args d H K:=⟨r,.ov h,k⟩
theorem yxj {f:FuncId} {id:Nat} {t:TypeId} {n:Nat} {rows:List (List PV)} {rest:List HV} {L:List (Nat×zai)} {r:HV} {H':Nat->zai} (hne:rows≠[])
 (h:∀ cap,rows.length<=cap->cap<=maxLen->zan P f (.osl id n 0 rows.length::rest) (lk .free ((id,.live (.buf t n rows cap))::L)) r H'):zan P f (.own id::rest) (lk .free ((id,.live (.row t n rows))::L)) r H':=by
 intro Γ m w vals hok hx h0;have hH:lk .free ((id,zai.live (.row t n rows))::L) id=.live (.row t n rows):=by rw [zlw,zbg]
 obtain ⟨l,hl,hbr,_⟩:=hok.live id _ hH;obtain ⟨h1,h2,h3⟩:=hbr;rcases h3 with ⟨_,h3⟩ | ⟨hn,h4,h5,arr,h6,h7,h8⟩
 . exact absurd h3 hne
 have hws:=WS.set hok hH hl hn (w':=w) (b':=.buf t n rows l.cap) rfl rfl rfl rfl (fun _ _=>rfl) fun R' hk =>
  ⟨hn,rfl,h2,h4,h5,arr,h6,h7,fun k x hx=>let ⟨cv,h9,h10⟩:=h8 k x hx;⟨cv,h9,h10.mono hk⟩⟩
 have he:upd (lk .free ((id,zai.live (.row t n rows))::L)) id (.live (.buf t n rows l.cap))=lk .free ((id,.live (.buf t n rows l.cap))::L):=by
  rw [zlw,zlw,xcd]
 rw [he] at hws;refine h l.cap h4 h5 Γ m w vals hws.ok ?_ h0;simp only [zbe] at hx ⊢;obtain ⟨v,vs,rfl,hv,hvs⟩:=hx;refine ⟨v,vs,rfl,?_,hws.repL hvs⟩;simp only [zbc] at hv ⊢;obtain ⟨l',hl',rfl⟩:=hv;rw [hl] at hl';cases hl';exact ⟨l,some ⟨l.blk,0,none⟩,hl,by simp [Loc.room,hn];exact h4,by simp [Loc.room,hn];exact h5,by simp [hdr,hn,h1,Loc.room],fun _=>by simp [Loc.at,hn]⟩
theorem zwr {f:FuncId} {id:Nat} {t:TypeId} {n:Nat} {rows:List (List PV)} {rest:List HV} {L:List (Nat×zai)} {r:HV} {H':Nat->zai}
 (h:zan P f (.osl id n 0 rows.length::rest) (lk .free ((id,.live (.row t n rows))::L)) r H'):zan P f (.own id::rest) (lk .free ((id,.live (.row t n rows))::L)) r H':=by
 intro Γ m w vals hok hx h0;have hH:lk .free ((id,zai.live (.row t n rows))::L) id=.live (.row t n rows):=by rw [zlw,zbg]
 obtain ⟨l,hl,hbr,_⟩:=hok.live id _ hH;obtain ⟨h1,h2,h3⟩:=hbr;refine h Γ m w vals hok ?_ h0;simp only [zbe] at hx ⊢;obtain ⟨v,vs,rfl,hv,hvs⟩:=hx;refine ⟨v,vs,rfl,?_,hvs⟩;simp only [zbc] at hv ⊢;obtain ⟨l',hl',rfl⟩:=hv;rw [hl] at hl';cases hl';rcases h3 with ⟨hn,h3⟩ | ⟨hn,h4,h5,_⟩
 . subst h3
   exact ⟨l,none,hl,by simp,by simp [Loc.room,hn],by simp [hdr,hn,Loc.room],fun _=>by simp [Loc.at,hn]⟩
 . exact ⟨l,some ⟨l.blk,0,none⟩,hl,by simp [Loc.room,hn];exact h4,by simp [Loc.room,hn];exact h5,by simp [hdr,hn,h1,Loc.room],fun _=>by simp [Loc.at,hn]⟩
theorem zla {f:FuncId} {args:List HV} {H:Nat->zai} {id d:Nat} {b:zjx} {t:TypeId} {n k:Nat} {rows:List (List PV)} {L:List (Nat×zai)}
 (h:zan P f args H (.osl id n 0 k) (lk .free ((id,.live b)::L))) (hb:b=.row t n rows\/∃ c,b=.buf t n rows c) (hk:k<=rows.length) (hd:lk .free L d=.free) (hid:d≠id) :
 zan P f args H (.own d) (lk .free ((id,.dead)::(d,.live (.row t n (rows.take k)))::L)):=by
 intro Γ m w vals hok hx h0;obtain ⟨hcf,hcalls⟩:=h Γ m w vals hok hx h0;refine ⟨hcf,hcalls.mono fun e w' he=>?_⟩;obtain ⟨v,m',rfl,hok',hv,hpin⟩:=he;have hH:lk .free ((id,zai.live b)::L) id=.live b:=by rw [zlw,zbg]
 have hdf:lk .free ((id,zai.live b)::L) d=.free:=by rw [zlw,zbo _ _ hid];exact hd
 obtain ⟨l,hl,hbr,_⟩:=hok'.live id _ hH;have heq:∀ y:zai,upd (upd (lk .free ((id,zai.live b)::L)) id .dead) d y=lk .free ((id,.dead)::(d,y)::L):=by
  intro y;rw [zlw,zlw,zlw,xcd,yff _ _ _ (Ne.symm hid)]
 simp only [zbc] at hv;obtain ⟨l',a,hl',g1,g2,rfl,g5⟩:=hv;rw [hl] at hl';cases hl';have g5:=g5 (.inr trivial);have hlt:((rows.take k)).length=k:=by simp;omega
 have hlens:(∀ r∈rows,r.length=n)/\(l.nil=true->rows=[])/\(l.nil=false->rows.length<=l.cap/\l.cap<=maxLen/\∃ arr:Array Value,w'.heap[l.blk]?=some (.cells arr t (0,0))/\arr.size=l.cap*n/\∀ (k:Nat) x,rows.flatten[k]?=some x->∃ cv,arr[k]?=some cv/\ziv w' (RR Γ m' (lk .free ((id,zai.live b)::L)) w') x cv):=by
  rcases hb with rfl | ⟨c,rfl⟩
  . obtain ⟨q1,q2,q3⟩:=hbr
    refine ⟨q2,fun hn=>?_,fun hn=>?_⟩
    . rcases q3 with ⟨_,q3⟩ | ⟨q3,_⟩
      . exact q3
      . rw [hn] at q3;cases q3
    . rcases q3 with ⟨q3,_⟩ | ⟨_,q4,q5,q6⟩
      . rw [hn] at q3;cases q3
      . exact ⟨q4,q5,q6⟩
  . obtain ⟨q1,q2,q3,q4,q5,q6⟩:=hbr
    exact ⟨q3,(fun hn=>by rw [hn] at q1;cases q1),fun _=>⟨q4,q5,q6⟩⟩
 obtain ⟨c1,c2,c3⟩:=hlens;cases hn:l.nil with
 | true =>
  have hr0:=c2 hn;subst hr0;have hk0:k=0:=by simpa using hk
  subst hk0;have hdrop:=WS.drop hok' hH;have hf2:upd (lk .free ((id,zai.live b)::L)) id .dead d=.free:=(zbo _ _ hid).trans hdf;obtain ⟨m2,hws,hm2⟩:=WS.newNil hdrop.ok hf2 t n;rw [heq] at hws;refine ⟨_,m2,rfl,hws.ok,?_,fun i l hp hi=>(hdrop.ext.trans hws.ext) _ _ (hpin i l hp hi)⟩;simp only [zbc];refine ⟨_,hm2,?_⟩;rw [g5];simp [hdr,Loc.at,Loc.room,hn]
 | false =>
  obtain ⟨c4,c5,arr,c6,c7,c8⟩:=c3 hn;obtain ⟨m2,hws,hm2⟩:=WS.rename hok' hH hl hn hdf (b':=.row t n (rows.take k)) k (w':=w') rfl rfl rfl rfl (fun _ _=>rfl) fun m3 R' hext hkk =>
   ⟨by simp;omega,fun r hr=>c1 r (zy64 hr),.inr ⟨rfl,by simp;omega,c5,arr,c6,c7,fun j x hj=>by
    have:rows.flatten=(rows.take k).flatten++(rows.drop k).flatten:=by rw [<- zy92,zy33]
    have hj':rows.flatten[j]?=some x:=by rw [this,zy30 ((zy8.1 hj).1)];exact hj
    obtain ⟨cv,q1,q2⟩:=c8 j x hj';exact ⟨cv,q1,q2.mono hkk⟩⟩⟩
  rw [heq] at hws;refine ⟨_,m2,rfl,hws.ok,?_,fun i l hp hi=>hws.ext _ _ (hpin i l hp hi)⟩;simp only [zbc];refine ⟨_,hm2,?_⟩;rw [g5];simp [hdr,Loc.at,Loc.room,hn]
end
end Go.HL
namespace Go.HL
theorem ytj {b:Bool} {A B:Prop} (ha:A) (h:b=true:=by first | rfl | assumption | omega | (simp only [gt_iff_lt,ge_iff_le,zy34,zy35,zy17,zy85,ne_eq,zy5,bne_eq_false_iff_eq,zy3,zy9,zy6,zy14,zy75,zy42,zy45,zy52,zy156,Bool.not_eq_false,Decidable.not_not,Nat.cast_ofNat,zy133]<;>omega) | (simp<;>omega)):hif b A B:=zac h ha
theorem yxw {b:Bool} {A B:Prop} (hb:B) (h:b=false:=by first | rfl | assumption | omega | (simp only [gt_iff_lt,ge_iff_le,zy34,zy35,zy17,zy85,ne_eq,zy5,bne_eq_false_iff_eq,zy3,zy9,zy6,zy14,zy75,zy42,zy45,zy52,zy156,Bool.not_eq_false,Decidable.not_not,Nat.cast_ofNat,zy133]<;>omega) | (simp<;>omega)):hif b A B:=zab h hb
theorem zbi {s:HS} {n:Nat} {slots:List (Nat×HV)} {heap:List (Nat×zai)} (l:List (Nat×Option Nat))
 (h4:xaw (lkN l) s slots:=by repeat' (first | exact trivial | exact rfl | (refine ⟨⟨rfl,?_⟩,?_⟩) | (refine ⟨rfl,?_⟩) | (simp;done) | (simp;rfl)))
 (h5:yfl (lkN l) s heap:=by repeat' (first | exact trivial | exact rfl | exact .inl rfl | exact .inr rfl | (refine ⟨⟨rfl,.inl ⟨_,rfl,?_⟩⟩,?_⟩) | (refine ⟨⟨rfl,_,rfl,?_⟩,?_⟩) | (refine ⟨⟨rfl,.inr ⟨rfl,?_⟩⟩,?_⟩) | (refine ⟨rfl,?_⟩) | (simp;done) | (simp;rfl)))
 (hn:n=s.n:=by rfl) (hp:[]=s.pins:=by rfl) (h1:zir heap l=true:=by rfl) (h2:zff (zmq heap l)=true:=by rfl):HLe s (hs n slots heap):=zcn l hn hp h1 h2 h4 h5
theorem zdm {s:HS} {pins:List Nat} {n:Nat} {slots:List (Nat×HV)} {heap:List (Nat×zai)} (l:List (Nat×Option Nat))
 (h4:xaw (lkN l) s slots:=by repeat' (first | exact trivial | exact rfl | (refine ⟨⟨rfl,?_⟩,?_⟩) | (refine ⟨rfl,?_⟩) | (simp;done) | (simp;rfl)))
 (h5:yfl (lkN l) s heap:=by repeat' (first | exact trivial | exact rfl | exact .inl rfl | exact .inr rfl | (refine ⟨⟨rfl,.inl ⟨_,rfl,?_⟩⟩,?_⟩) | (refine ⟨⟨rfl,_,rfl,?_⟩,?_⟩) | (refine ⟨⟨rfl,.inr ⟨rfl,?_⟩⟩,?_⟩) | (refine ⟨rfl,?_⟩) | (simp;done) | (simp;rfl)))
 (hn:n=s.n:=by rfl) (hp:pins=s.pins:=by rfl) (h1:zir heap l=true:=by rfl) (h2:zff (zmq heap l)=true:=by rfl) (h3:zra (lkN l) pins:=by repeat' (first | exact trivial | (refine ⟨rfl,?_⟩))):HLe s (hsP pins n slots heap):=yxy l hn hp h1 h2 h3 h4 h5
theorem zck {pins:List Nat} {v r:HV} {H2:Nat->zai} {heap:List (Nat×zai)} (l:List (Nat×Option Nat)) (h5:rn (lkN l) r=v:=by rfl)
 (h6:yfl (lkN l) (zuw [v] 1 H2 pins) heap:=by repeat' (first | exact trivial | exact rfl | exact .inl rfl | exact .inr rfl | (refine ⟨⟨rfl,.inl ⟨_,rfl,?_⟩⟩,?_⟩) | (refine ⟨⟨rfl,_,rfl,?_⟩,?_⟩) | (refine ⟨⟨rfl,.inr ⟨rfl,?_⟩⟩,?_⟩) | (refine ⟨rfl,?_⟩) | (simp;done) | (simp;rfl)))
 (h1:zir heap l=true:=by rfl) (h2:zff (zmq heap l)=true:=by rfl) (h3:zra (lkN l) pins:=by repeat' (first | exact trivial | (refine ⟨rfl,?_⟩))) (h4:zjz (lkN l) r=true:=by rfl):xhf pins v H2 r (lk .free heap):=zap l h1 h2 h3 h4 h5 h6
end Go.HL
namespace Go.HL
theorem om {P:Prop} (h:P:=by first | omega | (simp only [zy3,zy9,zy75,zy42,zy6,zy14]<;>omega) | (simp<;>omega)):P:=h
theorem dc {P:Prop} (h:P:=by first | rfl | assumption | omega | (simp only [gt_iff_lt,ge_iff_le,zy34,zy35,zy17,zy85,ne_eq,zy5,bne_eq_false_iff_eq,zy3,zy9,zy6,zy14,zy75,zy42,zy45,zy52,zy156,Bool.not_eq_false,Decidable.not_not,Nat.cast_ofNat,zy133]<;>omega) | (simp<;>omega)):P:=h
theorem sF {z:Int} {K:Int->Prop} {Q:Prop} (q:Q) (h1:-9223372036854775808<=z:=by exact om) (h2:z<=9223372036854775807:=by exact om) (e:Q->K z:=by (intro h;(conv=>whnf);(try (refine zil.go ?_;conv=>whnf));exact h)):zop .i64 z K:=zao (zbs h1 h2) (e q)
theorem sT {b:Bool} {A B Q:Prop} (q:Q) (h:b=true:=by exact dc) (e:Q->A:=by (intro h;(conv=>whnf);(try (refine zil.go ?_;conv=>whnf));exact h)):hif b A B:=zac h (e q)
theorem sN {b:Bool} {A B Q:Prop} (q:Q) (h:b=false:=by exact dc) (e:Q->B:=by (intro h;(conv=>whnf);(try (refine zil.go ?_;conv=>whnf));exact h)):hif b A B:=zab h (e q)
theorem sO {c k Q:Prop} (q:Q) (h:c:=by exact om) (e:Q->k:=by (intro h;(conv=>whnf);(try (refine zil.go ?_;conv=>whnf));exact h)):zou c k:=zaa h (e q)
theorem sR {P Q:Prop} (q:Q) (e:Q->P:=by (intro h;(first | refine yyk ?_ | refine zcg ?_);(conv=>whnf);(try (refine zil.go ?_;conv=>whnf));exact h)):P:=e q
theorem sD {P:Program} {s:HS} {all:Array Oper} {l:List Lab} {k Q:Prop} (q:Q) (e:Q->k:=by (intro h;(conv=>whnf);(try (refine zil.go ?_;conv=>whnf));exact h)) (h:zkf all l=true:=by kernel_rfl):yti P s all l k:=zaw h (e q)
theorem sFm {z:Int} {K:Int->Prop} {Q:Prop} (q:Q) (h1:-9223372036854775808<=z:=by exact om) (h2:z<=9223372036854775807:=by exact om) (e:Q->K z:=by (intro h;(conv=>whnf);exact h)):zop .i64 z K:=zao (zbs h1 h2) (e q)
theorem sTm {b:Bool} {A B Q:Prop} (q:Q) (h:b=true:=by exact dc) (e:Q->A:=by (intro h;(conv=>whnf);exact h)):hif b A B:=zac h (e q)
theorem sNm {b:Bool} {A B Q:Prop} (q:Q) (h:b=false:=by exact dc) (e:Q->B:=by (intro h;(conv=>whnf);exact h)):hif b A B:=zab h (e q)
theorem sOm {c k Q:Prop} (q:Q) (h:c:=by exact om) (e:Q->k:=by (intro h;(conv=>whnf);exact h)):zou c k:=zaa h (e q)
theorem sRm {P Q:Prop} (q:Q) (e:Q->P:=by (intro h;(first | refine yyk ?_ | refine zcg ?_);(conv=>whnf);exact h)):P:=e q
theorem sDm {P:Program} {s:HS} {all:Array Oper} {l:List Lab} {k Q:Prop} (q:Q) (e:Q->k:=by (intro h;(conv=>whnf);exact h)) (h:zkf all l=true:=by kernel_rfl):yti P s all l k:=zaw h (e q)
theorem sG {X:(HX->HS->Prop)->Prop} {Y:HWP} {K:HX->HS->Prop} {Q:Prop} (q:Q) (e:Q->X fun e s'=>match e with | .normal=>Y s' K | .exit id=>K (.exit id) s' | .ret=>K .ret s':=by (intro h;(conv=>whnf);exact h)):zil X Y K:=.go (e q)
theorem cL {P Q:Prop} (q:Q) (e:Q->P:=by (intro h;refine zbf ?_;(conv=>whnf);exact h)):P:=e q
theorem cZ {P Q:Prop} (q:Q) (e:Q->P:=by (intro h;refine zgs ?_;(conv=>whnf);exact h)):P:=e q
theorem cP {P Q:Prop} (q:Q) (e:Q->P:=by (intro h;refine zdj ?_;(conv=>whnf);exact h)):P:=e q
theorem dL {α:Type} {A B K:α->Prop} {r:α} {Q:Prop} (c:A r) (q:Q) (s:B r:=by exact rfl) (e:Q->K r:=by (intro h;(conv=>whnf);(try (refine zil.go ?_;conv=>whnf));exact h)):∃ r,A r/\B r/\K r:=⟨r,c,s,e q⟩
theorem dLm {α:Type} {A B K:α->Prop} {r:α} {Q:Prop} (c:A r) (q:Q) (s:B r:=by exact rfl) (e:Q->K r:=by (intro h;(conv=>whnf);exact h)):∃ r,A r/\B r/\K r:=⟨r,c,s,e q⟩
theorem dO {α β:Type} {A B K:α->β->Prop} {r:α} {t:β} {Q:Prop} (c:A r t) (q:Q) (s:B r t:=by exact ⟨zz61,rfl,rfl,rfl⟩) (e:Q->K r t:=by (intro h;(conv=>whnf);(try (refine zil.go ?_;conv=>whnf));exact h)) :
 ∃ r t,A r t/\B r t/\K r t:=⟨r,t,c,s,e q⟩
theorem dOm {α β:Type} {A B K:α->β->Prop} {r:α} {t:β} {Q:Prop} (c:A r t) (q:Q) (s:B r t:=by exact ⟨zz61,rfl,rfl,rfl⟩) (e:Q->K r t:=by (intro h;(conv=>whnf);exact h)) :
 ∃ r t,A r t/\B r t/\K r t:=⟨r,t,c,s,e q⟩
theorem dG {α β γ δ:Type} {A B K:α->β->γ->δ->Prop} {a:α} {b:β} {r:γ} {t:δ} {Q:Prop} (c:A a b r t) (q:Q)
 (s:B a b r t:=by exact ⟨rfl,rfl,rfl,(by repeat' (first | exact trivial | (refine ⟨zz1,?_⟩))),zz61,rfl,rfl,rfl⟩)
 (e:Q->K a b r t:=by (intro h;(conv=>whnf);(try (refine zil.go ?_;conv=>whnf));exact h)):∃ a b r t,A a b r t/\B a b r t/\K a b r t:=⟨a,b,r,t,c,s,e q⟩
theorem dGm {α β γ δ:Type} {A B K:α->β->γ->δ->Prop} {a:α} {b:β} {r:γ} {t:δ} {Q:Prop} (c:A a b r t) (q:Q)
 (s:B a b r t:=by exact ⟨rfl,rfl,rfl,(by repeat' (first | exact trivial | (refine ⟨zz1,?_⟩))),zz61,rfl,rfl,rfl⟩)
 (e:Q->K a b r t:=by (intro h;(conv=>whnf);exact h)):∃ a b r t,A a b r t/\B a b r t/\K a b r t:=⟨a,b,r,t,c,s,e q⟩
theorem z0 {P:Prop} (h:P:=by first | exact trivial | exact rfl | exact .inl rfl | exact .inr rfl):P:=h
theorem z2 {P:Prop} (h:P:=by first | (simp;done) | (simp;rfl)):P:=h
theorem z1 {P Q:Prop} (q:Q) (e:Q->P:=by first | exact fun h=>.inl ⟨_,rfl,h⟩ | exact fun h=>⟨_,rfl,h⟩ | exact fun h=>.inr ⟨rfl,h⟩):P:=e q
abbrev pK5 (l:List (Nat×Option Nat)):List (Nat×Option Nat):=(1000,some 1000)::(1001,some 1001)::(1002,some 1002)::(1003,some 1003)::(1004,some 1004)::l
abbrev pK7 (l:List (Nat×Option Nat)):List (Nat×Option Nat):=(1000,some 1000)::(1001,some 1001)::(1002,some 1002)::(1003,some 1003)::(1004,some 1004)::(1005,some 1005)::(1006,some 1006)::l
abbrev pK8 (l:List (Nat×Option Nat)):List (Nat×Option Nat):=(1000,some 1000)::(1001,some 1001)::(1002,some 1002)::(1003,some 1003)::(1004,some 1004)::(1005,some 1005)::(1006,some 1006)::(1007,some 1007)::l
abbrev pK9 (l:List (Nat×Option Nat)):List (Nat×Option Nat):=(1000,some 1000)::(1001,some 1001)::(1002,some 1002)::(1003,some 1003)::(1004,some 1004)::(1005,some 1005)::(1006,some 1006)::(1007,some 1007)::(1008,some 1008)::l
abbrev zis (l:List (Nat×Option Nat)):List (Nat×Option Nat):=(1000,some 1000)::(1001,some 1001)::(1002,some 1002)::(1003,some 1003)::(1004,some 1004)::(1005,some 1005)::(1006,some 1006)::(1007,some 1007)::(1008,some 1008)::(1009,some 1009)::l
abbrev pJ3 (l:List (Nat×Option Nat)):List (Nat×Option Nat):=(900,some 900)::(901,some 901)::(902,some 902)::l
abbrev pJ6 (l:List (Nat×Option Nat)):List (Nat×Option Nat):=(900,some 900)::(901,some 901)::(902,some 902)::(903,some 903)::(904,some 904)::(905,some 905)::l
abbrev pJ7 (l:List (Nat×Option Nat)):List (Nat×Option Nat):=(900,some 900)::(901,some 901)::(902,some 902)::(903,some 903)::(904,some 904)::(905,some 905)::(906,some 906)::l
abbrev pJ8 (l:List (Nat×Option Nat)):List (Nat×Option Nat):=(900,some 900)::(901,some 901)::(902,some 902)::(903,some 903)::(904,some 904)::(905,some 905)::(906,some 906)::(907,some 907)::l
theorem zay {s:HS} {n:Nat} {slots:List (Nat×HV)} {heap:List (Nat×zai)} (l:List (Nat×Option Nat)) (h:xaw (lkN l) s slots/\yfl (lkN l) s heap)
 (hn:n=s.n:=by rfl) (hp:[]=s.pins:=by rfl) (h1:zir heap l=true:=by rfl) (h2:zff (zmq heap l)=true:=by rfl):HLe s (hs n slots heap):=zcn l hn hp h1 h2 h.1 h.2
theorem zcd {s:HS} {pins:List Nat} {n:Nat} {slots:List (Nat×HV)} {heap:List (Nat×zai)} (l:List (Nat×Option Nat)) (h:xaw (lkN l) s slots/\yfl (lkN l) s heap)
 (hn:n=s.n:=by rfl) (hp:pins=s.pins:=by rfl) (h1:zir heap l=true:=by rfl) (h2:zff (zmq heap l)=true:=by rfl) (h3:zra (lkN l) pins:=by repeat' (first | exact trivial | (refine ⟨rfl,?_⟩))):HLe s (hsP pins n slots heap):=yxy l hn hp h1 h2 h3 h.1 h.2
theorem zdd {pins:List Nat} {v r:HV} {H2:Nat->zai} {heap:List (Nat×zai)} (l:List (Nat×Option Nat)) (h:rn (lkN l) r=v/\yfl (lkN l) (zuw [v] 1 H2 pins) heap)
 (h1:zir heap l=true:=by rfl) (h2:zff (zmq heap l)=true:=by rfl) (h3:zra (lkN l) pins:=by repeat' (first | exact trivial | (refine ⟨rfl,?_⟩))) (h4:zjz (lkN l) r=true:=by rfl):xhf pins v H2 r (lk .free heap):=zap l h1 h2 h3 h4 h.1 h.2
end Go.HL
namespace Go.HL
theorem zph (fz:List Nat) {s:HS} {pins:List Nat} {n:Nat} {slots:List (Nat×HV)} {heap:List (Nat×zai)} (l:List (Nat×Option Nat)) (h:xaw (lkN l) (fzS fz s) slots/\yfl (lkN l) (fzS fz s) heap)
 (hn:n=s.n:=by rfl) (hp:pins=s.pins:=by rfl) (h1:zir heap l=true:=by rfl) (h2:zff (zmq heap l)=true:=by rfl) (h3:zra (lkN l) pins:=by repeat' (first | exact trivial | (refine ⟨rfl,?_⟩))):HLe s (hsP pins n slots heap):=⟨fz,yxx l hn hp h1 h2 h3 h.1 h.2⟩
end Go.HL
namespace Go.Proofs.YticmofoeecjnhaaGreat
open Go.HL Go.ChangeShapes Go.WideShapes Go.ChangeAt Go.RowKit
theorem own:ownKnob Tryz.prog.godebug=none:=by kernel_rfl
mutual
theorem ycg {H:Type}:(d:DataW H)->Rows.uptoBulk d=dwb d
 | .lit l=>by cases l<;>simp only [Rows.uptoBulk,dwb]
 | .nil=>by simp only [Rows.uptoBulk,dwb]
 | .ptr d=>by simp only [Rows.uptoBulk,dwb,ycg d]
 | .slice a b=>by simp only [Rows.uptoBulk,dwb,zkx a,zkx b]
 | .agg p=>by simp only [Rows.uptoBulk,dwb,zkx p]
 | .iface _ d=>by simp only [Rows.uptoBulk,dwb,ycg d]
 | .map e=>by simp only [Rows.uptoBulk,dwb,yok e]
 | .held _=>by simp only [Rows.uptoBulk,dwb]
theorem zkx {H:Type}:(l:List (DataW H))->Rows.uptoBulkAll l=zua l
 | []=>by simp only [Rows.uptoBulkAll,zua]
 | d::r=>by simp only [Rows.uptoBulkAll,zua,ycg d,zkx r]
theorem yok {H:Type}:(l:List (Lit×DataW H))->Rows.uptoBulkEntries l=xlo l
 | []=>by simp only [Rows.uptoBulkEntries,xlo]
 | d::r=>by simp only [Rows.uptoBulkEntries,xlo,ywl d,yok r]
theorem ywl {H:Type}:(x:Lit×DataW H)->Rows.uptoBulkEntry x=xhw x
 | (l,d)=>by cases l<;>simp only [Rows.uptoBulkEntry,xhw,ycg d]
end
theorem ylq {H:Type} (l r:List (DataW H)):zua (l++r)=zua l+zua r:=by
 induction l with
 | nil=>simp [zua]
 | cons x l ih=>simp only [zy44,zua,ih];omega
theorem xlp {H:Type} {ds gs:List (DataW H)} (hk:Rows.uptoSmall H (ds++gs)=true):zua ds<=1048576:=by
 have h:=zy29 hk;rw [zkx,ylq] at h;omega
theorem xkz {a b:Bool} (ha:a=true) (hb:b=true):(a&&b)=true:=by rw [ha,hb];rfl
end Go.Proofs.YticmofoeecjnhaaGreat
namespace Go.HL
theorem mixed:Tryz.prog.follows .mixedOrders=true:=by kernel_rfl
structure Span where
 lo:Int
 hi:Int
def Span.row (x:Span):List PV:=[pi x.lo,pi x.hi]
def Span.hv (x:Span):HV:=.agg [.p (pi x.lo),.p (pi x.hi)]
structure zdv where
 stream:Int
 mid:Int
 ordered:Bool
def zdv.row (x:zdv):List PV:=[pi x.stream,pi x.mid,pb x.ordered]
def zdv.hv (x:zdv):HV:=.agg [.p (pi x.stream),.p (pi x.mid),.p (pb x.ordered)]
structure Chunk where
 kind:Int
 tag:Int
 stream:Int
 mid:Int
 part:Int
 last:Bool
 ordered:Bool
 data:List UInt8
 zar:List Span
 room:Int
 zbm:List zdv
def Chunk.row (x:Chunk):List PV:=[pi x.kind,pi x.tag,pi x.stream,pi x.mid,pi x.part,pb x.last,pb x.ordered,.sl 1 (x.data.map zcs),.sl 2 (x.zar.map Span.row),pi x.room,.sl 3 (x.zbm.map zdv.row)]
def Chunk.cells (x:Chunk):List HV:=[.p (pi x.kind),.p (pi x.tag),.p (pi x.stream),.p (pi x.mid),.p (pi x.part),.p (pb x.last),.p (pb x.ordered),.p (.sl 1 (x.data.map zcs)),.p (.sl 2 (x.zar.map Span.row)),.p (pi x.room),.p (.sl 3 (x.zbm.map zdv.row))]
def Chunk.hv (x:Chunk):HV:=.agg [.p (pi x.kind),.p (pi x.tag),.p (pi x.stream),.p (pi x.mid),.p (pi x.part),.p (pb x.last),.p (pb x.ordered),.p (.sl 1 (x.data.map zcs)),.p (.sl 2 (x.zar.map Span.row)),.p (pi x.room),.p (.sl 3 (x.zbm.map zdv.row))]
structure Config where
 streams:Int
 part:Int
 packet:Int
 paths:Int
 turns:Int
 waiting:Int
 first:Int
def Config.row (x:Config):List PV:=[pi x.streams,pi x.part,pi x.packet,pi x.paths,pi x.turns,pi x.waiting,pi x.first]
def Config.cells (x:Config):List HV:=[.p (pi x.streams),.p (pi x.part),.p (pi x.packet),.p (pi x.paths),.p (pi x.turns),.p (pi x.waiting),.p (pi x.first)]
def Config.hv (x:Config):HV:=.agg [.p (pi x.streams),.p (pi x.part),.p (pi x.packet),.p (pi x.paths),.p (pi x.turns),.p (pi x.waiting),.p (pi x.first)]
structure Config.Wf (x:Config):Prop where
 streams:inI x.streams
 part:inI x.part
 packet:inI x.packet
 paths:inI x.paths
 turns:inI x.turns
 waiting:inI x.waiting
 first:inI x.first
theorem yuf {n:Nat} {pvs:List PV} (h:shp Tryz.prog n 24 pvs):∃ x:Config,pvs=x.row/\x.Wf:=by
 have t0:=ztf Tryz.underlying24 h;obtain ⟨a1,b1,e1,h1,t1⟩:=zem t0;obtain ⟨a2,b2,e2,h2,t2⟩:=zem t1;obtain ⟨a3,b3,e3,h3,t3⟩:=zem t2;obtain ⟨a4,b4,e4,h4,t4⟩:=zem t3;obtain ⟨a5,b5,e5,h5,t5⟩:=zem t4;obtain ⟨a6,b6,e6,h6,t6⟩:=zem t5;obtain ⟨a7,b7,e7,h7,t7⟩:=zem t6;obtain ⟨z1,i1,w1⟩:=zhv Tryz.underlying3 h1;obtain ⟨z2,i2,w2⟩:=zhv Tryz.underlying3 h2;obtain ⟨z3,i3,w3⟩:=zhv Tryz.underlying3 h3;obtain ⟨z4,i4,w4⟩:=zhv Tryz.underlying3 h4;obtain ⟨z5,i5,w5⟩:=zhv Tryz.underlying3 h5;obtain ⟨z6,i6,w6⟩:=zhv Tryz.underlying3 h6;obtain ⟨z7,i7,w7⟩:=zhv Tryz.underlying3 h7;have e8:b7=[]:=t7;rw [e1,e2,e3,e4,e5,e6,e7,e8,i1,i2,i3,i4,i5,i6,i7];exact ⟨⟨z1,z2,z3,z4,z5,z6,z7⟩,rfl,⟨zmi w1,zmi w2,zmi w3,zmi w4,zmi w5,zmi w6,zmi w7⟩⟩
theorem ysq (x:Config):yld Tryz.prog 24 x.row=x.hv:=by
 unfold yld;rw [Tryz.underlying24]
 rfl
structure Message where
 stream:Int
 ordered:Bool
 life:Int
 tries:Int
 data:List UInt8
def Message.row (x:Message):List PV:=[pi x.stream,pb x.ordered,pi x.life,pi x.tries,.sl 1 (x.data.map zcs)]
def Message.cells (x:Message):List HV:=[.p (pi x.stream),.p (pb x.ordered),.p (pi x.life),.p (pi x.tries),.p (.sl 1 (x.data.map zcs))]
def Message.hv (x:Message):HV:=.agg [.p (pi x.stream),.p (pb x.ordered),.p (pi x.life),.p (pi x.tries),.p (.sl 1 (x.data.map zcs))]
structure Message.Wf (x:Message):Prop where
 stream:inI x.stream
 life:inI x.life
 tries:inI x.tries
theorem yng {n:Nat} {pvs:List PV} (h:shp Tryz.prog n 48 pvs):∃ x:Message,pvs=x.row/\x.Wf:=by
 have t0:=ztf Tryz.underlying48 h;obtain ⟨a1,b1,e1,h1,t1⟩:=zem t0;obtain ⟨a2,b2,e2,h2,t2⟩:=zem t1;obtain ⟨a3,b3,e3,h3,t3⟩:=zem t2;obtain ⟨a4,b4,e4,h4,t4⟩:=zem t3;obtain ⟨a5,b5,e5,h5,t5⟩:=zem t4;obtain ⟨z1,i1,w1⟩:=zhv Tryz.underlying3 h1;obtain ⟨z2,i2⟩:=xfi Tryz.underlying4 h2;obtain ⟨z3,i3,w3⟩:=zhv Tryz.underlying3 h3;obtain ⟨z4,i4,w4⟩:=zhv Tryz.underlying3 h4;obtain ⟨z5,i5⟩:=xat Tryz.underlying46 Tryz.underlying5 (by kernel_rfl) h5;have e6:b5=[]:=t5;rw [e1,e2,e3,e4,e5,e6,i1,i2,i3,i4,i5];exact ⟨⟨z1,z2,z3,z4,z5⟩,rfl,⟨zmi w1,zmi w3,zmi w4⟩⟩
structure zaj where
 id:Int
 mid:Int
 came:Int
 sent:Int
 parts:Int
 message:Message
def zaj.row (x:zaj):List PV:=[pi x.id,pi x.mid,pi x.came,pi x.sent,pi x.parts,pi x.message.stream,pb x.message.ordered,pi x.message.life,pi x.message.tries,.sl 1 (x.message.data.map zcs)]
def zaj.cells (x:zaj):List HV:=[.p (pi x.id),.p (pi x.mid),.p (pi x.came),.p (pi x.sent),.p (pi x.parts),.p (pi x.message.stream),.p (pb x.message.ordered),.p (pi x.message.life),.p (pi x.message.tries),.p (.sl 1 (x.message.data.map zcs))]
def zaj.hv (x:zaj):HV:=.agg [.p (pi x.id),.p (pi x.mid),.p (pi x.came),.p (pi x.sent),.p (pi x.parts),.p (pi x.message.stream),.p (pb x.message.ordered),.p (pi x.message.life),.p (pi x.message.tries),.p (.sl 1 (x.message.data.map zcs))]
structure zho where
 last:Int
 hand:Int
 had:List Int
def zho.row (x:zho):List PV:=[pi x.last,pi x.hand,.sl 1 (x.had.map (fun n=>[pi n]))]
def zho.cells (x:zho):List HV:=[.p (pi x.last),.p (pi x.hand),.p (.sl 1 (x.had.map (fun n=>[pi n])))]
def zho.hv (x:zho):HV:=.agg [.p (pi x.last),.p (pi x.hand),.p (.sl 1 (x.had.map (fun n=>[pi n])))]
structure zbq where
 number:Int
 id:Int
 state:Int
 path:Int
 missed:Int
 times:Int
 came:Int
 life:Int
 tries:Int
 chunk:Chunk
def zbq.row (x:zbq):List PV:=[pi x.number,pi x.id,pi x.state,pi x.path,pi x.missed,pi x.times,pi x.came,pi x.life,pi x.tries,pi x.chunk.kind,pi x.chunk.tag,pi x.chunk.stream,pi x.chunk.mid,pi x.chunk.part,pb x.chunk.last,pb x.chunk.ordered,.sl 1 (x.chunk.data.map zcs),.sl 2 (x.chunk.zar.map Span.row),pi x.chunk.room,.sl 3 (x.chunk.zbm.map zdv.row)]
def zbq.hv (x:zbq):HV:=.agg [.p (pi x.number),.p (pi x.id),.p (pi x.state),.p (pi x.path),.p (pi x.missed),.p (pi x.times),.p (pi x.came),.p (pi x.life),.p (pi x.tries),.p (pi x.chunk.kind),.p (pi x.chunk.tag),.p (pi x.chunk.stream),.p (pi x.chunk.mid),.p (pi x.chunk.part),.p (pb x.chunk.last),.p (pb x.chunk.ordered),.p (.sl 1 (x.chunk.data.map zcs)),.p (.sl 2 (x.chunk.zar.map Span.row)),.p (pi x.chunk.room),.p (.sl 3 (x.chunk.zbm.map zdv.row))]
structure Path where
 window:Int
 slow:Int
 gathered:Int
 zaz:Int
 errors:Int
 zcw:Int
 wait:Int
def Path.row (x:Path):List PV:=[pi x.window,pi x.slow,pi x.gathered,pi x.zaz,pi x.errors,pi x.zcw,pi x.wait]
def Path.cells (x:Path):List HV:=[.p (pi x.window),.p (pi x.slow),.p (pi x.gathered),.p (pi x.zaz),.p (pi x.errors),.p (pi x.zcw),.p (pi x.wait)]
def Path.hv (x:Path):HV:=.agg [.p (pi x.window),.p (pi x.slow),.p (pi x.gathered),.p (pi x.zaz),.p (pi x.errors),.p (pi x.zcw),.p (pi x.wait)]
structure zav where
 number:Int
 chunk:Chunk
def zav.row (x:zav):List PV:=[pi x.number,pi x.chunk.kind,pi x.chunk.tag,pi x.chunk.stream,pi x.chunk.mid,pi x.chunk.part,pb x.chunk.last,pb x.chunk.ordered,.sl 1 (x.chunk.data.map zcs),.sl 2 (x.chunk.zar.map Span.row),pi x.chunk.room,.sl 3 (x.chunk.zbm.map zdv.row)]
def zav.hv (x:zav):HV:=.agg [.p (pi x.number),.p (pi x.chunk.kind),.p (pi x.chunk.tag),.p (pi x.chunk.stream),.p (pi x.chunk.mid),.p (pi x.chunk.part),.p (pb x.chunk.last),.p (pb x.chunk.ordered),.p (.sl 1 (x.chunk.data.map zcs)),.p (.sl 2 (x.chunk.zar.map Span.row)),.p (pi x.chunk.room),.p (.sl 3 (x.chunk.zbm.map zdv.row))]
structure zbk where
 stream:Int
 mid:Int
 ordered:Bool
 data:List UInt8
def zbk.row (x:zbk):List PV:=[pi x.stream,pi x.mid,pb x.ordered,.sl 1 (x.data.map zcs)]
def zbk.cells (x:zbk):List HV:=[.p (pi x.stream),.p (pi x.mid),.p (pb x.ordered),.p (.sl 1 (x.data.map zcs))]
structure Receiver where
 config:Config
 cum:Int
 zar:List Span
 pieces:List zav
 zbh:List Int
 log:List zbk
def Receiver.hv (x:Receiver):HV:=.agg [.p (pi x.config.streams),.p (pi x.config.part),.p (pi x.config.packet),.p (pi x.config.paths),.p (pi x.config.turns),.p (pi x.config.waiting),.p (pi x.config.first),.p (pi x.cum),.p (.sl 2 (x.zar.map Span.row)),.p (.sl 12 (x.pieces.map zav.row)),.p (.sl 1 (x.zbh.map (fun n=>[pi n]))),.p (.sl 4 (x.log.map zbk.row))]
structure zau where
 path:Int
 back:Bool
 bytes:List UInt8
def zau.row (x:zau):List PV:=[pi x.path,pb x.back,.sl 1 (x.bytes.map zcs)]
def zau.cells (x:zau):List HV:=[.p (pi x.path),.p (pb x.back),.p (.sl 1 (x.bytes.map zcs))]
def zau.hv (x:zau):HV:=.agg [.p (pi x.path),.p (pb x.back),.p (.sl 1 (x.bytes.map zcs))]
structure zae where
 config:Config
 clock:Int
 queue:List zaj
 sched:zho
 out:List zbq
 paths:List Path
 cum:Int
 next:Int
 room:Int
 mids:List Int
 fates:List Int
 forward:Bool
 recover:Int
def zae.hv (x:zae):HV:=.agg [.p (pi x.config.streams),.p (pi x.config.part),.p (pi x.config.packet),.p (pi x.config.paths),.p (pi x.config.turns),.p (pi x.config.waiting),.p (pi x.config.first),.p (pi x.clock),.p (.sl 10 (x.queue.map zaj.row)),.p (pi x.sched.last),.p (pi x.sched.hand),.p (.sl 1 (x.sched.had.map (fun n=>[pi n]))),.p (.sl 20 (x.out.map zbq.row)),.p (.sl 7 (x.paths.map Path.row)),.p (pi x.cum),.p (pi x.next),.p (pi x.room),.p (.sl 1 (x.mids.map (fun n=>[pi n]))),.p (.sl 1 (x.fates.map (fun n=>[pi n]))),.p (pb x.forward),.p (pi x.recover)]
structure zeb where
 sender:zae
 receiver:Receiver
 way:List zau
def zeb.cells (x:zeb):List HV:=[.p (pi x.sender.config.streams),.p (pi x.sender.config.part),.p (pi x.sender.config.packet),.p (pi x.sender.config.paths),.p (pi x.sender.config.turns),.p (pi x.sender.config.waiting),.p (pi x.sender.config.first),.p (pi x.sender.clock),.p (.sl 10 (x.sender.queue.map zaj.row)),.p (pi x.sender.sched.last),.p (pi x.sender.sched.hand),.p (.sl 1 (x.sender.sched.had.map (fun n=>[pi n]))),.p (.sl 20 (x.sender.out.map zbq.row)),.p (.sl 7 (x.sender.paths.map Path.row)),.p (pi x.sender.cum),.p (pi x.sender.next),.p (pi x.sender.room),.p (.sl 1 (x.sender.mids.map (fun n=>[pi n]))),.p (.sl 1 (x.sender.fates.map (fun n=>[pi n]))),.p (pb x.sender.forward),.p (pi x.sender.recover),.p (pi x.receiver.config.streams),.p (pi x.receiver.config.part),.p (pi x.receiver.config.packet),.p (pi x.receiver.config.paths),.p (pi x.receiver.config.turns),.p (pi x.receiver.config.waiting),.p (pi x.receiver.config.first),.p (pi x.receiver.cum),.p (.sl 2 (x.receiver.zar.map Span.row)),.p (.sl 12 (x.receiver.pieces.map zav.row)),.p (.sl 1 (x.receiver.zbh.map (fun n=>[pi n]))),.p (.sl 4 (x.receiver.log.map zbk.row)),.p (.sl 3 (x.way.map zau.row))]
def zeb.hv (x:zeb):HV:=.agg [.p (pi x.sender.config.streams),.p (pi x.sender.config.part),.p (pi x.sender.config.packet),.p (pi x.sender.config.paths),.p (pi x.sender.config.turns),.p (pi x.sender.config.waiting),.p (pi x.sender.config.first),.p (pi x.sender.clock),.p (.sl 10 (x.sender.queue.map zaj.row)),.p (pi x.sender.sched.last),.p (pi x.sender.sched.hand),.p (.sl 1 (x.sender.sched.had.map (fun n=>[pi n]))),.p (.sl 20 (x.sender.out.map zbq.row)),.p (.sl 7 (x.sender.paths.map Path.row)),.p (pi x.sender.cum),.p (pi x.sender.next),.p (pi x.sender.room),.p (.sl 1 (x.sender.mids.map (fun n=>[pi n]))),.p (.sl 1 (x.sender.fates.map (fun n=>[pi n]))),.p (pb x.sender.forward),.p (pi x.sender.recover),.p (pi x.receiver.config.streams),.p (pi x.receiver.config.part),.p (pi x.receiver.config.packet),.p (pi x.receiver.config.paths),.p (pi x.receiver.config.turns),.p (pi x.receiver.config.waiting),.p (pi x.receiver.config.first),.p (pi x.receiver.cum),.p (.sl 2 (x.receiver.zar.map Span.row)),.p (.sl 12 (x.receiver.pieces.map zav.row)),.p (.sl 1 (x.receiver.zbh.map (fun n=>[pi n]))),.p (.sl 4 (x.receiver.log.map zbk.row)),.p (.sl 3 (x.way.map zau.row))]
structure Step where
 kind:Int
 n:Int
 message:Message
def Step.row (x:Step):List PV:=[pi x.kind,pi x.n,pi x.message.stream,pb x.message.ordered,pi x.message.life,pi x.message.tries,.sl 1 (x.message.data.map zcs)]
def Step.hv (x:Step):HV:=.agg [.p (pi x.kind),.p (pi x.n),.p (pi x.message.stream),.p (pb x.message.ordered),.p (pi x.message.life),.p (pi x.message.tries),.p (.sl 1 (x.message.data.map zcs))]
structure Step.Wf (x:Step):Prop where
 kind:inI x.kind
 n:inI x.n
 message:Message.Wf x.message
theorem xfh {n:Nat} {pvs:List PV} (h:shp Tryz.prog n 50 pvs):∃ x:Step,pvs=x.row/\x.Wf:=by
 have t0:=ztf Tryz.underlying50 h;obtain ⟨a1,b1,e1,h1,t1⟩:=zem t0;obtain ⟨a2,b2,e2,h2,t2⟩:=zem t1;obtain ⟨a3,b3,e3,h3,t3⟩:=zem t2;obtain ⟨z1,i1,w1⟩:=zhv Tryz.underlying3 h1;obtain ⟨z2,i2,w2⟩:=zhv Tryz.underlying3 h2;obtain ⟨z3,i3,w3⟩:=yng h3;have e4:b3=[]:=t3;rw [e1,e2,e3,e4,i1,i2,i3];exact ⟨⟨z1,z2,z3⟩,rfl,⟨zmi w1,zmi w2,w3⟩⟩
structure Answer where
 err:Int
 n:Int
def Answer.row (x:Answer):List PV:=[pi x.err,pi x.n]
def Answer.hv (x:Answer):HV:=.agg [.p (pi x.err),.p (pi x.n)]
end Go.HL
namespace Go.HL
theorem zhr {rows:List (List PV)} {o n o' n':Nat} {K:List (List PV)->Prop} (ho:o=o') (hn:n=n') (h:zsl rows o' n' K):zsl rows o n K:=by subst ho;subst hn;exact h
theorem zvv {z:Int} (h1:0<=z) (h2:z<18446744073709551616):IntKind.u64.wrap z=z:=by
 unfold IntKind.wrap;simp [IntKind.bits,IntKind.signed];omega
theorem zbw {k:IntKind} {z z':Int} {K:Int->Prop} (h:k.wrap z=z') (hk:K z'):zop k z K:=⟨z',h.symm,hk⟩
theorem yyk {z:Int} {K:Int->Prop} (h:K (W z)):zop .i64 z K:=⟨_,rfl,h⟩
theorem zen {α:Type} {t n:Nat} {f:α->List PV} {a b:List α} {x:α} (h:a++[x]=b):zai.live (.row t n (b.map f))=zai.live (.row t n (a.map f++[f x])):=by
 rw [<- h,zy39];rfl
theorem zbb {α:Type} {t n:Nat} {f:α->List PV} {a b:List α} {x:α} {r:List PV} (h:b=a++[x]) (hr:f x=r):zai.live (.row t n (a.map f++[r]))=zai.live (.row t n (b.map f)):=by
 rw [h,zy39,<- hr];rfl
theorem zak {α:Type} {f:α->List PV} {l a b:List α} {s:α} {z:Int} {K:List PV->Prop} (h:l=a++s::b) (hz:z=a.length) (hk:K (f s)):zqp (l.map f) z K:=by
 subst h;exact ⟨_,by omega,by rw [hz,zy24,zy19,zy37 (zy28 _)];simp,hk⟩
theorem zel {α:Type} {t n:Nat} {f:α->List PV} {a b:List α} {x y:α} {k:Nat} {r:List PV} (hk:k=a.length) (hr:f y=r) :
 zai.live (.row t n ((a++y::b).map f))=zai.live (.row t n (((a++x::b).map f).set k r)):=by
 subst hk;subst hr;have:((a++x::b).map f).set a.length (f y)=(a++y::b).map f:=by
  induction a with
  | nil=>rfl
  | cons z a ih=>simp only [zy44,zy40,zy6,zy149];rw [ih]
 rw [this]
theorem zch {rows:List (List PV)} {k:Nat} {r:List PV} {z:Int} {K:List PV->Prop} (hz:z=k) (h:k<rows.length) (hk:K r):zqp (rows.set k r) z K :=
 ⟨r,by omega,by rw [hz,zy24,zy23 h],hk⟩
theorem xfe {α:Type} {t n:Nat} {f:α->List PV} {a b:List α} {x y:α} {k:Nat} {r r':List PV} (hk:k=a.length) (hr:f y=r) :
 zai.live (.row t n ((a++y::b).map f))=zai.live (.row t n ((((a++x::b).map f).set k r').set k r)):=by
 rw [zy150];exact zel hk hr
theorem zbp {α:Type} {l a:List α} (h:l=a++[]):l.length=a.length:=by rw [h];simp
theorem zbd {α:Type} {l a b:List α} {s:α} (h:l=a++s::b):l.length=a.length+b.length+1:=by rw [h];simp;omega
theorem zag {α:Type} {l a b:List α} {s:α} (h:l=a++s::b):l=(a++[s])++b:=by rw [h];simp
theorem zgx {α:Type} {l a b:List α} {s:α} (h:l=a++s::b):s∈l:=by rw [h];simp
theorem yqo {α:Type} {f:α->List PV} (hf:∀ x,1<=zhe (f x)) (l:List α):l.length<=zjy (l.map f):=by
 have:=yol (rows:=l.map f) (fun r hr=>by obtain ⟨p,_,rfl⟩:=zy27.1 hr;exact hf p)
 rwa [zy3] at this
theorem yqr {α:Type} {f:α->List PV}:∀ {l:List α} {x:α},x∈l->zhe (f x)<=zjy (l.map f)
 | y::l,x,h=>by
  simp only [zy40,zjy];rcases zy18.1 h with rfl | h
  . omega
  . have:=yqr (f:=f) h;omega
theorem zas {t n:Nat} {a b:List (List PV)} (h:a=b):zai.live (.row t n a)=zai.live (.row t n b):=by rw [h]
theorem zbl {a b:Int} (h:a=b):i64 a=i64 b:=by rw [h]
theorem zco {P:Program} {f:FuncId} {fn:Func} (_:P.funcs[f]?=some fn) {args:List HV} {r r':HV} {L:List (Nat×zai)} (h:zan P f args zad r (lk .free L))
 (hk:zhh (lk .free L) r fun y _=>zwp (zpm P fn.resultTypes.toList y) fun y=>y=r'):zan P f args zad r' zad:=by
 intro Γ m w vals hok hargs h0;obtain ⟨h1,h2⟩:=h Γ m w vals hok hargs h0;refine ⟨h1,h2.mono fun e w' he=>?_⟩;obtain ⟨v,m',rfl,hok',hv,hp⟩:=he;obtain ⟨y,us,hy,hview⟩:=zlg _ hk;rw [zwq] at hy;subst hy;have hws:=WS.frz hok' hview.frz;have hy:=hview.rep m' w' _ v (WS.kept hview.frz hws.ok) (hws.rep hv);have hRn:∀ b,RR Γ m' (zeo (lk .free L) us) w' b->RR Γ (fun _=>none) zad w' b:=fun b hb=>⟨hb.1,hb.2.1,ydq⟩
 refine ⟨v,fun _=>none,rfl,⟨hok'.size,hok'.os,hok'.tape,hok'.output,hok'.frame,fun _ _=>rfl,(fun id b hb=>by cases hb),(fun id b hb=>by cases hb),(fun id id' b b' l l' hb=>by cases hb),hok'.dom⟩,?_,fun id l _ hl=>?_⟩
 . refine zbc.zpm _ ?_
   refine yrq (σ:=zsv) (m:=m') (R:=RR Γ m' (zeo (lk .free L) us) w') (fun i j hj=>by cases hj) (fun i hj=>by cases hj) hRn _ v hview.noid ?_;rw [yeb _ hview.noid];exact hy
 . rw [hok.free id rfl] at hl;cases hl
theorem zci {X:HS->(HX->HS->Prop)->Prop} {s:HS} {Q:HX->HS->Prop} (h:∀ Q':HX->HS->Prop,(∀ e s',Q e s'->Q' e s')->X s Q'):X s Q:=h Q fun _ _ h=>h
end Go.HL
namespace Go.HL
namespace Srt
section
variable {α:Type} (key:α->Int)
def ins (x:α):List α->List α
 | []=>[x]
 | y::r=>if key x<=key y then x::y::r else y::ins x r
def srt:List α->List α
 | []=>[]
 | x::r=>ins key x (srt r)
def mrg:List α->List α->List α
 | [],v=>v
 | x::u,[]=>x::u
 | x::u,y::v=>if key x<=key y then x::mrg u (y::v) else y::mrg (x::u) v
termination_by u v=>u.length+v.length
def Sd:List α->Prop
 | []=>True
 | x::r=>(∀ y∈r,key x<=key y)/\Sd r
variable {key}
theorem yyn {x z:α}:∀ {l:List α},z∈ins key x l↔z=x\/z∈l
 | []=>by simp [ins]
 | y::r=>by
  rw [ins];split
  . simp
  . simp only [zy18,yyn (l:=r)]
    constructor
    . rintro (h | h | h)
      . exact .inr (.inl h)
      . exact .inl h
      . exact .inr (.inr h)
    . rintro (h | h | h)
      . exact .inr (.inl h)
      . exact .inl h
      . exact .inr (.inr h)
theorem yqe {x:α}:∀ {l:List α},(ins key x l).Perm (x::l)
 | []=>List.Perm.refl _
 | y::r=>by
  rw [ins];split
  . exact List.Perm.refl _
  . exact ((yqe (l:=r)).cons y).trans (List.Perm.swap x y r)
theorem zko:∀ {l:List α},(srt key l).Perm l
 | []=>List.Perm.refl _
 | x::r=>yqe.trans ((zko (l:=r)).cons x)
theorem zhb (l:List α):(srt key l).length=l.length:=zko.length_eq
theorem xgl {x:α}:∀ {l:List α},Sd key l->Sd key (ins key x l)
 | [],_=>by simp [ins,Sd]
 | y::r,h=>by
  rw [ins];split
  . rename_i c
    refine ⟨fun z hz=>?_,h⟩;rcases zy18.1 hz with rfl | hz
    . exact c
    . exact Int.le_trans c (h.1 z hz)
  . rename_i c
    refine ⟨fun z hz=>?_,xgl h.2⟩;rcases yyn.1 hz with rfl | hz
    . omega
    . exact h.1 z hz
theorem zrp:∀ {l:List α},Sd key (srt key l)
 | []=>trivial
 | _::r=>xgl (zrp (l:=r))
theorem zpj:∀ (u:List α),mrg key u []=u
 | []=>by rw [mrg]
 | x::u=>by rw [mrg]
theorem yyy (x:α):∀ (v:List α),mrg key [x] v=ins key x v
 | []=>by rw [mrg,ins]
 | y::v=>by
  rw [mrg,ins];split
  . rw [mrg]
  . rw [yyy x v]
theorem yym {x:α} {l:List α} (h:∀ y∈l,key x<=key y):ins key x l=x::l:=by
 cases l with
 | nil=>rfl
 | cons y r=>rw [ins,zy1 (h y (by simp))]
theorem yyx {z:α} (u v:List α):z∈mrg key u v↔z∈u\/z∈v:=by
 fun_induction mrg key u v with
 | case1 v=>simp
 | case2 x u=>simp
 | case3 x u y v h ih =>
  have e:z∈x::mrg key u (y::v)↔z=x\/z∈u\/z=y\/z∈v:=by rw [zy18,ih,zy18]
  rw [e,zy18,zy18,or_assoc]
 | case4 x u y v h ih =>
  have e:z∈y::mrg key (x::u) v↔z=y\/(z=x\/z∈u)\/z∈v:=by rw [zy18,ih,zy18]
  rw [e,zy18,zy18,or_left_comm]
theorem xiv (x:α) (u v:List α) (hu:Sd key u) (hv:Sd key v):mrg key (ins key x u) v=ins key x (mrg key u v):=by
 fun_induction mrg key u v with
 | case1 v=>rw [ins,yyy]
 | case2 y u=>rw [zpj]
 | case3 y u z v h ih =>
  by_cases c:key x<=key y
  . rw [ins,zy1 c,mrg,zy1 (by omega),mrg,zy1 h,ins,zy1 c]
  . rw [ins,zy0 c,mrg,zy1 h,ih hu.2 hv,ins,zy0 c]
 | case4 y u z v h ih =>
  by_cases c:key x<=key z
  . have c2:key x<=key y:=by omega
    rw [ins,zy1 c2,mrg,zy1 c,mrg,zy0 h,ins,zy1 c]
  . have hi:=ih hu hv.2
    rw [show ins key x (z::mrg key (y::u) v)=z::ins key x (mrg key (y::u) v) by rw [ins,zy0 c],<- hi];by_cases c2:key x<=key y
    . rw [show ins key x (y::u)=x::y::u by rw [ins,zy1 c2],mrg,zy0 c]
    . rw [show ins key x (y::u)=y::ins key x u by rw [ins,zy0 c2],mrg,zy0 h]
theorem yyz (u v:List α) (hu:Sd key u) (hv:Sd key v):Sd key (mrg key u v):=by
 fun_induction mrg key u v with
 | case1 v=>exact hv
 | case2 y u=>exact hu
 | case3 y u z v h ih =>
  refine ⟨fun a ha=>?_,ih hu.2 hv⟩;rcases (yyx u (z::v)).1 ha with ha | ha
  . exact hu.1 a ha
  . rcases zy18.1 ha with rfl | ha
    . exact h
    . have:=hv.1 a ha;omega
 | case4 y u z v h ih =>
  refine ⟨fun a ha=>?_,ih hu hv.2⟩;rcases (yyx (y::u) v).1 ha with ha | ha
  . rcases zy18.1 ha with rfl | ha
    . omega
    . have:=hu.1 a ha;omega
  . exact hv.1 a ha
theorem zpk (v:List α):∀ (u:List α),mrg key (srt key u) (srt key v)=srt key (u++v)
 | []=>by rw [srt,mrg];rfl
 | x::u=>by rw [srt,xiv x _ _ zrp zrp,zpk v u];rfl
theorem znf {u2 v2:List α} (u1 v1:List α) (h1:∀ a∈u1,∀ b∈v2,key a<=key b) (h2:∀ b∈v1,∀ a∈u2,key b<key a) :
 mrg key (u1++u2) (v1++v2)=mrg key u1 v1++mrg key u2 v2:=by
 fun_induction mrg key u1 v1 with
 | case1 v =>
  clear h1
  induction v with
  | nil=>rfl
  | cons y v ih =>
   have ih:=ih (fun b hb=>h2 b (by simp [hb]));cases u2 with
   | nil=>simp [mrg]
   | cons a u =>
    have:=h2 y zz5 a zz5;rw [zy66,zy44,mrg,zy0 (by omega)];rw [zy66] at ih;rw [ih];rfl
 | case2 x u =>
  have hh:∀ u:List α,(∀ a∈u,∀ b∈v2,key a<=key b)->mrg key (u++u2) v2=u++mrg key u2 v2:=by
   intro u h
   induction u with
   | nil=>rfl
   | cons x u ih =>
    cases v2 with
    | nil=>rw [zpj,zpj]
    | cons b v =>
     rw [zy44,mrg,zy1 (h x (by simp) b (by simp)),ih (fun a ha=>h a (by simp [ha]))];rfl
  exact hh (x::u) h1
 | case3 x u y v h ih =>
  rw [zy44,zy44,mrg,zy1 h,zy44];rw [<- zy44,ih (fun a ha=>h1 a (by simp [ha])) h2]
 | case4 x u y v h ih =>
  rw [zy44,zy44,mrg,zy0 h,zy44];rw [<- zy44,ih h1 (fun b hb=>h2 b (by simp [hb]))]
theorem yhz {a b:List α} {y:α} (h1:∀ x∈a,key x<=key y) (h2:∀ x∈b,key y<key x):mrg key (a++b) [y]=a++y::b:=by
 have e1:=znf (key:=key) (u2:=b) (v2:=[]) a [y] zz5 (by simpa using h2);have e2:=znf (key:=key) (u2:=[]) (v2:=[y]) a [] (by simpa using h1) zz5;rw [zy4,zy66,zpj,mrg] at e2;rw [zy4,zpj,e2] at e1
 simpa using e1
theorem xeb {a b:List α} {y:α} (h1:∀ x∈a,key x<key y) (h2:∀ x∈b,key y<=key x):mrg key [y] (a++b)=a++y::b:=by
 have e1:=znf (key:=key) (u2:=[y]) (v2:=b) [] a zz5 (by simpa using h1);have e2:=znf (key:=key) (u2:=[]) (v2:=b) [y] [] (by simpa using h2) zz5;rw [zy66,mrg] at e1;rw [zy4,zy66,zpj,mrg] at e2;rw [e1,e2];rfl
theorem yjn:∀ {a b:List α},Sd key (a++b)↔Sd key a/\Sd key b/\∀ x∈a,∀ y∈b,key x<=key y
 | [],b=>by simp [Sd]
 | s::a,b=>by
  simp only [zy44,Sd,yjn (a:=a) (b:=b),zy13,zy18]
  constructor
  . rintro ⟨h1,h2,h3,h4⟩
    exact ⟨⟨fun y hy=>h1 y (.inl hy),h2⟩,h3,fun x hx y hy=>by rcases hx with rfl | hx;exact h1 y (.inr hy);exact h4 x hx y hy⟩
  . rintro ⟨⟨h1,h2⟩,h3,h4⟩
    exact ⟨fun y hy=>by rcases hy with hy | hy;exact h1 y hy;exact h4 s (.inl rfl) y hy,h2,h3,fun x hx=>h4 x (.inr hx)⟩
theorem ybd {l:List α} (h:Sd key l) {i j:Nat} (hj:j<l.length) (hij:i<=j):key (l[i]'zz0)<=key l[j]:=by
 induction l generalizing i j with
 | nil=>simp at hj
 | cons _ r ih =>
  cases j with
  | zero =>
   obtain rfl:i=0:=by omega
   exact zy74 _
  | succ j =>
   cases i with
   | zero=>simpa using h.1 _ (zy57 zz128)
   | succ i=>simpa using ih h.2 zz128 zz0
theorem zlp:∀ {l:List α},Sd key l->srt key l=l
 | [],_=>rfl
 | x::r,h=>by rw [srt,zlp h.2,yym h.1]
theorem xfn (u:List α) (x:α):srt key (u++[x])=mrg key (srt key u) [x]:=by rw [<- zpk];rfl
end
end Srt
namespace Srt
theorem zyb {α:Type} {A B:List α} {x y:α} {i:Nat} (h:i=A.length):(A++x::B).set i y=A++y::B:=by
 subst h
 induction A with
 | nil=>rfl
 | cons a A ih=>simp only [zy44,zy6,zy149,ih]
theorem yed {α:Type} {t n:Nat} {f:α->List PV} {l l' A B C:List α} {x y:α} {i j:Nat} {r s:List PV} (h:l=A++x::(B++y::C)) (h':l'=A++y::(B++x::C)) (hi:i=A.length) (hj:j=A.length+1+B.length) (hr:f y=r) (hs:f x=s) :
 zai.live (.row t n (((l.map f).set i r).set j s))=zai.live (.row t n (l'.map f)):=by
 subst h h' hr hs;rw [<- zy72,<- zy72,zyb hi,show A++y::(B++y::C)=(A++y::B)++y::C by simp,zyb (by simp;omega)];simp
theorem yjh {α:Type} {t n:Nat} {f:α->List PV} {l l' A B C:List α} {x y:α} {i j:Nat} {r s:List PV} (h:l=A++x::(B++y::C)) (h':l'=A++y::(B++x::C)) (hi:i=A.length) (hj:j=A.length+1+B.length) (hr:f y=r) (hs:f x=s) :
 zai.live (.row t n (((l.map f).set j s).set i r))=zai.live (.row t n (l'.map f)):=by
 rw [List.set_comm _ _ (by omega)];exact yed h h' hi hj hr hs
theorem zke {α:Type} {f:α->List PV} {l A B:List α} {y:α} {i:Nat} {r:List PV} {z:Int} {K:List PV->Prop} (h:l=A++y::B) (hz:z=A.length) (hi:i≠A.length) (hk:K (f y)):zqp ((l.map f).set i r) z K :=
 ⟨f y,by omega,by rw [hz,zy24,zy50 hi,h];simp,hk⟩
abbrev ck (p:zav):Int:=p.chunk.part
abbrev H1 (l:List zav):List (Nat×zai):=[(1000,.live (.row 162 12 (l.map zav.row)))]
def cmp (a b:zav):Int:=if ck a<ck b then -1 else if ck a>ck b then 1 else 0
def yfn (g:FuncId):Prop:=∀ a b:zav,zan Tryz.prog g [a.hv,b.hv] zad (i64 (cmp a b)) zad
theorem zmv {a b:zav}:cmp a b<0↔ck a<ck b:=by unfold cmp;split<;>(try split)<;>omega
theorem xbs {g:FuncId} (P M Q X Y:List zav) (hxy:X.length=Y.length) (hb:(P++X++M++Y++Q).length<2 ^ 40) (a b n:Int) (ha:a=P.length) (hb':b=(P++X++M).length) (hn:n=X.length) :
 zan Tryz.prog 220 [.own 1000,i64 a,i64 b,i64 n,.clo g []] (lk .free (H1 (P++X++M++Y++Q))) (.tup []) (lk .free (H1 (P++Y++M++X++Q))):=by
 refine zaq mixed Tryz.func220 zz4 [1000] zbt ?_;(conv=>whnf);refine ⟨{x:(List zav×List zav)×(List zav×List zav) // X=x.1.1++x.1.2/\Y=x.2.1++x.2.2/\x.1.1.length=x.2.1.length},fun | ⟨((X1,X2),(Y1,Y2)),_⟩=>hsP [1000] 38 [(0,.own 1000),(1,i64 a),(2,i64 b),(3,i64 n),(10,i64 X1.length)] (H1 (P++Y1++X2++M++X1++Y2++Q)),fun x=>x.1.1.2.length,⟨(([],X),([],Y)),rfl,rfl,rfl⟩,?_,?_⟩
 . exact (zcd [(1000,some 1000)] zz94)
 rintro ⟨⟨⟨X1,X2⟩,⟨Y1,Y2⟩⟩,hX,hY,h12⟩;dsimp only at hX hY h12;have lX:X.length=X1.length+X2.length:=by rw [hX];simp
 have lY:Y.length=Y1.length+Y2.length:=by rw [hY];simp
 simp only [zy9] at hb hb';(conv=>whnf);cases X2 with
 | nil =>
  have:Y2=[]:=zy20 (by rw [zy14] at lX;omega);subst this;rw [zy14] at lX;rw [zy4] at hX hY;subst hX hY;refine sN ?_;refine zap [(1000,some 1000)] rfl rfl ⟨rfl,trivial⟩ rfl rfl ⟨⟨rfl,.inl ⟨1000,rfl,?_⟩⟩,trivial⟩;exact zas zz5
 | cons x X2 =>
  cases Y2 with
  | nil=>simp at lX lY;omega
  | cons y Y2 =>
   rw [zy6] at lX lY;have e1:P++Y1++x::X2++M++X1++y::Y2++Q=(P++Y1)++x::((X2++M++X1)++y::(Y2++Q)):=by simp
   have e2:P++Y1++x::X2++M++X1++y::Y2++Q=(P++Y1++x::X2++M++X1)++y::(Y2++Q):=by simp
   refine sT ?_;refine sF ?_;refine sF ?_;refine sF ?_;refine sO ?_;refine zak e2 ?_ ?_
   . simp;omega
   (conv=>whnf);refine sF ?_;refine sO ?_;refine zak e1 ?_ ?_
   . simp;omega
   (conv=>whnf);refine sO ?_;refine zak e1 ?_ ?_
   . simp;omega
   (conv=>whnf);refine sO ?_;refine zke e2 ?_ ?_ ?_
   . simp;omega
   . simp;omega
   (conv=>whnf);refine sD ?_;refine sF ?_;refine ⟨⟨((X1++[x],X2),(Y1++[y],Y2)),by rw [hX];simp,by rw [hY];simp,by simp;omega⟩,(zcd [(1000,some 1000)] (by repeat' (first | exact z0 | refine z1 ?_ | refine ⟨?_,?_⟩ | ((refine yed e1 (by simp) ?_ ?_ rfl rfl<;>(simp;try omega))) | exact z2))),by simp⟩
theorem znn {g:FuncId} {L L':List zav} (P M Q X Y:List zav) (h1:L=P++X++M++Y++Q) (h2:L'=P++Y++M++X++Q) (hxy:X.length=Y.length) (hb:L.length<2 ^ 40) (a b n:Int) (ha:a=P.length) (hb':b=(P++X++M).length) (hn:n=X.length) :
 zan Tryz.prog 220 [.own 1000,i64 a,i64 b,i64 n,.clo g []] (lk .free (H1 L)) (.tup []) (lk .free (H1 L')):=by
 subst h1 h2;exact xbs P M Q X Y hxy hb a b n ha hb' hn
theorem ynr {g:FuncId} (P Q U V:List zav) (hU:U≠[]) (hV:V≠[]) (hb:(P++U++V++Q).length<2 ^ 40) (a m b:Int) (ha:a=P.length) (hm:m=(P++U).length) (hb':b=(P++U++V).length) :
 zan Tryz.prog 219 [.own 1000,i64 a,i64 m,i64 b,.clo g []] (lk .free (H1 (P++U++V++Q))) (.tup []) (lk .free (H1 (P++V++U++Q))):=by
 refine zaq mixed Tryz.func219 zz4 [1000] zbt ?_;simp only [zy9] at hb hm hb';have hU0:=zy38.2 hU;have hV0:=zy38.2 hV;generalize hT:P++V++U++Q=T;(conv=>whnf);refine sF ?_;refine sF ?_;refine ⟨{x:(List zav×List zav)×(List zav×List zav) // x.1.1++x.2.1++x.1.2++x.2.2=T/\x.1.1.length+x.1.2.length=P.length+U.length/\0<x.1.2.length/\0<x.2.1.length/\x.1.1.length+x.1.2.length+x.2.1.length+x.2.2.length=P.length+U.length+V.length+Q.length},
  fun | ⟨((P',U'),(V',Q')),_⟩=>hsP [1000] 58 [(0,.own 1000),(2,i64 m),(4,.clo g []),(10,i64 U'.length),(11,i64 V'.length)] (H1 (P'++U'++V'++Q')),fun x=>x.1.1.2.length+x.1.2.1.length,⟨((P,U),(V,Q)),by simpa using hT,rfl,hU0,hV0,rfl⟩,?_,?_⟩
 . exact (zcd [(1000,some 1000)] (by repeat' (first | exact z0 | refine z1 ?_ | refine ⟨?_,?_⟩ | ((exact zbl (by omega))) | exact z2)))
 clear hT hU hV;rintro ⟨⟨⟨P',U'⟩,⟨V',Q'⟩⟩,h1,h2,h3,h4,h5⟩;dsimp only at h1 h2 h3 h4 h5;subst hm;(conv=>whnf);by_cases c:U'.length=V'.length
 . refine sN ?_
   refine sF ?_
   (refine zaf [] [(1000,1000)] [] ?_;(conv=>whnf);refine dG (znn (L:=P'++U'++V'++Q') (L':=T) P' [] Q' U' V' zz5 (by rw [<- h1];simp) c zz3 _ _ _ zz3 zz3 rfl) ?_ ⟨rfl,rfl,rfl,⟨zz1,trivial⟩,trivial,rfl,rfl,rfl⟩)
   exact yy51
 . refine sT ?_
   by_cases c2:U'.length>V'.length
   . obtain ⟨A,B,rfl,hA⟩:∃ A B,U'=A++B/\A.length=V'.length:=⟨U'.take V'.length,U'.drop V'.length,by simp,by simp;omega⟩
     simp only [zy9] at h2 h3 h5 c c2;refine zac zz3 (zw ?_)
     try refine sG ?_
     refine sF ?_
     (refine zaf [] [(1000,1000)] [] ?_;(conv=>whnf);refine dG (znn (L:=P'++(A++B)++V'++Q') (L':=P'++V'++B++A++Q') P' B Q' A V' zz5 rfl hA om _ _ _ om om om) ?_ ⟨rfl,rfl,rfl,⟨zz1,trivial⟩,trivial,rfl,rfl,rfl⟩)
     refine sF ?_;refine ⟨⟨((P'++V',B),(A,Q')),by rw [<- h1];simp,by simp;omega,by dsimp only;omega,by dsimp only;omega,by simp;omega⟩,(zcd [(1000,some 1000)] zz2),by simp;omega⟩
   . obtain ⟨A,B,rfl,hB⟩:∃ A B,V'=A++B/\B.length=U'.length:=⟨V'.take (V'.length-U'.length),V'.drop (V'.length-U'.length),by simp,by simp;omega⟩
     simp only [zy9] at h2 h4 h5 c c2;refine zab zz3 (zw ?_)
     try refine sG ?_
     refine sF ?_;refine sF ?_;refine sF ?_
     (refine zaf [] [(1000,1000)] [] ?_;(conv=>whnf);refine dG (znn (L:=P'++U'++(A++B)++Q') (L':=P'++B++A++U'++Q') P' A Q' U' B zz5 rfl hB.symm om _ _ _ om om om) ?_ ⟨rfl,rfl,rfl,⟨zz1,trivial⟩,trivial,rfl,rfl,rfl⟩)
     refine sF ?_;refine ⟨⟨((P',B),(A,U'++Q')),by rw [<- h1];simp,by simp;omega,by dsimp only;omega,by dsimp only;omega,by simp;omega⟩,(zcd [(1000,some 1000)] zz23),by simp;omega⟩
theorem zgu {α:Type} (l:List α):l=[]\/∃ a x,l=a++[x]:=by
 rcases zy121 l with h | ⟨a,x,h⟩
 . exact .inl h
 . exact .inr ⟨a,x,by rw [h,zy106]⟩
theorem yun {g:FuncId} (hg:yfn g) (P X Q:List zav) (hb:(P++X++Q).length<2 ^ 40) (a b:Int) (ha:a=P.length) (hb':b=(P++X).length) :
 zan Tryz.prog 217 [.own 1000,i64 a,i64 b,.clo g []] (lk .free (H1 (P++X++Q))) (.tup []) (lk .free (H1 (P++srt ck X++Q))):=by
 refine zaq mixed Tryz.func217 zz4 [1000] zbt ?_;simp only [zy9] at hb hb';(conv=>whnf);refine sF ?_;cases X with
 | nil =>
  refine ⟨Unit,fun _=>hsP [1000] 53 [(0,.own 1000),(1,i64 a),(2,i64 b),(3,.clo g []),(8,i64 (a+1))] (H1 (P++[]++Q)),fun _=>0,(),?_,fun _=>?_⟩
  . exact (zdm [(1000,some 1000)])
  (conv=>whnf);refine zab (by simp at hb' ⊢;omega) (zw ?_)
  try refine sG ?_
  exact yy51
 | cons x0 X =>
  refine ⟨{x:List zav×List zav // x0::X=x.1++x.2/\0<x.1.length},fun | ⟨(A,B),_⟩=>hsP [1000] 53 [(0,.own 1000),(1,i64 a),(2,i64 b),(3,.clo g []),(8,i64 (P.length+A.length:Nat))] (H1 (P++srt ck A++B++Q)),fun x=>x.1.2.length,⟨([x0],X),rfl,by simp⟩,?_,?_⟩
  . exact (zcd [(1000,some 1000)] (by repeat' (first | exact z0 | refine z1 ?_ | refine ⟨?_,?_⟩ | ((exact zbl om)) | ((exact zas (by simp [srt,ins]))) | exact z2)))
  rintro ⟨⟨A,B⟩,h,hA⟩;dsimp only at h hA;have hl:(x0::X).length=A.length+B.length:=by rw [h];simp
  rw [hl] at hb hb';have hS:=zhb (key:=ck) A;(conv=>whnf);cases B with
  | nil =>
   rw [zy14] at hb hb';rw [zy4] at h;refine sN ?_;refine zap [(1000,some 1000)] rfl rfl ⟨rfl,trivial⟩ rfl rfl ⟨⟨rfl,.inl ⟨1000,rfl,?_⟩⟩,trivial⟩;exact zas zz106
  | cons x B =>
   rw [zy6] at hb hb';refine zac zz3 (zw ?_)
   try refine sG ?_
   have hsd:=zrp (key:=ck) (l:=A);have hsn:=xfn (key:=ck) A x;obtain ⟨S,hSe⟩:∃ S,S=srt ck A:=⟨_,rfl⟩
   rw [<- hSe] at hS hsd hsn;refine ⟨{y:List zav×List zav // S=y.1++y.2/\∀ z∈y.2,ck x<ck z},fun | ⟨(S1,S2),_⟩=>hsP [1000] 53 [(0,.own 1000),(1,i64 a),(2,i64 b),(3,.clo g []),(8,i64 (P.length+A.length:Nat)),(9,i64 (P.length+S1.length:Nat))] (H1 (P++S1++x::(S2++B++Q))),fun y=>y.1.1.length,⟨(S,[]),by simp,by simp⟩,?_,?_⟩
   . exact (zcd [(1000,some 1000)] (by repeat' (first | exact z0 | refine z1 ?_ | refine ⟨?_,?_⟩ | ((exact zbl om)) | ((exact zas (by simp [hSe]))) | exact z2)))
   rintro ⟨⟨S1,S2⟩,g1,g2⟩;dsimp only at g1 g2;have hSl:S.length=S1.length+S2.length:=by rw [g1];simp
   have fin:∀ (hle:∀ z∈S1,ck z<=ck x),srt ck (A++[x])=S1++x::S2:=fun hle=>by rw [hsn,g1];exact yhz hle g2
   (conv=>whnf);rcases zgu S1 with rfl | ⟨S1,y,rfl⟩
   . refine zab zz3 (zw ?_)
     refine sD ?_;refine sF ?_;exact ⟨⟨(A++[x],B),by rw [h];simp,by simp⟩,(zcd [(1000,some 1000)] (by repeat' (first | exact z0 | refine z1 ?_ | refine ⟨?_,?_⟩ | ((exact zbl om)) | ((exact zas (by rw [fin (by simp)];simp))) | exact z2))),by simp⟩
   . have e1:P++(S1++[y])++x::(S2++B++Q)=(P++S1)++y::([]++x::(S2++B++Q)):=by simp
     have e2:P++(S1++[y])++x::(S2++B++Q)=(P++S1++[y])++x::(S2++B++Q):=by simp
     simp only [zy9,zy6,zy14] at hSl;refine zac zz3 (zw ?_);refine sO ?_;refine zak e2 zz3 (zw ?_);refine sF ?_;refine sO ?_;refine zak e1 zz3 (zw ?_)
     (refine cZ ?_;refine dL (hg x y) ?_)
     refine sD ?_;by_cases c:cmp x y<0
     . refine sT ?_
       refine sF ?_;refine sF ?_;refine sO ?_;refine zak e1 zz3 (zw ?_);refine sO ?_;refine zak e2 zz3 (zw ?_);refine sO ?_;refine zak e2 zz3 (zw ?_);refine sO ?_;refine zke e1 zz3 zz3 (zw ?_);refine sD ?_;refine sF ?_;refine ⟨⟨(S1,y::S2),by rw [g1];simp,fun z hz=>?_⟩,(zcd [(1000,some 1000)] zz55),by simp⟩;rcases zy18.1 hz with rfl | hz
       . exact zmv.1 c
       . exact g2 z hz
     . have hle:∀ z∈S1++[y],ck z<=ck x:=fun z hz=>by
        have h1:¬ ck x<ck y:=fun h=>c (zmv.2 h)
        rw [g1] at hsd;have h2:=(yjn.1 (yjn.1 hsd).1).2.2;rcases zy13.1 hz with hz | hz
        . have:=h2 z hz y zz5;omega
        . rw [zy11.1 hz];omega
       refine sN ?_;refine sF ?_;exact ⟨⟨(A++[x],B),by rw [h];simp,by simp⟩,(zcd [(1000,some 1000)] (by repeat' (first | exact z0 | refine z1 ?_ | refine ⟨?_,?_⟩ | ((exact zbl om)) | ((exact zas (by rw [fin hle];simp))) | exact z2))),by simp⟩
theorem yde {α:Type} {f:α->List PV} {l A V B:List α} {z:Int} {K:List PV->Prop} (k:Nat) (h:l=A++V++B) (hk:k<V.length) (hz:z=A.length+k) (hK:K (f V[k])):zqp (l.map f) z K:=by
 subst h;refine ⟨_,by omega,?_,hK⟩;have:z.toNat=A.length+k:=by omega
 rw [this,zy19,zy26,zy37 (by omega),zy30 (by omega)];simp [hk]
theorem yzw (p:zav->Prop) [DecidablePred p]:∀ {V:List zav},(∀ i j (hj:j<V.length) (hij:i<=j),p V[j]->p (V[i]'zz0))->∃ V1 V2,V=V1++V2/\(∀ z∈V1,p z)/\∀ z∈V2,¬ p z
 | [],_=>⟨[],[],rfl,by simp,by simp⟩
 | y::V,h=>by
  by_cases c:p y
  . obtain ⟨V1,V2,e,h1,h2⟩:=yzw p (V:=V) fun i j hj hij hp=>by
     have:=h (i+1) (j+1) zz128 zz0 (by simpa using hp)
     simpa using this
    exact ⟨y::V1,V2,by rw [e];rfl,fun z hz=>by rcases zy18.1 hz with rfl | hz;exact c;exact h1 z hz,h2⟩
  . refine ⟨[],y::V,rfl,by simp,fun z hz hp=>?_⟩
    obtain ⟨j,hj,rfl⟩:=zy128 hz;exact c (h 0 j hj (zy103 _) hp)
theorem mem_left {V V1 V2:List zav} (h:V=V1++V2) {k:Nat} (hk:k<V.length) (h1:k<V1.length):V[k]∈V1:=by
 subst h;rw [List.getElem_append_left h1];exact zy57 h1
theorem yhw {V V1 V2:List zav} (h:V=V1++V2) {k:Nat} (hk:k<V.length) (h1:¬ k<V1.length):V[k]∈V2:=by
 subst h;rw [List.getElem_append_right (by omega)];exact zy57 _
end Srt
namespace Srt
theorem yvi {g:FuncId} (hg:yfn g) (P U V Q L L':List zav) (hL:L=P++U++V++Q) (hL':L'=P++mrg ck U V++Q) (hU:U≠[]) (hV:V≠[]) (sU:Sd ck U) (sV:Sd ck V) (hb:L.length<2 ^ 40) (a m b:Int) (ha:a=P.length) (hm:m=(P++U).length) (hb':b=(P++U++V).length) (c1:U.length=1) :
 zan Tryz.prog 218 [.own 1000,i64 a,i64 m,i64 b,.clo g []] (lk .free (H1 L)) (.tup []) (lk .free (H1 L')):=by
 have hU0:=zy38.2 hU;have hV0:=zy38.2 hV;rw [hL] at hb;simp only [zy9] at hb hm hb';refine zaq mixed Tryz.func218 zz4 [1000] zbt ?_;(conv=>whnf);refine sF ?_;refine sT ?_;obtain ⟨x,rfl⟩:∃ x,U=[x]:=List.length_eq_one_iff.1 c1;obtain ⟨V1,V2,hVV,h1,h2⟩:=yzw (fun z=>ck z<ck x) (V:=V) fun i j hj hij hp=>by
  have:=ybd sV hj hij;omega
 have hmrg:mrg ck [x] V=V1++x::V2:=by rw [hVV];exact xeb h1 fun z hz=>by have:=h2 z hz;omega
 have hVl:V.length=V1.length+V2.length:=by rw [hVV];simp
 rw [zy55] at hb hm hb';refine ⟨{x:Nat×Nat // x.1<=V1.length/\V1.length<=x.2/\x.2<=V.length},fun | ⟨(i,j),_⟩=>hsP [1000] 220 [(0,.own 1000),(1,i64 a),(2,i64 m),(3,i64 b),(4,.clo g []),(10,i64 (P.length+1+i:Nat)),(11,i64 (P.length+1+j:Nat))] (H1 L),fun x=>x.1.2-x.1.1,⟨(0,V.length),by omega,by omega,zy28 _⟩,?_,?_⟩
 . exact (zcd [(1000,some 1000)] zz2)
 rintro ⟨⟨i,j⟩,g1,g2,g3⟩;dsimp only at g1 g2 g3;(conv=>whnf);by_cases c:i<j
 . have hlt:(i+j) / 2<V.length:=by omega
   refine sT ?_;refine sF ?_;refine zbw (zvv zz0 zz0) (zw ?_);refine zaa zz4 (zw ?_);refine zbw (z':=((P.length+1+(i+j) / 2:Nat):Int)) ?_ ?_
   . show W ((((P.length+1+i:Nat):Int)+((P.length+1+j:Nat):Int)) / 2)=_
     rw [zbs (by omega) (by omega)];omega
   (conv=>whnf);refine zaa zz117 (zw ?_);refine yde ((i+j) / 2) (show L=(P++[x])++V++Q from hL) hlt om (zw ?_);refine zaa zz117 (zw ?_);refine zak (show L=P++x::(V++Q) by rw [hL];simp) zz3 (zw ?_)
   (refine cZ ?_;refine dL (hg _ x) ?_)
   refine sD ?_;by_cases c2:(i+j) / 2<V1.length
   . have hk:=h1 _ (mem_left hVV hlt c2)
     refine zac (zy12 (zmv.2 hk)) (zw ?_);exact yy138
   . have hk:=h2 _ (yhw hVV hlt c2)
     refine zab (zy15 fun h=>hk (zmv.1 h)) (zw ?_);exact yy128
 . obtain rfl:i=V1.length:=by omega
   refine sN ?_;refine ⟨{y:List zav×List zav // V1=y.1++y.2},fun | ⟨(W1,W2),_⟩=>hsP [1000] 220 [(0,.own 1000),(10,i64 (P.length+1+V1.length:Nat)),(13,i64 (P.length+W1.length:Nat))] (H1 (P++W1++x::(W2++V2++Q))),fun y=>y.1.2.length,⟨([],V1),rfl⟩,?_,?_⟩
   . exact (zcd [(1000,some 1000)] (by repeat' (first | exact z0 | refine z1 ?_ | refine ⟨?_,?_⟩ | ((exact zbl om)) | ((exact zas (by rw [hL,hVV];simp))) | exact z2)))
   rintro ⟨⟨W1,W2⟩,gw⟩;dsimp only at gw;have hW:V1.length=W1.length+W2.length:=by rw [gw];simp
   (conv=>whnf);refine sF ?_;cases W2 with
   | nil =>
    rw [zy14] at hW;exact yy113
   | cons y W2 =>
    rw [zy6] at hW;have e1:P++W1++x::(y::W2++V2++Q)=(P++W1)++x::([]++y::(W2++V2++Q)):=by simp
    have e2:P++W1++x::(y::W2++V2++Q)=(P++W1++[x])++y::(W2++V2++Q):=by simp
    refine sT ?_;refine sF ?_;refine sF ?_;refine sO ?_;refine zak e2 om (zw ?_);refine sO ?_;refine zak e1 om (zw ?_);refine sO ?_;refine zak e1 om (zw ?_);refine sO ?_;refine zke e2 om om (zw ?_);refine sD ?_;refine sF ?_;exact ⟨⟨(W1++[y],W2),by rw [gw];simp⟩,(zcd [(1000,some 1000)] (by repeat' (first | exact z0 | refine z1 ?_ | refine ⟨?_,?_⟩ | ((exact zbl om)) | ((refine yed e1 (by simp) ?_ ?_ rfl rfl<;>(simp;try omega))) | exact z2))),by simp⟩
end Srt
namespace Srt
theorem yvj {g:FuncId} (hg:yfn g) (P U V Q L L':List zav) (hL:L=P++U++V++Q) (hL':L'=P++mrg ck U V++Q) (hU:U≠[]) (hV:V≠[]) (sU:Sd ck U) (sV:Sd ck V) (hb:L.length<2 ^ 40) (a m b:Int) (ha:a=P.length) (hm:m=(P++U).length) (hb':b=(P++U++V).length) (c1:¬ U.length=1) (c2:V.length=1) :
 zan Tryz.prog 218 [.own 1000,i64 a,i64 m,i64 b,.clo g []] (lk .free (H1 L)) (.tup []) (lk .free (H1 L')):=by
 have hU0:=zy38.2 hU;have hV0:=zy38.2 hV;rw [hL] at hb;simp only [zy9] at hb hm hb';refine zaq mixed Tryz.func218 zz4 [1000] zbt ?_;(conv=>whnf);refine sF ?_;refine sN ?_;refine sF ?_;refine sT ?_;obtain ⟨y,rfl⟩:∃ y,V=[y]:=List.length_eq_one_iff.1 c2;obtain ⟨U1,U2,hUU,h1,h2⟩:=yzw (fun z=>ck z<=ck y) (V:=U) fun i j hj hij hp=>by
  have:=ybd sU hj hij;omega
 have hmrg:mrg ck U [y]=U1++y::U2:=by rw [hUU];exact yhz h1 fun z hz=>by have:=h2 z hz;omega
 have hUl:U.length=U1.length+U2.length:=by rw [hUU];simp
 rw [zy55] at hb hb';refine ⟨{x:Nat×Nat // x.1<=U1.length/\U1.length<=x.2/\x.2<=U.length},fun | ⟨(i,j),_⟩=>hsP [1000] 220 [(0,.own 1000),(1,i64 a),(2,i64 m),(3,i64 b),(4,.clo g []),(14,i64 (P.length+i:Nat)),(15,i64 (P.length+j:Nat))] (H1 L),fun x=>x.1.2-x.1.1,⟨(0,U.length),by omega,by omega,zy28 _⟩,?_,?_⟩
 . exact (zcd [(1000,some 1000)] zz2)
 rintro ⟨⟨i,j⟩,g1,g2,g3⟩;dsimp only at g1 g2 g3;(conv=>whnf);by_cases c:i<j
 . have hlt:(i+j) / 2<U.length:=by omega
   refine sT ?_;refine sF ?_;refine zbw (zvv zz0 zz0) (zw ?_);refine zaa zz4 (zw ?_);refine zbw (z':=((P.length+(i+j) / 2:Nat):Int)) ?_ ?_
   . show W ((((P.length+i:Nat):Int)+((P.length+j:Nat):Int)) / 2)=_
     rw [zbs (by omega) (by omega)];omega
   (conv=>whnf);refine zaa zz117 (zw ?_);refine zak (show L=(P++U)++y::Q by rw [hL];simp) om (zw ?_);refine zaa zz117 (zw ?_);refine yde ((i+j) / 2) (show L=P++U++([y]++Q) by rw [hL];simp) hlt om (zw ?_)
   (refine cZ ?_;refine dL (hg y _) ?_)
   refine sD ?_;by_cases c2:(i+j) / 2<U1.length
   . have hk:=h1 _ (mem_left hUU hlt c2)
     have hc:decide (cmp y U[(i+j) / 2]<0)=false:=zy15 fun h=>by have:=zmv.1 h;omega
     refine zac (by rw [hc];rfl) (zw ?_);exact yy138
   . have hk:=h2 _ (yhw hUU hlt c2)
     have hc:decide (cmp y U[(i+j) / 2]<0)=true:=zy12 (zmv.2 zz0);refine zab (by rw [hc];rfl) (zw ?_);exact yy128
 . obtain rfl:i=U1.length:=by omega
   refine sN ?_;refine ⟨{z:List zav×List zav // U2=z.1++z.2},fun | ⟨(W1,W2),_⟩=>hsP [1000] 220 [(0,.own 1000),(14,i64 (P.length+U1.length:Nat)),(17,i64 (P.length+U1.length+W1.length:Nat))] (H1 (P++U1++W1++y::(W2++Q))),fun z=>z.1.1.length,⟨(U2,[]),by simp⟩,?_,?_⟩
   . exact (zcd [(1000,some 1000)] (by repeat' (first | exact z0 | refine z1 ?_ | refine ⟨?_,?_⟩ | ((exact zbl om)) | ((exact zas (by rw [hL,hUU];simp))) | exact z2)))
   rintro ⟨⟨W1,W2⟩,gw⟩;dsimp only at gw;have hW:U2.length=W1.length+W2.length:=by rw [gw];simp
   (conv=>whnf);rcases zgu W1 with rfl | ⟨W1,z,rfl⟩
   . rw [zy14] at hW
     exact yy113
   . simp only [zy9,zy6,zy14] at hW
     have e1:P++U1++(W1++[z])++y::(W2++Q)=(P++U1++W1)++z::([]++y::(W2++Q)):=by simp
     have e2:P++U1++(W1++[z])++y::(W2++Q)=(P++U1++W1++[z])++y::(W2++Q):=by simp
     refine zac zz3 (zw ?_)
     try refine sG ?_
     refine sF ?_;refine sF ?_;refine sO ?_;refine zak e1 zz3 (zw ?_);refine sO ?_;refine zak e2 zz3 (zw ?_);refine sO ?_;refine zak e2 zz3 (zw ?_);refine sO ?_;refine zke e1 zz3 zz3 (zw ?_);refine sD ?_;refine sF ?_;exact ⟨⟨(W1,z::W2),by rw [gw];simp⟩,(zcd [(1000,some 1000)] zz55),by simp⟩
end Srt
namespace Srt
structure Part (U V:List zav) (h s:Nat):Prop where
 hs:s<=h
 hv:h-s<=V.length
 hu:s<=U.length
 lo:∀ x∈U.take s,∀ z∈V.drop (h-s),ck x<=ck z
 hi:∀ z∈V.take (h-s),∀ x∈U.drop s,ck z<ck x
theorem zuh {α:Type} {l:List α} {n:Nat} {x:α} (h:x∈l.take n):∃ i,∃ hi:i<l.length,i<n/\x=l[i]:=by
 obtain ⟨i,hi,rfl⟩:=zy128 h;rw [zy75] at hi;exact ⟨i,by omega,by omega,by simp⟩
theorem zug {α:Type} {l:List α} {n:Nat} {x:α} (h:x∈l.drop n):∃ i,∃ hi:i<l.length,n<=i/\x=l[i]:=by
 obtain ⟨i,hi,rfl⟩:=zy128 h;rw [zy42] at hi;exact ⟨n+i,by omega,by omega,by simp⟩
def LoB (U V:List zav) (h s:Nat):Prop:=∃ i j,∃ (h1:i<U.length) (h2:j<V.length),i+1=s/\j+s=h/\ck U[i]<=ck V[j]
def HiB (U V:List zav) (h s:Nat):Prop:=∃ i j,∃ (h1:i<U.length) (h2:j<V.length),i=s/\j+1+s=h/\ck V[j]<ck U[i]
theorem ymz {U V:List zav} {h s s0 r0:Nat} (sU:Sd ck U) (sV:Sd ck V) (h0:s0<=s) (h1:s<=r0) (hr:r0<=h) (hru:r0<=U.length) (hv:h-s0<=V.length)
 (e0:s0=0\/h-s0=V.length) (e1:r0=h\/r0=U.length) (p0:s=s0\/LoB U V h s)
 (p1:s=r0\/HiB U V h s):Part U V h s:=by
 refine ⟨by omega,by omega,by omega,fun x hx z hz=>?_,fun z hz x hx=>?_⟩
 . obtain ⟨i,hi,hi2,rfl⟩:=zuh hx
   obtain ⟨j,hj,hj2,rfl⟩:=zug hz;rcases p0 with p0 | ⟨i',j',k1,k2,k3,k4,k5⟩
   . rcases e0 with e0 | e0<;>omega
   . have a1:=ybd sU (i:=i) k1 zz0
     have a2:=ybd sV (i:=j') hj zz0;omega
 . obtain ⟨j,hj,hj2,rfl⟩:=zuh hz
   obtain ⟨i,hi,hi2,rfl⟩:=zug hx;rcases p1 with p1 | ⟨i',j',k1,k2,k3,k4,k5⟩
   . rcases e1 with e1 | e1<;>omega
   . have a1:=ybd sU (i:=i') hi zz0
     have a2:=ybd sV (i:=j) k2 zz0;omega
theorem Part.merge {U V:List zav} {h s:Nat} (p:Part U V h s):mrg ck U V=mrg ck (U.take s) (V.take (h-s))++mrg ck (U.drop s) (V.drop (h-s)):=by
 have:=znf (key:=ck) (u2:=U.drop s) (v2:=V.drop (h-s)) (U.take s) (V.take (h-s)) p.lo p.hi
 rwa [zy33,zy33] at this
theorem xan {l:List zav} (h:Sd ck l) (n:Nat):Sd ck (l.take n):=by
 rw [<- zy33 n l] at h;exact (yjn.1 h).1
theorem xam {l:List zav} (h:Sd ck l) (n:Nat):Sd ck (l.drop n):=by
 rw [<- zy33 n l] at h;exact (yjn.1 h).2.1
theorem zzm {g:FuncId} {L L':List zav} (P Q U V:List zav) (h1:L=P++U++V++Q) (h2:L'=P++V++U++Q) (hU:U≠[]) (hV:V≠[]) (hb:L.length<2 ^ 40) (a m b:Int) (ha:a=P.length) (hm:m=(P++U).length) (hb':b=(P++U++V).length) :
 zan Tryz.prog 219 [.own 1000,i64 a,i64 m,i64 b,.clo g []] (lk .free (H1 L)) (.tup []) (lk .free (H1 L')):=by
 subst h1 h2;exact ynr P Q U V hU hV hb a m b ha hm hb'
theorem yqt {U V:List zav} (h:U=[]\/V=[]):mrg ck U V=U++V:=by
 rcases h with rfl | rfl
 . rw [mrg];rfl
 . rw [zpj];simp
theorem yms (U V:List zav):(mrg ck U V).length=U.length+V.length:=by
 fun_induction mrg ck U V<;>simp_all<;>omega
theorem yfa {g:FuncId} (hg:yfn g):∀ (n:Nat) (P U V Q L L':List zav) (_:L=P++U++V++Q) (_:L'=P++mrg ck U V++Q) (_:U.length+V.length<=n) (_:U≠[]) (_:V≠[]) (_:Sd ck U) (_:Sd ck V) (_:L.length<2 ^ 40) (a m b:Int) (_:a=P.length) (_:m=(P++U).length) (_:b=(P++U++V).length),
 zan Tryz.prog 218 [.own 1000,i64 a,i64 m,i64 b,.clo g []] (lk .free (H1 L)) (.tup []) (lk .free (H1 L'))
 | 0,P,U,V,Q,L,L',hL,hL',hn,hU,hV,sU,sV,hb,a,m,b,ha,hm,hb'=>by
  have:=zy38.2 hU;omega
 | n+1,P,U,V,Q,L,L',hL,hL',hn,hU,hV,sU,sV,hb,a,m,b,ha,hm,hb'=>by
  by_cases c1:U.length=1
  . exact yvi hg P U V Q L L' hL hL' hU hV sU sV hb a m b ha hm hb' c1
  by_cases c2:V.length=1
  . exact yvj hg P U V Q L L' hL hL' hU hV sU sV hb a m b ha hm hb' c1 c2
  have ih:=yfa hg n;have hU0:=zy38.2 hU;have hV0:=zy38.2 hV;have hLl:L.length=P.length+U.length+V.length+Q.length:=by rw [hL];simp;omega
  rw [hLl] at hb;simp only [zy9] at hm hb';obtain ⟨h,hh⟩:∃ h,h=(U.length+V.length) / 2:=⟨_,rfl⟩
  refine zaq mixed Tryz.func218 zz4 [1000] zbt ?_;(conv=>whnf);refine sF ?_;refine sN ?_;refine sF ?_;refine sN ?_;refine sF ?_;refine zbw (zvv zz0 zz0) (zw ?_);refine zaa zz4 (zw ?_);refine zbw (z':=((P.length+h:Nat):Int)) ?_ ?_
  . show W ((a+b) / 2)=_
    rw [zbs (by omega) (by omega)];omega
  (conv=>whnf);refine sFm ?_;refine zil.meet {x:Nat×Nat // x.1<=x.2/\x.2<=h/\x.2<=U.length/\h-x.1<=V.length/\(x.1=0\/h-x.1=V.length)/\(x.2=h\/x.2=U.length)} (fun | ⟨(s,r),_⟩=>hsP [1000] 220 [(0,.own 1000),(1,i64 a),(2,i64 m),(3,i64 b),(4,.clo g []),(18,i64 (P.length+h:Nat)),(19,i64 (2*P.length+h+U.length:Nat)),(20,i64 (P.length+s:Nat)),(21,i64 (P.length+r:Nat))] (H1 L)) ?_ ?_
  . by_cases c3:U.length>h
    . refine zac zz3 (zw ?_)
      refine sFm ?_;exact ⟨⟨(h-V.length,h),by dsimp only;omega⟩,(zcd [(1000,some 1000)] zz2)⟩
    . refine zab zz3 (zw ?_)
      exact ⟨⟨(0,U.length),by dsimp only;omega⟩,(zcd [(1000,some 1000)] zz2)⟩
  rintro ⟨⟨s0,r0⟩,k1,k2,k3,k4,k5,k6⟩;dsimp only at k1 k2 k3 k4 k5 k6;(conv=>whnf);refine sF ?_;refine ⟨{x:Nat×Nat // s0<=x.1/\x.1<=x.2/\x.2<=r0/\(x.1=s0\/LoB U V h x.1)/\(x.2=r0\/HiB U V h x.2)},
   fun | ⟨(s,r),_⟩=>hsP [1000] 220 [(0,.own 1000),(1,i64 a),(2,i64 m),(3,i64 b),(4,.clo g []),(18,i64 (P.length+h:Nat)),(19,i64 (2*P.length+h+U.length:Nat)),(20,i64 (P.length+s:Nat)),(21,i64 (P.length+r:Nat)),(22,i64 ((2*P.length+h+U.length:Nat)-1))] (H1 L),fun x=>x.1.2-x.1.1,⟨(s0,r0),zy28 _,k1,zy28 _,.inl rfl,.inl rfl⟩,?_,?_⟩
  . exact (zdm [(1000,some 1000)])
  rintro ⟨⟨s,r⟩,g1,g2,g3,g4,g5⟩;dsimp only at g1 g2 g3 g4 g5;(conv=>whnf);by_cases c:s<r
  . obtain ⟨k,hk⟩:∃ k,k=(s+r) / 2:=⟨_,rfl⟩
    obtain ⟨j,hj⟩:∃ j,j+1+k=h:=⟨h-1-k,by omega⟩
    have hkU:k<U.length:=by omega
    have hjV:j<V.length:=by omega
    refine sT ?_;refine sF ?_;refine zbw (zvv zz0 zz0) (zw ?_);refine zaa zz4 (zw ?_);refine zbw (z':=((P.length+k:Nat):Int)) ?_ ?_
    . show W ((((P.length+s:Nat):Int)+((P.length+r:Nat):Int)) / 2)=_
      rw [zbs (by omega) (by omega)];omega
    (conv=>whnf);refine sF ?_;refine zaa zz117 (zw ?_);refine yde j (show L=(P++U)++V++Q from hL) hjV zz3 (zw ?_);refine zaa zz117 (zw ?_);refine yde k (show L=P++U++(V++Q) by rw [hL];simp) hkU zz0 (zw ?_)
    (refine cZ ?_;refine dL (hg V[j] U[k]) ?_)
    refine sD ?_;by_cases c3:ck V[j]<ck U[k]
    . have hc:decide (cmp V[j] U[k]<0)=true:=zy12 (zmv.2 c3)
      refine zab (by rw [hc];rfl) (zw ?_)
      try refine sG ?_
      exact ⟨⟨(s,k),g1,by dsimp only;omega,by dsimp only;omega,g4,.inr ⟨k,j,hkU,hjV,rfl,hj,c3⟩⟩,(zdm [(1000,some 1000)]),by dsimp only;omega⟩
    . have hc:decide (cmp V[j] U[k]<0)=false:=zy15 fun h=>c3 (zmv.1 h)
      refine zac (by rw [hc];rfl) (zw ?_)
      try refine sG ?_
      refine sF ?_;exact ⟨⟨(k+1,r),by dsimp only;omega,by dsimp only;omega,g3,.inr ⟨k,j,hkU,hjV,rfl,by dsimp only;omega,by omega⟩,g5⟩,(zcd [(1000,some 1000)] zz2),by dsimp only;omega⟩
  . obtain rfl:s=r:=by omega
    have hp:=ymz sU sV g1 g3 k2 k3 k4 k5 k6 g4 g5;have hmg:=hp.merge;obtain ⟨q1,q2,q3,-,-⟩:=hp;have sU1:=xan sU s;have sU2:=xam sU s;have sV1:=xan sV (h-s);have sV2:=xam sV (h-s);have lU1:(U.take s).length=s:=by simp;omega
    have lU2:(U.drop s).length=U.length-s:=by simp
    have lV1:(V.take (h-s)).length=h-s:=by simp;omega
    have lV2:(V.drop (h-s)).length=V.length-(h-s):=by simp
    have eU:U=U.take s++U.drop s:=by simp
    have eV:V=V.take (h-s)++V.drop (h-s):=by simp
    generalize U.take s=U1 at *
    generalize U.drop s=U2 at *
    generalize V.take (h-s)=V1 at *
    generalize V.drop (h-s)=V2 at *
    refine sN ?_;refine sFm ?_;have hlL:∀ A:List zav,A.length=U.length+V.length->(P++A++Q).length<2 ^ 40:=fun A hA=>by simp;omega
    refine zil.meet Unit (fun _=>hsP [1000] 220 [(0,.own 1000),(1,i64 a),(3,i64 b),(4,.clo g []),(18,i64 (P.length+h:Nat)),(20,i64 (P.length+s:Nat)),(24,i64 (P.length+U.length+(h-s):Nat))] (H1 (P++U1++V1++U2++V2++Q))) ?_ fun _=>?_
    . by_cases d1:s<U.length
      . refine sTm ?_
        by_cases d2:0<h-s
        . refine zac zz3 (zw ?_)
          (refine zaf [] [(1000,1000)] [] ?_;(conv=>whnf);refine dGm (zzm (L:=L) (L':=P++U1++V1++U2++V2++Q) (P++U1) (V2++Q) U2 V1 (by rw [hL,eU,eV];simp) zz5 (zy38.1 zz0) (zy38.1 zz0) zz0 _ _ _ zz3 zz3 zz3) ?_ ⟨rfl,rfl,rfl,⟨zz1,trivial⟩,trivial,rfl,rfl,rfl⟩)
          exact ⟨(),(zcd [(1000,some 1000)] zz2)⟩
        . have:V1=[]:=zy20 zz0
          refine zab zz3 (zw ?_);exact ⟨(),(zcd [(1000,some 1000)] zz58)⟩
      . have:U2=[]:=zy20 zz0
        refine sNm ?_;exact ⟨(),(zcd [(1000,some 1000)] zz58)⟩
    (conv=>whnf);refine zil.meet Unit (fun _=>hsP [1000] 220 [(0,.own 1000),(3,i64 b),(4,.clo g []),(18,i64 (P.length+h:Nat)),(24,i64 (P.length+U.length+(h-s):Nat))] (H1 (P++mrg ck U1 V1++U2++V2++Q))) ?_ fun _=>?_
    . by_cases d1:0<s
      . refine sTm ?_
        by_cases d2:s<h
        . refine zac zz3 (zw ?_)
          (refine zaf [] [(1000,1000)] [] ?_;(conv=>whnf);refine dGm (ih P U1 V1 (U2++V2++Q) (P++U1++V1++U2++V2++Q) (P++mrg ck U1 V1++U2++V2++Q) zz5 zz5 zz0 (zy38.1 zz0) (zy38.1 zz0) sU1 sV1 zz3 _ _ _ zz0 zz3 zz3) ?_ ⟨rfl,rfl,rfl,⟨zz1,trivial⟩,trivial,rfl,rfl,rfl⟩)
          exact ⟨(),(zdm [(1000,some 1000)])⟩
        . have:V1=[]:=zy20 zz0
          refine zab zz3 (zw ?_);exact ⟨(),(zcd [(1000,some 1000)] (by repeat' (first | exact z0 | refine z1 ?_ | refine ⟨?_,?_⟩ | ((exact zas (by rw [yqt (.inr this)];simp))) | exact z2)))⟩
      . have:U1=[]:=zy20 zz0
        refine sNm ?_;exact ⟨(),(zcd [(1000,some 1000)] (by repeat' (first | exact z0 | refine z1 ?_ | refine ⟨?_,?_⟩ | ((exact zas (by rw [yqt (.inl this)];simp))) | exact z2)))⟩
    (conv=>whnf);have hm1:=yms U1 V1;have hout:L'=P++mrg ck U1 V1++mrg ck U2 V2++Q:=by rw [hL',hmg];simp
    by_cases d1:s<U.length
    . refine sT ?_
      by_cases d2:h-s<V.length
      . refine zac zz3 (zw ?_)
        (refine zaf [] [(1000,1000)] [] ?_;(conv=>whnf);refine dG (ih (P++mrg ck U1 V1) U2 V2 Q (P++mrg ck U1 V1++U2++V2++Q) L' zz5 hout zz0 (zy38.1 zz0) (zy38.1 zz0) sU2 sV2 zz3 _ _ _ zz3 zz3 zz3) ?_ ⟨rfl,rfl,rfl,⟨zz1,trivial⟩,trivial,rfl,rfl,rfl⟩)
        exact yy51
      . have:V2=[]:=zy20 zz0
        refine zab zz3 (zw ?_);refine zap [(1000,some 1000)] rfl rfl ⟨rfl,trivial⟩ rfl rfl ⟨⟨rfl,.inl ⟨1000,rfl,?_⟩⟩,trivial⟩;exact zas (by rw [hout,yqt (.inr this)];simp)
    . have:U2=[]:=zy20 zz0
      refine sN ?_;refine zap [(1000,some 1000)] rfl rfl ⟨rfl,trivial⟩ rfl rfl ⟨⟨rfl,.inl ⟨1000,rfl,?_⟩⟩,trivial⟩;exact zas (by rw [hout,yqt (.inl this)];simp)
end Srt
namespace Srt
def BS (s:Nat) (l:List zav):Prop:=∀ k,Sd ck ((l.drop (k*s)).take s)
theorem xfy (s:Nat):BS s []:=fun k=>by simp [Sd]
theorem zvs {s k:Nat} {l blk:List zav} (h:BS s l) (hl:l.length=k*s) (hb:blk.length<=s) (hd:Sd ck blk):BS s (l++blk):=by
 intro j;rcases Nat.lt_trichotomy j k with hj | rfl | hj
 . have:j*s+s<=l.length:=by rw [hl];have:=zy70 s (show j+1<=k by omega);rw [zy54] at this;omega
   rw [List.drop_append_of_le_length (by omega),zy86 (by simp;omega)];exact h j
 . rw [<- hl,zy115,zy31 hb];exact hd
 . have:l.length+blk.length<=j*s:=by rw [hl];have:=zy70 s (show k+1<=j by omega);rw [zy54] at this;omega
   rw [zy22 (by simp;omega)];simp [Sd]
theorem xhe {s:Nat} {l:List zav} (h:BS s l) (n:Nat):BS s (l.drop (n*s)):=fun k=>by
 have:=h (n+k);rwa [zy123,<- zy54]
theorem xfx {s:Nat} {l:List zav} (h:BS s l) (hl:l.length<=s):Sd ck l:=by
 have:=h 0;rwa [Nat.zero_mul,zy107,zy31 hl] at this
theorem zro {A B B' C:List zav} (h:srt ck B=srt ck B'):srt ck (A++B++C)=srt ck (A++B'++C):=by
 rw [<- zpk C (A++B),<- zpk C (A++B'),<- zpk B A,<- zpk B' A,h]
theorem ysb (l:List zav):srt ck (srt ck l)=srt ck l:=zlp zrp
theorem xbx {U V:List zav} (hU:Sd ck U) (hV:Sd ck V):srt ck (mrg ck U V)=srt ck (U++V):=by
 rw [zlp (yyz U V hU hV),<- zpk,zlp hU,zlp hV]
theorem zrj {g:FuncId} (hg:yfn g) (P X Q L L':List zav) (h1:L=P++X++Q) (h2:L'=P++srt ck X++Q) (hb:L.length<2 ^ 40) (a b:Int) (ha:a=P.length) (hb':b=(P++X).length) :
 zan Tryz.prog 217 [.own 1000,i64 a,i64 b,.clo g []] (lk .free (H1 L)) (.tup []) (lk .free (H1 L')):=by
 subst h1 h2;exact yun hg P X Q hb a b ha hb'
theorem ynw {g:FuncId} (hg:yfn g) (l:List zav) (hb:l.length<2 ^ 39) (n:Int) (hn:n=l.length) :
 zan Tryz.prog 213 [.own 1000,i64 n,.clo g []] (lk .free (H1 l)) (.tup []) (lk .free (H1 (srt ck l))):=by
 refine zaq mixed Tryz.func213 zz4 [1000] zbt ?_;(conv=>whnf);refine ⟨{x:(List zav×List zav)×Nat // x.1.1.length=x.2*20/\x.1.1.length+x.1.2.length=l.length/\BS 20 x.1.1/\srt ck (x.1.1++x.1.2)=srt ck l},fun | ⟨((D,R),k),_⟩=>hsP [1000] 63 [(0,.own 1000),(1,i64 n),(2,.clo g []),(6,i64 20),(7,i64 D.length),(8,i64 (D.length+20:Nat))] (H1 (D++R)),fun x=>x.1.1.2.length,⟨(([],l),0),by simp,by simp,xfy _,rfl⟩,?_,?_⟩
 . exact (zdm [(1000,some 1000)])
 rintro ⟨⟨⟨D,R⟩,k⟩,h1,h2,h3,h4⟩;dsimp only at h1 h2 h3 h4;(conv=>whnf);by_cases c:20<=R.length
 . obtain ⟨X,R,rfl,hX⟩:∃ X R',R=X++R'/\X.length=20:=⟨R.take 20,R.drop 20,by simp,by simp;omega⟩
   simp only [zy9] at h2 c;have hsX:=zhb (key:=ck) X;refine sT ?_
   (refine zaf [] [(1000,1000)] [] ?_;(conv=>whnf);refine dG (zrj hg D X R (D++(X++R)) (D++srt ck X++R) zz5 rfl zz3 _ _ rfl zz3) ?_ ⟨rfl,rfl,rfl,⟨zz1,trivial⟩,trivial,rfl,rfl,rfl⟩)
   refine sF ?_;exact ⟨⟨((D++srt ck X,R),k+1),by simp;omega,by simp;omega,zvs h3 h1 zz0 zrp,by dsimp only;rw [zro (ysb X),zy26];exact h4⟩,(zcd [(1000,some 1000)] zz2),by simp;omega⟩
 . have hsR:=zhb (key:=ck) R
   refine sN ?_
   (refine zaf [] [(1000,1000)] [] ?_;(conv=>whnf);refine dG (zrj hg D R [] (D++R) (D++srt ck R) zz5 zz5 zz3 _ _ rfl zz3) ?_ ⟨rfl,rfl,rfl,⟨zz1,trivial⟩,trivial,rfl,rfl,rfl⟩)
   have hBS:BS 20 (D++srt ck R):=zvs h3 h1 zz0 zrp;have hsr:srt ck (D++srt ck R)=srt ck l:=by
    have:=zro (A:=D) (C:=[]) (ysb R);rw [zy4,zy4] at this;rw [this];exact h4
   have hlen:(D++srt ck R).length=l.length:=by simp;omega
   obtain ⟨L,hL⟩:∃ L,L=D++srt ck R:=⟨_,rfl⟩
   rw [<- hL] at hBS hsr hlen;refine ⟨{x:List zav×Nat // BS x.2 x.1/\srt ck x.1=srt ck l/\x.1.length=l.length/\0<x.2/\x.2<2 ^ 41},fun | ⟨(L,s),_⟩=>hsP [1000] 63 [(0,.own 1000),(1,i64 n),(2,.clo g []),(6,i64 s)] (H1 L),fun x=>2 ^ 41-x.1.2,⟨(L,20),hBS,hsr,hlen,by omega,by omega⟩,?_,?_⟩
   . exact (zcd [(1000,some 1000)] (by repeat' (first | exact z0 | refine z1 ?_ | refine ⟨?_,?_⟩ | ((exact zas (by rw [hL]))) | exact z2)))
   clear h1 h2 h3 h4 c hsR hBS hsr hlen hL;rintro ⟨⟨L,s⟩,h1,h2,h3,h4,h5⟩;dsimp only at h1 h2 h3 h4 h5;(conv=>whnf);by_cases c:s<l.length
   . refine sT ?_
     refine sF ?_;refine ⟨{x:(List zav×List zav)×Nat // x.1.1.length=x.2*(2*s)/\x.1.1.length+x.1.2.length=l.length/\BS (2*s) x.1.1/\BS s x.1.2/\srt ck (x.1.1++x.1.2)=srt ck l},fun | ⟨((D,R),k),_⟩=>hsP [1000] 63 [(0,.own 1000),(1,i64 n),(2,.clo g []),(6,i64 s),(7,i64 D.length),(8,i64 (D.length+2*s:Nat))] (H1 (D++R)),fun x=>x.1.1.2.length,⟨(([],L),0),by simp,by simpa using h3,xfy _,h1,h2⟩,?_,?_⟩
     . exact (zcd [(1000,some 1000)] zz2)
     rintro ⟨⟨⟨D,R⟩,k⟩,h1,h2,h3,h6,h7⟩;dsimp only at h1 h2 h3 h6 h7;(conv=>whnf);by_cases c2:2*s<=R.length
     . obtain ⟨U,V,R,rfl,hU,hV⟩:∃ U V R',R=U++V++R'/\U.length=s/\V.length=s:=⟨R.take s,(R.drop s).take s,R.drop (2*s),by
        rw [show 2*s=s+s by omega,<- zy123,zy26,zy33,zy33],by simp;omega,by simp;omega⟩
       have sU:Sd ck U:=by have:=h6 0;rwa [Nat.zero_mul,zy107,zy26,zy86 zz0,zy31 zz0] at this
       have sV:Sd ck V:=by have:=h6 1;rwa [Nat.one_mul,zy26,<- hU,zy115,hU,zy86 zz0,zy31 zz0] at this
       have hR:BS s R:=by
        have:=xhe h6 2
        rwa [List.drop_left' zz3] at this
       have hm:=yms U V;simp only [zy9] at h2 c2;refine sT ?_;refine sF ?_
       (refine zaf [] [(1000,1000)] [] ?_;(conv=>whnf);refine dG (yfa hg (2*s) D U V R (D++(U++V++R)) (D++mrg ck U V++R) zz5 rfl zz0 (zy38.1 zz0) (zy38.1 zz0) sU sV zz3 _ _ _ rfl zz3 zz3) ?_ ⟨rfl,rfl,rfl,⟨zz1,trivial⟩,trivial,rfl,rfl,rfl⟩)
       refine sF ?_;refine sF ?_;exact ⟨⟨((D++mrg ck U V,R),k+1),by rw [zy54];simp;omega,by simp;omega,zvs h3 h1 zz0 (yyz U V sU sV),hR,by dsimp only;rw [zro (xbx sU sV),zy26,zy26,<- zy26 U];exact h7⟩,(zcd [(1000,some 1000)] zz2),by simp;omega⟩
     . refine sN ?_
       refine sF ?_;by_cases c3:s<R.length
       . obtain ⟨U,V,rfl,hU⟩:∃ U V,R=U++V/\U.length=s:=⟨R.take s,R.drop s,by simp,by simp;omega⟩
         have sU:Sd ck U:=by have:=h6 0;rwa [Nat.zero_mul,zy107,zy86 zz0,zy31 zz0] at this
         simp only [zy9] at h2 c2 c3;have sV:Sd ck V:=by have:=h6 1;rwa [Nat.one_mul,<- hU,zy115,hU,zy31 zz0] at this
         have hm:=yms U V;refine zac zz3 (zw ?_)
         try refine sG ?_
         (refine zaf [] [(1000,1000)] [] ?_;(conv=>whnf);refine dG (yfa hg (2*s) D U V [] (D++(U++V)) (D++mrg ck U V) zz5 zz5 zz0 (zy38.1 zz0) (zy38.1 zz0) sU sV zz3 _ _ _ rfl zz3 zz3) ?_ ⟨rfl,rfl,rfl,⟨zz1,trivial⟩,trivial,rfl,rfl,rfl⟩)
         refine sF ?_;have e1:=zro (A:=D) (C:=[]) (xbx sU sV);rw [zy4,zy4] at e1;exact ⟨⟨(D++mrg ck U V,2*s),zvs h3 h1 zz0 (yyz U V sU sV),by dsimp only;rw [e1];exact h7,by simp;omega,by dsimp only;omega,by dsimp only;omega⟩,(zcd [(1000,some 1000)] zz2),by dsimp only;omega⟩
       . refine zab zz3 (zw ?_)
         try refine sG ?_
         refine sF ?_;exact ⟨⟨(D++R,2*s),zvs h3 h1 zz0 (xfx h6 zz0),h7,by simp;omega,by dsimp only;omega,by dsimp only;omega⟩,(zcd [(1000,some 1000)] zz2),by dsimp only;omega⟩
   . have hsd:=xfx h1 zz0
     rw [zlp hsd] at h2;refine sN ?_;refine zap [(1000,some 1000)] rfl rfl ⟨rfl,trivial⟩ rfl rfl ⟨⟨rfl,.inl ⟨1000,rfl,?_⟩⟩,trivial⟩;exact zas (by rw [h2])
theorem xbr {g:FuncId} (hg:yfn g) (l:List zav) (hb:l.length<2 ^ 39) :
 zan Tryz.prog 207 [.own 1000,.clo g []] (lk .free (H1 l)) (.tup []) (lk .free (H1 (srt ck l))):=by
 refine zaq mixed Tryz.func207 zz4 [1000] zbt ?_;(conv=>whnf)
 (refine zaf [] [(1000,1000)] [] ?_;(conv=>whnf);refine dG (ynw hg l hb _ zz5) ?_ ⟨rfl,rfl,rfl,⟨zz1,trivial⟩,trivial,rfl,rfl,rfl⟩)
 exact yy51
end Srt
namespace Cl
theorem yhj {α:Type} {p:α->Bool} (A B:List α) (x:α) (hA:∀ y∈A,p y=false) (hx:p x=true):zca p 0 (A++x::B)=(A.length:Int):=by
 have gen:∀ (A:List α) (k:Nat),(∀ y∈A,p y=false)->zca p k (A++x::B)=((k+A.length:Nat):Int):=by
  intro A
  induction A with
  | nil=>intro k _;simp [zca,hx]
  | cons a A ih=>intro k h;rw [zy44,zca,zy0 (by rw [h a (by simp)];decide),ih (k+1) fun y hy=>h y zz108];simp;omega
 rw [gen A 0 hA];simp
theorem yhk {α:Type} (p:α->Bool) (l:List α):(zca p 0 l=-1/\∀ y∈l,p y=false)\/∃ A x B,l=A++x::B/\(∀ y∈A,p y=false)/\p x=true:=by
 have gen:∀ (l:List α) (k:Nat),(zca p k l=-1/\∀ y∈l,p y=false)\/∃ A x B,l=A++x::B/\(∀ y∈A,p y=false)/\p x=true:=by
  intro l
  induction l with
  | nil=>intro k;exact .inl ⟨rfl,by simp⟩
  | cons a l ih =>
   intro k;cases h:p a with
   | true=>exact .inr ⟨[],a,l,rfl,by simp,h⟩
   | false =>
    rcases ih (k+1) with ⟨h1,h2⟩ | ⟨A,x,B,rfl,h2,h3⟩
    . exact .inl ⟨by rw [zca,zy0 (by rw [h];decide),h1],fun y hy=>by rcases zy18.1 hy with rfl | hy;exact h;exact h2 y hy⟩
    . exact .inr ⟨a::A,x,B,rfl,fun y hy=>by rcases zy18.1 hy with rfl | hy;exact h;exact h2 y hy,h3⟩
 exact gen l 0
theorem yrr {α:Type} {t n:Nat} {f:α->List PV} {l A B:List α} {x y:α} {i:Nat} {r:List PV} (h:l=A++x::B) (hi:i=A.length) (hr:f y=r):zai.live (.row t n ((l.map f).set i r))=zai.live (.row t n ((A++y::B).map f)):=by
 subst h hr;rw [<- zy72,Srt.zyb hi]
theorem zdg (l:List UInt8) (hb:l.length<2 ^ 40):zan Tryz.prog 70 [.p (.sl 1 (l.map zcs))] zad (.own 0) (lk .free [(0,.live (.row 5 1 (l.map zcs)))]):=by
 refine zaq mixed Tryz.func70 zz4 [] (fun _=>.inl rfl) ?_;(conv=>whnf);intro b hn;(conv=>whnf);refine zah (fun c=>?_) (fun c=>?_)
 . conv=>whnf
   exact yy24
 . conv=>whnf
   refine zaa (c:=(([]:List (List PV)).length+(l.map zcs).length)*1<=140737488355328) zz3 ?_;exact yy19
theorem zsc (l:List Int) (hb:l.length<2 ^ 40):zan Tryz.prog 74 [.p (.sl 1 (l.map (fun n=>[pi n])))] zad (.own 0) (lk .free [(0,.live (.row 3 1 (l.map (fun n=>[pi n]))))]):=by
 refine zaq mixed Tryz.func74 zz4 [] (fun _=>.inl rfl) ?_;(conv=>whnf);intro b hn;(conv=>whnf);refine zah (fun c=>?_) (fun c=>?_)
 . conv=>whnf
   exact yy24
 . conv=>whnf
   refine zaa (c:=(([]:List (List PV)).length+(l.map (fun n=>[pi n])).length)*8<=140737488355328) zz3 ?_;exact yy19
theorem zgc (l:List Span) (hb:l.length<2 ^ 40):zan Tryz.prog 150 [.p (.sl 2 (l.map Span.row))] zad (.own 0) (lk .free [(0,.live (.row 199 2 (l.map Span.row)))]):=by
 refine zaq mixed Tryz.func150 zz4 [] (fun _=>.inl rfl) ?_;(conv=>whnf);intro b hn;(conv=>whnf);refine zah (fun c=>?_) (fun c=>?_)
 . conv=>whnf
   exact yy24
 . conv=>whnf
   refine zaa (c:=(([]:List (List PV)).length+(l.map Span.row).length)*16<=140737488355328) zz3 ?_;exact yy19
theorem ylm (l:List Path) (hb:l.length<2 ^ 40):zan Tryz.prog 73 [.p (.sl 7 (l.map Path.row))] zad (.own 0) (lk .free [(0,.live (.row 86 7 (l.map Path.row)))]):=by
 refine zaq mixed Tryz.func73 zz4 [] (fun _=>.inl rfl) ?_;(conv=>whnf);intro b hn;(conv=>whnf);refine zah (fun c=>?_) (fun c=>?_)
 . conv=>whnf
   exact yy24
 . conv=>whnf
   refine zaa (c:=(([]:List (List PV)).length+(l.map Path.row).length)*56<=140737488355328) zz3 ?_;exact yy19
theorem zos {g:FuncId} {c1 c2 c3:List PV} {p:zav->Bool} (hg:∀ m:zav,zan Tryz.prog g [m.hv,.rp c1,.rp c2,.rp c3] zad (zbj (p m)) zad) (q:List zav) (hb:q.length<2 ^ 62) :
 zan Tryz.prog 215 [.p (.sl 12 (q.map zav.row)),.clo g [.rp c1,.rp c2,.rp c3]] zad (i64 (zca p 0 q)) zad:=by
 refine zal mixed Tryz.func215 zz4 ?_;(conv=>whnf);refine ⟨{k:Nat // k<=q.length/\zca p k (q.drop k)=zca p 0 q},fun | ⟨k,_⟩=>hs 19 [(0,.p (.sl 12 (q.map zav.row))),(1,.clo g [.rp c1,.rp c2,.rp c3]),(7,i64 (q.map zav.row).length),(8,i64 k)] [],fun k=>q.length-k.1,⟨0,by simp⟩,?_,?_⟩
 . exact (zbi [])
 . rintro ⟨k,hk,hi⟩
   exact yy5
theorem yga {g:FuncId} {c1 c2 c3:List PV} {p:zav->Bool} (hg:∀ m:zav,zan Tryz.prog g [m.hv,.rp c1,.rp c2,.rp c3] zad (zbj (p m)) zad) (A0 B0:List zav) (x:zav) (hA:∀ y∈A0,p y=false) (hx:p x=true) (hb:(A0++x::B0).length<2 ^ 38) :
 zan Tryz.prog 210 [.own 1000,.clo g [.rp c1,.rp c2,.rp c3]] (lk .free [(1000,.live (.row 162 12 ((A0++x::B0).map zav.row)))])
  (.osl 1000 12 0 ((A0++x::B0).filter fun y=>!p y).length) (lk .free [(1000,.live (.row 162 12 ((((A0++x::B0).filter fun y=>!p y).map zav.row)++List.replicate ((A0++x::B0).length-((A0++x::B0).filter fun y=>!p y).length) ([pi 0,pi 0,pi 0,pi 0,pi 0,pi 0,pb false,pb false,.v (.slice none 0 0),.v (.slice none 0 0),pi 0,.v (.slice none 0 0)]))))]):=by
 refine zaq mixed Tryz.func210 zz4 [1000] zbt ?_;have hfA:A0.filter (fun y=>!p y)=A0:=zy100.2 fun y hy=>by rw [hA y hy];rfl
 have hlen:(A0++x::B0).length=A0.length+1+B0.length:=by simp;omega
 conv=>whnf
 (refine cL ?_;refine dL (zos hg (A0++x::B0) zz0) ?_)
 rw [yhj A0 B0 x hA hx];(conv=>whnf)
 try refine sG ?_
 refine sF ?_;refine ⟨{y:(List zav×List zav)×List zav×List zav // A0++x::B0=y.1.1++y.1.2/\y.2.1=y.1.1.filter (fun z=>!p z)/\0<y.2.2.length/\y.2.1.length+y.2.2.length=y.1.1.length},fun | ⟨((A,B),K,G),_⟩=>hsP [1000] 42 [(0,.own 1000),(1,.clo g [.rp c1,.rp c2,.rp c3]),(5,i64 K.length),(6,i64 A.length)] [(1000,.live (.row 162 12 ((K++G++B).map zav.row)))],fun y=>y.1.1.2.length,⟨((A0++[x],B0),A0,[x]),by simp,by simp [hfA,hx],by simp,by simp⟩,?_,?_⟩
 . exact (zcd [(1000,some 1000)] zz23)
 rintro ⟨⟨⟨A,B⟩,K,G⟩,h,hK,hG,hl⟩;dsimp only at h hK hG hl;have hAB:(A0++x::B0).length=A.length+B.length:=by rw [h];simp
 (conv=>whnf);cases B with
 | nil =>
  rw [zy14] at hAB;rw [zy4] at h;have hF:(A0++x::B0).filter (fun z=>!p z)=K:=by rw [h,hK]
  refine zab zz3 (zw ?_)
  try refine sG ?_
  refine sOm ?_;refine sOm ?_;refine zaa zz63 (zw ?_);refine zap [(1000,some 1000)] rfl rfl ⟨rfl,trivial⟩ rfl ?_ ⟨⟨rfl,.inl ⟨1000,rfl,?_⟩⟩,trivial⟩
  . show HV.osl 1000 12 0 _=HV.osl 1000 12 0 _
    rw [hF];rfl
  . refine zas ?_
    rw [hF,zdc,zy4,zy39,zy22 (by simp;omega),zy4];congr 1
    . exact zy95 zz5
    . congr 1;simp;omega
 | cons v B =>
  rw [zy6] at hAB;have e1:K++G++v::B=(K++G)++v::B:=rfl;refine zac zz3 (zw ?_)
  try refine sG ?_
  refine sO ?_;refine zak e1 zz3 (zw ?_)
  (refine cZ ?_;refine dL (hg v) ?_)
  cases hv:p v with
  | true =>
   exact yy100
  | false =>
   obtain ⟨g0,G,rfl⟩:∃ g0 G',G=g0::G':=by cases G with
    | nil=>simp at hG
    | cons a b=>exact ⟨a,b,rfl⟩
   have e2:K++(g0::G)++v::B=K++g0::(G++v::B):=by simp
   rw [zy6] at hl;(conv=>whnf)
   try refine sG ?_
   refine sO ?_;refine zak e2 zz5 (zw ?_);refine sF ?_;refine sF ?_;refine ⟨⟨((A++[v],B),K++[v],G++[v]),by rw [h];simp,by rw [zy47,<- hK];simp [hv],by simp,by simp;omega⟩,(zcd [(1000,some 1000)] (by repeat' (first | exact z0 | refine z1 ?_ | refine ⟨?_,?_⟩ | ((exact zbl om)) | ((exact (zel (f:=zav.row) (a:=K) (b:=G++v::B) (x:=g0) (y:=v) (by simp) rfl).symm.trans (zas (by simp)))) | ((refine (yrr e2 ?_ rfl).trans (zas (by simp));simp)) | exact z2))),by simp⟩
theorem ysy {g:FuncId} {c1 c2 c3:List PV} {p:zav->Bool} (hg:∀ m:zav,zan Tryz.prog g [m.hv,.rp c1,.rp c2,.rp c3] zad (zbj (p m)) zad) (l:List zav) (hb:l.length<2 ^ 38) :
 zan Tryz.prog 210 [.own 1000,.clo g [.rp c1,.rp c2,.rp c3]] (lk .free [(1000,.live (.row 162 12 (l.map zav.row)))])
  (.own 0) (lk .free [(1000,.dead),(0,.live (.row 162 12 ((l.filter fun y=>!p y).map zav.row)))]):=by
 rcases yhk p l with ⟨h1,h2⟩ | ⟨A,x,B,rfl,hA,hx⟩
 . refine zaq mixed Tryz.func210 zz4 [1000] zbt ?_
   rw [zy100.2 fun y hy=>by rw [h2 y hy];rfl];(conv=>whnf)
   (refine cL ?_;refine dL (zos hg l zz0) ?_)
   exact yy111
 . have h:=zla (d:=0) (L:=[]) (rows:=(((A++x::B).filter fun y=>!p y).map zav.row)++List.replicate ((A++x::B).length-((A++x::B).filter fun y=>!p y).length) ([pi 0,pi 0,pi 0,pi 0,pi 0,pi 0,pb false,pb false,.v (.slice none 0 0),.v (.slice none 0 0),pi 0,.v (.slice none 0 0)])) (yga hg A B x hA hx hb) (.inl rfl) zz5 rfl zz4
   rwa [zy95 zz5] at h
end Cl
namespace Paths
def new (part:Int):Path:=⟨W (2*part),W (32*part),0,0,0,0,3⟩
def zkw (p:Path) (bytes part:Int) (moved:Bool):Path :=
 match moved with
 | false=>p
 | true =>
  if bytes=0 then {p with errors:=0,wait:=3,zcw:=0} else
  if p.window<=p.slow then {p with errors:=0,wait:=3,zcw:=0,window:=W (p.window+min bytes part)} else
  if W (p.gathered+bytes)>=p.window then {p with errors:=0,wait:=3,zcw:=0,gathered:=W (W (p.gathered+bytes)-p.window),window:=W (p.window+part)} else
  {p with errors:=0,wait:=3,zcw:=0,gathered:=W (p.gathered+bytes)}
def zqn (p:Path) (part:Int):Path :=
 {p with slow:=max (W (p.window.tdiv 2)) (W (4*part)),window:=min p.window (max (W (p.window.tdiv 2)) (W (4*part))),gathered:=0}
def late (p:Path) (part:Int):Path :=
 {p with slow:=max (W (p.window.tdiv 2)) (W (4*part)),window:=part,gathered:=0,zaz:=0,errors:=W (p.errors+1),wait:=min (W (2*p.wait)) 24,zcw:=0}
def zef (k:Nat):List Path->Int
 | []=>0
 | p::r=>if p.errors<=3 then k else zef (k+1) r
theorem yap (a b:Int):(if b<a then b else a)=min a b:=by omega
theorem yao (a b:Int):(if b>a then b else a)=max a b:=by omega
theorem zrl (part:Int):zan Tryz.prog 67 [i64 part] zad (new part).hv zad:=by
 refine zal mixed Tryz.func67 zz4 ?_;(conv=>whnf)
 repeat' (first | (refine zah (fun h=>?_) (fun h=>?_)<;>conv=>whnf) | (refine zcg ?_;conv=>whnf))
 rfl
theorem yug (p:Path) (bytes part:Int) (moved:Bool):zan Tryz.prog 77 [p.hv,i64 bytes,i64 part,zbj moved] zad (zkw p bytes part moved).hv zad:=by
 cases moved
 all_goals refine zal mixed Tryz.func77 zz4 ?_
 all_goals conv=>whnf
 all_goals (repeat' (first | (refine zcg ?_;conv=>whnf) | (refine zaa ?_ ?_;(first | kernel_rfl | decide);conv=>whnf) | (refine zaw ?_ ?_;kernel_rfl;conv=>whnf) | (refine zil.go ?_;conv=>whnf) | (refine zbf ?_;(conv=>whnf);refine ⟨_,zhw ⟨_,_,_,_,_,_,_⟩ _,rfl,?_⟩;conv=>whnf) | (refine zah (fun h=>?_) (fun h=>?_)<;>conv=>whnf)))
 all_goals try simp only [zy3,zy45,zy52,zy17,zy5,zy34,zy35] at *
 all_goals simp only [zkw,W]
 all_goals (repeat' split)
 all_goals first | rfl | omega | (simp only [Path.hv,yap,yao,HV.agg.injEq,List.cons.injEq,HV.p.injEq,PV.v.injEq,Value.int.injEq,true_and,and_true]<;>first | omega | (congr 1;omega))
theorem ynp (p:Path) (bytes part:Int) (moved:Bool):zan Tryz.prog 85 [p.hv,i64 bytes,i64 part,zbj moved] zad (zkw p bytes part moved).hv zad:=by
 cases moved
 all_goals refine zal mixed Tryz.func85 zz4 ?_
 all_goals conv=>whnf
 all_goals (repeat' (first | (refine zcg ?_;conv=>whnf) | (refine zaa ?_ ?_;(first | kernel_rfl | decide);conv=>whnf) | (refine zaw ?_ ?_;kernel_rfl;conv=>whnf) | (refine zil.go ?_;conv=>whnf) | (refine zbf ?_;(conv=>whnf);refine ⟨_,zhw ⟨_,_,_,_,_,_,_⟩ _,rfl,?_⟩;conv=>whnf) | (refine zah (fun h=>?_) (fun h=>?_)<;>conv=>whnf)))
 all_goals try simp only [zy3,zy45,zy52,zy17,zy5,zy34,zy35] at *
 all_goals simp only [zkw,W]
 all_goals (repeat' split)
 all_goals first | rfl | omega | (simp only [Path.hv,yap,yao,HV.agg.injEq,List.cons.injEq,HV.p.injEq,PV.v.injEq,Value.int.injEq,true_and,and_true]<;>first | omega | (congr 1;omega))
theorem zhw (p:Path) (part:Int):zan Tryz.prog 80 [p.hv,i64 part] zad (zqn p part).hv zad:=by
 refine zal mixed Tryz.func80 zz4 ?_;(conv=>whnf)
 (repeat' (first | (refine zcg ?_;conv=>whnf) | (refine zaa ?_ ?_;(first | kernel_rfl | decide);conv=>whnf) | (refine zaw ?_ ?_;kernel_rfl;conv=>whnf) | (refine zil.go ?_;conv=>whnf) | (refine zbf ?_;(conv=>whnf);refine ⟨_,zhw ⟨_,_,_,_,_,_,_⟩ _,rfl,?_⟩;conv=>whnf) | (refine zah (fun h=>?_) (fun h=>?_)<;>conv=>whnf)))
 all_goals try simp only [zy3,zy45,zy52,zy17,zy5,zy34,zy35] at *
 all_goals simp only [zqn,W]
 all_goals (repeat' split)
 all_goals first | rfl | omega | (simp only [Path.hv,yap,yao,HV.agg.injEq,List.cons.injEq,HV.p.injEq,PV.v.injEq,Value.int.injEq,true_and,and_true]<;>first | omega | (congr 1;omega))
theorem zus (p:Path) (part:Int):zan Tryz.prog 88 [p.hv,i64 part] zad (zqn p part).hv zad:=by
 refine zal mixed Tryz.func88 zz4 ?_;(conv=>whnf)
 (repeat' (first | (refine zcg ?_;conv=>whnf) | (refine zaa ?_ ?_;(first | kernel_rfl | decide);conv=>whnf) | (refine zaw ?_ ?_;kernel_rfl;conv=>whnf) | (refine zil.go ?_;conv=>whnf) | (refine zbf ?_;(conv=>whnf);refine ⟨_,zhw ⟨_,_,_,_,_,_,_⟩ _,rfl,?_⟩;conv=>whnf) | (refine zah (fun h=>?_) (fun h=>?_)<;>conv=>whnf)))
 all_goals try simp only [zy3,zy45,zy52,zy17,zy5,zy34,zy35] at *
 all_goals simp only [zqn,W]
 all_goals (repeat' split)
 all_goals first | rfl | omega | (simp only [Path.hv,yap,yao,HV.agg.injEq,List.cons.injEq,HV.p.injEq,PV.v.injEq,Value.int.injEq,true_and,and_true]<;>first | omega | (congr 1;omega))
theorem zyf (p:Path) (part:Int):zan Tryz.prog 91 [p.hv,i64 part] zad (late p part).hv zad:=by
 refine zal mixed Tryz.func91 zz4 ?_;(conv=>whnf)
 (repeat' (first | (refine zcg ?_;conv=>whnf) | (refine zaa ?_ ?_;(first | kernel_rfl | decide);conv=>whnf) | (refine zaw ?_ ?_;kernel_rfl;conv=>whnf) | (refine zil.go ?_;conv=>whnf) | (refine zbf ?_;(conv=>whnf);refine ⟨_,zhw ⟨_,_,_,_,_,_,_⟩ _,rfl,?_⟩;conv=>whnf) | (refine zah (fun h=>?_) (fun h=>?_)<;>conv=>whnf)))
 all_goals try simp only [zy3,zy45,zy52,zy17,zy5,zy34,zy35] at *
 all_goals simp only [late,W]
 all_goals (repeat' split)
 all_goals first | rfl | omega | (simp only [Path.hv,yap,yao,HV.agg.injEq,List.cons.injEq,HV.p.injEq,PV.v.injEq,Value.int.injEq,true_and,and_true]<;>first | omega | (congr 1;omega))
theorem yux (p:Path) (part:Int):zan Tryz.prog 92 [p.hv,i64 part] zad (late p part).hv zad:=by
 refine zal mixed Tryz.func92 zz4 ?_;(conv=>whnf)
 (repeat' (first | (refine zcg ?_;conv=>whnf) | (refine zaa ?_ ?_;(first | kernel_rfl | decide);conv=>whnf) | (refine zaw ?_ ?_;kernel_rfl;conv=>whnf) | (refine zil.go ?_;conv=>whnf) | (refine zbf ?_;(conv=>whnf);refine ⟨_,zus ⟨_,_,_,_,_,_,_⟩ _,rfl,?_⟩;conv=>whnf) | (refine zah (fun h=>?_) (fun h=>?_)<;>conv=>whnf)))
 all_goals try simp only [zy3,zy45,zy52,zy17,zy5,zy34,zy35] at *
 all_goals simp only [late,zqn,W]
 all_goals (repeat' split)
 all_goals first | rfl | omega | (simp only [Path.hv,yap,yao,HV.agg.injEq,List.cons.injEq,HV.p.injEq,PV.v.injEq,Value.int.injEq,true_and,and_true]<;>first | omega | (congr 1;omega))
theorem zll (p:Path):zan Tryz.prog 133 [p.hv] zad (zbj (decide (p.zaz<p.window))) zad:=by
 refine zal mixed Tryz.func133 zz4 ?_;(conv=>whnf)
theorem zey (ps:List Path) (hb:ps.length<2 ^ 62):zan Tryz.prog 79 [.p (.sl 7 (ps.map Path.row))] zad (i64 (zef 0 ps)) zad:=by
 refine zal mixed Tryz.func79 zz4 ?_;exact yy17
theorem zkm (ps:List Path) (hb:ps.length<2 ^ 62):zan Tryz.prog 87 [.p (.sl 7 (ps.map Path.row))] zad (i64 (zef 0 ps)) zad:=by
 refine zal mixed Tryz.func87 zz4 ?_;exact yy17
end Paths
namespace Sch
abbrev qs (q:List zaj):HV:=.p (.sl 10 (q.map zaj.row))
def first (q:List zaj) (stream:Int):Int:=zca (fun m:zaj=>m.message.stream==stream) 0 q
def after (q:List zaj) (last streams:Int):Nat->Nat->Int
 | _,0=>-1
 | k,n+1=>if first q ((W (W (last+1)+k)).tmod streams)>=0 then first q ((W (W (last+1)+k)).tmod streams) else after q last streams (k+1) n
theorem ynj (m:zaj) (stream:Int):zan Tryz.prog 186 [m.hv,.rp [pi stream]] zad (zbj (m.message.stream==stream)) zad:=by
 refine zal mixed Tryz.func186 zz4 ?_;(conv=>whnf)
theorem zti (m:zaj) (s:zho):zan Tryz.prog 163 [m.hv,.rp s.row] zad (zbj (m.id==s.hand)) zad:=by
 refine zal mixed Tryz.func163 zz4 ?_;(conv=>whnf)
theorem yrz {g:FuncId} {cs:List PV} {p:zaj->Bool} (hg:∀ m:zaj,zan Tryz.prog g [m.hv,.rp cs] zad (zbj (p m)) zad) (q:List zaj) (hb:q.length<2 ^ 62) :
 zan Tryz.prog 158 [qs q,.clo g [.rp cs]] zad (i64 (zca p 0 q)) zad:=by
 refine zal mixed Tryz.func158 zz4 ?_;(conv=>whnf);refine ⟨{k:Nat // k<=q.length/\zca p k (q.drop k)=zca p 0 q},fun | ⟨k,_⟩=>hs 19 [(0,qs q),(1,.clo g [.rp cs]),(7,i64 (q.map zaj.row).length),(8,i64 k)] [],fun k=>q.length-k.1,⟨0,by simp⟩,?_,?_⟩
 . exact zcn [] rfl rfl rfl rfl ⟨⟨rfl,rfl⟩,⟨rfl,rfl⟩,⟨rfl,rfl⟩,⟨rfl,rfl⟩,trivial⟩ trivial
 . rintro ⟨k,hk,hi⟩
   (conv=>whnf);refine zah (fun h=>?_) (fun h=>?_)
   . have hlt:k<q.length:=by simpa using h
     (conv=>whnf);refine zcf (r:=(q[k]).row) zz5 zz115 ?_;(conv=>whnf);refine zgs (zw ?_);refine ⟨_,hg q[k],rfl,zw ?_⟩;rw [zy21 hlt] at hi;simp only [zca] at hi;refine zah (fun h=>?_) (fun h=>?_)
     . conv=>whnf
       rw [zy1 h] at hi;rw [<- hi]
     . conv=>whnf
       rw [zy0 (by rw [h];decide)] at hi;refine zao (zbs zz0 zz0) ?_;(conv=>whnf);exact ⟨⟨k+1,hlt,hi⟩,zcn [] rfl rfl rfl rfl ⟨⟨rfl,rfl⟩,⟨rfl,rfl⟩,⟨rfl,rfl⟩,⟨rfl,by simp;rfl⟩,trivial⟩ trivial,by dsimp only;omega⟩
   . conv=>whnf
     have hge:q.length<=k:=by simpa using h
     rw [zy22 hge] at hi;rw [<- hi];rfl
theorem zoe (q:List zaj) (stream:Int) (hb:q.length<2 ^ 62):zan Tryz.prog 165 [qs q,i64 stream] zad (i64 (first q stream)) zad:=by
 refine zal mixed Tryz.func165 zz4 ?_;(conv=>whnf);refine zbf (zw ?_);refine ⟨_,yrz (fun m=>ynj m stream) q hb,rfl,?_⟩;(conv=>whnf)
 rfl
theorem yuh (q:List zaj) (last streams:Int) (h0:0<streams) (h9:streams<2 ^ 62) (hb:q.length<2 ^ 62):zan Tryz.prog 164 [qs q,i64 last,i64 streams] zad (i64 (after q last streams 0 streams.toNat)) zad:=by
 refine zal mixed Tryz.func164 zz4 ?_;(conv=>whnf);refine ⟨{k:Nat // (k:Int)<=streams/\after q last streams k (streams.toNat-k)=after q last streams 0 streams.toNat},fun | ⟨k,_⟩=>hs 25 [(0,qs q),(1,i64 last),(2,i64 streams),(9,i64 streams),(10,i64 k)] [],fun k=>streams.toNat-k.1,⟨0,by omega,rfl⟩,?_,?_⟩
 . exact zcn [] rfl rfl rfl rfl ⟨⟨rfl,rfl⟩,⟨rfl,rfl⟩,⟨rfl,rfl⟩,⟨rfl,rfl⟩,⟨rfl,rfl⟩,trivial⟩ trivial
 . rintro ⟨k,hk,hi⟩
   (conv=>whnf);refine zah (fun h=>?_) (fun h=>?_)
   . have hlt:(k:Int)<streams:=by simpa using h
     (conv=>whnf);refine zcg (zw ?_);refine zcg (zw ?_);refine zaa zz0 (zw ?_);refine zbf (zw ?_);refine ⟨_,zoe q _ hb,rfl,zw ?_⟩;obtain ⟨j,hj⟩:∃ j,streams.toNat-k=j+1:=⟨streams.toNat-k-1,by omega⟩
     rw [hj] at hi;simp only [after] at hi;refine zah (fun h=>?_) (fun h=>?_)
     . conv=>whnf
       rw [zy1 (zy29 h)] at hi;rw [<- hi]
     . conv=>whnf
       rw [zy0 (zy36 h)] at hi;refine zao (zbs zz0 zz0) ?_;(conv=>whnf);exact ⟨⟨k+1,by omega,by rw [show streams.toNat-(k+1)=j by omega];exact hi⟩,zcn [] rfl rfl rfl rfl ⟨⟨rfl,rfl⟩,⟨rfl,rfl⟩,⟨rfl,rfl⟩,⟨rfl,rfl⟩,⟨rfl,by simp;rfl⟩,trivial⟩ trivial,by dsimp only;omega⟩
   . conv=>whnf
     have hge:¬ (k:Int)<streams:=by simpa using h
     rw [show streams.toNat-k=0 by omega] at hi;rw [<- hi];rfl
def zev (q:List zaj) (had:List Int) (best:Int) (k:Nat):List Int->Int
 | []=>best
 | n::r=>if first q k>=0/\(best<0\/n<had[best.toNat]?.getD 0) then zev q had k (k+1) r else zev q had best (k+1) r
def least (s:zho) (q:List zaj):Int:=if zev q s.had (-1) 0 s.had<0 then -1 else first q (zev q s.had (-1) 0 s.had)
theorem yuo (s:zho) (q:List zaj) (h9:s.had.length<2 ^ 62) (hb:q.length<2 ^ 62):zan Tryz.prog 166 [s.hv,qs q] zad (i64 (least s q)) zad:=by
 refine zal mixed Tryz.func166 zz4 ?_;(conv=>whnf);refine ⟨{x:Nat×Int // x.1<=s.had.length/\x.2<s.had.length/\zev q s.had x.2 x.1 (s.had.drop x.1)=zev q s.had (-1) 0 s.had},fun | ⟨(k,best),_⟩=>hs 40 [(1,qs q),(2,.ptr 2 0),(5,i64 best),(9,ints s.had),(10,i64 (s.had.map fun n=>[pi n]).length),(11,i64 k)] [(2,.live (.cells 28 s.cells))],fun x=>s.had.length-x.1.1,⟨(0,-1),by simp,by dsimp only;omega,rfl⟩,?_,?_⟩
 . exact zcn [(2,some 2)] rfl rfl rfl rfl ⟨⟨rfl,rfl⟩,⟨rfl,rfl⟩,⟨rfl,rfl⟩,⟨rfl,rfl⟩,⟨rfl,rfl⟩,⟨rfl,rfl⟩,trivial⟩ ⟨⟨rfl,.inl ⟨2,rfl,rfl⟩⟩,trivial⟩
 . rintro ⟨⟨k,best⟩,hk,hlt2,hi⟩
   dsimp only at hk hlt2 hi;(conv=>whnf);refine zah (fun h=>?_) (fun h=>?_)
   . have hlt:k<s.had.length:=by simpa using h
     have hW:W ((k:Int)+1)=((k+1:Nat):Int):=yvw hlt h9;rw [zy21 hlt] at hi;simp only [zev] at hi;have fin:∀ {b':Int} {s':HS},b'<s.had.length->zev q s.had b' (k+1) (s.had.drop (k+1))=zev q s.had (-1) 0 s.had->s'.n=40->s'.pins=[]->s'.slot 1=qs q->s'.slot 2=.ptr 2 0->s'.slot 5=i64 b'->s'.slot 9=ints s.had->s'.slot 10=i64 (s.had.map fun n=>[pi n]).length->s'.slot 11=i64 (W (k+1)) ->
      s'.heap 2=.live (.cells 28 s.cells)->∃ x':{x:Nat×Int // x.1<=s.had.length/\x.2<s.had.length/\zev q s.had x.2 x.1 (s.had.drop x.1)=zev q s.had (-1) 0 s.had},HLe s' (match x' with | ⟨(k,best),_⟩=>hs 40 [(1,qs q),(2,.ptr 2 0),(5,i64 best),(9,ints s.had),(10,i64 (s.had.map fun n=>[pi n]).length),(11,i64 k)] [(2,.live (.cells 28 s.cells))])/\s.had.length-x'.1.1<s.had.length-k:=by
      intro b' s' a1 a2 a3 a4 a5 a6 a7 a8 a9 a10 a11;rw [hW] at a10;exact ⟨⟨(k+1,b'),hlt,a1,a2⟩,zcn [(2,some 2)] a3.symm a4.symm rfl rfl ⟨⟨rfl,a5.symm⟩,⟨rfl,a6.symm⟩,⟨rfl,a7.symm⟩,⟨rfl,a8.symm⟩,⟨rfl,a9.symm⟩,⟨rfl,a10.symm⟩,trivial⟩ ⟨⟨rfl,.inl ⟨2,rfl,a11⟩⟩,trivial⟩,by dsimp only;omega⟩
     (conv=>whnf);refine zil.go (zw ?_);refine zcf (r:=[pi s.had[k]]) zz0 zz115 ?_;(conv=>whnf);refine zbf (zw ?_);refine ⟨_,zoe q k hb,rfl,zw ?_⟩;refine zah (fun c1=>?_) (fun c1=>?_)
     . conv=>whnf
       refine zah (fun c2=>?_) (fun c2=>?_)
       . conv=>whnf
         refine zcg (zw ?_);rw [zy1 ⟨zy29 c1,.inl (zy29 c2)⟩] at hi;exact fin zz0 hi rfl rfl rfl rfl rfl rfl rfl rfl rfl
       . conv=>whnf
         have hb0:¬ best<0:=zy36 c2;refine zcf (r:=[pi s.had[best.toNat]]) zz0 (by simp [show best.toNat<s.had.length by omega]) ?_;(conv=>whnf);refine zah (fun c3=>?_) (fun c3=>?_)
         . conv=>whnf
           refine zcg (zw ?_);rw [zy1 ⟨zy29 c1,.inr (by simpa [show best.toNat<s.had.length by omega] using c3)⟩] at hi;exact fin zz0 hi rfl rfl rfl rfl rfl rfl rfl rfl rfl
         . conv=>whnf
           refine zcg (zw ?_);rw [zy0 (by rintro ⟨_,h | h⟩;exact hb0 h;have:=zy36 c3;simp [show best.toNat<s.had.length by omega] at h;omega)] at hi;exact fin zz0 hi rfl rfl rfl rfl rfl rfl rfl rfl rfl
     . conv=>whnf
       refine zcg (zw ?_);rw [zy0 (by rintro ⟨h,_⟩;exact zy36 c1 h)] at hi;exact fin zz0 hi rfl rfl rfl rfl rfl rfl rfl rfl rfl
   . have hge:s.had.length<=k:=by simpa using h
     rw [zy22 hge] at hi;simp only [zev] at hi;(conv=>whnf);refine zah (fun c1=>?_) (fun c1=>?_)
     . conv=>whnf
       rw [least,<- hi,zy1 (zy29 c1)]
     . conv=>whnf
       refine zbf (zw ?_);refine ⟨_,zoe q best hb,rfl,zw ?_⟩;rw [least,<- hi,zy0 (zy36 c1)]
def zfm (q:List zaj) (k:Nat):Nat->Int
 | 0=>-1
 | n+1=>if first q k>=0 then first q k else zfm q (k+1) n
def zne (s:zho) (q:List zaj):Int:=zca (fun m:zaj=>m.id==s.hand) 0 q
def next (turns:Int) (s:zho) (q:List zaj):Int :=
 if (q.length:Int)=0 then -1 else if (s.had.length:Int)=0 then -1 else
 if turns=2 then (if zne s q>=0 then zne s q else after q s.last s.had.length 0 s.had.length) else
 if turns=3 then after q s.last s.had.length 0 s.had.length else
 if turns=4 then zfm q 0 s.had.length else
 if turns=5 then least s q else 0
theorem zyg (turns:Int) (s:zho) (q:List zaj) (h9:s.had.length<2 ^ 62) (hb:q.length<2 ^ 62):zan Tryz.prog 135 [i64 turns,s.hv,qs q] zad (i64 (next turns s q)) zad:=by
 refine zal mixed Tryz.func135 zz4 ?_;have hl:(s.had.map fun n=>[pi n]).length=s.had.length:=by simp
 have hl2:(q.map zaj.row).length=q.length:=by simp
 have haft:0<s.had.length->zan Tryz.prog 164 [qs q,i64 s.last,i64 (s.had.map fun n=>[pi n]).length] zad (i64 (after q s.last s.had.length 0 s.had.length)) zad:=by
  intro h0;have:=yuh q s.last s.had.length zz0 zz0 hb;rw [hl]
  simpa using this
 (conv=>whnf);refine zah (fun c1=>?_) (fun c1=>?_)
 . have c1:(q.length:Int)=0:=by simpa using c1
   (conv=>whnf);rw [next,zy1 c1]
 have c1:¬ (q.length:Int)=0:=by simpa using c1
 rw [next,zy0 c1];(conv=>whnf);refine zah (fun c2=>?_) (fun c2=>?_)
 . have c2:(s.had.length:Int)=0:=by simpa using c2
   (conv=>whnf);rw [zy1 c2]
 have c2:¬ (s.had.length:Int)=0:=by simpa using c2
 rw [zy0 c2];(conv=>whnf);refine zah (fun c3=>?_) (fun c3=>?_)
 . have c3:turns=2:=by simpa using c3
   rw [zy1 c3];(conv=>whnf);refine zbf (zw ?_);refine ⟨_,yrz (fun m=>zti m s) q hb,rfl,?_⟩;show _;(conv=>whnf);refine zah (fun c4=>?_) (fun c4=>?_)
   . have c4:zne s q>=0:=zy29 c4
     rw [zy1 c4];(conv=>whnf)
     rfl
   . have c4:¬ zne s q>=0:=zy36 c4
     rw [zy0 c4];(conv=>whnf);refine zbf (zw ?_);refine ⟨_,haft zz0,rfl,?_⟩;(conv=>whnf)
 have c3:¬ turns=2:=by simpa using c3
 rw [zy0 c3];(conv=>whnf);refine zah (fun c4=>?_) (fun c4=>?_)
 . have c4:turns=3:=by simpa using c4
   rw [zy1 c4];(conv=>whnf);refine zbf (zw ?_);refine ⟨_,haft zz0,rfl,?_⟩;(conv=>whnf)
 have c4:¬ turns=3:=by simpa using c4
 rw [zy0 c4];(conv=>whnf);refine zah (fun c5=>?_) (fun c5=>?_)
 . have c5:turns=4:=by simpa using c5
   rw [zy1 c5];(conv=>whnf);refine ⟨{k:Nat // k<=s.had.length/\zfm q k (s.had.length-k)=zfm q 0 s.had.length},fun | ⟨k,_⟩=>hs 64 [(2,qs q),(47,i64 s.had.length),(48,i64 k)] [],fun k=>s.had.length-k.1,⟨0,by omega,rfl⟩,?_,?_⟩
   . exact zcn [] rfl rfl rfl rfl ⟨⟨rfl,rfl⟩,⟨rfl,by rw [<- hl];rfl⟩,⟨rfl,rfl⟩,trivial⟩ trivial
   . rintro ⟨k,hk,hi⟩
     (conv=>whnf);refine zah (fun h=>?_) (fun h=>?_)
     . have hlt:k<s.had.length:=by simpa using h
       (conv=>whnf);refine zbf (zw ?_);refine ⟨_,zoe q k hb,rfl,zw ?_⟩;obtain ⟨j,hj⟩:∃ j,s.had.length-k=j+1:=⟨s.had.length-k-1,by omega⟩
       rw [hj] at hi;simp only [zfm] at hi;refine zah (fun h=>?_) (fun h=>?_)
       . conv=>whnf
         rw [zy1 (zy29 h)] at hi;rw [<- hi]
       . conv=>whnf
         rw [zy0 (zy36 h)] at hi;refine zao (zbs zz0 zz0) ?_;(conv=>whnf);exact ⟨⟨k+1,by omega,by rw [show s.had.length-(k+1)=j by omega];exact hi⟩,zcn [] rfl rfl rfl rfl ⟨⟨rfl,rfl⟩,⟨rfl,rfl⟩,⟨rfl,by simp;rfl⟩,trivial⟩ trivial,by dsimp only;omega⟩
     . conv=>whnf
       have hge:s.had.length<=k:=by simpa using h
       rw [show s.had.length-k=0 by omega] at hi;rw [<- hi];rfl
 have c5:¬ turns=4:=by simpa using c5
 rw [zy0 c5];(conv=>whnf);refine zah (fun c6=>?_) (fun c6=>?_)
 . have c6:turns=5:=by simpa using c6
   rw [zy1 c6];(conv=>whnf);refine zbf (zw ?_);refine ⟨_,yuo s q h9 hb,rfl,?_⟩;(conv=>whnf)
 have c6:¬ turns=5:=by simpa using c6
 rw [zy0 c6];(conv=>whnf)
theorem yui (l:List Int) (hb:l.length<2 ^ 40):zan Tryz.prog 74 [ints l] zad (.own 0) (lk .free [(0,.live (.row 3 1 (l.map fun n=>[pi n])))]):=by
 refine zaq mixed Tryz.func74 zz4 [] (fun _=>.inl rfl) ?_;(conv=>whnf);intro b hn;(conv=>whnf);refine zah (fun c=>?_) (fun c=>?_)
 . conv=>whnf
   exact yy24
 . conv=>whnf
   refine zaa (c:=(([]:List (List PV)).length+(l.map fun n=>[pi n]).length)*8<=140737488355328) zz3 ?_;exact yy19
theorem zdx (s:zho) (hb:s.had.length<2 ^ 40):zan Tryz.prog 71 [s.hv] zad (.agg [i64 s.last,i64 s.hand,.own 0]) (lk .free [(0,.live (.row 3 1 (s.had.map fun n=>[pi n])))]):=by
 refine zaq mixed Tryz.func71 zz4 [] (fun _=>.inl rfl) ?_;(conv=>whnf);refine zat [(0,5)] (zw ?_);refine ⟨_,_,yui s.had hb,⟨⟨⟨rfl,rfl⟩,trivial⟩,rfl,rfl,rfl⟩,?_⟩;(conv=>whnf);exact zap [(0,some 5)] rfl rfl trivial rfl rfl ⟨⟨rfl,.inl ⟨5,rfl,rfl⟩⟩,trivial⟩
def had (s:zho) (m:zaj) (bytes:Int) (zzk:Bool):zho :=
 ⟨m.message.stream,if zzk then -1 else m.id,if 0<=m.message.stream/\m.message.stream<s.had.length then s.had.set m.message.stream.toNat (W (s.had[m.message.stream.toNat]?.getD 0+bytes)) else s.had⟩
def new (n:Int):zho:=⟨W (n-1),-1,List.replicate (max n 0).toNat 0⟩
end Sch
namespace Ser
abbrev zar (l:List Span):HV:=.p (.sl 2 (l.map Span.row))
def tag (n:Int):Int:=n % 65536
def zcy (a t:Int):Int:=W (a+(if tag (W (t-a))>32768 then tag (W (t-a))-65536 else tag (W (t-a))))
theorem xby (n:Int):0<=tag n/\tag n<65536:=by unfold tag;omega
theorem xhg (z:Int):tag (W z)=tag z:=by
 unfold tag W IntKind.wrap;simp [IntKind.bits,IntKind.signed];omega
theorem zin {a t:Int} (h1:-(2 ^ 61)<=a) (h2:a<=2 ^ 61):a-32767<=zcy a t/\zcy a t<=a+32768/\tag (zcy a t)=tag t:=by
 have h3:=xby (W (t-a));have h4:=xhg (t-a);unfold zcy;split
 . rw [zbs (by omega) (by omega)];refine ⟨by omega,by omega,?_⟩;rw [h4];unfold tag;omega
 . rw [zbs (by omega) (by omega)];refine ⟨by omega,by omega,?_⟩;rw [h4];unfold tag;omega
theorem yqu {a t:Int} {d:Nat} (h1:-(2 ^ 41)<=a) (h2:a<=2 ^ 41) (hd:d<=32768) (h:tag (a+d)=tag t):zcy a t=a+d:=by
 have h4:=xhg (t-a);have h5:tag (t-a)=d:=by unfold tag at h ⊢;omega
 unfold zcy;rw [h4,h5,zy0 (by omega),zbs (by omega) (by omega)]
theorem yza {a t:Int} {d:Nat} (h1:-(2 ^ 41)<=a) (h2:a<=2 ^ 41) (hd:d<32768) (h0:tag (a+d)≠tag t) (h:tag (a-d)=tag t):zcy a t=a-d:=by
 have h4:=xhg (t-a);have h5:tag (t-a)=65536-d:=by unfold tag at h h0 ⊢;omega
 unfold zcy;rw [h4,h5,zy1 (by omega),zbs (by omega) (by omega)];omega
theorem xec {a t:Int} (h:∀ j:Nat,j<32768->tag (a+j)≠tag t/\tag (a-j)≠tag t):tag (a+(32768:Nat))=tag t:=by
 have h5:=xby (t-a);by_cases c:tag (t-a)<32768
 . exact absurd (by unfold tag at c h5 ⊢;omega) (h (tag (t-a)).toNat zz0).1
 . by_cases c2:tag (t-a)=32768
   . unfold tag at c2 ⊢;omega
   . exact absurd (by unfold tag at c c2 h5 ⊢;omega) (h (65536-tag (t-a)).toNat zz0).2
def has (l:List Span) (n:Int):Bool:=l.any fun s=>decide (s.lo<=n)&&decide (n<=s.hi)
theorem zdn (n:Int):zan Tryz.prog 121 [i64 n] zad (i64 (tag n)) zad:=by
 refine zal mixed Tryz.func121 zz4 ?_;(conv=>whnf);show i64 (bits .and .i64 n 65535)=_;rw [xhj];rfl
theorem xfs (n:Int):(n.tmod 65536+65536).tmod 65536=tag n:=by
 have h1:=Int.tmod_lt_of_pos n (show (0:Int)<65536 by decide);have h2:-65536<n.tmod 65536:=by
  have:=Int.lt_tmod_of_pos n (show (0:Int)<65536 by decide);omega
 have h3:=Int.mul_tdiv_add_tmod n 65536;rw [zy89 (by omega)];unfold tag;generalize n.tmod 65536=x at *
 generalize n.tdiv 65536=y at *
 omega
theorem zdb (n:Int):zan Tryz.prog 100 [i64 n] zad (i64 (tag n)) zad:=by
 refine zal mixed Tryz.func100 zz4 ?_;have h1:=Int.tmod_lt_of_pos n (show (0:Int)<65536 by decide);have h2:-65536<n.tmod 65536:=by
  have:=Int.lt_tmod_of_pos n (show (0:Int)<65536 by decide);omega
 (conv=>whnf);refine zaa zz4 (zw ?_);refine sFm ?_;refine zaa zz4 (zw ?_);show i64 ((n.tmod 65536+65536).tmod 65536)=_;rw [xfs]
theorem zlk (a t:Int):zan Tryz.prog 76 [i64 a,i64 t] zad (i64 (zcy a t)) zad:=by
 refine zal mixed Tryz.func76 zz4 ?_;have h3:=xby (W (t-a));(conv=>whnf);refine sR ?_
 (refine cL ?_;refine dL (zdn _) ?_)
 (try refine sG ?_)
 refine zah (fun c=>?_) (fun c=>?_)
 . have c:tag (W (t-a))>32768:=by simpa using c
   (conv=>whnf);refine zao (z:=tag (W (t-a))-65536) (zbs zz0 zz0) (zw ?_);refine sR ?_;rw [zcy,zy1 c]
 . have c:¬ tag (W (t-a))>32768:=by simpa using c
   (conv=>whnf);refine sR ?_;rw [zcy,zy0 c]
structure RN (a t:Int) (d:Int):Prop where
 lo:0<=d
 le:d<=32768
 no:∀ j:Nat,j<d->tag (a+j)≠tag t/\tag (a-j)≠tag t
theorem zlm (a t:Int) (h1:-(2 ^ 40)<=a) (h2:a<=2 ^ 40):zan Tryz.prog 83 [i64 a,i64 t] zad (i64 (zcy a t)) zad:=by
 refine zal mixed Tryz.func83 zz4 ?_;(conv=>whnf);refine ⟨{d:Int // RN a t d},fun | ⟨d,_⟩=>hs 41 [(0,i64 a),(1,i64 t),(5,i64 d)] [],fun x=>(32768-x.1).toNat,⟨0,by omega,by omega,fun j hj=>absurd hj zz0⟩,?_,?_⟩
 . exact (zbi [])
 rintro ⟨d,hdn⟩;have hd0:=hdn.lo;have hd:=hdn.le;have hno:=hdn.no;(conv=>whnf);refine zah (fun c1=>?_) (fun c1=>?_)
 . have c1:d<32768:=zy29 c1
   obtain ⟨n,hn⟩:∃ n:Nat,d=n:=⟨d.toNat,by omega⟩
   (conv=>whnf);refine sFm ?_
   (refine cL ?_;refine dL (zdb _) ?_)
   (refine cL ?_;refine dL (zdb _) ?_)
   refine zah (fun c2=>?_) (fun c2=>?_)
   . have c2:tag (a+d)≠tag t:=by simpa using c2
     (conv=>whnf);refine sFm ?_
     (refine cL ?_;refine dL (zdb _) ?_)
     (refine cL ?_;refine dL (zdb _) ?_)
     refine zah (fun c3=>?_) (fun c3=>?_)
     . have c3:tag (a-d)≠tag t:=by simpa using c3
       (conv=>whnf);refine sFm ?_;refine ⟨⟨d+1,by omega,by omega,fun j hj=>?_⟩,(zbi []),by dsimp only;omega⟩;by_cases hjd:(j:Int)=d
       . rw [hjd];exact ⟨c2,c3⟩
       . exact hno j zz0
     . have c3:tag (a-d)=tag t:=by simpa using c3
       (conv=>whnf);refine sFm ?_
       (refine cL ?_;refine dL (zdb _) ?_)
       (refine cL ?_;refine dL (zdb _) ?_)
       refine zab zz29 ?_;(conv=>whnf);refine sFm ?_;rw [hn] at c1 c2 c3 ⊢;rw [yza (by omega) (by omega) (by omega) c2 c3]
   . have c2:tag (a+d)=tag t:=by simpa using c2
     (conv=>whnf);refine sFm ?_
     (refine cL ?_;refine dL (zdb _) ?_)
     (refine cL ?_;refine dL (zdb _) ?_)
     refine zac zz29 ?_;(conv=>whnf);refine sFm ?_;rw [hn] at c2 ⊢;rw [yqu (by omega) (by omega) (by omega) c2]
 . have c1:d=32768:=by have:=zy36 c1;omega
   subst c1;have c2:tag (a+32768)=tag t:=xec fun j hj=>hno j zz0
   (conv=>whnf);refine sFm ?_
   (refine cL ?_;refine dL (zdb _) ?_)
   (refine cL ?_;refine dL (zdb _) ?_)
   refine zac zz29 ?_;(conv=>whnf);refine sFm ?_;rw [yqu (d:=32768) (by omega) (by omega) (zy28 _) c2];rfl
theorem xdk {g:FuncId} {cs:List PV} {p:Span->Bool} (hg:∀ m:Span,zan Tryz.prog g [m.hv,.rp cs] zad (zbj (p m)) zad) (q:List Span) (hb:q.length<2 ^ 62) :
 zan Tryz.prog 185 [.p (.sl 2 (q.map Span.row)),.clo g [.rp cs]] zad (i64 (zca p 0 q)) zad:=by
 refine zal mixed Tryz.func185 zz4 ?_;(conv=>whnf);refine ⟨{k:Nat // k<=q.length/\zca p k (q.drop k)=zca p 0 q},fun | ⟨k,_⟩=>hs 19 [(0,.p (.sl 2 (q.map Span.row))),(1,.clo g [.rp cs]),(7,i64 (q.map Span.row).length),(8,i64 k)] [],fun k=>q.length-k.1,⟨0,by simp⟩,?_,?_⟩
 . exact (zbi [])
 . rintro ⟨k,hk,hi⟩
   exact yy5
theorem xba (s:Span) (n:Int):zan Tryz.prog 156 [s.hv,.rp [pi n]] zad (zbj (decide (s.lo<=n)&&decide (n<=s.hi))) zad:=by
 refine zal mixed Tryz.func156 zz4 ?_;(conv=>whnf);refine zah (fun c=>?_) (fun c=>?_)<;>conv=>whnf
 . show zbj (decide (n<=s.hi))=_;rw [show decide (s.lo<=n)=true from c,zy104]
 . rw [show decide (s.lo<=n)=false from c,Bool.false_and]
theorem ydh {α:Type} {p:α->Bool}:∀ (l:List α) (k:Nat),decide (zca p k l>=0)=l.any p
 | [],k=>rfl
 | x::r,k=>by
  simp only [zca,List.any_cons];split
  . rename_i h;rw [h];simp
  . rename_i h;rw [ydh r];simp [h]
theorem yep {g:FuncId} {cs:List PV} {p:Span->Bool} (hg:∀ m:Span,zan Tryz.prog g [m.hv,.rp cs] zad (zbj (p m)) zad) (q:List Span) (hb:q.length<2 ^ 62) :
 zan Tryz.prog 155 [zar q,.clo g [.rp cs]] zad (zbj (q.any p)) zad:=by
 refine zal mixed Tryz.func155 zz4 ?_;(conv=>whnf)
 (refine cZ ?_;refine dL (xdk hg q hb) ?_)
 show zbj (decide (zca p 0 q>=0))=_;rw [ydh]
theorem yry (l:List Span) (n:Int) (hb:l.length<2 ^ 62):zan Tryz.prog 120 [zar l,i64 n] zad (zbj (has l n)) zad:=by
 refine zal mixed Tryz.func120 zz4 ?_;(conv=>whnf)
 (refine cL ?_;refine dL (yep (fun m=>xba m n) l hb) ?_)
 rfl
theorem ynk (l:List Span) (n:Int) (hb:l.length<2 ^ 62):zan Tryz.prog 128 [zar l,i64 n] zad (zbj (has l n)) zad:=by
 refine zal mixed Tryz.func128 zz4 ?_;(conv=>whnf);refine ⟨{k:Nat // k<=l.length/\has (l.drop k) n=has l n},fun | ⟨k,_⟩=>hs 24 [(1,i64 n),(7,zar l),(8,i64 l.length),(9,i64 k)] [],fun x=>l.length-x.1,⟨0,by simp⟩,?_,?_⟩
 . exact (zbi [])
 rintro ⟨k,hk,hi⟩;(conv=>whnf);refine zah (fun c=>?_) (fun c=>?_)
 . have hlt:k<l.length:=by simpa using c
   rw [zy21 hlt,has,List.any_cons] at hi;(conv=>whnf);refine zcb k rfl hlt (zw ?_);generalize l[k]=s at hi ⊢;refine zah (fun c1=>?_) (fun c1=>?_)
   . have c1:s.lo<=n:=zy29 c1
     (conv=>whnf);refine zah (fun c2=>?_) (fun c2=>?_)
     . have c2:n<=s.hi:=zy29 c2
       (conv=>whnf);rw [<- hi,zy12 c1,zy12 c2];rfl
     . have c2:¬ n<=s.hi:=zy36 c2
       (conv=>whnf);refine sFm ?_;exact ⟨⟨k+1,hlt,by rw [<- hi,zy15 c2];simp [has]⟩,(zbi []),by dsimp only;omega⟩
   . have c1:¬ s.lo<=n:=zy36 c1
     (conv=>whnf);refine sFm ?_;exact ⟨⟨k+1,hlt,by rw [<- hi,zy15 c1];simp [has]⟩,(zbi []),by dsimp only;omega⟩
 . have hge:l.length<=k:=by simpa using c
   rw [zy22 hge] at hi;(conv=>whnf);rw [<- hi];rfl
end Ser
namespace Sco
open Ser
abbrev zec (l:List zbq):HV:=.p (.sl 20 (l.map zbq.row))
abbrev zbm (l:List zdv):HV:=.p (.sl 3 (l.map zdv.row))
abbrev zjt (l:List zbq):zai:=.live (.row 134 20 (l.map zbq.row))
abbrev yjr (l:List zdv):zai:=.live (.row 180 3 (l.map zdv.row))
abbrev ydj (l:List Int):zai:=.live (.row 3 1 (l.map fun n=>[pi n]))
def total (l:List zbq):Nat:=(l.map fun s=>s.chunk.data.length).sum
theorem zik (a b:List zbq):total (a++b)=total a+total b:=by simp [total]
theorem zhc (s:zbq) (b:List zbq):total (s::b)=s.chunk.data.length+total b:=by simp [total]
structure zfd (l:List zbq):Prop where
 len:l.length<2 ^ 38
 bytes:total l<2 ^ 38
theorem zdg (l:List UInt8) (hb:l.length<2 ^ 40):zan Tryz.prog 70 [.p (.sl 1 (l.map zcs))] zad (.own 0) (lk .free [(0,.live (.row 5 1 (l.map zcs)))]):=by
 refine zaq mixed Tryz.func70 zz4 [] (fun _=>.inl rfl) ?_;(conv=>whnf);intro b hn;(conv=>whnf);refine zah (fun c=>?_) (fun c=>?_)
 . conv=>whnf
   exact yy24
 . conv=>whnf
   refine zaa (c:=(([]:List (List PV)).length+(l.map zcs).length)*1<=140737488355328) zz3 ?_;exact yy19
theorem yln (l:List zdv) (hb:l.length<2 ^ 40):zan Tryz.prog 157 [.p (.sl 3 (l.map zdv.row))] zad (.own 0) (lk .free [(0,.live (.row 180 3 (l.map zdv.row)))]):=by
 refine zaq mixed Tryz.func157 zz4 [] (fun _=>.inl rfl) ?_;(conv=>whnf);intro b hn;(conv=>whnf);refine zah (fun c=>?_) (fun c=>?_)
 . conv=>whnf
   exact yy24
 . conv=>whnf
   refine zaa (c:=(([]:List (List PV)).length+(l.map zdv.row).length)*24<=140737488355328) zz3 ?_;exact yy19
theorem zdx (l:List zbq) (hl:zfd l):zan Tryz.prog 72 [zec l] zad (.own 0) (lk .free [(0,zjt l)]):=by
 obtain ⟨hl1,hl2⟩:=hl;refine zaq mixed Tryz.func72 zz4 [] (fun _=>.inl rfl) ?_;(conv=>whnf);refine ⟨{x:List zbq×List zbq // l=x.1++x.2},fun | ⟨(a,b),_⟩=>hs 24 [(3,.own 900),(6,zec l),(7,i64 l.length),(8,i64 a.length)] [(900,zjt a)],fun x=>x.1.2.length,⟨([],l),rfl⟩,?_,?_⟩
 . exact (zbi [(900,none)])
 rintro ⟨⟨a,b⟩,h⟩;dsimp only at h;cases b with
 | nil =>
  have hz:=zbp h;(conv=>whnf);refine sN ?_;refine zap [(0,some 900)] rfl rfl trivial rfl rfl ⟨⟨rfl,.inl ⟨900,rfl,?_⟩⟩,trivial⟩;show zjt a=zjt l;rw [h,zy4]
 | cons s b =>
  have hz:=zbd h;rw [h,zik,zhc] at hl2;(conv=>whnf);refine sT ?_;refine zak h rfl (zw ?_)
  (refine zat [(0,15)]  ?_;(conv=>whnf);refine dO (zdg s.chunk.data zz0) ?_)
  refine zaa (c:=((a.map zbq.row).length+1)*200<=140737488355328) om ?_;(conv=>whnf);refine sF ?_;exact ⟨⟨(a++[s],b),zag h⟩,(zay [(900,some 21)] (by repeat' (first | exact z0 | refine z1 ?_ | refine ⟨?_,?_⟩ | (exact zen rfl) | exact z2))),by simp⟩
def fl (path:Int) (l:List zbq):Nat:=(l.map fun s=>if s.state=1/\s.path=path then s.chunk.data.length else 0).sum
theorem ypk (p:Int) (a b:List zbq):fl p (a++b)=fl p a+fl p b:=by simp [fl]
theorem zwo (p:Int) (s:zbq):fl p [s]=if s.state=1/\s.path=p then s.chunk.data.length else 0:=by simp [fl]
theorem xcx (p:Int):∀ l:List zbq,fl p l<=total l
 | []=>by simp [fl,total]
 | s::r=>by
  have:=xcx p r;simp only [fl,total,zy40,zy144] at this ⊢;split<;>omega
theorem zpr (l:List zbq) (path:Int) (hl:zfd l):zan Tryz.prog 122 [zec l,i64 path] zad (i64 (fl path l)) zad:=by
 obtain ⟨hl1,hl2⟩:=hl;refine zal mixed Tryz.func122 zz4 ?_;(conv=>whnf);refine ⟨{x:List zbq×List zbq // l=x.1++x.2},fun | ⟨(a,b),_⟩=>hs 31 [(1,i64 path),(5,i64 (fl path a)),(8,zec l),(9,i64 l.length),(10,i64 a.length)] [],fun x=>x.1.2.length,⟨([],l),rfl⟩,?_,?_⟩
 . exact (zbi [])
 rintro ⟨⟨a,b⟩,h⟩;dsimp only at h;cases b with
 | nil =>
  have hz:=zbp h;(conv=>whnf);refine sN ?_;rw [h,zy4]
 | cons s b =>
  have hz:=zbd h;have hf:=xcx path a;rw [h,zik,zhc] at hl2;have e1:=ypk path a [s];rw [zwo] at e1;(conv=>whnf);refine sT ?_
  (try refine sG ?_)
  refine zak h rfl (zw ?_);refine zah (fun c1=>?_) (fun c1=>?_)
  . conv=>whnf
    refine zah (fun c2=>?_) (fun c2=>?_)
    . conv=>whnf
      rw [zy1 ⟨by simpa using c1,by simpa using c2⟩] at e1;refine sF ?_;refine sF ?_;exact ⟨⟨(a++[s],b),zag h⟩,(zay [] zz20),by simp⟩
    . conv=>whnf
      rw [zy0 (by rintro ⟨h1,h2⟩;simp [h2] at c2)] at e1;refine sF ?_;exact ⟨⟨(a++[s],b),zag h⟩,(zay [] zz20),by simp⟩
  . conv=>whnf
    rw [zy0 (by rintro ⟨h1,h2⟩;simp [h1] at c1)] at e1;refine sF ?_;exact ⟨⟨(a++[s],b),zag h⟩,(zay [] zz20),by simp⟩
def zgk (id:Int) (s:zbq):zbq:=if s.id=id/\s.state≠2 then {s with state:=4} else s
def late (path:Int) (s:zbq):zbq:=if s.state=1/\s.path=path then {s with state:=3} else s
theorem zri (l:List zbq) (id:Int) (hl:zfd l):zan Tryz.prog 162 [zec l,i64 id] zad (.own 0) (lk .free [(0,zjt (l.map (zgk id)))]):=by
 have hl1:=hl.len;refine zaq mixed Tryz.func162 zz4 [] (fun _=>.inl rfl) ?_;(conv=>whnf)
 (refine zat [(0,8)]  ?_;(conv=>whnf);refine dO (zdx l hl) ?_)
 refine ⟨{x:List zbq×List zbq // l=x.1++x.2},fun | ⟨(a,b),_⟩=>hs 35 [(1,i64 id),(5,.own 900),(10,i64 l.length),(11,i64 a.length)] [(900,zjt (a.map (zgk id)++b))],fun x=>x.1.2.length,⟨([],l),rfl⟩,?_,?_⟩
 . exact (zbi [(900,some 8)])
 rintro ⟨⟨a,b⟩,h⟩;dsimp only at h;cases b with
 | nil =>
  have hz:=zbp h;(conv=>whnf);refine sN ?_;refine zap [(0,some 900)] rfl rfl trivial rfl rfl ⟨⟨rfl,.inl ⟨900,rfl,?_⟩⟩,trivial⟩;show zjt (a.map (zgk id)++[])=zjt (l.map (zgk id));rw [h,zy4,zy4]
 | cons s b =>
  have hz:=zbd h;have hm:a.length=(a.map (zgk id)).length:=by simp
  have e0:(a++[s]).map (zgk id)++b=a.map (zgk id)++zgk id s::b:=by simp
  (conv=>whnf);refine sT ?_
  (try refine sG ?_)
  refine sO ?_;refine zak (a:=a.map (zgk id)) (b:=b) (s:=s) rfl zz5 (zw ?_);refine zah (fun c1=>?_) (fun c1=>?_)
  . conv=>whnf
    refine sO ?_;refine zak (a:=a.map (zgk id)) (b:=b) (s:=s) rfl zz5 (zw ?_);refine zah (fun c2=>?_) (fun c2=>?_)
    . have e1:zgk id s={s with state:=4}:=zy1 ⟨by simpa using c1,by simpa using c2⟩
      (conv=>whnf);refine sO ?_;refine zak (a:=a.map (zgk id)) (b:=b) (s:=s) rfl zz5 (zw ?_);refine sF ?_;exact ⟨⟨(a++[s],b),zag h⟩,(zay [(900,some 900)] zz26),by simp⟩
    . have e1:zgk id s=s:=zy0 (by rintro ⟨_,h2⟩;exact h2 (by simpa using c2))
      exact yy65
  . have e1:zgk id s=s:=zy0 (by rintro ⟨h2,_⟩;simp [h2] at c1)
    exact yy65
theorem zyf (l:List zbq) (path:Int) (hl:zfd l):zan Tryz.prog 90 [zec l,i64 path] zad (.own 0) (lk .free [(0,zjt (l.map (late path)))]):=by
 have hl1:=hl.len;refine zaq mixed Tryz.func90 zz4 [] (fun _=>.inl rfl) ?_;(conv=>whnf)
 (refine zat [(0,8)]  ?_;(conv=>whnf);refine dO (zdx l hl) ?_)
 refine ⟨{x:List zbq×List zbq // l=x.1++x.2},fun | ⟨(a,b),_⟩=>hs 35 [(1,i64 path),(5,.own 900),(10,i64 l.length),(11,i64 a.length)] [(900,zjt (a.map (late path)++b))],fun x=>x.1.2.length,⟨([],l),rfl⟩,?_,?_⟩
 . exact (zbi [(900,some 8)])
 rintro ⟨⟨a,b⟩,h⟩;dsimp only at h;cases b with
 | nil =>
  have hz:=zbp h;(conv=>whnf);refine sN ?_;refine zap [(0,some 900)] rfl rfl trivial rfl rfl ⟨⟨rfl,.inl ⟨900,rfl,?_⟩⟩,trivial⟩;show zjt (a.map (late path)++[])=zjt (l.map (late path));rw [h,zy4,zy4]
 | cons s b =>
  have hz:=zbd h;have hm:a.length=(a.map (late path)).length:=by simp
  have e0:(a++[s]).map (late path)++b=a.map (late path)++late path s::b:=by simp
  (conv=>whnf);refine sT ?_
  (try refine sG ?_)
  refine sO ?_;refine zak (a:=a.map (late path)) (b:=b) (s:=s) rfl zz5 (zw ?_);refine zah (fun c1=>?_) (fun c1=>?_)
  . conv=>whnf
    refine sO ?_;refine zak (a:=a.map (late path)) (b:=b) (s:=s) rfl zz5 (zw ?_);refine zah (fun c2=>?_) (fun c2=>?_)
    . have e1:late path s={s with state:=3}:=zy1 ⟨by simpa using c1,by simpa using c2⟩
      (conv=>whnf);refine sO ?_;refine zak (a:=a.map (late path)) (b:=b) (s:=s) rfl zz5 (zw ?_);refine sF ?_;exact ⟨⟨(a++[s],b),zag h⟩,(zay [(900,some 900)] zz26),by simp⟩
    . have e1:late path s=s:=zy0 (by rintro ⟨_,h2⟩;simp [h2] at c2)
      exact yy65
  . have e1:late path s=s:=zy0 (by rintro ⟨h2,_⟩;simp [h2] at c1)
    exact yy65
def zdh (c:Chunk) (s:zdv):Bool:=s.stream==c.stream&&s.ordered==c.ordered&&(c.ordered||s.mid==c.mid)
def skip (c:Chunk):List zdv->List zdv
 | []=>[⟨c.stream,c.mid,c.ordered⟩]
 | s::r=>if zdh c s then ⟨s.stream,c.mid,s.ordered⟩::r else s::skip c r
theorem znj {c:Chunk}:∀ {a:List zdv},(∀ s∈a,zdh c s=false)->∀ b,skip c (a++b)=a++skip c b
 | [],_,b=>rfl
 | s::r,h,b=>by
  rw [zy44,skip,zy0 (by rw [h s (by simp)];decide),znj fun x hx=>h x zz52];rfl
theorem zyl (l:List zdv) (c:Chunk) (hl:l.length<2 ^ 38):zan Tryz.prog 123 [zbm l,c.hv] zad (.own 0) (lk .free [(0,yjr (skip c l))]):=by
 refine zaq mixed Tryz.func123 zz4 [] (fun _=>.inl rfl) ?_;(conv=>whnf)
 (refine zat [(0,9)]  ?_;(conv=>whnf);refine dO (yln l zz0) ?_)
 refine ⟨{x:List zdv×List zdv // l=x.1++x.2/\∀ s∈x.1,zdh c s=false},fun | ⟨(a,b),_⟩=>hs 58 [(3,.ptr 3 0),(5,.own 900),(10,.own 900),(11,i64 l.length),(12,i64 a.length)] [(3,.live (.cells 61 c.cells)),(900,yjr l)],fun x=>x.1.2.length,⟨([],l),rfl,by simp⟩,?_,?_⟩
 . exact (zbi [(3,some 3),(900,some 9)])
 rintro ⟨⟨a,b⟩,h,hno⟩;dsimp only at h hno;cases b with
 | nil =>
  have hz:=zbp h;(conv=>whnf);refine sN ?_;refine zaa (c:=((l.map zdv.row).length+1)*24<=140737488355328) om (zw ?_);refine zap [(0,some 57)] rfl rfl trivial rfl rfl ⟨⟨rfl,.inl ⟨57,rfl,?_⟩⟩,trivial⟩;have e1:=znj hno [];rw [<- h] at e1;exact (zen (f:=zdv.row) (a:=l) (x:=⟨c.stream,c.mid,c.ordered⟩) (by rw [e1,h,zy4];rfl)).symm
 | cons s b =>
  have hz:=zbd h;have yes:zdh c s=true->skip c l=a++⟨s.stream,c.mid,s.ordered⟩::b:=by
   intro hm;rw [h,znj hno,skip,zy1 hm]
  have nxt:zdh c s=false->∀ x∈a++[s],zdh c x=false:=by
   intro hm x hx;rcases zy13.1 hx with hx | hx
   . exact hno x hx
   . rw [zy11.1 hx];exact hm
  (conv=>whnf);refine sT ?_;refine sO ?_;refine zak h rfl (zw ?_);have hy:zdh c s=true->zai.live (zjx.row 180 3 (((l.map zdv.row).set a.length [pi s.stream,pi c.mid,pb s.ordered])))=yjr (skip c l):=by
   intro hm;rw [yes hm,h];exact (zel (f:=zdv.row) (a:=a) (b:=b) (x:=s) (y:=⟨s.stream,c.mid,s.ordered⟩) rfl rfl).symm
  simp only [zdh] at hy nxt;refine zah (fun c1=>?_) (fun c1=>?_)
  . conv=>whnf
    refine zah (fun c2=>?_) (fun c2=>?_)
    . conv=>whnf
      refine zah (fun c3=>?_) (fun c3=>?_)
      . conv=>whnf
        refine sO ?_;refine zak h rfl (zw ?_);refine zap [(0,some 900)] rfl rfl trivial rfl rfl ⟨⟨rfl,.inl ⟨900,rfl,?_⟩⟩,trivial⟩;exact hy (by rw [c1,c2,c3];rfl)
      . conv=>whnf
        refine zah (fun c4=>?_) (fun c4=>?_)
        . conv=>whnf
          refine sO ?_;refine zak h rfl (zw ?_);refine zap [(0,some 900)] rfl rfl trivial rfl rfl ⟨⟨rfl,.inl ⟨900,rfl,?_⟩⟩,trivial⟩;exact hy (by rw [c1,c2,c3,c4];rfl)
        . conv=>whnf
          refine sF ?_;exact ⟨⟨(a++[s],b),zag h,nxt (by simp only [c3,c4];simp)⟩,(zbi [(3,some 3),(900,some 900)]),by simp⟩
    . conv=>whnf
      refine sF ?_;exact ⟨⟨(a++[s],b),zag h,nxt (by simp only [c2];simp)⟩,(zbi [(3,some 3),(900,some 900)]),by simp⟩
  . conv=>whnf
    refine sF ?_;exact ⟨⟨(a++[s],b),zag h,nxt (by simp only [c1];simp)⟩,(zbi [(3,some 3),(900,some 900)]),by simp⟩
theorem yeh (c:Chunk):∀ l:List zdv,(skip c l).length<=l.length+1
 | []=>by simp [skip]
 | s::r=>by
  have:=yeh c r;simp only [skip];split<;>simp<;>omega
def zde (cum:Int) (sk:List zdv):List zbq->Int×List zdv
 | []=>(cum,sk)
 | s::r=>if s.number≠W (cum+1)\/(s.state≠4/\s.state≠2) then (cum,sk) else
  if s.state=4 then (if (skip s.chunk sk).length>8 then (cum,sk) else zde s.number (skip s.chunk sk) r) else zde s.number sk r
def zea (l:List zbq) (cum:Int):Int×List zdv:=zde cum [] l
end Sco
namespace Sco
open Ser
def here (c:Chunk) (n:Int) (s:zbq):Bool:=decide (s.number<=n)||has c.zar (W (s.number-n))
def comes (c:Chunk) (n:Int) (s:zbq):Bool:=here c n s&&(s.state==1||s.state==3)
def zbh (c:Chunk) (n:Int) (s:zbq):zbq:=if comes c n s then {s with state:=2} else s
def left (c:Chunk) (n:Int) (l:List zbq):List zbq:=(l.filter fun s=>decide (s.number>n)).map (zbh c n)
def yca (zga:List Int) (p x:Int):List Int:=zga.set p.toNat (W (zga[p.toNat]?.getD 0+x))
def zpb (c:Chunk) (n:Int) (zga:List Int) (s:zbq):List Int:=if comes c n s then yca zga s.path s.chunk.data.length else zga
def zwh (c:Chunk) (n:Int) (paths:Nat) (l:List zbq):List Int:=l.foldl (zpb c n) (List.replicate paths 0)
def zpg (c:Chunk) (n:Int) (h:Int) (s:zbq):Int:=if comes c n s then s.number else h
def zih (c:Chunk) (n:Int) (l:List zbq):Int:=l.foldl (zpg c n) 0
def age (h:Int) (s:zbq):zbq:=if s.state=1/\s.number<h then (if W (s.missed+1)>=3 then {s with missed:=W (s.missed+1),state:=3} else {s with missed:=W (s.missed+1)}) else s
def lost (h:Int) (l:List zbq):List Int:=(l.filter fun s=>decide (s.state=1/\s.number<h/\W (s.missed+1)>=3)).map zbq.number
def zgj (l:List zbq) (cum:Int) (c:Chunk) (paths:Int):List zbq×Int×List Int×List Int :=
 if zcy cum c.tag<cum\/zcy cum c.tag>cum+l.length then (l,cum,List.replicate paths.toNat 0,[]) else
  ((left c (zcy cum c.tag) l).map (age (zih c (zcy cum c.tag) l)),zcy cum c.tag,zwh c (zcy cum c.tag) paths.toNat l,lost (zih c (zcy cum c.tag) l) (left c (zcy cum c.tag) l))
structure ykz (l:List zbq) (cum paths:Int):Prop where
 path:∀ s∈l,0<=s.path/\s.path<paths
 p0:1<=paths
 p1:paths<=2
 c0:-1<=cum
 c1:cum<2 ^ 39
 zfr:∀ (i:Nat) s,l[i]?=some s->s.number=cum+1+i
theorem ykz.at {l:List zbq} {cum paths:Int} (h:ykz l cum paths) {a b:List zbq} {s:zbq} (e:l=a++s::b):s.number=cum+1+a.length/\0<=s.path/\s.path<paths :=
 ⟨h.zfr a.length s (by rw [e];simp),h.path s (zgx e)⟩
theorem yvx (zga:List Int) (p x:Int):(yca zga p x).length=zga.length:=by simp [yca]
theorem znv (c:Chunk) (n:Int) (paths:Nat) (l:List zbq):(zwh c n paths l).length=paths:=by
 have gen:∀ (l:List zbq) (z:List Int),(l.foldl (zpb c n) z).length=z.length:=by
  intro l
  induction l with
  | nil=>intro z;rfl
  | cons s r ih=>intro z;rw [zy49,ih,zpb];split;exact yvx _ _ _;rfl
 rw [zwh,gen];simp
structure SI (l:List zbq) (c:Chunk) (n:Int) (paths:Nat) (cum:Int) (x:List zbq×List zbq×List zbq×List Int×Int):Prop where
 split:l=x.1++x.2.1
 out:x.2.2.1=left c n x.1
 zga:x.2.2.2.1=zwh c n paths x.1
 high:x.2.2.2.2=zih c n x.1
 h0:0<=x.2.2.2.2
 h1:x.2.2.2.2<=cum+1+x.1.length
theorem yyt (c:Chunk) (n:Int) (a:List zbq) (s:zbq):left c n (a++[s])=left c n a++if s.number>n then [zbh c n s] else []:=by
 simp only [left,zy47,zy39];congr 1;by_cases h:s.number>n<;>simp [h]
theorem ylo (c:Chunk) (n:Int) (p:Nat) (a:List zbq) (s:zbq):zwh c n p (a++[s])=zpb c n (zwh c n p a) s:=by simp [zwh]
theorem yme (c:Chunk) (n:Int) (a:List zbq) (s:zbq):zih c n (a++[s])=zpg c n (zih c n a) s:=by simp [zih]
section
variable {l a b out:List zbq} {c:Chunk} {n cum high:Int} {paths:Nat} {zga:List Int} {s:zbq}
theorem SI.next (h:SI l c n paths cum (a,s::b,out,zga,high)) (hs:s.number=cum+1+a.length) (hc:-1<=cum) :
 SI l c n paths cum (a++[s],b,out++(if s.number>n then [zbh c n s] else []),zpb c n zga s,zpg c n high s):=by
 obtain ⟨h1,h2,h3,h4,h5,h6⟩:=h;dsimp only at h1 h2 h3 h4 h5 h6;refine ⟨zag h1,?_,?_,?_,?_,?_⟩<;>dsimp only
 . rw [yyt,h2]
 . rw [ylo,h3]
 . rw [yme,h4]
 . rw [zpg];split<;>omega
 . rw [zpg];simp only [zy9,zy6,zy14];split<;>push_cast<;>omega
end
end Sco
namespace Chk
abbrev yel (l:List Span):HV:=.p (.sl 2 (l.map Span.row))
abbrev yei (l:List zdv):HV:=.p (.sl 3 (l.map zdv.row))
def small (n:Int):Bool:=decide (0<=n/\n<65536)
def zeh (last:Int):List Span->Int
 | []=>0
 | s::r=>if s.lo<=last\/s.hi<s.lo\/¬ (0<=s.hi/\s.hi<65536) then 3 else zeh (s.hi+1) r
def zeg:List zdv->Int
 | []=>0
 | s::r=>if s.stream<0\/s.stream>=4\/¬ (0<=s.mid/\s.mid<65536) then 3 else zeg r
def zdi (c:Chunk):Int :=
 if c.kind<1\/c.kind>3 then 1 else
 if ¬ (0<=c.tag/\c.tag<65536) then 3 else
 if c.kind=1 then
  if c.stream<0\/c.stream>=4\/¬ (0<=c.mid/\c.mid<65536)\/c.part<0\/c.part>255 then 3 else
  if c.data.length<1\/c.data.length>16 then 4 else 0
 else if c.kind=2 then
  if ¬ (0<=c.room/\c.room<65536) then 3 else
  if c.zar.length>6 then 5 else zeh 1 c.zar
 else if c.zbm.length>8 then 5 else zeg c.zbm
theorem ztl (n:Int):zan Tryz.prog 202 [i64 n] zad (zbj (small n)) zad:=by
 refine zal mixed Tryz.func202 zz4 ?_;(conv=>whnf);refine zah (fun h=>?_) (fun h=>?_)<;>conv=>whnf
 . have h:=zy29 h
   rw [show decide (n<65536)=small n from by simp only [small];congr 1;simp;omega]
 . have h:=zy36 h
   rw [show small n=false from zy15 (by omega)]
theorem zth (n:Int):zan Tryz.prog 190 [i64 n] zad (zbj (small n)) zad:=by
 refine zal mixed Tryz.func190 zz4 ?_;(conv=>whnf);refine zah (fun h=>?_) (fun h=>?_)<;>conv=>whnf
 . have h:=zy29 h
   rw [show decide (n<=65535)=small n from by simp only [small];congr 1;simp;omega]
 . have h:=zy36 h
   rw [show small n=false from zy15 (by omega)]
theorem ybq (c:Chunk) (h9:c.zar.length<2 ^ 40) (h8:c.zbm.length<2 ^ 40):zan Tryz.prog 187 [c.hv] zad (i64 (zdi c)) zad:=by
 refine zal mixed Tryz.func187 zz4 ?_;(conv=>whnf)
 (repeat' (first | (refine zcg ?_;conv=>whnf) | (refine zaa ?_ ?_;(first | kernel_rfl | decide);conv=>whnf) | (refine zaw ?_ ?_;kernel_rfl;conv=>whnf) | (refine zil.go ?_;conv=>whnf) | (refine zbf ?_;(conv=>whnf);refine ⟨_,ztl _,rfl,?_⟩;conv=>whnf) | (refine zah (fun h=>?_) (fun h=>?_)<;>conv=>whnf)))
 all_goals try simp only [zy45,zy52,zy17,zy5,zy34,zy35,small,zy3] at *
 all_goals first | (simp only [zdi];(repeat' split)<;>first | rfl | omega) | skip
 . have hw:zdi c=zeh 1 c.zar:=by simp only [zdi];(repeat' split)<;>first | rfl | omega
   rw [hw];refine ⟨{x:Nat×Int // x.1<=c.zar.length/\zeh x.2 (c.zar.drop x.1)=zeh 1 c.zar/\x.2<70000/\0<x.2},fun | ⟨(k,last),_⟩=>hs 128 [(3,.clo 202 []),(4,i64 last),(100,yel c.zar),(101,i64 c.zar.length),(102,i64 k)] [],fun x=>c.zar.length-x.1.1,⟨(0,1),by simp,rfl,by decide,by decide⟩,?_,?_⟩
   . exact zcn [] rfl rfl rfl rfl ⟨⟨rfl,rfl⟩,⟨rfl,rfl⟩,⟨rfl,rfl⟩,⟨rfl,by simp;rfl⟩,⟨rfl,rfl⟩,trivial⟩ trivial
   . rintro ⟨⟨k,last⟩,hk,hi,hlast,hlast0⟩
     dsimp only at hk hi hlast;(conv=>whnf);refine zah (fun h=>?_) (fun h=>?_)
     . have hlt:k<c.zar.length:=by simpa using h
       (conv=>whnf);refine zcf (r:=(c.zar[k]).row) zz0 (by rw [zy24,zy19,zy2 hlt];rfl) ?_;rw [zy21 hlt] at hi;simp only [zeh] at hi;generalize c.zar[k]=s at hi ⊢;(conv=>whnf)
       (repeat' (first | (refine zcg ?_;conv=>whnf) | (refine zaa ?_ ?_;(first | kernel_rfl | decide);conv=>whnf) | (refine zaw ?_ ?_;kernel_rfl;conv=>whnf) | (refine zil.go ?_;conv=>whnf) | (refine zbf ?_;(conv=>whnf);refine ⟨_,ztl _,rfl,?_⟩;conv=>whnf) | (refine zah (fun h=>?_) (fun h=>?_)<;>conv=>whnf)))
       all_goals try simp only [zy45,zy52,zy17,zy5,zy34,zy35,small,zy3] at *
       all_goals first | (rw [zy1 (by omega)] at hi;rw [<- hi]) | skip
       rw [zy0 (by omega)] at hi;have e2:W ((k:Int)+1)=((k+1:Nat):Int):=yvw hlt zz0;have e1:W (s.hi+1)=s.hi+1:=zbs zz0 zz0;exact ⟨⟨(k+1,s.hi+1),hlt,hi,by dsimp only;omega,by dsimp only;omega⟩,zcn [] rfl rfl rfl rfl ⟨⟨rfl,rfl⟩,⟨rfl,congrArg i64 e1.symm⟩,⟨rfl,rfl⟩,⟨rfl,rfl⟩,⟨rfl,congrArg i64 e2.symm⟩,trivial⟩ trivial,by dsimp only;omega⟩
     . have hge:c.zar.length<=k:=by simpa using h
       rw [zy22 hge] at hi;(conv=>whnf);rw [<- hi];rfl
 . have hw:zdi c=zeg c.zbm:=by simp only [zdi];(repeat' split)<;>first | rfl | omega
   rw [hw];refine ⟨{k:Nat // k<=c.zbm.length/\zeg (c.zbm.drop k)=zeg c.zbm},fun | ⟨k,_⟩=>hs 128 [(3,.clo 202 []),(29,yei c.zbm),(30,i64 c.zbm.length),(31,i64 k)] [],fun x=>c.zbm.length-x.1,⟨0,by simp,rfl⟩,?_,?_⟩
   . exact zcn [] rfl rfl rfl rfl ⟨⟨rfl,rfl⟩,⟨rfl,rfl⟩,⟨rfl,by simp;rfl⟩,⟨rfl,rfl⟩,trivial⟩ trivial
   . rintro ⟨k,hk,hi⟩
     (conv=>whnf);refine zah (fun h=>?_) (fun h=>?_)
     . have hlt:k<c.zbm.length:=by simpa using h
       (conv=>whnf);refine zcf (r:=(c.zbm[k]).row) zz0 (by rw [zy24,zy19,zy2 hlt];rfl) ?_;rw [zy21 hlt] at hi;simp only [zeg] at hi;generalize c.zbm[k]=s at hi ⊢;(conv=>whnf)
       (repeat' (first | (refine zcg ?_;conv=>whnf) | (refine zaa ?_ ?_;(first | kernel_rfl | decide);conv=>whnf) | (refine zaw ?_ ?_;kernel_rfl;conv=>whnf) | (refine zil.go ?_;conv=>whnf) | (refine zbf ?_;(conv=>whnf);refine ⟨_,ztl _,rfl,?_⟩;conv=>whnf) | (refine zah (fun h=>?_) (fun h=>?_)<;>conv=>whnf)))
       all_goals try simp only [zy45,zy52,zy17,zy5,zy34,zy35,small,zy3] at *
       all_goals first | (rw [zy1 (by omega)] at hi;rw [<- hi]) | skip
       rw [zy0 (by omega)] at hi;have e2:W ((k:Int)+1)=((k+1:Nat):Int):=yvw hlt zz0;exact ⟨⟨k+1,hlt,hi⟩,zcn [] rfl rfl rfl rfl ⟨⟨rfl,rfl⟩,⟨rfl,rfl⟩,⟨rfl,rfl⟩,⟨rfl,congrArg i64 e2.symm⟩,trivial⟩ trivial,by dsimp only;omega⟩
     . have hge:c.zbm.length<=k:=by simpa using h
       rw [zy22 hge] at hi;(conv=>whnf);rw [<- hi];rfl
theorem zhx (c:Chunk) (h9:c.zar.length<2 ^ 40) (h8:c.zbm.length<2 ^ 40):zan Tryz.prog 169 [c.hv] zad (i64 (zdi c)) zad:=by
 refine zal mixed Tryz.func169 zz4 ?_;(conv=>whnf)
 (repeat' (first | (refine zcg ?_;conv=>whnf) | (refine zaa ?_ ?_;(first | kernel_rfl | decide);conv=>whnf) | (refine zaw ?_ ?_;kernel_rfl;conv=>whnf) | (refine zil.go ?_;conv=>whnf) | (refine zbf ?_;(conv=>whnf);refine ⟨_,zth _,rfl,?_⟩;conv=>whnf) | (refine zah (fun h=>?_) (fun h=>?_)<;>conv=>whnf)))
 all_goals try simp only [zy45,zy52,zy17,zy5,zy34,zy35,small,zy3] at *
 all_goals first | (simp only [zdi];(repeat' split)<;>first | rfl | omega) | skip
 . have hw:zdi c=zeh 1 c.zar:=by simp only [zdi];(repeat' split)<;>first | rfl | omega
   rw [hw];refine ⟨{x:Nat×Int // x.1<=c.zar.length/\zeh x.2 (c.zar.drop x.1)=zeh 1 c.zar/\x.2<70000/\0<x.2},fun | ⟨(k,last),_⟩=>hs 121 [(3,i64 (last+1)),(69,yel c.zar),(70,i64 c.zar.length),(71,i64 k)] [],fun x=>c.zar.length-x.1.1,⟨(0,1),by simp,rfl,by decide,by decide⟩,?_,?_⟩
   . exact zcn [] rfl rfl rfl rfl ⟨⟨rfl,rfl⟩,⟨rfl,rfl⟩,⟨rfl,by simp;rfl⟩,⟨rfl,rfl⟩,trivial⟩ trivial
   . rintro ⟨⟨k,last⟩,hk,hi,hlast,hlast0⟩
     dsimp only at hk hi hlast;(conv=>whnf);refine zah (fun h=>?_) (fun h=>?_)
     . have hlt:k<c.zar.length:=by simpa using h
       (conv=>whnf);refine zcf (r:=(c.zar[k]).row) zz0 (by rw [zy24,zy19,zy2 hlt];rfl) ?_;rw [zy21 hlt] at hi;simp only [zeh] at hi;generalize c.zar[k]=s at hi ⊢;(conv=>whnf)
       (repeat' (first | (refine zcg ?_;conv=>whnf) | (refine zaa ?_ ?_;(first | kernel_rfl | decide);conv=>whnf) | (refine zaw ?_ ?_;kernel_rfl;conv=>whnf) | (refine zil.go ?_;conv=>whnf) | (refine zbf ?_;(conv=>whnf);refine ⟨_,zth _,rfl,?_⟩;conv=>whnf) | (refine zah (fun h=>?_) (fun h=>?_)<;>conv=>whnf)))
       all_goals try simp only [zy45,zy52,zy17,zy5,zy34,zy35,small,zy3] at *
       all_goals first | (rw [zy1 (by omega)] at hi;rw [<- hi]) | skip
       rw [zy0 (by omega)] at hi;have e2:W ((k:Int)+1)=((k+1:Nat):Int):=yvw hlt zz0;have e1:W (s.hi+2)=s.hi+2:=zbs zz0 zz0;exact ⟨⟨(k+1,s.hi+1),hlt,hi,by dsimp only;omega,by dsimp only;omega⟩,zcn [] rfl rfl rfl rfl ⟨⟨rfl,congrArg i64 (show W (s.hi+2)=s.hi+1+1 by rw [e1];omega).symm⟩,⟨rfl,rfl⟩,⟨rfl,rfl⟩,⟨rfl,congrArg i64 e2.symm⟩,trivial⟩ trivial,by dsimp only;omega⟩
     . have hge:c.zar.length<=k:=by simpa using h
       rw [zy22 hge] at hi;(conv=>whnf);rw [<- hi];rfl
 . have hw:zdi c=zeg c.zbm:=by simp only [zdi];(repeat' split)<;>first | rfl | omega
   rw [hw];refine ⟨{k:Nat // k<=c.zbm.length/\zeg (c.zbm.drop k)=zeg c.zbm},fun | ⟨k,_⟩=>hs 121 [(100,yei c.zbm),(101,i64 c.zbm.length),(102,i64 k)] [],fun x=>c.zbm.length-x.1,⟨0,by simp,rfl⟩,?_,?_⟩
   . exact zcn [] rfl rfl rfl rfl ⟨⟨rfl,rfl⟩,⟨rfl,by simp;rfl⟩,⟨rfl,rfl⟩,trivial⟩ trivial
   . rintro ⟨k,hk,hi⟩
     (conv=>whnf);refine zah (fun h=>?_) (fun h=>?_)
     . have hlt:k<c.zbm.length:=by simpa using h
       (conv=>whnf);refine zcf (r:=(c.zbm[k]).row) zz0 (by rw [zy24,zy19,zy2 hlt];rfl) ?_;rw [zy21 hlt] at hi;simp only [zeg] at hi;generalize c.zbm[k]=s at hi ⊢;(conv=>whnf)
       (repeat' (first | (refine zcg ?_;conv=>whnf) | (refine zaa ?_ ?_;(first | kernel_rfl | decide);conv=>whnf) | (refine zaw ?_ ?_;kernel_rfl;conv=>whnf) | (refine zil.go ?_;conv=>whnf) | (refine zbf ?_;(conv=>whnf);refine ⟨_,zth _,rfl,?_⟩;conv=>whnf) | (refine zah (fun h=>?_) (fun h=>?_)<;>conv=>whnf)))
       all_goals try simp only [zy45,zy52,zy17,zy5,zy34,zy35,small,zy3] at *
       all_goals first | (rw [zy1 (by omega)] at hi;rw [<- hi]) | skip
       rw [zy0 (by omega)] at hi;have e2:W ((k:Int)+1)=((k+1:Nat):Int):=yvw hlt zz0;exact ⟨⟨k+1,hlt,hi⟩,zcn [] rfl rfl rfl rfl ⟨⟨rfl,rfl⟩,⟨rfl,rfl⟩,⟨rfl,congrArg i64 e2.symm⟩,trivial⟩ trivial,by dsimp only;omega⟩
     . have hge:c.zbm.length<=k:=by simpa using h
       rw [zy22 hge] at hi;(conv=>whnf);rw [<- hi];rfl
def zmr (l:List UInt8):zai:=.live (.row 5 1 (l.map zcs))
theorem xbg (n:Int):zan Tryz.prog 188 [zej,i64 n] zad (.own 0) (lk .free [(0,zmr (zbu n))]):=by
 refine zaq mixed Tryz.func188 zz4 [] (fun _=>.inl rfl) ?_;(conv=>whnf);refine zaa zz4 (zw ?_);refine zdr (zw ?_);refine zdr (zw ?_);refine zaa (c:=2*1<=140737488355328) zz4 (zw ?_);exact zap [(0,some 12)] rfl rfl trivial rfl rfl ⟨⟨rfl,.inl ⟨12,rfl,rfl⟩⟩,trivial⟩
theorem zrm (l:List UInt8) (n:Int) (hb:l.length<2 ^ 40):zan Tryz.prog 188 [.own 1000,i64 n] (lk .free [(1000,zmr l)]) (.own 0) (lk .free [(1000,.dead),(0,zmr (l++zbu n))]):=by
 refine zaq mixed Tryz.func188 zz4 [1000] (fun i=>zbt i) ?_;(conv=>whnf);refine zaa zz4 (zw ?_);refine zdr (zw ?_);refine zdr (zw ?_);refine zaa (c:=((l.map zcs).length+2)*1<=140737488355328) zz3 (zw ?_);refine zap [(1000,some 1000),(0,some 12)] rfl rfl ⟨rfl,trivial⟩ rfl rfl ⟨rfl,⟨rfl,.inl ⟨12,rfl,?_⟩⟩,trivial⟩;show zai.live (.row _ 1 _)=zai.live (.row _ 1 ((l++zbu n).map zcs));rw [zy39]
 rfl
theorem yen (b:Bool) (n:Int):zan Tryz.prog 189 [zbj b,hint .u8 n] zad (hint .u8 (if b then n else 0)) zad:=by
 refine zal mixed Tryz.func189 zz4 ?_;cases b<;>(conv=>whnf)<;>rfl
theorem zlo (n:Int) (h:0<=n/\n<65536):zan Tryz.prog 170 [i64 n] zad (.own 0) (lk .free [(0,zmr (zbu n))]):=by
 obtain ⟨h0,h1⟩:=h;refine zaq mixed Tryz.func170 zz4 [] (fun _=>.inl rfl) ?_;(conv=>whnf);refine zaa zz4 (zw ?_);have e1:n.tdiv 256=n / 256:=Int.tdiv_eq_ediv_of_nonneg h0;have e2:by8 (n.tmod 256)=by8 n:=by
  rw [zy89 h0];apply UInt8.toNat_inj.1;have h1:=zgl (n % 256);have h2:=zgl n;omega
 refine sFm ?_;refine zdr (zw ?_);refine zaa zz4 (zw ?_);refine zdr (zw ?_);refine zap [(0,some 9)] rfl rfl trivial rfl rfl ⟨⟨rfl,.inl ⟨9,rfl,?_⟩⟩,trivial⟩;show zmr [by8 (n.tdiv 256),by8 (n.tmod 256)]=zmr (zbu n);rw [e1,e2]
 rfl
theorem ztj (b:Bool) (n:Int):zan Tryz.prog 171 [zbj b,i64 n] zad (i64 (if b then n else 0)) zad:=by
 refine zal mixed Tryz.func171 zz4 ?_;cases b<;>(conv=>whnf)<;>rfl
def flags (c:Chunk):Int:=(if c.last then 1 else 0)+(if c.ordered then 2 else 0)
def zce (l:List Span):List UInt8:=l.flatMap fun s=>zbu s.lo++zbu s.hi
def skipBytes (l:List zdv):List UInt8:=l.flatMap fun s=>[by8 s.stream,by8 (if s.ordered then 1 else 0)]++zbu s.mid
def body (c:Chunk):List UInt8 :=
 if c.kind=1 then zbu c.tag++[by8 c.stream,by8 (flags c)]++zbu c.mid++[by8 c.part]++c.data
 else if c.kind=2 then zbu c.tag++zbu c.room++zce c.zar
 else zbu c.tag++skipBytes c.zbm
def bytes (c:Chunk):List UInt8:=if zdi c=0 then by8 c.kind::by8 (body c).length::body c else []
theorem zjd (l:List Span):(zce l).length=4*l.length:=by
 induction l with
 | nil=>rfl
 | cons x l ih=>simp only [zce,List.flatMap_cons,zy9,zy6] at ih ⊢;simp [zbu] at ih ⊢;omega
theorem zjc (l:List zdv):(skipBytes l).length=4*l.length:=by
 induction l with
 | nil=>rfl
 | cons x l ih=>simp only [skipBytes,List.flatMap_cons,zy9,zy6] at ih ⊢;simp [zbu] at ih ⊢;omega
theorem ybv {c:Chunk} (h:zdi c=0) (k:c.kind=1):1<=c.data.length/\c.data.length<=16:=by
 simp only [zdi] at h;(repeat' split at h)<;>first | omega | simp_all
theorem zyw {c:Chunk} (h:zdi c=0) (k:c.kind=2):c.zar.length<=6:=by
 simp only [zdi] at h;(repeat' split at h)<;>first | omega | simp_all
theorem zyv {c:Chunk} (h:zdi c=0) (k1:¬ c.kind=1) (k:¬ c.kind=2):c.zbm.length<=8:=by
 simp only [zdi] at h;(repeat' split at h)<;>first | omega | simp_all
theorem zve {c:Chunk} (h:zdi c=0):(body c).length<=34:=by
 have h1:=ybv h;have h2:=zyw h;have h3:=zyv h;unfold body;split
 . have:=h1 ‹_›;simp [zbu];omega
 . split
   . have:=h2 ‹_›;simp [zbu,zjd];omega
   . have:=h3 ‹_› ‹_›;simp [zbu,zjc];omega
theorem ybg (c:Chunk) (h9:c.zar.length<2 ^ 40) (h8:c.zbm.length<2 ^ 40):zan Tryz.prog 167 [c.hv] zad (.tup [yfv (bytes c),i64 (zdi c)]) zad:=by
 refine zal mixed Tryz.func167 zz4 ?_;(conv=>whnf);refine zbf (zw ?_);refine ⟨_,ybq c h9 h8,rfl,zw ?_⟩;refine zah (fun h=>?_) (fun h=>?_)
 . conv=>whnf
   have h:¬ zdi c=0:=by simpa using h
   rw [bytes,zy0 h]
   rfl
 have h:zdi c=0:=by simpa using h
 rw [bytes,zy1 h];(conv=>whnf);refine ytg [(0,17)] (zw ?_);refine ⟨_,_,xbg c.tag,⟨⟨⟨rfl,rfl⟩,trivial⟩,rfl,rfl,rfl⟩,zw ?_⟩;refine zil.meet PUnit (fun _=>hs 97 [(1,.ptr 1 0),(5,.own 900)] [(1,.live (.cells 61 c.cells)),(900,zmr (body c))]) ?_ ?_
 . have h1:zdi c=0:=h
   (conv=>whnf);refine zah (fun k1=>?_) (fun k1=>?_)
   . conv=>whnf
     refine zdr (zw ?_);refine zbf (zw ?_);refine ⟨_,yen _ _,rfl,zw ?_⟩;refine zbf (zw ?_);refine ⟨_,yen _ _,rfl,zw ?_⟩;have hbits:bits .or .u8 (if c.last then 1 else 0) (if c.ordered then 2 else 0)=((by8 (flags c)).toNat:Int):=by
      unfold flags;cases c.last<;>cases c.ordered<;>kernel_rfl
     have hd:=(ybv h (by simpa using k1)).2;refine zaa (c:=(((zbu c.tag).map zcs).length+2)*1<=140737488355328) zz125 (zw ?_);refine zaf [] [(1000,54)] [(0,57)] (zw ?_);refine ⟨_,_,_,_,zrm (zbu c.tag++[by8 c.stream,by8 (flags c)]) c.mid zz125,⟨rfl,rfl,rfl,⟨⟨rfl,_,rfl,.inl ⟨rfl,?_⟩⟩,trivial⟩,⟨⟨rfl,rfl⟩,trivial⟩,rfl,rfl,rfl⟩,?_⟩
     . show zai.live (.row _ 1 ((zbu c.tag).map zcs++[zcs (by8 c.stream),[.v (.int .u8 (bits .or .u8 (if c.last then 1 else 0) (if c.ordered then 2 else 0)))]]))=_
       rw [hbits]
       rfl
     (conv=>whnf);refine zaw ?_ ?_
     . kernel_rfl
     (conv=>whnf);refine zdr (zw ?_);refine zaa (c:=(((zbu c.tag++[by8 c.stream,by8 (flags c)]++zbu c.mid).map zcs).length+1)*1<=140737488355328) zz125 (zw ?_);refine zaa (c:=(((zbu c.tag++[by8 c.stream,by8 (flags c)]++zbu c.mid++[by8 c.part]).map zcs).length+(c.data.map zcs).length)*1<=140737488355328) zz92 (zw ?_);refine zaw ?_ ?_
     . kernel_rfl
     (conv=>whnf);refine ⟨⟨⟩,zcn [(1,some 1),(900,some 66)] rfl rfl rfl rfl ⟨⟨rfl,rfl⟩,⟨rfl,rfl⟩,trivial⟩ ⟨⟨rfl,.inl ⟨1,rfl,rfl⟩⟩,⟨rfl,.inl ⟨66,rfl,?_⟩⟩,trivial⟩⟩;show zai.live (.row _ 1 ((zbu c.tag++[by8 c.stream,by8 (flags c)]++zbu c.mid++[by8 c.part]).map zcs++c.data.map zcs))=zai.live (.row _ 1 ((body c).map zcs));have k1:c.kind=1:=by simpa using k1
     rw [body,zy1 k1,zy39 (l₂:=c.data)]
   . conv=>whnf
     refine zah (fun k2=>?_) (fun k2=>?_)
     . conv=>whnf
       refine zaf [] [(1000,17)] [(0,72)] (zw ?_);refine ⟨_,_,_,_,zrm (zbu c.tag) c.room zz125,⟨rfl,rfl,rfl,⟨zz1,trivial⟩,⟨⟨rfl,rfl⟩,trivial⟩,rfl,rfl,rfl⟩,?_⟩;(conv=>whnf);have k1:¬ c.kind=1:=by simpa using k1
       have k2:c.kind=2:=by simpa using k2
       have hsp:=zyw h k2;refine ⟨{k:Nat // k<=c.zar.length},fun | ⟨k,_⟩=>hs 97 [(1,.ptr 1 0),(5,.own 900),(74,yel c.zar),(75,i64 c.zar.length),(76,i64 k)] [(1,.live (.cells 61 c.cells)),(900,zmr (zbu c.tag++zbu c.room++zce (c.zar.take k)))],fun k=>c.zar.length-k.1,⟨0,by omega⟩,?_,?_⟩
       . refine zcn [(1,some 1),(900,some 72)] rfl rfl rfl rfl ⟨⟨rfl,rfl⟩,⟨rfl,rfl⟩,⟨rfl,rfl⟩,⟨rfl,by simp;rfl⟩,⟨rfl,rfl⟩,trivial⟩ ⟨⟨rfl,.inl ⟨1,rfl,rfl⟩⟩,⟨rfl,.inl ⟨72,rfl,?_⟩⟩,trivial⟩
         rfl
       rintro ⟨k,hk⟩;(conv=>whnf);refine zah (fun c1=>?_) (fun c1=>?_)
       . have hlt:k<c.zar.length:=by simpa using c1
         (conv=>whnf);refine zcf (r:=(c.zar[k]).row) zz0 (by rw [zy24,zy19,zy2 hlt];rfl) ?_;have ht:zce (c.zar.take (k+1))=zce (c.zar.take k)++(zbu (c.zar[k]).lo++zbu (c.zar[k]).hi):=by
          rw [<- zy97 hlt,zce,zy127];simp [zce]
         have hlen:(zce (c.zar.take k)).length<=24:=by
          rw [zjd];simp;omega
         generalize c.zar[k]=s at ht ⊢;(conv=>whnf);refine zaf [] [(1000,900)] [(0,83)] (zw ?_);refine ⟨_,_,_,_,zrm (zbu c.tag++zbu c.room++zce (c.zar.take k)) s.lo zz92,⟨rfl,rfl,rfl,⟨zz1,trivial⟩,⟨⟨rfl,rfl⟩,trivial⟩,rfl,rfl,rfl⟩,?_⟩;(conv=>whnf);refine zaf [] [(1000,83)] [(0,86)] (zw ?_);refine ⟨_,_,_,_,zrm (zbu c.tag++zbu c.room++zce (c.zar.take k)++zbu s.lo) s.hi zz92,⟨rfl,rfl,rfl,⟨zz1,trivial⟩,⟨⟨rfl,rfl⟩,trivial⟩,rfl,rfl,rfl⟩,?_⟩;(conv=>whnf);refine zaw ?_ ?_
         . kernel_rfl
         (conv=>whnf);refine sFm ?_;refine ⟨⟨k+1,hlt⟩,zcn [(1,some 1),(900,some 86)] rfl rfl rfl rfl ⟨⟨rfl,rfl⟩,⟨rfl,rfl⟩,⟨rfl,rfl⟩,⟨rfl,rfl⟩,⟨rfl,by simp;rfl⟩,trivial⟩ ⟨⟨rfl,.inl ⟨1,rfl,rfl⟩⟩,⟨rfl,.inl ⟨86,rfl,?_⟩⟩,trivial⟩,by dsimp only;omega⟩;show zmr (zbu c.tag++zbu c.room++zce (c.zar.take k)++zbu s.lo++zbu s.hi)=zmr (zbu c.tag++zbu c.room++zce (c.zar.take (k+1)));rw [ht];simp only [zy26]
       . conv=>whnf
         exact yy54
     . conv=>whnf
       have k1:¬ c.kind=1:=by simpa using k1
       have k2:¬ c.kind=2:=by simpa using k2
       have hsk:=zyv h k1 k2;refine ⟨{k:Nat // k<=c.zbm.length},fun | ⟨k,_⟩=>hs 97 [(1,.ptr 1 0),(5,.own 900),(21,yei c.zbm),(22,i64 c.zbm.length),(23,i64 k)] [(1,.live (.cells 61 c.cells)),(900,zmr (zbu c.tag++skipBytes (c.zbm.take k)))],fun k=>c.zbm.length-k.1,⟨0,by omega⟩,?_,?_⟩
       . refine zcn [(1,some 1),(900,some 17)] rfl rfl rfl rfl ⟨⟨rfl,rfl⟩,⟨rfl,rfl⟩,⟨rfl,rfl⟩,⟨rfl,by simp;rfl⟩,⟨rfl,rfl⟩,trivial⟩ ⟨⟨rfl,.inl ⟨1,rfl,rfl⟩⟩,⟨rfl,.inl ⟨17,rfl,?_⟩⟩,trivial⟩
         rfl
       rintro ⟨k,hk⟩;(conv=>whnf);refine zah (fun c1=>?_) (fun c1=>?_)
       . have hlt:k<c.zbm.length:=by simpa using c1
         (conv=>whnf);refine zcf (r:=(c.zbm[k]).row) zz0 (by rw [zy24,zy19,zy2 hlt];rfl) ?_;have ht:skipBytes (c.zbm.take (k+1))=skipBytes (c.zbm.take k)++([by8 (c.zbm[k]).stream,by8 (if (c.zbm[k]).ordered then 1 else 0)]++zbu (c.zbm[k]).mid):=by
          rw [<- zy97 hlt,skipBytes,zy127];simp [skipBytes]
         have hlen:(skipBytes (c.zbm.take k)).length<=32:=by
          rw [zjc];simp;omega
         generalize c.zbm[k]=s at ht ⊢;(conv=>whnf);refine zdr (zw ?_);refine zbf (zw ?_);refine ⟨_,yen _ _,rfl,zw ?_⟩;refine zaa (c:=(((zbu c.tag++skipBytes (c.zbm.take k)).map zcs).length+2)*1<=140737488355328) zz92 (zw ?_);refine zaf [] [(1000,35)] [(0,38)] (zw ?_);refine ⟨_,_,_,_,zrm (zbu c.tag++skipBytes (c.zbm.take k)++[by8 s.stream,by8 (if s.ordered then 1 else 0)]) s.mid zz92,⟨rfl,rfl,rfl,⟨⟨rfl,_,rfl,.inl ⟨rfl,?_⟩⟩,trivial⟩,⟨⟨rfl,rfl⟩,trivial⟩,rfl,rfl,rfl⟩,?_⟩
         . show zai.live (.row _ 1 ((zbu c.tag++skipBytes (c.zbm.take k)).map zcs++[zcs (by8 s.stream),[.v (.int .u8 (if s.ordered then 1 else 0))]]))=zmr _
           simp only [zmr,zy39];cases s.ordered<;>rfl
         (conv=>whnf);refine zaw ?_ ?_
         . kernel_rfl
         (conv=>whnf);refine sFm ?_;refine ⟨⟨k+1,hlt⟩,zcn [(1,some 1),(900,some 38)] rfl rfl rfl rfl ⟨⟨rfl,rfl⟩,⟨rfl,rfl⟩,⟨rfl,rfl⟩,⟨rfl,rfl⟩,⟨rfl,by simp;rfl⟩,trivial⟩ ⟨⟨rfl,.inl ⟨1,rfl,rfl⟩⟩,⟨rfl,.inl ⟨38,rfl,?_⟩⟩,trivial⟩,by dsimp only;omega⟩;show zmr (zbu c.tag++skipBytes (c.zbm.take k)++[by8 s.stream,by8 (if s.ordered then 1 else 0)]++zbu s.mid)=zmr (zbu c.tag++skipBytes (c.zbm.take (k+1)));rw [ht];simp only [zy26]
       . conv=>whnf
         exact yy57
 . rintro ⟨⟩
   exact yy73
theorem yem:∀ {l:List Span} {last:Int},zeh last l=0->0<=last->∀ s∈l,(0<=s.lo/\s.lo<65536)/\(0<=s.hi/\s.hi<65536)
 | [],_,_,_,s,hs=>by cases hs
 | x::r,last,h,h0,s,hs=>by
  simp only [zeh] at h;split at h
  . omega
  . rename_i hn
    rcases zy18.1 hs with rfl | hs
    . omega
    . exact yem h zz0 s hs
theorem yej:∀ {l:List zdv},zeg l=0->∀ s∈l,(0<=s.stream/\s.stream<4)/\(0<=s.mid/\s.mid<65536)
 | [],_,s,hs=>by cases hs
 | x::r,h,s,hs=>by
  simp only [zeg] at h;split at h
  . omega
  . rename_i hn
    rcases zy18.1 hs with rfl | hs
    . omega
    . exact yej h s hs
structure xot (c:Chunk):Prop where
 kind:1<=c.kind/\c.kind<=3
 tag:0<=c.tag/\c.tag<65536
 data:c.kind=1->(0<=c.stream/\c.stream<4)/\(0<=c.mid/\c.mid<65536)/\(0<=c.part/\c.part<=255)/\1<=c.data.length/\c.data.length<=16
 room:c.kind=2->(0<=c.room/\c.room<65536)/\c.zar.length<=6/\zeh 1 c.zar=0
 zbm:¬ c.kind=1->¬ c.kind=2->c.zbm.length<=8/\zeg c.zbm=0
theorem xks {c:Chunk} (h:zdi c=0):xot c:=by
 simp only [zdi] at h
 (repeat' split at h)<;>first | omega | (constructor<;>first | omega | (intros;omega) | skip)
theorem ynq (c:Chunk) (h9:c.zar.length<2 ^ 40) (h8:c.zbm.length<2 ^ 40):zan Tryz.prog 144 [c.hv] zad (.tup [yfv (bytes c),i64 (zdi c)]) zad:=by
 refine zal mixed Tryz.func144 zz4 ?_;(conv=>whnf);refine zbf (zw ?_);refine ⟨_,zhx c h9 h8,rfl,zw ?_⟩;refine zah (fun h=>?_) (fun h=>?_)
 . conv=>whnf
   have h:¬ zdi c=0:=by simpa using h
   rw [bytes,zy0 h]
   rfl
 have h:zdi c=0:=by simpa using h
 rw [bytes,zy1 h];have hf:=xks h;(conv=>whnf);refine zat [(0,18)] (zw ?_);refine ⟨_,_,zlo c.tag hf.tag,⟨⟨⟨rfl,rfl⟩,trivial⟩,rfl,rfl,rfl⟩,zw ?_⟩;refine zil.meet PUnit (fun _=>hs 110 [(1,.ptr 1 0),(5,.own 900)] [(1,.live (.cells 61 c.cells)),(900,zmr (body c))]) ?_ ?_
 . conv=>whnf
   refine zah (fun k1=>?_) (fun k1=>?_)
   . have k1:c.kind=1:=by simpa using k1
     obtain ⟨d1,d2,d3,d4,d5⟩:=hf.data k1;(conv=>whnf);refine zdr (zw ?_);refine zbf (zw ?_);refine ⟨_,ztj _ _,rfl,zw ?_⟩;refine zbf (zw ?_);refine ⟨_,ztj _ _,rfl,zw ?_⟩;refine zao (zbs (by split<;>split<;>omega) (by split<;>split<;>omega)) (zw ?_);refine zdr (zw ?_);refine zaa (c:=(((zbu c.tag).map zcs).length+2)*1<=140737488355328) zz125 (zw ?_);refine zaw ?_ ?_
     . kernel_rfl
     (conv=>whnf);refine zat [(0,65)] (zw ?_);refine ⟨_,_,zlo c.mid d2,⟨⟨⟨rfl,rfl⟩,trivial⟩,rfl,rfl,rfl⟩,zw ?_⟩;refine zaa (c:=(((zbu c.tag++[by8 c.stream,by8 (flags c)]).map zcs).length+((zbu c.mid).map zcs).length)*1<=140737488355328) zz125 (zw ?_);refine zdr (zw ?_);refine zaa (c:=(((zbu c.tag++[by8 c.stream,by8 (flags c)]++zbu c.mid).map zcs).length+1)*1<=140737488355328) zz125 (zw ?_);refine zaa (c:=(((zbu c.tag++[by8 c.stream,by8 (flags c)]++zbu c.mid++[by8 c.part]).map zcs).length+(c.data.map zcs).length)*1<=140737488355328) zz92 (zw ?_);refine ⟨⟨⟩,zcn [(1,some 1),(900,some 76)] rfl rfl rfl rfl ⟨⟨rfl,rfl⟩,⟨rfl,rfl⟩,trivial⟩ ⟨⟨rfl,.inl ⟨1,rfl,rfl⟩⟩,⟨rfl,.inl ⟨76,rfl,?_⟩⟩,trivial⟩⟩;show zai.live (.row _ 1 ((zbu c.tag++[by8 c.stream,by8 (flags c)]++zbu c.mid++[by8 c.part]).map zcs++c.data.map zcs))=zai.live (.row _ 1 ((body c).map zcs));rw [body,zy1 k1,zy39 (l₂:=c.data)]
   . conv=>whnf
     have k1:¬ c.kind=1:=by simpa using k1
     refine zah (fun k2=>?_) (fun k2=>?_)
     . conv=>whnf
       have k2:c.kind=2:=by simpa using k2
       obtain ⟨d1,hsp,d3⟩:=hf.room k2;have hok:=yem d3 zz4;refine zat [(0,82)] (zw ?_);refine ⟨_,_,zlo c.room d1,⟨⟨⟨rfl,rfl⟩,trivial⟩,rfl,rfl,rfl⟩,zw ?_⟩;refine zaa (c:=(((zbu c.tag).map zcs).length+((zbu c.room).map zcs).length)*1<=140737488355328) zz125 (zw ?_);refine ⟨{k:Nat // k<=c.zar.length},fun | ⟨k,_⟩=>hs 110 [(1,.ptr 1 0),(5,.own 900),(85,yel c.zar),(86,i64 c.zar.length),(87,i64 k)] [(1,.live (.cells 61 c.cells)),(900,zmr (zbu c.tag++zbu c.room++zce (c.zar.take k)))],fun k=>c.zar.length-k.1,⟨0,by omega⟩,?_,?_⟩
       . refine zcn [(1,some 1),(900,some 83)] rfl rfl rfl rfl ⟨⟨rfl,rfl⟩,⟨rfl,rfl⟩,⟨rfl,rfl⟩,⟨rfl,by simp;rfl⟩,⟨rfl,rfl⟩,trivial⟩ ⟨⟨rfl,.inl ⟨1,rfl,rfl⟩⟩,⟨rfl,.inl ⟨83,rfl,?_⟩⟩,trivial⟩
         rfl
       rintro ⟨k,hk⟩;(conv=>whnf);refine zah (fun c1=>?_) (fun c1=>?_)
       . have hlt:k<c.zar.length:=by simpa using c1
         (conv=>whnf);refine zcf (r:=(c.zar[k]).row) zz0 (by rw [zy24,zy19,zy2 hlt];rfl) ?_;have ht:zce (c.zar.take (k+1))=zce (c.zar.take k)++(zbu (c.zar[k]).lo++zbu (c.zar[k]).hi):=by
          rw [<- zy97 hlt,zce,zy127];simp [zce]
         have hlen:(zce (c.zar.take k)).length<=24:=by
          rw [zjd];simp;omega
         obtain ⟨g1,g2⟩:=hok _ (zy57 hlt);generalize c.zar[k]=s at ht g1 g2 ⊢;(conv=>whnf);refine zat [(0,94)] (zw ?_);refine ⟨_,_,zlo s.lo g1,⟨⟨⟨rfl,rfl⟩,trivial⟩,rfl,rfl,rfl⟩,zw ?_⟩;refine zaa (c:=(((zbu c.tag++zbu c.room++zce (c.zar.take k)).map zcs).length+((zbu s.lo).map zcs).length)*1<=140737488355328) zz92 (zw ?_);refine zat [(0,98)] (zw ?_);refine ⟨_,_,zlo s.hi g2,⟨⟨⟨rfl,rfl⟩,trivial⟩,rfl,rfl,rfl⟩,zw ?_⟩;refine zaa (c:=(((zbu c.tag++zbu c.room++zce (c.zar.take k)).map zcs++(zbu s.lo).map zcs).length+((zbu s.hi).map zcs).length)*1<=140737488355328) zz92 (zw ?_);refine zaw ?_ ?_
         . kernel_rfl
         (conv=>whnf);refine sFm ?_;refine ⟨⟨k+1,hlt⟩,zcn [(1,some 1),(900,some 99)] rfl rfl rfl rfl ⟨⟨rfl,rfl⟩,⟨rfl,rfl⟩,⟨rfl,rfl⟩,⟨rfl,rfl⟩,⟨rfl,by simp;rfl⟩,trivial⟩ ⟨⟨rfl,.inl ⟨1,rfl,rfl⟩⟩,⟨rfl,.inl ⟨99,rfl,?_⟩⟩,trivial⟩,by dsimp only;omega⟩;show zai.live (.row _ 1 ((zbu c.tag++zbu c.room++zce (c.zar.take k)).map zcs++(zbu s.lo).map zcs++(zbu s.hi).map zcs))=zmr (zbu c.tag++zbu c.room++zce (c.zar.take (k+1)));rw [ht];simp only [zmr,zy39,zy26]
       . conv=>whnf
         exact yy54
     . conv=>whnf
       have k2:¬ c.kind=2:=by simpa using k2
       obtain ⟨hsk,d3⟩:=hf.zbm k1 k2;have hok:=yej d3;refine ⟨{k:Nat // k<=c.zbm.length},fun | ⟨k,_⟩=>hs 110 [(1,.ptr 1 0),(5,.own 900),(6,.clo 171 []),(22,yei c.zbm),(23,i64 c.zbm.length),(24,i64 k)] [(1,.live (.cells 61 c.cells)),(900,zmr (zbu c.tag++skipBytes (c.zbm.take k)))],fun k=>c.zbm.length-k.1,⟨0,by omega⟩,?_,?_⟩
       . refine zcn [(1,some 1),(900,some 18)] rfl rfl rfl rfl ⟨⟨rfl,rfl⟩,⟨rfl,rfl⟩,⟨rfl,rfl⟩,⟨rfl,rfl⟩,⟨rfl,by simp;rfl⟩,⟨rfl,rfl⟩,trivial⟩ ⟨⟨rfl,.inl ⟨1,rfl,rfl⟩⟩,⟨rfl,.inl ⟨18,rfl,?_⟩⟩,trivial⟩
         rfl
       rintro ⟨k,hk⟩;(conv=>whnf);refine zah (fun c1=>?_) (fun c1=>?_)
       . have hlt:k<c.zbm.length:=by simpa using c1
         (conv=>whnf);refine zcf (r:=(c.zbm[k]).row) zz0 (by rw [zy24,zy19,zy2 hlt];rfl) ?_;have ht:skipBytes (c.zbm.take (k+1))=skipBytes (c.zbm.take k)++([by8 (c.zbm[k]).stream,by8 (if (c.zbm[k]).ordered then 1 else 0)]++zbu (c.zbm[k]).mid):=by
          rw [<- zy97 hlt,skipBytes,zy127];simp [skipBytes]
         have hlen:(skipBytes (c.zbm.take k)).length<=32:=by
          rw [zjc];simp;omega
         obtain ⟨g1,g2⟩:=hok _ (zy57 hlt);generalize c.zbm[k]=s at ht g1 g2 ⊢;(conv=>whnf);refine zdr (zw ?_);refine zbf (zw ?_);refine ⟨_,ztj _ _,rfl,zw ?_⟩;refine zdr (zw ?_);refine zaa (c:=(((zbu c.tag++skipBytes (c.zbm.take k)).map zcs).length+2)*1<=140737488355328) zz92 (zw ?_);refine zat [(0,41)] (zw ?_);refine ⟨_,_,zlo s.mid g2,⟨⟨⟨rfl,rfl⟩,trivial⟩,rfl,rfl,rfl⟩,zw ?_⟩;refine zaa (c:=(((zbu c.tag++skipBytes (c.zbm.take k)).map zcs++[zcs (by8 s.stream),zcs (by8 (if s.ordered then 1 else 0))]).length+((zbu s.mid).map zcs).length)*1<=140737488355328) zz92 (zw ?_);refine zaw ?_ ?_
         . kernel_rfl
         (conv=>whnf);refine sFm ?_;refine ⟨⟨k+1,hlt⟩,zcn [(1,some 1),(900,some 42)] rfl rfl rfl rfl ⟨⟨rfl,rfl⟩,⟨rfl,rfl⟩,⟨rfl,rfl⟩,⟨rfl,rfl⟩,⟨rfl,rfl⟩,⟨rfl,by simp;rfl⟩,trivial⟩ ⟨⟨rfl,.inl ⟨1,rfl,rfl⟩⟩,⟨rfl,.inl ⟨42,rfl,?_⟩⟩,trivial⟩,by dsimp only;omega⟩;show zai.live (.row _ 1 ((zbu c.tag++skipBytes (c.zbm.take k)).map zcs++[zcs (by8 s.stream),zcs (by8 (if s.ordered then 1 else 0))]++(zbu s.mid).map zcs))=zmr (zbu c.tag++skipBytes (c.zbm.take (k+1)));rw [ht];simp only [zmr,zy39,zy26];rfl
       . conv=>whnf
         exact yy57
 . rintro ⟨⟩
   exact yy73
end Chk
namespace Chk
def zqf (b:List UInt8) (i:Nat):Int:=zhd (b[i]?.getD 0) (b[i+1]?.getD 0)
def no:Chunk:=⟨0,0,0,0,0,false,false,[],[],0,[]⟩
def zdt:List UInt8->List Span
 | a::b::c::d::r=>⟨zhd a b,zhd c d⟩::zdt r
 | _=>[]
def zcj:List UInt8->List zdv×Bool
 | s::f::m::n::r=>if f.toNat>1 then ([],false) else (⟨s.toNat,zhd m n,f.toNat==1⟩::(zcj r).1,(zcj r).2)
 | _=>([],true)
def zcz (kind:Int) (b:List UInt8):Chunk×Bool :=
 if b.length<2 then ({no with kind:=kind},false) else
 if kind=1 then
  if b.length<7\/(b[3]?.getD 0).toNat>3 then ({no with kind:=kind,tag:=zqf b 0},false)
  else ({no with kind:=kind,tag:=zqf b 0,stream:=(b[2]?.getD 0).toNat,last:=(b[3]?.getD 0).toNat % 2 != 0,ordered:=(b[3]?.getD 0).toNat / 2*2 != 0,mid:=zqf b 4,part:=(b[6]?.getD 0).toNat,data:=b.drop 7},true)
 else if kind=2 then
  if b.length<4\/b.length % 4≠0 then ({no with kind:=kind,tag:=zqf b 0},false)
  else ({no with kind:=kind,tag:=zqf b 0,room:=zqf b 2,zar:=zdt (b.drop 4)},true)
 else if b.length % 4≠2 then ({no with kind:=kind,tag:=zqf b 0},false)
  else ({no with kind:=kind,tag:=zqf b 0,zbm:=(zcj (b.drop 2)).1},(zcj (b.drop 2)).2)
def yod:List HV:=[i64 0,i64 0,i64 0,i64 0,i64 0,zbj false,zbj false,zej,zej,i64 0,zej]
theorem zwd (b:List UInt8) (j i:Nat):zqf (b.drop j) i=zqf b (j+i):=by
 unfold zqf;rw [zy53,zy53,zy99]
theorem zma:∀ l:List UInt8,(zdt l).length=l.length / 4
 | a::b::c::d::r=>by simp only [zdt,zy6,zma r];omega
 | []=>by simp [zdt]
 | [_]=>by simp [zdt]
 | [_,_]=>by simp [zdt]
 | [_,_,_]=>by simp [zdt]
theorem xnv {b:List UInt8} {j:Nat} (h:j+4<=b.length):b.drop j=b[j]?.getD 0::b[j+1]?.getD 0::b[j+2]?.getD 0::b[j+3]?.getD 0::b.drop (j+4):=by
 rw [zy21 (by omega),zy21 (by omega),zy21 (by omega),zy21 (by omega)];rw [zy2 (by omega),zy2 (by omega),zy2 (by omega),zy2 (by omega)]
 rfl
theorem xav {b:List UInt8} {j:Nat} (h:j+4<=b.length):zcj (b.drop j) =
 if (b[j+1]?.getD 0).toNat>1 then ([],false) else (⟨(b[j]?.getD 0).toNat,zqf b (j+2),(b[j+1]?.getD 0).toNat==1⟩::(zcj (b.drop (j+4))).1,(zcj (b.drop (j+4))).2):=by
 rw [xnv h,zcj];rfl
theorem zuq:∀ {k:Nat} {l:List UInt8},4*k+4<=l.length->(zdt l).take (k+1)=(zdt l).take k++[⟨zqf l (4*k),zqf l (4*k+2)⟩]
 | k,[],h=>by simp at h
 | k,[_],h=>by simp at h
 | k,[_,_],h=>by simp at h
 | k,[_,_,_],h=>by simp at h
 | 0,a::b::c::d::r,h=>by simp [zdt,zqf]
 | k+1,a::b::c::d::r,h=>by
  have:=zuq (k:=k) (l:=r) (by simp at h;omega);simp only [zdt,List.take_succ_cons,this,zy44];have e:∀ i,zqf (a::b::c::d::r) (4*(k+1)+i)=zqf r (4*k+i):=by
   intro i;have:=zwd (a::b::c::d::r) 4 (4*k+i);rw [show 4*(k+1)+i=4+(4*k+i) by omega,<- this]
   rfl
  rw [e 2];have:=e 0;simp only [zy90] at this;rw [this]
theorem xkq {b:List UInt8} {i:Nat} (h:i<b.length):(b.map zcs)[i]?=some (zcs (b[i]?.getD 0)):=by
 rw [zy19,zy2 h];rfl
theorem zmj (b:UInt8):W (b.toNat:Int)=b.toNat:=by have:=b.toNat_lt;exact zbs zz0 zz0
theorem zog (b:List UInt8) (i:Nat) (h:i+1<b.length) (hb:b.length<2 ^ 40):zan Tryz.prog 203 [yfv b,i64 i] zad (i64 (zqf b i)) zad:=by
 refine zal mixed Tryz.func203 zz4 ?_;have e1:W ((i:Int)+1)=((i+1:Nat):Int):=by rw [zbs (by omega) (by omega)];push_cast;rfl
 (conv=>whnf);refine zcf (r:=zcs (b[i]?.getD 0)) zz0 (by rw [zy24];exact xkq (by omega)) ?_;(conv=>whnf);refine zao (zmj _) (zw ?_);refine zaa zz4 (zw ?_);refine zao (zbs (z:=((b[i]?.getD 0).toNat:Int)*256) (by have:=(b[i]?.getD 0).toNat_lt;omega) (by have:=(b[i]?.getD 0).toNat_lt;omega)) (zw ?_);refine zao e1 (zw ?_);refine zjn (i+1) (by push_cast;rfl) h ?_;(conv=>whnf);refine zao (zmj _) (zw ?_);refine zaw ?_ ?_
 . kernel_rfl
 (conv=>whnf);show i64 (bits .or .i64 (((b[i]?.getD 0).toNat:Int)*256) ((b[i+1]?.getD 0).toNat:Int))=i64 (zqf b i);rw [xej _ _ (b[i]?.getD 0).toNat_lt (b[i+1]?.getD 0).toNat_lt]
 rfl
theorem xay (kind:Int) (b:List UInt8) (hb:b.length<2 ^ 40):zan Tryz.prog 194 [i64 kind,yfv b] zad (.tup [(zcz kind b).1.hv,zbj (zcz kind b).2]) zad:=by
 refine zal mixed Tryz.func194 zz4 ?_;have hl:(b.map zcs).length=b.length:=by simp
 (conv=>whnf);refine zah (fun c1=>?_) (fun c1=>?_)
 . have c1:(b.length:Int)<2:=by simpa using c1
   rw [zcz,zy1 (by omega)];(conv=>whnf)
   rfl
 have c1:¬ (b.length:Int)<2:=by simpa using c1
 rw [zcz,zy0 (by omega)];(conv=>whnf);refine zbf (zw ?_);refine ⟨_,zog b 0 zz0 hb,rfl,zw ?_⟩;refine zil.go (zw ?_);refine zah (fun k1=>?_) (fun k1=>?_)
 . have k1:kind=1:=by simpa using k1
   rw [zy1 k1];(conv=>whnf);refine zah (fun c2=>?_) (fun c2=>?_)
   . have c2:(b.length:Int)<7:=by simpa using c2
     rw [zy1 (.inl (by omega))];(conv=>whnf)
     rfl
   have c2:¬ (b.length:Int)<7:=by simpa using c2
   (conv=>whnf);refine zcf (r:=zcs (b[3]?.getD 0)) zz0 (xkq zz0) ?_;(conv=>whnf);refine zah (fun c3=>?_) (fun c3=>?_)
   . have c3:((b[3]?.getD 0).toNat:Int)>3:=zy29 c3
     rw [zy1 (.inr (by omega))];(conv=>whnf)
     rfl
   have c3:¬ ((b[3]?.getD 0).toNat:Int)>3:=zy36 c3;rw [zy0 (by omega)];(conv=>whnf);refine zcf (r:=zcs (b[2]?.getD 0)) zz0 (xkq zz0) ?_;(conv=>whnf);refine zao (zmj _) (zw ?_);refine zcf (r:=zcs (b[3]?.getD 0)) zz0 (xkq zz0) ?_;(conv=>whnf);refine zcf (r:=zcs (b[3]?.getD 0)) zz0 (xkq zz0) ?_;(conv=>whnf);refine zaw ?_ ?_
   . kernel_rfl
   (conv=>whnf);refine zbf (zw ?_);refine ⟨_,zog b 4 zz0 hb,rfl,zw ?_⟩;refine zcf (r:=zcs (b[6]?.getD 0)) zz0 (xkq zz0) ?_;(conv=>whnf);refine zao (zmj _) (zw ?_);refine zaa zz0 (zw ?_);refine zft (l:=b) zz3 ?_;(conv=>whnf);refine zaa (c:=((b.drop 7).map zcs).length*1<=140737488355328) zz3 (zw ?_);refine zaw ?_ ?_
   . kernel_rfl
   (conv=>whnf);have e1:=xhi (b[3]?.getD 0);have e2:=xhk (b[3]?.getD 0) zz0;have key:∀ (n m:Int) (k:Nat),n=k->(n != 0)=(k != 0):=by
    intro n m k h;subst h;cases k<;>rfl
   rw [key _ 0 _ e1,key _ 0 _ e2]
   rfl
 have k1:¬ kind=1:=by simpa using k1
 rw [zy0 k1];(conv=>whnf);refine zah (fun k2=>?_) (fun k2=>?_)
 . have k2:kind=2:=by simpa using k2
   rw [zy1 k2];(conv=>whnf);refine zah (fun c2=>?_) (fun c2=>?_)
   . have c2:(b.length:Int)<4:=by simpa using c2
     rw [zy1 (.inl (by omega))];(conv=>whnf)
     rfl
   have c2:¬ (b.length:Int)<4:=by simpa using c2
   (conv=>whnf);refine zaa zz4 (zw ?_);refine zah (fun c3=>?_) (fun c3=>?_)
   . have c3:¬ ((b.length:Int).tmod 4=0):=by simpa using c3
     rw [zy1 (.inr (by rw [zy89 (by omega)] at c3;omega))];(conv=>whnf)
     rfl
   have c3:(b.length:Int).tmod 4=0:=by simpa using c3
   have c4:b.length % 4=0:=by rw [zy89 (by omega)] at c3;omega
   rw [zy0 (by omega)];(conv=>whnf);refine zbf (zw ?_);refine ⟨_,zog b 2 zz0 hb,rfl,zw ?_⟩;refine ⟨{k:Nat // 4+4*k<=b.length},fun | ⟨k,_⟩=>hs 134 [(1,yfv b),(4,.ptr 4 0),(6,.ptr 6 0),(7,i64 (4+4*k:Nat))] [(4,.live (.cells 61 yod)),(6,.live (.cells 61 [i64 kind,i64 (zqf b 0),i64 0,i64 0,i64 0,zbj false,zbj false,zej,.own 900,i64 (zqf b 2),zej])),(900,.live (.row 199 2 (((zdt (b.drop 4)).take k).map Span.row)))],fun x=>b.length-4*x.1,⟨0,by omega⟩,?_,?_⟩
   . exact zcn [(4,some 4),(6,some 6),(900,none)] rfl rfl rfl rfl ⟨⟨rfl,rfl⟩,⟨rfl,rfl⟩,⟨rfl,rfl⟩,⟨rfl,rfl⟩,trivial⟩ ⟨⟨rfl,.inl ⟨4,rfl,rfl⟩⟩,⟨rfl,.inl ⟨6,rfl,rfl⟩⟩,⟨rfl,.inr ⟨rfl,rfl⟩⟩,trivial⟩
   rintro ⟨k,hk⟩;(conv=>whnf);refine zah (fun c=>?_) (fun c=>?_)
   . have hlt:4+4*k<b.length:=by
      have:=zy29 c;rw [zy3] at this;omega
     (conv=>whnf);refine zbf (zw ?_);refine ⟨_,zog b (4+4*k) zz0 hb,rfl,zw ?_⟩;refine zao (z:=((4+4*k:Nat):Int)+2) (zbs zz0 zz0) (zw ?_);refine zbf (zw ?_);refine ⟨_,zog b (4+4*k+2) zz0 hb,rfl,zw ?_⟩;refine zaa (c:=(((((zdt (b.drop 4)).take k).map Span.row).length)+1)*16<=140737488355328) zz3 (zw ?_);refine zaw ?_ ?_
     . kernel_rfl
     (conv=>whnf);refine zao (z:=((4+4*k:Nat):Int)+4) (zbs zz0 zz0) (zw ?_);have ht:=zuq (l:=b.drop 4) (k:=k) zz3;refine ⟨⟨k+1,by omega⟩,zcn [(4,some 4),(6,some 6),(900,some 131)] rfl rfl rfl rfl ⟨⟨rfl,rfl⟩,⟨rfl,rfl⟩,⟨rfl,rfl⟩,⟨rfl,rfl⟩,trivial⟩ ⟨⟨rfl,.inl ⟨4,rfl,rfl⟩⟩,⟨rfl,.inl ⟨6,rfl,rfl⟩⟩,⟨rfl,.inl ⟨131,rfl,?_⟩⟩,trivial⟩,by dsimp only;omega⟩;show zai.live (.row _ 2 (((zdt (b.drop 4)).take k).map Span.row++[Span.row ⟨zqf b (4+4*k),zqf b (4+4*k+2)⟩]))=zai.live (.row _ 2 (((zdt (b.drop 4)).take (k+1)).map Span.row));rw [ht,zy39,zwd,zwd]
     rfl
   . have hge:¬ 4+4*k<b.length:=by
      have:=zy36 c;rw [zy3] at this;omega
     (conv=>whnf);rw [zy31 (by rw [zma];simp;omega)]
     rfl
 have k2:¬ kind=2:=by simpa using k2
 rw [zy0 k2];(conv=>whnf);refine zaa zz4 (zw ?_);refine zah (fun c3=>?_) (fun c3=>?_)
 . have c3:¬ ((b.length:Int).tmod 4=2):=by simpa using c3
   rw [zy1 (by rw [zy89 (by omega)] at c3;omega)];(conv=>whnf)
   rfl
 have c3:(b.length:Int).tmod 4=2:=by simpa using c3
 have c4:b.length % 4=2:=by rw [zy89 (by omega)] at c3;omega
 rw [zy0 (by omega)];(conv=>whnf);refine ⟨{x:Nat×List zdv // 2+4*x.1<=b.length/\x.2.length=x.1/\zcj (b.drop 2)=(x.2++(zcj (b.drop (2+4*x.1))).1,(zcj (b.drop (2+4*x.1))).2)},fun | ⟨(k,acc),_⟩=>hs 134 [(1,yfv b),(4,.ptr 4 0),(6,.ptr 6 0),(8,i64 (2+4*k:Nat))] [(4,.live (.cells 61 yod)),(6,.live (.cells 61 [i64 kind,i64 (zqf b 0),i64 0,i64 0,i64 0,zbj false,zbj false,zej,zej,i64 0,.own 900])),(900,.live (.row 180 3 (acc.map zdv.row)))],fun x=>b.length-4*x.1.1,⟨(0,[]),by dsimp only;omega,rfl,by simp⟩,?_,?_⟩
 . exact zcn [(4,some 4),(6,some 6),(900,none)] rfl rfl rfl rfl ⟨⟨rfl,rfl⟩,⟨rfl,rfl⟩,⟨rfl,rfl⟩,⟨rfl,rfl⟩,trivial⟩ ⟨⟨rfl,.inl ⟨4,rfl,rfl⟩⟩,⟨rfl,.inl ⟨6,rfl,rfl⟩⟩,⟨rfl,.inr ⟨rfl,rfl⟩⟩,trivial⟩
 rintro ⟨⟨k,acc⟩,hk,hlen,zez⟩;dsimp only at hk hlen zez;(conv=>whnf);refine zah (fun c=>?_) (fun c=>?_)
 . have hlt:2+4*k<b.length:=by
    have:=zy29 c;rw [zy3] at this;omega
   rw [xav (j:=2+4*k) (by omega)] at zez;(conv=>whnf);refine zao (z:=((2+4*k:Nat):Int)+1) (zbs zz0 zz0) (zw ?_);refine zjn (2+4*k+1) (by push_cast;rfl) zz0 ?_;(conv=>whnf);refine zah (fun c5=>?_) (fun c5=>?_)
   . have c5:=zy29 c5
     rw [zy1 (by omega)] at zez;(conv=>whnf);rw [zez,zy4]
     rfl
   have c5:=zy36 c5;rw [zy0 (by omega)] at zez;(conv=>whnf);refine zjn (2+4*k) rfl zz0 ?_;(conv=>whnf);refine zao (zmj _) (zw ?_);refine zao (z:=((2+4*k:Nat):Int)+1) (zbs zz0 zz0) (zw ?_);refine zjn (2+4*k+1) (by push_cast;rfl) zz0 ?_;(conv=>whnf);refine zao (z:=((2+4*k:Nat):Int)+2) (zbs zz0 zz0) (zw ?_);refine zbf (zw ?_);refine ⟨_,zog b (2+4*k+2) zz0 hb,rfl,zw ?_⟩;refine zaa (c:=((acc.map zdv.row).length+1)*24<=140737488355328) zz3 (zw ?_);refine zaw ?_ ?_
   . kernel_rfl
   (conv=>whnf);refine zao (z:=((2+4*k:Nat):Int)+4) (zbs zz0 zz0) (zw ?_);refine ⟨⟨(k+1,acc++[⟨(b[2+4*k]?.getD 0).toNat,zqf b (2+4*k+2),(b[2+4*k+1]?.getD 0).toNat==1⟩]),by dsimp only;omega,by simp [hlen],by
    dsimp only;rw [zez,show 2+4*k+4=2+4*(k+1) by omega];simp⟩,zcn [(4,some 4),(6,some 6),(900,some 56)] rfl rfl rfl rfl ⟨⟨rfl,rfl⟩,⟨rfl,rfl⟩,⟨rfl,rfl⟩,⟨rfl,rfl⟩,trivial⟩ ⟨⟨rfl,.inl ⟨4,rfl,rfl⟩⟩,⟨rfl,.inl ⟨6,rfl,rfl⟩⟩,⟨rfl,.inl ⟨56,rfl,?_⟩⟩,trivial⟩,by dsimp only;omega⟩
   have hbeq:∀ n:Nat,((n:Int)==1)=(n==1):=by
    intro n;rcases Nat.decEq n 1 with h | h
    . rw [show ((n:Int)==1)=false from by simpa using (by omega:¬ (n:Int)=1),show (n==1)=false from by simpa using h]
    . subst h;rfl
   show zai.live (.row _ 3 (acc.map zdv.row++[[pi (b[2+4*k]?.getD 0).toNat,pi (zqf b (2+4*k+2)),pb (((b[2+4*k+1]?.getD 0).toNat:Int)==1)]]))=_;rw [hbeq,zy39]
   rfl
 . have hge:¬ 2+4*k<b.length:=by
    have:=zy36 c;rw [zy3] at this;omega
   rw [zy22 (show b.length<=2+4*k by omega)] at zez;simp only [zcj,zy4] at zez;(conv=>whnf);rw [zez]
   rfl
end Chk
namespace Chk
theorem znk:∀ l:List UInt8,(zcj l).1.length<=l.length
 | a::b::c::d::r=>by
  have:=znk r;simp only [zcj];split<;>simp<;>omega
 | []=>by simp [zcj]
 | [_]=>by simp [zcj]
 | [_,_]=>by simp [zcj]
 | [_,_,_]=>by simp [zcj]
theorem zzs (kind:Int) (b:List UInt8):(zcz kind b).1.zar.length<=b.length/\(zcz kind b).1.zbm.length<=b.length:=by
 have h1:=znk (b.drop 2);have h2:=zma (b.drop 4);have h3:(b.drop 2).length<=b.length:=by simp
 have h4:(b.drop 4).length<=b.length:=by simp
 unfold zcz
 (repeat' split)<;>constructor<;>first | (simp [no];done) | (dsimp only [no];omega)
def parse (b:List UInt8):Chunk×Int×Int :=
 if b.length<2\/b.length<2+(b[1]?.getD 0).toNat then (no,0,8) else
 if (b[0]?.getD 0).toNat<1\/(b[0]?.getD 0).toNat>3 then (no,0,1) else
 if (zcz (b[0]?.getD 0).toNat ((b.drop 2).take (b[1]?.getD 0).toNat)).2=false then (no,0,2) else
 if zdi (zcz (b[0]?.getD 0).toNat ((b.drop 2).take (b[1]?.getD 0).toNat)).1≠0 then (no,0,zdi (zcz (b[0]?.getD 0).toNat ((b.drop 2).take (b[1]?.getD 0).toNat)).1) else
 ((zcz (b[0]?.getD 0).toNat ((b.drop 2).take (b[1]?.getD 0).toNat)).1,2+(b[1]?.getD 0).toNat,0)
theorem zhr {rows:List (List PV)} {o n o' n':Nat} {K:List (List PV)->Prop} (ho:o=o') (hn:n=n') (h:zsl rows o' n' K):zsl rows o n K:=by subst ho;subst hn;exact h
theorem yuq (b:List UInt8) (hb:b.length<2 ^ 39):zan Tryz.prog 178 [yfv b] zad (.tup [(parse b).1.hv,i64 (parse b).2.1,i64 (parse b).2.2]) zad:=by
 refine zal mixed Tryz.func178 zz4 ?_;have hl:(b.map zcs).length=b.length:=by simp
 have hb1:=(b[1]?.getD 0).toNat_lt;(conv=>whnf);refine zah (fun c1=>?_) (fun c1=>?_)
 . have c1:(b.length:Int)<2:=by simpa using c1
   rw [parse,zy1 (.inl (by omega))];(conv=>whnf)
   rfl
 have c1:¬ (b.length:Int)<2:=by simpa using c1
 (conv=>whnf);refine zao (z:=((b.map zcs).length:Int)-2) (zbs zz0 zz0) (zw ?_);refine zjn 1 rfl zz0 (zw ?_);refine zao (zmj _) (zw ?_);refine zah (fun c2=>?_) (fun c2=>?_)
 . have c2:((b.map zcs).length:Int)-2<(b[1]?.getD 0).toNat:=zy29 c2
   rw [parse,zy1 (.inr (by omega))];(conv=>whnf)
   rfl
 have c2:¬ ((b.map zcs).length:Int)-2<(b[1]?.getD 0).toNat:=zy36 c2;rw [parse,zy0 (by omega)];(conv=>whnf);refine zjn 0 rfl zz0 (zw ?_);refine zah (fun c3=>?_) (fun c3=>?_)
 . have c3:((b[0]?.getD 0).toNat:Int)<1:=zy29 c3
   rw [zy1 (.inl (by omega))];(conv=>whnf)
   rfl
 have c3:¬ ((b[0]?.getD 0).toNat:Int)<1:=zy36 c3;(conv=>whnf);refine zjn 0 rfl zz0 (zw ?_);refine zah (fun c4=>?_) (fun c4=>?_)
 . have c4:((b[0]?.getD 0).toNat:Int)>3:=zy29 c4
   rw [zy1 (.inr (by omega))];(conv=>whnf)
   rfl
 have c4:¬ ((b[0]?.getD 0).toNat:Int)>3:=zy36 c4;rw [zy0 (by omega)];(conv=>whnf);refine zjn 1 rfl zz0 (zw ?_);refine zao (zmj _) (zw ?_);refine zao (z:=2+((b[1]?.getD 0).toNat:Int)) (zbs zz0 zz0) ?_;conv=>whnf
 refine zjn 0 rfl zz0 (zw ?_);refine zao (zmj _) (zw ?_);refine zaa zz0 (zw ?_);refine zhr (o':=2) (n':=(b[1]?.getD 0).toNat) rfl zz0 ?_;refine zgt (l:=b) zz0 ?_;have hlen:((b.drop 2).take (b[1]?.getD 0).toNat).length<=256:=by simp;omega
 obtain ⟨l1,l2⟩:=zzs (b[0]?.getD 0).toNat ((b.drop 2).take (b[1]?.getD 0).toNat);generalize hs:(b.drop 2).take (b[1]?.getD 0).toNat=s at hlen l1 l2 ⊢;(conv=>whnf);refine zdj (zw ?_);refine ⟨_,xay (b[0]?.getD 0).toNat s zz0,rfl,?_⟩;generalize zcz (b[0]?.getD 0).toNat s=p at l1 l2 ⊢;obtain ⟨c,ok⟩:=p;dsimp only at l1 l2;(conv=>whnf);refine zaw ?_ ?_
 . kernel_rfl
 (conv=>whnf);cases ok with
 | false =>
  conv=>whnf
  rfl
 | true =>
  rw [zy0 (by simp)];(conv=>whnf);refine zbf (zw ?_);refine ⟨_,ybq c zz0 zz0,rfl,zw ?_⟩;refine zah (fun c5=>?_) (fun c5=>?_)
  . have c5:¬ zdi c=0:=by simpa using c5
    rw [zy1 c5];(conv=>whnf)
    rfl
  . have c5:zdi c=0:=by simpa using c5
    rw [zy0 (fun h=>h c5)];(conv=>whnf)
    rfl
def one (l:List UInt8) (ok:Bool):Int×List UInt8×Bool:=match l with
 | []=>(0,[],false)
 | x::r=>(x.toNat,r,ok)
def two (l:List UInt8) (ok:Bool):Int×List UInt8×Bool:=match l with
 | x::y::r=>(zhd x y,r,ok)
 | [x]=>(x.toNat*256,[],false)
 | []=>(0,[],false)
def rd (l:List UInt8) (ok:Bool):zai:=.live (.cells 233 [yfv l,zbj ok])
theorem zoh (l:List UInt8) (ok:Bool):zan Tryz.prog 192 [.ptr 1000 0] (lk .free [(1000,rd l ok)]) (i64 (one l ok).1) (lk .free [(1000,rd (one l ok).2.1 (one l ok).2.2)]):=by
 refine zaq mixed Tryz.func192 zz4 [1000] (fun i=>zbt i) ?_;cases l with
 | nil =>
  (conv=>whnf);exact yy88
 | cons x r =>
  simp only [one];(conv=>whnf);refine zjn (b:=x::r) 0 rfl zz5 (zw ?_);refine zao (zmj x) (zw ?_);refine sOm ?_;refine zft (l:=x::r) zz3 ?_;(conv=>whnf);exact yy88
theorem zme (l:List UInt8) (ok:Bool):zan Tryz.prog 191 [.ptr 1000 0] (lk .free [(1000,rd l ok)]) (i64 (two l ok).1) (lk .free [(1000,rd (two l ok).2.1 (two l ok).2.2)]):=by
 refine zaq mixed Tryz.func191 zz4 [1000] (fun i=>zbt i) ?_;have h1:∀ x y:UInt8,(x.toNat:Int)*256+y.toNat<=70000/\0<=(x.toNat:Int)*256+y.toNat:=by
  intro x y;have:=x.toNat_lt;have:=y.toNat_lt;omega
 (conv=>whnf);refine zaf [] [(1000,1000)] [] (zw ?_);refine ⟨_,_,_,_,zoh l ok,⟨rfl,rfl,rfl,⟨zz1,trivial⟩,trivial,rfl,rfl,rfl⟩,?_⟩;(conv=>whnf);have e1:W ((one l ok).1*256)=(one l ok).1*256:=by
  cases l with
  | nil=>rfl
  | cons x r=>have:=h1 x 0;exact zbs (by simp only [one];omega) (by simp only [one];omega)
 have e1':W (256*(one l ok).1)=256*(one l ok).1:=by rw [Int.mul_comm];exact e1
 refine zao e1' (zw ?_);refine zaf [] [(1000,1000)] [] (zw ?_);refine ⟨_,_,_,_,zoh (one l ok).2.1 (one l ok).2.2,⟨rfl,rfl,rfl,⟨zz1,trivial⟩,trivial,rfl,rfl,rfl⟩,?_⟩;(conv=>whnf);have e2:256*(one l ok).1+(one (one l ok).2.1 (one l ok).2.2).1=(two l ok).1:=by
  cases l with
  | nil=>rfl
  | cons x r=>cases r with
   | nil=>simp only [one,two];omega
   | cons y r=>simp only [one,two,zhd];omega
 have e3:W (two l ok).1=(two l ok).1:=by
  cases l with
  | nil=>rfl
  | cons x r=>cases r with
   | nil=>have:=h1 x 0;exact zbs (by simp only [two];omega) (by simp only [two];omega)
   | cons y r=>have:=h1 x y;exact zbs (by simp only [two,zhd];omega) (by simp only [two,zhd];omega)
 have e4:(one (one l ok).2.1 (one l ok).2.2).2=(two l ok).2:=by
  cases l with
  | nil=>rfl
  | cons x r=>cases r<;>rfl
 refine zao (z:=256*(one l ok).1+(one (one l ok).2.1 (one l ok).2.2).1) (by rw [e2];exact e3) (zw ?_);rw [<- e4,<- e2];exact yy88
end Chk
namespace Chk
theorem xas:∀ l:List UInt8,l=[]\/(∃ a,l=[a])\/(∃ a b,l=[a,b])\/(∃ a b c,l=[a,b,c])\/(∃ a b c d,l=[a,b,c,d])\/(∃ a b c d e,l=[a,b,c,d,e])\/(∃ a b c d e f,l=[a,b,c,d,e,f])\/∃ a b c d e f g r,l=a::b::c::d::e::f::g::r
 | []=>by simp
 | [a]=>by simp
 | [a,b]=>by simp
 | [a,b,c]=>by simp
 | [a,b,c,d]=>by simp
 | [a,b,c,d,e]=>by simp
 | [a,b,c,d,e,f]=>by simp
 | a::b::c::d::e::f::g::r=>by simp
theorem yks {l:List UInt8} {ok:Bool} (h:(two l ok).2.2=true):ok=true/\∃ a b,l=a::b::(two l ok).2.1/\(two l ok).1=zhd a b:=by
 match l,h with
 | x::y::r,h=>exact ⟨h,x,y,rfl,rfl⟩
 | [x],h=>cases h
 | [],h=>cases h
theorem znp (l:List UInt8) (ok:Bool):(two l ok).2.1.length<=l.length-2:=by
 match l with
 | x::y::r=>simp [two]
 | [x]=>simp [two]
 | []=>simp [two]
theorem zyr {l:List UInt8} {ok:Bool} (h:(two l ok).2.2=false):ok=false\/l.length<2:=by
 match l,h with
 | x::y::r,h=>exact .inl h
 | [x],h=>exact .inr zz5
 | [],h=>exact .inr zz5
theorem xok {s:List UInt8} (h:s.length<4\/s.length % 4≠0):(zcz 2 s).2=false:=by
 unfold zcz
 (repeat' split)<;>first | rfl | (exfalso;omega)
structure I2 (s:List UInt8) (tag room:Int) (l:List UInt8) (ok:Bool) (acc:List Span):Prop where
 good:ok=true->4<=s.length/\acc++zdt l=zdt (s.drop 4)/\l.length % 4=s.length % 4/\tag=zqf s 0/\room=zqf s 2
 bad:ok=false->(zcz 2 s).2=false
 len:acc.length+l.length<=256
theorem I2.start {s:List UInt8} (hs:s.length<=256):I2 s (two s true).1 (two (two s true).2.1 (two s true).2.2).1 (two (two s true).2.1 (two s true).2.2).2.1 (two (two s true).2.1 (two s true).2.2).2.2 []:=by
 refine ⟨fun h=>?_,fun h=>?_,?_⟩
 . obtain ⟨h1,c,d,h2,h3⟩:=yks h
   obtain ⟨_,a,b,h4,h5⟩:=yks h1;generalize (two (two s true).2.1 (two s true).2.2).2.1=r at *
   rw [h2] at h4;subst h4;refine ⟨by simp,by simp,by simp;omega,h5.trans rfl,h3.trans rfl⟩
 . refine xok ?_
   rcases zyr h with h1 | h1
   . rcases zyr h1 with h2 | h2
     . cases h2
     . left;omega
   . have:s.length<=(two s true).2.1.length+2:=by
      match s with
      | x::y::r=>simp [two]
      | [x]=>simp
      | []=>simp
     left;omega
 . have h1:=znp s true
   have h2:=znp (two s true).2.1 (two s true).2.2;simp only [zy14];omega
theorem I2.next {s l:List UInt8} {tag room:Int} {ok:Bool} {acc:List Span} (h:I2 s tag room l ok acc) (hl:0<l.length) :
 I2 s tag room (two (two l ok).2.1 (two l ok).2.2).2.1 (two (two l ok).2.1 (two l ok).2.2).2.2 (acc++[⟨(two l ok).1,(two (two l ok).2.1 (two l ok).2.2).1⟩]):=by
 have g1:=znp l ok;have g2:=znp (two l ok).2.1 (two l ok).2.2;refine ⟨fun h2=>?_,fun h2=>?_,?_⟩
 . obtain ⟨h3,c,d,h4,h5⟩:=yks h2
   obtain ⟨h6,a,b,h7,h8⟩:=yks h3;obtain ⟨i1,i2,i3,i4,i5⟩:=h.good h6;refine ⟨i1,?_,?_,i4,i5⟩
   . rw [<- i2,h8,h5,zy26]
     congr 1;generalize (two (two l ok).2.1 (two l ok).2.2).2.1=r at *
     rw [h7,h4]
     rfl
   . rw [<- i3]
     generalize (two (two l ok).2.1 (two l ok).2.2).2.1=r at *
     rw [h7,h4];simp;omega
 . cases hok:ok with
   | false=>exact h.bad hok
   | true =>
    obtain ⟨i1,i2,i3,i4,i5⟩:=h.good hok;refine xok (.inr ?_);rw [<- i3];have hlen:l.length<4:=by
     rcases zyr h2 with h3 | h3
     . rcases zyr h3 with h4 | h4
       . rw [hok] at h4;cases h4
       . omega
     . have:l.length<=(two l ok).2.1.length+2:=by
        match l with
        | x::y::r=>simp [two]
        | [x]=>simp
        | []=>simp
       omega
    omega
 . have:=h.len
   simp only [zy9,zy6,zy14];omega
theorem I2.done {s:List UInt8} {tag room:Int} {acc:List Span} (h:I2 s tag room [] true acc):zcz 2 s=(⟨2,tag,0,0,0,false,false,[],acc,room,[]⟩,true):=by
 obtain ⟨i1,i2,i3,i4,i5⟩:=h.good rfl;simp only [zdt,zy4] at i2;unfold zcz;rw [zy0 (by omega),zy0 (by decide),zy1 rfl,zy0 (by simp at i3;omega),i2,i4,i5]
 rfl
theorem xlb {kind:Int} {s:List UInt8} (k1:¬ kind=1) (k2:¬ kind=2) (h:s.length<2\/s.length % 4≠2\/(zcj (s.drop 2)).2=false):(zcz kind s).2=false:=by
 unfold zcz;rcases h with h | h | h
 . (repeat' split)<;>first | rfl | (exfalso;omega)
 . (repeat' split)<;>first | rfl | (exfalso;omega)
 . (repeat' split)<;>first | rfl | (exfalso;omega) | exact h
theorem yzk (l:List UInt8) (ok:Bool):(one l ok).2.1.length=l.length-1:=by
 match l with
 | x::r=>simp [one]
 | []=>simp [one]
structure I3 (kind:Int) (s:List UInt8) (tag:Int) (l:List UInt8) (ok:Bool) (acc:List zdv):Prop where
 good:ok=true->2<=s.length/\zcj (s.drop 2)=(acc++(zcj l).1,(zcj l).2)/\l.length % 4=(s.length-2) % 4/\tag=zqf s 0
 bad:ok=false->(zcz kind s).2=false
 len:acc.length+l.length<=256
theorem I3.start {kind:Int} {s:List UInt8} (k1:¬ kind=1) (k2:¬ kind=2) (hs:s.length<=256):I3 kind s (two s true).1 (two s true).2.1 (two s true).2.2 []:=by
 refine ⟨fun h=>?_,fun h=>?_,?_⟩
 . obtain ⟨_,a,b,h4,h5⟩:=yks h
   generalize (two s true).2.1=r at *
   subst h4;exact ⟨by simp,by simp,by simp,h5.trans rfl⟩
 . refine xlb k1 k2 ?_
   rcases zyr h with h1 | h1
   . cases h1
   . exact .inl h1
 . have h1:=znp s true
   simp only [zy14];omega
theorem I3.less {l:List UInt8} {ok:Bool} (hl:0<l.length):(two (one (one l ok).2.1 (one l ok).2.2).2.1 (one (one l ok).2.1 (one l ok).2.2).2.2).2.1.length<l.length:=by
 have h1:=znp (one (one l ok).2.1 (one l ok).2.2).2.1 (one (one l ok).2.1 (one l ok).2.2).2.2;have h2:=yzk l ok;have h3:=yzk (one l ok).2.1 (one l ok).2.2;omega
theorem I3.next {kind:Int} {s l:List UInt8} {tag:Int} {ok:Bool} {acc:List zdv} (h:I3 kind s tag l ok acc) (k1:¬ kind=1) (k2:¬ kind=2) (hl:0<l.length) :
 ((one (one l ok).2.1 (one l ok).2.2).1>1->I3 kind s tag (two (one (one l ok).2.1 (one l ok).2.2).2.1 (one (one l ok).2.1 (one l ok).2.2).2.2).2.1 false (acc++[⟨(one l ok).1,(two (one (one l ok).2.1 (one l ok).2.2).2.1 (one (one l ok).2.1 (one l ok).2.2).2.2).1,(one (one l ok).2.1 (one l ok).2.2).1==1⟩])) /\
 (¬ (one (one l ok).2.1 (one l ok).2.2).1>1->I3 kind s tag (two (one (one l ok).2.1 (one l ok).2.2).2.1 (one (one l ok).2.1 (one l ok).2.2).2.2).2.1 (two (one (one l ok).2.1 (one l ok).2.2).2.1 (one (one l ok).2.1 (one l ok).2.2).2.2).2.2
  (acc++[⟨(one l ok).1,(two (one (one l ok).2.1 (one l ok).2.2).2.1 (one (one l ok).2.1 (one l ok).2.2).2.2).1,(one (one l ok).2.1 (one l ok).2.2).1==1⟩])):=by
 have hlen:=h.len;have hless:=I3.less (ok:=ok) hl
 match l,hl with
 | [x],_ =>
  have hbad:(zcz kind s).2=false:=by
   cases hok:ok with
   | false=>exact h.bad hok
   | true =>
    obtain ⟨i1,i2,i3,i4⟩:=h.good hok;exact xlb k1 k2 (.inr (.inl (by simp at i3;omega)))
  refine ⟨fun h2=>absurd h2 (by simp [one]),fun _=>⟨fun h2=>(by cases h2),fun _=>hbad,by simp [one,two] at hlen ⊢;omega⟩⟩
 | [x,y],_ =>
  exact yy48
 | [x,y,z],_ =>
  exact yy48
 | x::y::z::w::r,_ =>
  simp only [one,two];have hbeq:((y.toNat:Int)==1)=(y.toNat==1):=by
   rcases Nat.decEq y.toNat 1 with h | h
   . rw [show ((y.toNat:Int)==1)=false from by simpa using (by omega:¬ (y.toNat:Int)=1),show (y.toNat==1)=false from by simpa using h]
   . rw [h];rfl
  refine ⟨fun h2=>⟨fun h3=>(by cases h3),fun _=>?_,by simp at hlen ⊢;omega⟩,fun h2=>⟨fun hok=>?_,fun hok=>h.bad hok,by simp at hlen ⊢;omega⟩⟩
  . cases hok:ok with
    | false=>exact h.bad hok
    | true =>
     obtain ⟨i1,i2,i3,i4⟩:=h.good hok;refine xlb k1 k2 (.inr (.inr ?_));rw [i2];show (zcj (x::y::z::w::r)).2=false;rw [zcj,zy1 (by omega)]
  . obtain ⟨i1,i2,i3,i4⟩:=h.good hok
    refine ⟨i1,?_,by rw [<- i3];simp only [zy6];omega,i4⟩;rw [i2,zcj,zy0 (by omega),hbeq];simp
theorem I3.done {kind:Int} {s:List UInt8} {tag:Int} {acc:List zdv} (k1:¬ kind=1) (k2:¬ kind=2) (h:I3 kind s tag [] true acc):zcz kind s=(⟨kind,tag,0,0,0,false,false,[],[],0,acc⟩,true):=by
 obtain ⟨i1,i2,i3,i4⟩:=h.good rfl;simp only [zcj,zy4] at i2;unfold zcz;rw [zy0 (by omega),zy0 k1,zy0 k2,zy0 (by simp at i3;omega),i2,i4]
 rfl
theorem yns (b:List UInt8) (hb:b.length<2 ^ 39):zan Tryz.prog 172 [yfv b] zad (.tup [(parse b).1.hv,i64 (parse b).2.1,i64 (parse b).2.2]) zad:=by
 refine zal mixed Tryz.func172 zz4 ?_;have hl:(b.map zcs).length=b.length:=by simp
 have hb1:=(b[1]?.getD 0).toNat_lt;(conv=>whnf);refine zah (fun c1=>?_) (fun c1=>?_)
 . have c1:(b.length:Int)<2:=by simpa using c1
   rw [parse,zy1 (.inl (by omega))];(conv=>whnf)
   rfl
 have c1:¬ (b.length:Int)<2:=by simpa using c1
 (conv=>whnf);refine zjn 1 rfl zz0 (zw ?_);refine zao (zmj _) (zw ?_);refine zao (z:=((b.map zcs).length:Int)-2) (zbs zz0 zz0) (zw ?_);refine zah (fun c2=>?_) (fun c2=>?_)
 . have c2:((b[1]?.getD 0).toNat:Int)>((b.map zcs).length:Int)-2:=zy29 c2
   rw [parse,zy1 (.inr (by omega))];(conv=>whnf)
   rfl
 have c2:¬ ((b[1]?.getD 0).toNat:Int)>((b.map zcs).length:Int)-2:=zy36 c2;rw [parse,zy0 (by omega)];(conv=>whnf);refine zjn 0 rfl zz0 (zw ?_);refine zah (fun c3=>?_) (fun c3=>?_)
 . have c3:((b[0]?.getD 0).toNat:Int)<1:=zy29 c3
   rw [zy1 (.inl (by omega))];(conv=>whnf)
   rfl
 have c3:¬ ((b[0]?.getD 0).toNat:Int)<1:=zy36 c3;(conv=>whnf);refine zjn 0 rfl zz0 (zw ?_);refine zah (fun c4=>?_) (fun c4=>?_)
 . have c4:((b[0]?.getD 0).toNat:Int)>3:=zy29 c4
   rw [zy1 (.inr (by omega))];(conv=>whnf)
   rfl
 have c4:¬ ((b[0]?.getD 0).toNat:Int)>3:=zy36 c4;rw [zy0 (by omega)];(conv=>whnf);refine zjn 1 rfl zz0 (zw ?_);refine zao (zmj _) (zw ?_);refine zao (z:=2+((b[1]?.getD 0).toNat:Int)) (zbs zz0 zz0) ?_;conv=>whnf
 refine zaa zz0 (zw ?_);refine zhr (o':=2) (n':=(b[1]?.getD 0).toNat) rfl zz0 ?_;refine zgt (l:=b) zz0 ?_;have hlen:((b.drop 2).take (b[1]?.getD 0).toNat).length<=256:=by simp;omega
 generalize zsl:(b.drop 2).take (b[1]?.getD 0).toNat=s at hlen ⊢;(conv=>whnf);refine zjn 0 rfl zz0 (zw ?_);refine zao (zmj _) (zw ?_);refine zaf [] [(1000,46)] [] (zw ?_);refine ⟨_,_,_,_,zme s true,⟨rfl,rfl,rfl,⟨zz1,trivial⟩,trivial,rfl,rfl,rfl⟩,?_⟩;(conv=>whnf);refine zaw ?_ ?_
 . kernel_rfl
 (conv=>whnf);generalize ((b[0]?.getD 0).toNat:Int)=kind at *
 refine zil.go (zw ?_);refine zah (fun k1=>?_) (fun k1=>?_)
 . have k1:kind=1:=by simpa using k1
   subst k1;by_cases h7:s.length<7
   . have hbad:(zcz 1 s).2=false:=by
      unfold zcz;split
      . rfl
      . rw [zy1 rfl,zy1 (.inl h7)]
     rw [zy1 hbad];rcases xas s with rfl | ⟨x0,rfl⟩ | ⟨x0,x1,rfl⟩ | ⟨x0,x1,x2,rfl⟩ | ⟨x0,x1,x2,x3,rfl⟩ | ⟨x0,x1,x2,x3,x4,rfl⟩ | ⟨x0,x1,x2,x3,x4,x5,rfl⟩ | ⟨x0,x1,x2,x3,x4,x5,x6,r,rfl⟩
     case inr.inr.inr.inr.inr.inr.inr=>simp at h7;omega
     all_goals
      conv=>whnf
      (repeat' (first | (refine zcg ?_;conv=>whnf) | (refine zaa ?_ ?_;(first | kernel_rfl | decide);conv=>whnf) | (refine zaw ?_ ?_;kernel_rfl;conv=>whnf) | (refine zil.go ?_;conv=>whnf) | (refine zaf [] [(1000,46)]   []  ?_;(conv=>whnf);refine ⟨_,_,_,_, zoh _ _,⟨rfl,rfl,rfl,⟨zz1,trivial⟩,trivial,rfl,rfl,rfl⟩,?_⟩;conv=>whnf) | (refine zaf [] [(1000,46)]   []  ?_;(conv=>whnf);refine ⟨_,_,_,_, zme _ _,⟨rfl,rfl,rfl,⟨zz1,trivial⟩,trivial,rfl,rfl,rfl⟩,?_⟩;conv=>whnf) | (refine zah (fun h=>?_) (fun h=>?_)<;>conv=>whnf)))
     all_goals first | rfl | (refine zaa (c:=(([]:List (List PV)).length+(([]:List UInt8).map zcs).length)*1<=140737488355328) zz4 ?_;(conv=>whnf);rfl)
   . rcases xas s with rfl | ⟨x0,rfl⟩ | ⟨x0,x1,rfl⟩ | ⟨x0,x1,x2,rfl⟩ | ⟨x0,x1,x2,x3,rfl⟩ | ⟨x0,x1,x2,x3,x4,rfl⟩ | ⟨x0,x1,x2,x3,x4,x5,rfl⟩ | ⟨x0,x1,x2,x3,x4,x5,x6,r,rfl⟩
     case inr.inr.inr.inr.inr.inr.inr =>
      conv=>whnf
      (repeat' (first | (refine zcg ?_;conv=>whnf) | (refine zaa ?_ ?_;(first | kernel_rfl | decide);conv=>whnf) | (refine zaw ?_ ?_;kernel_rfl;conv=>whnf) | (refine zil.go ?_;conv=>whnf) | (refine zaf [] [(1000,46)]   []  ?_;(conv=>whnf);refine ⟨_,_,_,_, zoh _ _,⟨rfl,rfl,rfl,⟨zz1,trivial⟩,trivial,rfl,rfl,rfl⟩,?_⟩;conv=>whnf) | (refine zaf [] [(1000,46)]   []  ?_;(conv=>whnf);refine ⟨_,_,_,_, zme _ _,⟨rfl,rfl,rfl,⟨zz1,trivial⟩,trivial,rfl,rfl,rfl⟩,?_⟩;conv=>whnf) | (refine zah (fun h=>?_) (fun h=>?_)<;>conv=>whnf)))
      all_goals
       refine zaa (c:=(([]:List (List PV)).length+(r.map zcs).length)*1<=140737488355328) (by simp at hlen ⊢;omega) ?_;(conv=>whnf)
      . rename_i h
        have h:(x3.toNat:Int)>3:=zy29 h;have hbad:(zcz 1 (x0::x1::x2::x3::x4::x5::x6::r)).2=false:=by
         unfold zcz;rw [zy0 (by simp),zy1 rfl,zy1 (.inr (by simp;omega))]
        rw [zy1 hbad]
        rfl
      . rename_i h
        have h:¬ (x3.toNat:Int)>3:=zy36 h;have hbody:zcz 1 (x0::x1::x2::x3::x4::x5::x6::r)=(⟨1,zhd x0 x1,x2.toNat,zhd x4 x5,x6.toNat,(x3.toNat:Int).tmod 2==1,W ((x3.toNat:Int).tdiv 2)==1,r,[],0,[]⟩,true):=by
         unfold zcz;rw [zy0 (by simp),zy1 rfl,zy0 (by simp;omega)];have e1:((x3.toNat:Int).tmod 2==1)=(x3.toNat % 2 != 0):=by
          generalize x3.toNat=n at h ⊢;have:n<=3:=by omega
          match n,this with
          | 0,_=>decide
          | 1,_=>decide
          | 2,_=>decide
          | 3,_=>decide
         have e2:(W ((x3.toNat:Int).tdiv 2)==1)=(x3.toNat / 2*2 != 0):=by
          generalize x3.toNat=n at h ⊢;have:n<=3:=by omega
          match n,this with
          | 0,_=>decide
          | 1,_=>decide
          | 2,_=>decide
          | 3,_=>decide
         rw [e1,e2]
         rfl
        rw [hbody];refine zbf (zw ?_);refine ⟨_,zhx ⟨1,zhd x0 x1,x2.toNat,zhd x4 x5,x6.toNat,(x3.toNat:Int).tmod 2==1,W ((x3.toNat:Int).tdiv 2)==1,r,[],0,[]⟩ zz5 zz5,rfl,?_⟩;rw [zy0 (by simp)];generalize hw:zdi _=w;exact yy42
     all_goals (exfalso;simp at h7)
 . have k1:¬ kind=1:=by simpa using k1
   (conv=>whnf);obtain ⟨T,hT⟩:∃ T,T=two s true:=⟨_,rfl⟩
   rw [<- hT];refine zah (fun k2=>?_) (fun k2=>?_)
   . have k2:kind=2:=by simpa using k2
     subst k2;(conv=>whnf);refine zaf [] [(1000,46)] [] (zw ?_);refine ⟨_,_,_,_,zme T.2.1 T.2.2,⟨rfl,rfl,rfl,⟨zz1,trivial⟩,trivial,rfl,rfl,rfl⟩,?_⟩;obtain ⟨R,hR⟩:∃ R,R=two T.2.1 T.2.2:=⟨_,rfl⟩
     rw [<- hR];have hi:=I2.start hlen;rw [<- hT,<- hR] at hi;clear hT hR;(conv=>whnf);refine ⟨{x:List UInt8×Bool×List Span // I2 s T.1 R.1 x.1 x.2.1 x.2.2},fun | ⟨(l,ok,acc),_⟩=>hs 152 [(2,.ptr 2 0),(5,i64 (2+(b[1]?.getD 0).toNat)),(6,.ptr 46 0),(7,.ptr 7 0)] [(2,.live (.cells 61 yod)),(46,rd l ok),(7,.live (.cells 61 [i64 2,i64 T.1,i64 0,i64 0,i64 0,zbj false,zbj false,zej,.own 900,i64 R.1,zej])),(900,.live (.row 199 2 (acc.map Span.row)))],fun x=>x.1.1.length,⟨(R.2.1,R.2.2,[]),hi⟩,?_,?_⟩
     . exact zcn [(2,some 2),(46,some 46),(7,some 7),(900,none)] rfl rfl rfl rfl ⟨⟨rfl,rfl⟩,⟨rfl,rfl⟩,⟨rfl,rfl⟩,⟨rfl,rfl⟩,trivial⟩ ⟨⟨rfl,.inl ⟨2,rfl,rfl⟩⟩,⟨rfl,.inl ⟨46,rfl,rfl⟩⟩,⟨rfl,.inl ⟨7,rfl,rfl⟩⟩,⟨rfl,.inr ⟨rfl,rfl⟩⟩,trivial⟩
     rintro ⟨⟨l,ok,acc⟩,hinv⟩;dsimp only at hinv;(conv=>whnf);refine zah (fun c=>?_) (fun c=>?_)
     . have hl0:0<l.length:=by
        have:=zy29 c;rw [zy3] at this;omega
       (conv=>whnf);refine zaf [] [(1000,46)] [] (zw ?_);refine ⟨_,_,_,_,zme l ok,⟨rfl,rfl,rfl,⟨zz1,trivial⟩,trivial,rfl,rfl,rfl⟩,?_⟩;(conv=>whnf);refine zaf [] [(1000,46)] [] (zw ?_);refine ⟨_,_,_,_,zme (two l ok).2.1 (two l ok).2.2,⟨rfl,rfl,rfl,⟨zz1,trivial⟩,trivial,rfl,rfl,rfl⟩,?_⟩;(conv=>whnf);refine zaa (c:=((acc.map Span.row).length+1)*16<=140737488355328) zz114 (zw ?_);refine zaw ?_ ?_
       . kernel_rfl
       (conv=>whnf);have g1:=znp l ok;have g2:=znp (two l ok).2.1 (two l ok).2.2;refine ⟨⟨((two (two l ok).2.1 (two l ok).2.2).2.1,(two (two l ok).2.1 (two l ok).2.2).2.2,acc++[⟨(two l ok).1,(two (two l ok).2.1 (two l ok).2.2).1⟩]),hinv.next hl0⟩,zcn [(2,some 2),(46,some 46),(7,some 7),(900,some 136)] rfl rfl rfl rfl ⟨⟨rfl,rfl⟩,⟨rfl,rfl⟩,⟨rfl,rfl⟩,⟨rfl,rfl⟩,trivial⟩ ⟨⟨rfl,.inl ⟨2,rfl,rfl⟩⟩,⟨rfl,.inl ⟨46,rfl,rfl⟩⟩,⟨rfl,.inl ⟨7,rfl,rfl⟩⟩,⟨rfl,.inl ⟨136,rfl,?_⟩⟩,trivial⟩,by dsimp only;omega⟩;show zai.live (.row _ 2 (acc.map Span.row++[Span.row ⟨(two l ok).1,(two (two l ok).2.1 (two l ok).2.2).1⟩]))=zai.live (.row _ 2 (List.map Span.row (acc++[⟨(two l ok).1,(two (two l ok).2.1 (two l ok).2.2).1⟩])));rw [zy39]
       rfl
     . have hl0:l=[]:=by
        have:=zy36 c;rw [zy3] at this;exact zy20 zz0
       subst hl0;cases ok with
       | false =>
        have hbad:=hinv.bad rfl;(conv=>whnf);rw [zy1 hbad]
        rfl
       | true =>
        have hbody:=hinv.done;(conv=>whnf);refine zbf (zw ?_);refine ⟨_,zhx ⟨2,T.1,0,0,0,false,false,[],acc,R.1,[]⟩ zz114 zz5,rfl,?_⟩;rw [hbody,zy0 (by simp)];generalize hw:zdi _=w;exact yy42
   . have k2:¬ kind=2:=by simpa using k2
     have hi:=I3.start k1 k2 hlen;rw [<- hT] at hi;clear hT;(conv=>whnf);refine ⟨{x:List UInt8×Bool×List zdv // I3 kind s T.1 x.1 x.2.1 x.2.2},fun | ⟨(l,ok,acc),_⟩=>hs 152 [(2,.ptr 2 0),(5,i64 (2+(b[1]?.getD 0).toNat)),(6,.ptr 46 0),(7,.ptr 7 0)] [(2,.live (.cells 61 yod)),(46,rd l ok),(7,.live (.cells 61 [i64 kind,i64 T.1,i64 0,i64 0,i64 0,zbj false,zbj false,zej,zej,i64 0,.own 900])),(900,.live (.row 180 3 (acc.map zdv.row)))],fun x=>x.1.1.length,⟨(T.2.1,T.2.2,[]),hi⟩,?_,?_⟩
     . exact zcn [(2,some 2),(46,some 46),(7,some 7),(900,none)] rfl rfl rfl rfl ⟨⟨rfl,rfl⟩,⟨rfl,rfl⟩,⟨rfl,rfl⟩,⟨rfl,rfl⟩,trivial⟩ ⟨⟨rfl,.inl ⟨2,rfl,rfl⟩⟩,⟨rfl,.inl ⟨46,rfl,rfl⟩⟩,⟨rfl,.inl ⟨7,rfl,rfl⟩⟩,⟨rfl,.inr ⟨rfl,rfl⟩⟩,trivial⟩
     rintro ⟨⟨l,ok,acc⟩,hinv⟩;dsimp only at hinv;(conv=>whnf);refine zah (fun c=>?_) (fun c=>?_)
     . have hl0:0<l.length:=by
        have:=zy29 c;rw [zy3] at this;omega
       (conv=>whnf);refine zaf [] [(1000,46)] [] (zw ?_);refine ⟨_,_,_,_,zoh l ok,⟨rfl,rfl,rfl,⟨zz1,trivial⟩,trivial,rfl,rfl,rfl⟩,?_⟩;obtain ⟨A,hA⟩:∃ A,A=one l ok:=⟨_,rfl⟩
       rw [<- hA];(conv=>whnf);refine zaf [] [(1000,46)] [] (zw ?_);refine ⟨_,_,_,_,zoh A.2.1 A.2.2,⟨rfl,rfl,rfl,⟨zz1,trivial⟩,trivial,rfl,rfl,rfl⟩,?_⟩;obtain ⟨B,hB⟩:∃ B,B=one A.2.1 A.2.2:=⟨_,rfl⟩
       rw [<- hB];(conv=>whnf);refine zaf [] [(1000,46)] [] (zw ?_);refine ⟨_,_,_,_,zme B.2.1 B.2.2,⟨rfl,rfl,rfl,⟨zz1,trivial⟩,trivial,rfl,rfl,rfl⟩,?_⟩;obtain ⟨D,hD⟩:∃ D,D=two B.2.1 B.2.2:=⟨_,rfl⟩
       rw [<- hD];(conv=>whnf);refine zil.go (zw ?_);refine zah (fun c5=>?_) (fun c5=>?_)
       . have c5:=zy29 c5
         have hn:=hinv.next k1 k2 hl0;rw [<- hA,<- hB,<- hD] at hn;have hn:=hn.1 c5;have hdl:D.2.1.length<l.length:=by rw [hD,hB,hA];exact I3.less hl0
         (conv=>whnf);refine zaa (c:=((acc.map zdv.row).length+1)*24<=140737488355328) zz114 (zw ?_);refine ⟨⟨(D.2.1,false,acc++[⟨A.1,D.1,B.1==1⟩]),hn⟩,zcn [(2,some 2),(46,some 46),(7,some 7),(900,some 82)] rfl rfl rfl rfl ⟨⟨rfl,rfl⟩,⟨rfl,rfl⟩,⟨rfl,rfl⟩,⟨rfl,rfl⟩,trivial⟩ ⟨⟨rfl,.inl ⟨2,rfl,rfl⟩⟩,⟨rfl,.inl ⟨46,rfl,rfl⟩⟩,⟨rfl,.inl ⟨7,rfl,rfl⟩⟩,⟨rfl,.inl ⟨82,rfl,?_⟩⟩,trivial⟩,hdl⟩;exact yy116
       . have c5:=zy36 c5
         have hn:=hinv.next k1 k2 hl0;rw [<- hA,<- hB,<- hD] at hn;have hn:=hn.2 c5;have hdl:D.2.1.length<l.length:=by rw [hD,hB,hA];exact I3.less hl0
         (conv=>whnf);refine zaa (c:=((acc.map zdv.row).length+1)*24<=140737488355328) zz114 (zw ?_);refine ⟨⟨(D.2.1,D.2.2,acc++[⟨A.1,D.1,B.1==1⟩]),hn⟩,zcn [(2,some 2),(46,some 46),(7,some 7),(900,some 82)] rfl rfl rfl rfl ⟨⟨rfl,rfl⟩,⟨rfl,rfl⟩,⟨rfl,rfl⟩,⟨rfl,rfl⟩,trivial⟩ ⟨⟨rfl,.inl ⟨2,rfl,rfl⟩⟩,⟨rfl,.inl ⟨46,rfl,rfl⟩⟩,⟨rfl,.inl ⟨7,rfl,rfl⟩⟩,⟨rfl,.inl ⟨82,rfl,?_⟩⟩,trivial⟩,hdl⟩;exact yy116
     . have hl0:l=[]:=by
        have:=zy36 c;rw [zy3] at this;exact zy20 zz0
       subst hl0;cases ok with
       | false =>
        have hbad:=hinv.bad rfl;(conv=>whnf);rw [zy1 hbad]
        rfl
       | true =>
        have hbody:=hinv.done k1 k2;(conv=>whnf);refine zbf (zw ?_);refine ⟨_,zhx ⟨kind,T.1,0,0,0,false,false,[],[],0,acc⟩ zz5 zz114,rfl,?_⟩;rw [hbody,zy0 (by simp)];generalize hw:zdi _=w;exact yy42
end Chk
namespace Chk
theorem yiu (b:List UInt8):(parse b).1.zar.length<=b.length/\(parse b).1.zbm.length<=b.length:=by
 have h:=zzs (b[0]?.getD 0).toNat ((b.drop 2).take (b[1]?.getD 0).toNat);have h3:((b.drop 2).take (b[1]?.getD 0).toNat).length<=b.length:=by simp;omega
 unfold parse
 (repeat' split)<;>constructor<;>first | (simp [no];done) | (dsimp only;omega)
end Chk
namespace Chk
theorem xhp {n:Nat} (h:n<256):(by8 n).toNat=n:=by
 have:=zgl (n:Int);omega
theorem ych {z:Int} (h0:0<=z) (h1:z<256):((by8 z).toNat:Int)=z:=by
 have:=zgl z;omega
def clean (c:Chunk):Chunk :=
 if c.kind=1 then {no with kind:=c.kind,tag:=c.tag,stream:=c.stream,mid:=c.mid,part:=c.part,last:=c.last,ordered:=c.ordered,data:=c.data}
 else if c.kind=2 then {no with kind:=c.kind,tag:=c.tag,room:=c.room,zar:=c.zar}
 else {no with kind:=c.kind,tag:=c.tag,zbm:=c.zbm}
theorem ysv (c:Chunk):(clean c).kind=c.kind:=by unfold clean;(repeat' split)<;>rfl
theorem ywm (c:Chunk):(clean c).tag=c.tag:=by unfold clean;(repeat' split)<;>rfl
theorem yll (c:Chunk):zdi (clean c)=zdi c:=by
 by_cases k1:c.kind=1
 . unfold zdi clean;simp only [k1,if_true]
 . by_cases k2:c.kind=2
   . unfold zdi clean;simp only [k1,k2,if_true,if_false]
     simp
   . unfold zdi clean;simp only [k1,k2,if_false]
theorem zrf:∀ {l:List Span},(∀ s∈l,(0<=s.lo/\s.lo<65536)/\(0<=s.hi/\s.hi<65536))->zdt (zce l)=l
 | [],_=>rfl
 | s::r,h=>by
  have h1:=h s zz5;have h2:=zrf (l:=r) fun x hx=>h x zz52
  show zdt (by8 (s.lo / 256)::by8 s.lo::by8 (s.hi / 256)::by8 s.hi::zce r)=s::r;rw [zdt,h2,zmw h1.1.1 h1.1.2,zmw h1.2.1 h1.2.2]
theorem zow:∀ {l:List zdv},(∀ s∈l,(0<=s.stream/\s.stream<4)/\(0<=s.mid/\s.mid<65536))->zcj (skipBytes l)=(l,true)
 | [],_=>rfl
 | s::r,h=>by
  have h1:=h s zz5;have h2:=zow (l:=r) fun x hx=>h x zz52
  show zcj (by8 s.stream::by8 (if s.ordered then 1 else 0)::by8 (s.mid / 256)::by8 s.mid::skipBytes r)=(s::r,true);rw [zcj,h2,zmw h1.2.1 h1.2.2,ych h1.1.1 (by omega)];obtain ⟨st,md,od⟩:=s;cases od<;>rfl
theorem ylf {c:Chunk} (h:zdi c=0):zcz c.kind (body c)=(clean c,true):=by
 have hf:=xks h;by_cases k1:c.kind=1
 . obtain ⟨d1,d2,d3,d4,d5⟩:=hf.data k1
   have hb:body c=by8 (c.tag / 256)::by8 c.tag::by8 c.stream::by8 (flags c)::by8 (c.mid / 256)::by8 c.mid::by8 c.part::c.data:=by
    rw [body,zy1 k1];rfl
   have hfl:(by8 (flags c)).toNat<=3/\((by8 (flags c)).toNat % 2 != 0)=c.last/\((by8 (flags c)).toNat / 2*2 != 0)=c.ordered:=by
    unfold flags;cases c.last<;>cases c.ordered<;>decide
   rw [hb];unfold zcz;rw [zy0 (by simp),zy1 k1,zy0 (by simp;omega)];show (({no with kind:=c.kind,tag:=zhd (by8 (c.tag / 256)) (by8 c.tag),stream:=(by8 c.stream).toNat,last:=(by8 (flags c)).toNat % 2 != 0,ordered:=(by8 (flags c)).toNat / 2*2 != 0,mid:=zhd (by8 (c.mid / 256)) (by8 c.mid),part:=(by8 c.part).toNat,data:=c.data}:Chunk),true)=_;rw [zmw hf.tag.1 hf.tag.2,zmw d2.1 d2.2,ych d1.1 (by omega),ych d3.1 (by omega),hfl.2.1,hfl.2.2,clean,zy1 k1]
 . by_cases k2:c.kind=2
   . obtain ⟨d1,d2,d3⟩:=hf.room k2
     have hb:body c=by8 (c.tag / 256)::by8 c.tag::by8 (c.room / 256)::by8 c.room::zce c.zar:=by
      rw [body,zy0 k1,zy1 k2];rfl
     rw [hb];unfold zcz;rw [zy0 (by simp),zy0 k1,zy1 k2,zy0 (by simp [zjd];omega)];show (({no with kind:=c.kind,tag:=zhd (by8 (c.tag / 256)) (by8 c.tag),room:=zhd (by8 (c.room / 256)) (by8 c.room),zar:=zdt (zce c.zar)}:Chunk),true)=_;rw [zmw hf.tag.1 hf.tag.2,zmw d1.1 d1.2,zrf (yem d3 (by decide)),clean,zy0 k1,zy1 k2]
   . obtain ⟨d1,d2⟩:=hf.zbm k1 k2
     have hb:body c=by8 (c.tag / 256)::by8 c.tag::skipBytes c.zbm:=by
      rw [body,zy0 k1,zy0 k2];rfl
     rw [hb];unfold zcz;rw [zy0 (by simp),zy0 k1,zy0 k2,zy0 (by simp [zjc];omega)];show (({no with kind:=c.kind,tag:=zhd (by8 (c.tag / 256)) (by8 c.tag),zbm:=(zcj (skipBytes c.zbm)).1}:Chunk),(zcj (skipBytes c.zbm)).2)=_;rw [zmw hf.tag.1 hf.tag.2,zow (yej d2),clean,zy0 k1,zy0 k2]
theorem ymy {c:Chunk} (h:zdi c=0) (b:List UInt8):parse (bytes c++b)=(clean c,((bytes c).length:Int),(0:Int)):=by
 have hf:=xks h;have hl:=zve h;have hk:((by8 c.kind).toNat:Int)=c.kind:=ych (by have:=hf.kind;omega) (by have:=hf.kind;omega);have hn:(by8 ((body c).length:Int)).toNat=(body c).length:=xhp zz0;have hb:bytes c++b=by8 c.kind::by8 (body c).length::(body c++b):=by rw [bytes,zy1 h];rfl
 have hs:((by8 c.kind::by8 (body c).length::(body c++b)).drop 2).take (by8 ((body c).length:Int)).toNat=body c:=by
  rw [hn];simp
 rw [hb];have e0:(by8 c.kind::by8 (body c).length::(body c++b))[0]?.getD 0=by8 c.kind:=rfl;have e1:(by8 c.kind::by8 (body c).length::(body c++b))[1]?.getD 0=by8 (body c).length:=rfl;unfold parse;rw [e0,e1,hs,zy0 (by simp;omega),zy0 (by have:=hf.kind;omega),hk,ylf h,zy0 (by simp)];dsimp only;rw [zy0 (by rw [yll,h];simp),hn,bytes,zy1 h];simp;omega
theorem zup:∀ {l:List UInt8},l.length % 4=0->zce (zdt l)=l
 | a::b::c::d::r,h=>by
  have:=zup (l:=r) (by simp at h;omega);rw [zdt];show zbu (zhd a b)++zbu (zhd c d)++zce (zdt r)=_;rw [zmx,zmx,this];rfl
 | [],_=>rfl
 | [_],h=>by simp at h
 | [_,_],h=>by simp at h
 | [_,_,_],h=>by simp at h
theorem zuo:∀ {l:List UInt8},l.length % 4=0->(zcj l).2=true->skipBytes (zcj l).1=l
 | a::b::c::d::r,h,h2=>by
  rw [zcj] at h2 ⊢;split at h2
  . cases h2
  . rename_i hb
    have:=zuo (l:=r) (by simp at h;omega) h2;rw [zy0 hb];show [by8 (a.toNat:Int),by8 (if (b.toNat==1)=true then 1 else 0)]++zbu (zhd c d)++skipBytes (zcj r).1=_;rw [zmx,this,zzu];have hb2:by8 (if (b.toNat==1)=true then 1 else 0)=b:=by
     apply UInt8.toNat_inj.1;rcases zy67 b.toNat 1 with h1 | h1
     . have:b.toNat=0:=by omega
       rw [this];rfl
     . have:b.toNat=1:=by omega
       rw [this];rfl
    rw [hb2];rfl
 | [],_,_=>rfl
 | [_],h,_=>by simp at h
 | [_,_],h,_=>by simp at h
 | [_,_,_],h,_=>by simp at h
theorem xhn {kind:Int} {s:List UInt8} (h:(zcz kind s).2=true):body (zcz kind s).1=s/\(zcz kind s).1.kind=kind:=by
 unfold zcz at h ⊢;split at h
 . cases h
 rename_i h2;rw [zy0 h2];by_cases k1:kind=1
 . rw [zy1 k1] at h ⊢
   split at h
   . cases h
   rename_i h3;rw [zy0 h3];refine ⟨?_,rfl⟩;rcases xas s with rfl | ⟨x0,rfl⟩ | ⟨x0,x1,rfl⟩ | ⟨x0,x1,x2,rfl⟩ | ⟨x0,x1,x2,x3,rfl⟩ | ⟨x0,x1,x2,x3,x4,rfl⟩ | ⟨x0,x1,x2,x3,x4,x5,rfl⟩ | ⟨x0,x1,x2,x3,x4,x5,x6,r,rfl⟩
   case inr.inr.inr.inr.inr.inr.inr =>
    have hx:x3.toNat<=3:=by simp at h3;omega
    rw [body,zy1 k1];show zbu (zhd x0 x1)++[by8 (x2.toNat:Int),by8 ((if (x3.toNat % 2 != 0)=true then 1 else 0)+(if (x3.toNat / 2*2 != 0)=true then 2 else 0))]++zbu (zhd x4 x5)++[by8 (x6.toNat:Int)]++r=_;have hfl:by8 ((if (x3.toNat % 2 != 0)=true then 1 else 0)+(if (x3.toNat / 2*2 != 0)=true then 2 else 0))=x3:=by
     apply UInt8.toNat_inj.1;generalize x3.toNat=n at hx
     match n,hx with
     | 0,_=>decide
     | 1,_=>decide
     | 2,_=>decide
     | 3,_=>decide
    rw [zmx,zmx,zzu,zzu,hfl];rfl
   all_goals (exfalso;simp at h3)
 . rw [zy0 k1] at h ⊢
   match s,h2 with
   | a::b::r,_ =>
    by_cases k2:kind=2
    . rw [zy1 k2] at h ⊢
      split at h
      . cases h
      rename_i h3;rw [zy0 h3];refine ⟨?_,rfl⟩
      match r,h3 with
      | c::d::r,h3 =>
       rw [body,zy0 k1,zy1 k2];show zbu (zhd a b)++zbu (zhd c d)++zce (zdt r)=_;rw [zmx,zmx,zup (by simp at h3;omega)];rfl
      | [],h3=>simp at h3
      | [_],h3=>simp at h3
    . rw [zy0 k2] at h ⊢
      split at h
      . cases h
      rename_i h3;rw [zy0 h3];refine ⟨?_,rfl⟩;rw [body,zy0 k1,zy0 k2];show zbu (zhd a b)++skipBytes (zcj r).1=_;rw [zmx,zuo (l:=r) (by simp at h3;omega) h];rfl
   | [],h2=>simp at h2
   | [_],h2=>simp at h2
theorem yau {b:List UInt8} (h:(parse b).2.2=0):zdi (parse b).1=0/\0<=(parse b).2.1/\(parse b).2.1<=b.length/\bytes (parse b).1=b.take (parse b).2.1.toNat:=by
 by_cases h1:b.length<2\/b.length<2+(b[1]?.getD 0).toNat
 . rw [parse,zy1 h1] at h;cases h
 by_cases h2:(b[0]?.getD 0).toNat<1\/(b[0]?.getD 0).toNat>3
 . rw [parse,zy0 h1,zy1 h2] at h;cases h
 generalize hs:(b.drop 2).take (b[1]?.getD 0).toNat=s;cases h3:(zcz (b[0]?.getD 0).toNat s).2 with
 | false=>rw [parse,zy0 h1,zy0 h2,hs,zy1 h3] at h;cases h
 | true =>
  by_cases h4:zdi (zcz (b[0]?.getD 0).toNat s).1=0
  . have hp:parse b=((zcz (b[0]?.getD 0).toNat s).1,2+((b[1]?.getD 0).toNat:Int),(0:Int)):=by
     rw [parse,zy0 h1,zy0 h2,hs,zy0 (by rw [h3];simp),zy0 (fun h=>h h4)]
    obtain ⟨g1,g2⟩:=xhn h3;have hlen:s.length=(b[1]?.getD 0).toNat:=by rw [<- hs];simp;omega
    rw [hp];refine ⟨h4,by dsimp only;omega,by dsimp only;omega,?_⟩;dsimp only;rw [bytes,zy1 h4,g1,g2,hlen,zzu,zzu];have e2:∀ m:Nat,(2+(m:Int)).toNat=m+1+1:=by intro m;omega
    rw [e2]
    match b,h1,hs with
    | x::y::r,h1,hs =>
     rw [<- hs];rfl
    | [],h1,_=>simp at h1
    | [_],h1,_=>simp at h1
  . rw [parse,zy0 h1,zy0 h2,hs,zy0 (by rw [h3];simp),zy1 h4] at h
    exact absurd h h4
end Chk
namespace Pck
open Chk
abbrev chunks (l:List Chunk):HV:=.p (.sl 11 (l.map Chunk.row))
def zfd (l:List Chunk):Prop:=l.length<2 ^ 38/\∀ c∈l,c.zar.length<2 ^ 38/\c.zbm.length<2 ^ 38
def zcr:List Chunk->Int
 | []=>0
 | c::r=>if zdi c≠0 then zdi c else zcr r
def zbv (l:List Chunk):List UInt8:=l.flatMap Chk.bytes
def zcx (l:List Chunk) (most:Int):List UInt8×Int :=
 if l.length=0 then ([],5) else if zcr l≠0 then ([],zcr l) else if ((zbv l).length:Int)>most then ([],4) else (zbv l,0)
theorem zqh (c:Chunk):(Chk.bytes c).length<=36:=by
 unfold Chk.bytes;split
 . rename_i h;have:=zve h;simp;omega
 . simp
theorem zgy:∀ l:List Chunk,(zbv l).length<=36*l.length
 | []=>by simp [zbv]
 | c::r=>by
  have h1:=zqh c;have h2:=zgy r;simp only [zbv,List.flatMap_cons,zy9,zy6] at h2 ⊢;omega
theorem zfj {l:List Chunk} {k:Nat} (h:k<l.length):zbv (l.take (k+1))=zbv (l.take k)++Chk.bytes l[k]:=by
 rw [<- zy97 h,zbv,zy127];simp [zbv]
theorem zgw (l:List Chunk) (most:Int) (hl:zfd l):zan Tryz.prog 141 [chunks l,i64 most] zad (.tup [yfv (zcx l most).1,i64 (zcx l most).2]) zad:=by
 obtain ⟨hl1,hl2⟩:=hl;refine zal mixed Tryz.func141 zz4 ?_;(conv=>whnf);refine zah (fun c1=>?_) (fun c1=>?_)
 . have c1:l.length=0:=by simpa using c1
   rw [zcx,zy1 c1];(conv=>whnf)
   rfl
 have c1:¬ l.length=0:=by simpa using c1
 rw [zcx,zy0 c1];(conv=>whnf);refine ⟨{k:Nat // k<=l.length/\zcr l=zcr (l.drop k)},fun | ⟨k,_⟩=>hs 37 [(1,i64 most),(6,.own 900),(14,chunks l),(15,i64 l.length),(16,i64 k)] [(900,zmr (zbv (l.take k)))],fun x=>l.length-x.1,⟨0,by omega,rfl⟩,?_,?_⟩
 . exact zcn [(900,none)] rfl rfl rfl rfl ⟨⟨rfl,rfl⟩,⟨rfl,rfl⟩,⟨rfl,rfl⟩,⟨rfl,by simp;rfl⟩,⟨rfl,rfl⟩,trivial⟩ ⟨⟨rfl,.inr ⟨rfl,rfl⟩⟩,trivial⟩
 rintro ⟨k,hk,hi⟩;(conv=>whnf);refine zah (fun c2=>?_) (fun c2=>?_)
 . have hlt:k<l.length:=by simpa using c2
   have hab:=zgy (l.take k);have hab2:(l.take k).length<=k:=by simp;omega
   obtain ⟨s1,s2⟩:=hl2 l[k] (zy57 hlt);have hsucc:=zfj hlt;have hbl:=zqh l[k];rw [zy21 hlt] at hi;simp only [zcr] at hi;(conv=>whnf);refine zcb (f:=Chunk.row) (l:=l) k rfl hlt ?_;generalize l[k]=c at s1 s2 hi hsucc hbl ⊢;(conv=>whnf);refine zdj (zw ?_);refine ⟨_,ybg c zz0 zz0,rfl,zw ?_⟩;exact yy26
 . have hge:l.length<=k:=by simpa using c2
   exact yy45
theorem zkn (l:List Chunk) (most:Int) (hl:zfd l):zan Tryz.prog 105 [chunks l,i64 most] zad (.tup [yfv (zcx l most).1,i64 (zcx l most).2]) zad:=by
 obtain ⟨hl1,hl2⟩:=hl;refine zal mixed Tryz.func105 zz4 ?_;(conv=>whnf);refine zah (fun c1=>?_) (fun c1=>?_)
 . have c1:l.length=0:=by simpa using c1
   rw [zcx,zy1 c1];(conv=>whnf)
   rfl
 have c1:¬ l.length=0:=by simpa using c1
 rw [zcx,zy0 c1];(conv=>whnf);refine ⟨{k:Nat // k<=l.length/\zcr l=zcr (l.drop k)},fun | ⟨k,_⟩=>hs 37 [(1,i64 most),(6,.own 900),(14,chunks l),(15,i64 l.length),(16,i64 k)] [(900,zmr (zbv (l.take k)))],fun x=>l.length-x.1,⟨0,by omega,rfl⟩,?_,?_⟩
 . exact zcn [(900,none)] rfl rfl rfl rfl ⟨⟨rfl,rfl⟩,⟨rfl,rfl⟩,⟨rfl,rfl⟩,⟨rfl,by simp;rfl⟩,⟨rfl,rfl⟩,trivial⟩ ⟨⟨rfl,.inr ⟨rfl,rfl⟩⟩,trivial⟩
 rintro ⟨k,hk,hi⟩;(conv=>whnf);refine zah (fun c2=>?_) (fun c2=>?_)
 . have hlt:k<l.length:=by simpa using c2
   have hab:=zgy (l.take k);have hab2:(l.take k).length<=k:=by simp;omega
   obtain ⟨s1,s2⟩:=hl2 l[k] (zy57 hlt);have hsucc:=zfj hlt;have hbl:=zqh l[k];rw [zy21 hlt] at hi;simp only [zcr] at hi;(conv=>whnf);refine zcb (f:=Chunk.row) (l:=l) k rfl hlt ?_;generalize l[k]=c at s1 s2 hi hsucc hbl ⊢;(conv=>whnf);refine zdj (zw ?_);refine ⟨_,ynq c zz0 zz0,rfl,zw ?_⟩;exact yy26
 . have hge:l.length<=k:=by simpa using c2
   exact yy45
def zgd (most:Int) (n:Nat) (k:Nat):List Chunk->Int
 | []=>k
 | c::r=>if zdi c≠0\/((Chk.bytes c).length:Int)>most-n then k else zgd most (n+(Chk.bytes c).length) (k+1) r
theorem zof (l:List Chunk) (most:Int) (hl:zfd l) (hm:inI most):zan Tryz.prog 140 [chunks l,i64 most] zad (i64 (zgd most 0 0 l)) zad:=by
 obtain ⟨hl1,hl2⟩:=hl;refine zal mixed Tryz.func140 zz4 ?_;(conv=>whnf);refine ⟨{x:Nat×Nat // x.1<=l.length/\x.2=(zbv (l.take x.1)).length/\((x.2:Int)<=most\/x.2=0)/\zgd most x.2 x.1 (l.drop x.1)=zgd most 0 0 l},fun | ⟨(k,n),_⟩=>hs 40 [(0,chunks l),(1,i64 most),(5,i64 n),(10,chunks l),(11,i64 l.length),(12,i64 k)] [],fun x=>l.length-x.1.1,⟨(0,0),by simp,by simp [zbv],.inr rfl,rfl⟩,?_,?_⟩
 . exact zcn [] rfl rfl rfl rfl ⟨⟨rfl,rfl⟩,⟨rfl,rfl⟩,⟨rfl,rfl⟩,⟨rfl,rfl⟩,⟨rfl,by simp;rfl⟩,⟨rfl,rfl⟩,trivial⟩ trivial
 rintro ⟨⟨k,n⟩,hk,hn,hmost,hi⟩;dsimp only at hk hn hmost hi;(conv=>whnf);refine zah (fun c1=>?_) (fun c1=>?_)
 . have hlt:k<l.length:=by simpa using c1
   have hab:=zgy (l.take k);have hab2:(l.take k).length<=k:=by simp;omega
   obtain ⟨s1,s2⟩:=hl2 l[k] (zy57 hlt);rw [zy21 hlt] at hi;simp only [zgd] at hi;(conv=>whnf);refine zcb (f:=Chunk.row) (l:=l) k rfl hlt (zw ?_);have hbl:=zqh l[k];have hsucc:=zfj hlt;generalize l[k]=c at s1 s2 hi hbl hsucc ⊢;refine zdj (zw ?_);refine ⟨_,ybg c zz0 zz0,rfl,zw ?_⟩;refine zah (fun c2=>?_) (fun c2=>?_)
   . have c2:zdi c≠0:=by simpa using c2
     rw [zy1 (.inl c2)] at hi;(conv=>whnf);rw [<- hi]
   have c2:zdi c=0:=by simpa using c2
   obtain ⟨hm1,hm2⟩:=hm;(conv=>whnf);refine zao (z:=most-n) (zbs zz0 zz0) (zw ?_);refine zah (fun c3=>?_) (fun c3=>?_)
   . have c3:((Chk.bytes c).length:Int)>most-n:=by simpa using c3
     rw [zy1 (.inr c3)] at hi;(conv=>whnf);rw [<- hi]
   have c3:¬ ((Chk.bytes c).length:Int)>most-n:=by simpa using c3
   rw [zy0 (by rintro (h | h);exact h c2;exact c3 h)] at hi;(conv=>whnf);refine zao (z:=(n:Int)+((Chk.bytes c).map zcs).length) (zbs zz3 zz3) (zw ?_);refine sFm ?_;exact ⟨⟨(k+1,n+(Chk.bytes c).length),hlt,by dsimp only;rw [hsucc];simp;omega,by dsimp only;left;push_cast;omega,hi⟩,zcn [] rfl rfl rfl rfl ⟨⟨rfl,rfl⟩,⟨rfl,rfl⟩,⟨rfl,by simp;rfl⟩,⟨rfl,rfl⟩,⟨rfl,rfl⟩,⟨rfl,by simp;rfl⟩,trivial⟩ trivial,by dsimp only;omega⟩
 . have hge:l.length<=k:=by simpa using c1
   rw [zy22 hge] at hi;(conv=>whnf);have hkl:k=l.length:=by omega
   simp only [zgd] at hi;rw [<- hi,hkl];simp
end Pck
end Go.HL
