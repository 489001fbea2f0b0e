/- Walks, contracts and laws of the law's functions: part 3. No condition. -/
import Derived.Test.YticmofoeecjnhaaGreatMb
import Derived.Test.YticmofoeecjnhaaGreatRows
import Derived.Test.YticmofoeecjnhaaGreatProg
open Go.Proofs
set_option maxHeartbeats 32000000
set_option maxRecDepth 100000
set_option linter.unusedSimpArgs false
theorem yy72 {P:Prop} (h:P:=by
 refine zak [(1000,some 1000)] rfl rfl ⟨rfl,trivial⟩ rfl rfl ⟨⟨rfl,.inl ⟨1000,rfl,rfl⟩⟩,trivial⟩):P:=h
theorem yy134 {P:Prop} (h:P:=by
 rcases List.eq_nil_or_concat l with h | ⟨a,x,h⟩
 . exact .inl h
 . exact .inr ⟨a,x,by rw [h,List.concat_eq_append]⟩):P:=h
theorem yy95 {P:Prop} (h:P:=by
 try (refine hcut.go ?_;conv=>whnf)
 refine sF ?_
 exact ⟨⟨((i+j) / 2+1,j),c2,g2,g3⟩,(hle_Y [(1000,some 1000)] (by repeat' (first | exact z0 | refine z1 ?_ | refine ⟨?_,?_⟩ | ((exact zaw om)) | exact z2))),by dsimp only;omega⟩):P:=h
theorem yy119 {P:Prop} (h:P:=by
 refine sN ?_
 refine zak [(1000,some 1000)] rfl rfl ⟨rfl,trivial⟩ rfl rfl ⟨⟨rfl,.inl ⟨1000,rfl,?_⟩⟩,trivial⟩
 exact zan (by rw [hL',hmrg,gw];simp)):P:=h
theorem yy122 {P:Prop} (h:P:=by
 try (refine hcut.go ?_;conv=>whnf)
 exact ⟨⟨(i,(i+j) / 2),g1,by dsimp only;omega,by dsimp only;omega⟩,(hle_P [(1000,some 1000)]),by dsimp only;omega⟩):P:=h
theorem yy109 {P:Prop} (h:P:=by
 exact ⟨(),(hle_Y [(1000,some 1000)] (by repeat' (first | exact z0 | refine z1 ?_ | refine ⟨?_,?_⟩ | ((exact zaw om)) | ((exact zan (by rw [hL,eU,eV,this];simp))) | exact z2)))⟩):P:=h
theorem yy5 {P:Prop} (h:P:=by
 conv=>whnf
 refine zaf (fun h=>?_) (fun h=>?_)
 . have hlt:k < q.length:=by simpa using h
   conv=>whnf
   refine zbi (r:=(q[k]).row) (by simp) (by simp [hlt]) ?_
   conv=>whnf
   refine zed ?_;conv=>whnf
   refine ⟨_,hg q[k],rfl,?_⟩;conv=>whnf
   rw [List.drop_eq_getElem_cons hlt] at hi
   simp only [zbl] at hi
   refine zaf (fun h=>?_) (fun h=>?_)
   . conv=>whnf
     rw [if_pos h] at hi
     rw [<- hi]
   . conv=>whnf
     rw [if_neg (by rw [h];decide)] at hi
     refine zam (W_fit (by omega) (by omega)) ?_
     conv=>whnf
     exact ⟨⟨k+1,hlt,hi⟩,(hle_Q []),by dsimp only;omega⟩
 . conv=>whnf
   have hge:q.length <= k:=by simpa using h
   rw [List.drop_eq_nil_of_le hge] at hi
   rw [<- hi];rfl):P:=h
theorem yy25 {P:Prop} (h:P:=by
 conv=>whnf
 refine zak [(0,some 7)] rfl rfl trivial rfl rfl ⟨⟨rfl,.inl ⟨7,rfl,?_⟩⟩,trivial⟩
 rfl):P:=h
theorem yy35 {P:Prop} (h:P:=by
 refine zak [(0,none)] rfl rfl trivial rfl rfl ⟨⟨rfl,.inr ⟨rfl,hn c⟩⟩,trivial⟩):P:=h
theorem yy71 {P:Prop} (h:P:=by
 conv=>whnf
 try (refine hcut.go ?_;conv=>whnf)
 refine sF ?_
 refine ⟨⟨((A++[v],B),K,G++[v]),by rw [h];simp,by rw [List.filter_append,<- hK];simp [hv],by simp,by simp;omega⟩,(hle_Y [(1000,some 1000)] (by repeat' (first | exact z0 | refine z1 ?_ | refine ⟨?_,?_⟩ | ((exact zaw om)) | ((exact zan (by simp))) | exact z2))),by simp⟩):P:=h
theorem yy110 {P:Prop} (h:P:=by
 rw [h1]
 conv=>whnf
 try (refine hcut.go ?_;conv=>whnf)
 refine zak [(0,some 1000),(1000,some 1000)] rfl rfl ⟨rfl,trivial⟩ rfl rfl ⟨rfl,⟨rfl,.inl ⟨1000,rfl,rfl⟩⟩,trivial⟩):P:=h
theorem yy117 {P:Prop} (h:P:=by
 rw [hF,splice,List.append_nil,List.map_append,List.drop_eq_nil_of_le (by simp;omega),List.append_nil]
 congr 1
 . exact List.take_left' (by simp)
 . congr 1;simp;omega):P:=h
theorem yy18 {P:Prop} (h:P:=by
 conv=>whnf
 refine ⟨{ k:Nat // k <= ps.length /\ zcr k (ps.drop k)=zcr 0 ps },fun k=>hs 17 [(5,.p (.sl 7 (ps.map Path.row))),(6,i64 (ps.map Path.row).length),(7,i64 k.1)] [],fun k=>ps.length - k.1,⟨0,by simp⟩,?_,?_⟩
 . exact zbm [] rfl rfl rfl rfl ⟨⟨rfl,rfl⟩,⟨rfl,rfl⟩,⟨rfl,rfl⟩,trivial⟩ trivial
 . rintro ⟨k,hk,hi⟩
   conv=>whnf
   refine zaf (fun h=>?_) (fun h=>?_)
   . have hlt:k < ps.length:=by simpa using h
     conv=>whnf
     refine zbi (r:=(ps[k]).row) (by simp) (by simp [hlt]) ?_
     conv=>whnf
     rw [List.drop_eq_getElem_cons hlt] at hi
     simp only [zcr] at hi
     refine zaf (fun h=>?_) (fun h=>?_)
     . conv=>whnf
       rw [if_pos (by simp only [decide_eq_true_eq] at h;omega)] at hi
       rw [hi]
     . conv=>whnf
       refine zam (W_fit (by simp;omega) (by simp;omega)) ?_
       conv=>whnf
       rw [if_neg (by simp only [decide_eq_false_iff_not] at h;omega)] at hi
       exact ⟨⟨k+1,hlt,hi⟩,zbm [] rfl rfl rfl rfl ⟨⟨rfl,rfl⟩,⟨rfl,rfl⟩,⟨rfl,by simp;rfl⟩,trivial⟩ trivial,by simp;omega⟩
   . conv=>whnf
     have hge:ps.length <= k:=by simpa using h
     rw [List.drop_eq_nil_of_le hge] at hi
     rw [<- hi];rfl):P:=h
theorem yy24 {P:Prop} (h:P:=by
 refine sF ?_
 exact ⟨⟨(a++[s],b),zag h⟩,(hle_X [] (by repeat' (first | exact z0 | refine z1 ?_ | refine ⟨?_,?_⟩ | (exact zaw (by rw [e1];simp)) | exact z2))),by simp⟩):P:=h
theorem yy43 {P:Prop} (h:P:=by
 conv=>whnf
 refine sF ?_
 exact ⟨⟨(a++[s],b),zag h⟩,(hle_X [(900,some 900)] (by repeat' (first | exact z0 | refine z1 ?_ | refine ⟨?_,?_⟩ | ((rw [e0,e1];rfl)) | exact z2))),by simp⟩):P:=h
theorem yy100 {P:Prop} (h:P:=by
 refine sF ?_
 exact ⟨⟨(a++[s],b),zag h⟩,(hle_X [(900,some 900)] (by repeat' (first | exact z0 | refine z1 ?_ | refine ⟨?_,?_⟩ | ((rw [e0];exact (zcw (by simp) (by rw [e1];rfl)).symm)) | exact z2))),by simp⟩):P:=h
theorem yy64 {P:Prop} (h:P:=by
 have hge:c.spans.length <= k:=by simpa using c1
 refine ⟨⟨⟩,zbm [(1,some 1),(900,some 900)] rfl rfl rfl rfl ⟨⟨rfl,rfl⟩,⟨rfl,rfl⟩,trivial⟩ ⟨⟨rfl,.inl ⟨1,rfl,rfl⟩⟩,⟨rfl,.inl ⟨900,rfl,?_⟩⟩,trivial⟩⟩
 show row8 (enc16 c.tag++enc16 c.room++zbq (c.spans.take k))=row8 (body c)
 rw [body,if_neg k1,if_pos k2,List.take_of_length_le hge]):P:=h
theorem yy69 {P:Prop} (h:P:=by
 have hge:c.skips.length <= k:=by simpa using c1
 refine ⟨⟨⟩,zbm [(1,some 1),(900,some 900)] rfl rfl rfl rfl ⟨⟨rfl,rfl⟩,⟨rfl,rfl⟩,trivial⟩ ⟨⟨rfl,.inl ⟨1,rfl,rfl⟩⟩,⟨rfl,.inl ⟨900,rfl,?_⟩⟩,trivial⟩⟩
 show row8 (enc16 c.tag++skipBytes (c.skips.take k))=row8 (body c)
 rw [body,if_neg k1,if_neg k2,List.take_of_length_le hge]):P:=h
theorem yy76 {P:Prop} (h:P:=by
 have hlen:=zvl h
 conv=>whnf
 refine zcj ?_;conv=>whnf
 refine zcj ?_;conv=>whnf
 refine zaa (c:=(2+((body c).map bRow).length) * 1 <= 140737488355328) (by simp;omega) ?_;conv=>whnf
 show HV.tup [.p (.sl 1 ([bRow (by8 c.kind),bRow (by8 ((body c).map bRow).length)]++(body c).map bRow)),i64 0]=_
 rw [List.length_map,h]
 rfl):P:=h
theorem yy129 {P:Prop} (h:P:=by
 simp only [wrong] at h;(repeat' split at h) <;> first | omega | simp_all):P:=h
theorem yy99 {P:Prop} (h:P:=by
 exact zak [(1000,some 1000)] rfl rfl ⟨rfl,trivial⟩ rfl rfl ⟨⟨rfl,.inl ⟨1000,rfl,rfl⟩⟩,trivial⟩):P:=h
namespace Go.HL
abbrev i64 (n:Int):HV:=.p (.v (.int .i64 n))
abbrev W (z:Int):Int:=IntKind.i64.wrap z
theorem zaf {b:Bool} {A B:Prop} (h1:b=true -> A) (h2:b=false -> B):hif b A B:=by cases b <;> simp_all [hif]
theorem zac {b:Bool} {A B:Prop} (h:b=true) (ha:A):hif b A B:=by subst h;exact ha
theorem zab {b:Bool} {A B:Prop} (h:b=false) (hb:B):hif b A B:=by subst h;exact hb
theorem zbp {k:IntKind} {z:Int} {K:Int -> Prop} (h:K (k.wrap z)):hwrap k z K:=⟨_,rfl,h⟩
theorem zam {k:IntKind} {z:Int} {K:Int -> Prop} (hz:k.wrap z=z) (h:K z):hwrap k z K:=⟨z,hz.symm,h⟩
theorem zaa {c k:Prop} (h:c) (hk:k):hobl c k:=⟨h,hk⟩
theorem zap {P:Program} {s0:HS} {all:Array Oper} {labs:List Lab} {k:Prop} (h:zge all labs=true) (hk:k):hdraw P s0 all labs k:=⟨.inl h,hk⟩
theorem zgj (ex:List Nat) {P:Program} {s0:HS} {all:Array Oper} {labs:List Lab} {k:Prop} (h:zgs ex all labs=true) (h2:allB (stable P s0 all.toList labs) ex) (hk:k):hdraw P s0 all labs k:=⟨.inr ⟨ex,h,h2⟩,hk⟩
theorem zbi {rows:List (List PV)} {i:Int} {K:List PV -> Prop} {r:List PV} (h0:0 <= i) (h:rows[i.toNat]?=some r) (hk:K r):hrow rows i K:=⟨r,h0,h,hk⟩
theorem zfh {rows:List (List PV)} {K:List UInt8 -> Prop} {bs:List UInt8} (h:rows=bs.map bRow) (hk:K bs):hbytes rows K:=⟨bs,h,hk⟩
theorem W_fit {z:Int} (h1:-9223372036854775808 <= z) (h2:z <= 9223372036854775807):W z=z:=by
 unfold W IntKind.wrap
 simp [IntKind.bits,IntKind.signed]
 omega
section
variable {P:Program}
theorem zar {f:FuncId} {args:List HV} {d:Nat} {H:Nat -> HSlot} {K:Res -> Prop} (h:zel H args fun a us=>zgr (normArgs P (zus P f) a) fun a=>∃ r,FunOK P f a zad r zad /\ scal r=true /\ K ⟨r,[],us.map (·.1)⟩) :
 hcall (CR P) f args d H K:=by
 obtain ⟨a,us,h,hv⟩:=zcu _ h
 rw [zei] at h
 obtain ⟨r,h1,h2,h3⟩:=h
 replace h1:=h1.args fun _ _ _ _ hx=>hx.normArgs _
 exact ⟨_,.lend ⟨hv.loc H (fun _ _=>rfl) _ ⟨rfl,rfl⟩,h1,h2,rfl,rfl⟩,h3⟩
theorem zuw {H:Nat -> HSlot}:∀ {xs:List HV} {K:List HV -> List (Nat × HSlot) -> Prop},zel H xs K -> mixKL H (xs.map fun _=>true) xs K
 | [],K,h=>by simpa only [List.map_nil,mixKL,zel] using h
 | x :: xs,K,h=>by
  simp only [List.map_cons,mixKL]
  simp only [zel] at h
  obtain ⟨y,u,h1,hv⟩:=zgv x h
  exact hv.loc H (fun _ _=>rfl) _ (zuw h1)
theorem zbw {f:FuncId} {args:List HV} {d:Nat} {H:Nat -> HSlot} {K:Res -> Prop} (h:zel H args fun a us=>zgr (normArgs P (zus P f) a) fun a=>∃ r,FunOK P f a zad r zad /\ rnOk noIds r=true /\ K ⟨r,us,[]⟩) :
 hcall (CR P) f args d H K:=by
 obtain ⟨a,us,h,hv⟩:=zcu _ h
 rw [zei] at h
 obtain ⟨r,h1,h2,h3⟩:=h
 replace h1:=h1.args fun _ _ _ _ hx=>hx.normArgs _
 have hre:ren []=noIds:=by funext i;rfl
 refine ⟨_,.give (B:=[]) (F:=[]) (us:=us) (ms:=args.map fun _=>true) (args1:=a) (args':=a) (H':=zad) (r':=r) (H'':=zad)
  ⟨zuw (hv.loc H (fun _ _=>rfl) _ ⟨rfl,rfl⟩),h1,by rw [hre];exact hv.noid,by rw [hre];exact zgi a hv.noid,fun _=>.inl rfl,by simp,by simp,by simp,by simp,by simp,by simp,by simp,by
   show rnOk (ren []) r=true;rw [hre];exact h2,by show r=rn (ren []) r;rw [hre];exact (zuu r h2).symm,by simp⟩,h3⟩
end
def slOK (σ:Ren) (s:HS):List (Nat × HV) -> Prop
 | []=>True
 | (i,x) :: r=>(rnOk σ x=true /\ rn σ x=s.slot i) /\ slOK σ s r
def hpOK (σ:Ren) (s:HS):List (Nat × HSlot) -> Prop
 | []=>True
 | (id,b) :: r=>(match b with
  | .free=>False
  | .dead=>(σ id).isSome=true
  | .live b=>rnOkB σ b=true /\ ((∃ j,σ id=some (some j) /\ s.heap j=.live (rnB σ b)) \/ (σ id=some none /\ nilB b))
  | .ro b=>rnOkB σ b=true /\ ∃ j,σ id=some (some j) /\ (s.heap j=.live (rnB σ b) \/ s.heap j=.ro (rnB σ b))) /\ hpOK σ s r
def pinOK (σ:Ren):List Nat -> Prop
 | []=>True
 | i :: r=>σ i=some (some i) /\ pinOK σ r
def tgts:List (Nat × Option Nat) -> List Nat
 | []=>[]
 | (_,some j) :: r=>j :: tgts r
 | (_,none) :: r=>tgts r
def zdi:List Nat -> Bool
 | []=>true
 | x :: r=>!(r.any (Nat.beq x)) && zdi r
def zfl (L:List (Nat × HSlot)):List (Nat × Option Nat) -> Bool
 | []=>true
 | (i,_) :: r=>L.any (fun p=>Nat.beq i p.1) && zfl L r
theorem zux {α:Type} {d:α}:∀ {l:List (Nat × α)} {i:Nat},lk d l i=d \/ ∃ x,(i,x) ∈ l /\ lk d l i=x
 | [],i=>.inl rfl
 | (j,x) :: r,i=>by
  simp only [lk]
  cases hb:Nat.beq i j with
  | true=>have:=Nat.eq_of_beq_eq_true hb;subst this;exact .inr ⟨x,by simp,rfl⟩
  | false =>
   rcases zux (d:=d) (l:=r) (i:=i) with h | ⟨y,h1,h2⟩
   . exact .inl h
   . exact .inr ⟨y,by simp [h1],h2⟩
theorem yex {σ:Ren} {s:HS}:∀ {l:List (Nat × HV)} {i:Nat} {x:HV},slOK σ s l -> (i,x) ∈ l -> rnOk σ x=true /\ rn σ x=s.slot i
 | (j,y) :: r,i,x,h,hm=>by
  simp only [slOK] at h
  cases hm with
  | head=>exact h.1
  | tail _ hm=>exact yex h.2 hm
theorem zpt {l:List (Nat × Option Nat)} {i:Nat} {o:Option Nat} (h:lkN l i=some o):(i,o) ∈ l:=by
 induction l with
 | nil=>cases h
 | cons p l ih =>
  obtain ⟨a,b⟩:=p
  simp only [lkN] at h
  cases hb:Nat.beq i a with
  | true=>rw [hb] at h;cases h;have:=Nat.eq_of_beq_eq_true hb;subst this;simp
  | false=>rw [hb] at h;simp [ih h]
theorem zsm {L:List (Nat × HSlot)}:∀ {l:List (Nat × Option Nat)} {i:Nat} {o:Option Nat},zfl L l=true -> (i,o) ∈ l -> ∃ b,(i,b) ∈ L
 | (j,y) :: r,i,o,h,hm=>by
  simp only [zfl,Bool.and_eq_true] at h
  cases hm with
  | head =>
   obtain ⟨p,hp,hb⟩:=List.any_eq_true.1 h.1
   have:=Nat.eq_of_beq_eq_true hb
   subst this
   exact ⟨p.2,hp⟩
  | tail _ hm=>exact zsm h.2 hm
theorem ylb {α:Type} {d:α}:∀ {l:List (Nat × α)} {i:Nat},(∀ x,(i,x) ∉ l) -> lk d l i=d
 | [],i,_=>rfl
 | (j,x) :: r,i,h=>by
  simp only [lk]
  cases hb:Nat.beq i j with
  | true=>have:=Nat.eq_of_beq_eq_true hb;subst this;exact absurd (by simp) (h x)
  | false=>exact ylb fun y hy=>h y (by simp [hy])
theorem yey {σ:Ren} {s:HS}:∀ {l:List (Nat × HSlot)} {i:Nat} {x:HSlot},hpOK σ s l -> (i,x) ∈ l -> hpOK σ s [(i,x)]
 | (j,y) :: r,i,x,h,hm=>by
  simp only [hpOK] at h
  cases hm with
  | head=>exact ⟨h.1,trivial⟩
  | tail _ hm=>exact yey h.2 hm
theorem zuy:∀ {l:List (Nat × Option Nat)},zdi (tgts l)=true -> ∀ {i i' j:Nat},(i,some j) ∈ l -> (i',some j) ∈ l -> i=i'
 | [],_,i,i',j,h,_=>by cases h
 | (a,none) :: r,hn,i,i',j,h,h'=>by
  cases h with
  | tail _ h=>cases h' with
   | tail _ h'=>exact zuy (l:=r) hn h h'
 | (a,some b) :: r,hn,i,i',j,h,h'=>by
  simp only [tgts,zdi,Bool.and_eq_true,Bool.not_eq_true'] at hn
  have hin:∀ {r:List (Nat × Option Nat)} {i j:Nat},(i,some j) ∈ r -> j ∈ tgts r:=by
   intro r
   induction r with
   | nil=>intro i j h;cases h
   | cons p r ih =>
    intro i j h
    obtain ⟨a,o⟩:=p
    cases h with
    | head=>simp [tgts]
    | tail _ h=>cases o <;> simp [tgts,ih h]
  have hno:∀ {i:Nat},(i,some b) ∉ r:=by
   intro i hi
   have:=List.any_eq_false.1 hn.1 b (hin hi)
   simp at this
  cases h with
  | head=>cases h' with
   | head=>rfl
   | tail _ h'=>exact absurd h' hno
  | tail _ h=>cases h' with
   | head=>exact absurd h hno
   | tail _ h'=>exact zuy hn.2 h h'
theorem yez {s:HS} {heap:List (Nat × HSlot)} {pins:List Nat} (l:List (Nat × Option Nat)) (h1:zfl heap l=true) (_:pinOK (lkN l) pins) (h5:hpOK (lkN l) s heap):∀ id,match lk HSlot.free heap id with
 | .free=>lkN l id=none
 | .dead=>True
 | .live b=>rnOkB (lkN l) b=true /\ ((∃ j,lkN l id=some (some j) /\ s.heap j=.live (rnB (lkN l) b)) \/ (lkN l id=some none /\ nilB b))
 | .ro b=>rnOkB (lkN l) b=true /\ ∃ j,lkN l id=some (some j) /\ (s.heap j=.live (rnB (lkN l) b) \/ s.heap j=.ro (rnB (lkN l) b)):=by
 intro id
 by_cases hm:∃ x,(id,x) ∈ heap
 . rcases zux (d:=HSlot.free) (l:=heap) (i:=id) with h | ⟨x,hx,h⟩
   . exfalso
     obtain ⟨x,hx⟩:=hm
     have gen:∀ {l:List (Nat × HSlot)} {σ:Ren},hpOK σ s l -> (∃ x,(id,x) ∈ l) -> lk .free l id ≠ .free:=by
      intro l
      induction l with
      | nil=>intro σ _ ⟨x,hx⟩;cases hx
      | cons p l ih =>
       obtain ⟨a,y⟩:=p
       intro σ h ⟨x,hx⟩
       simp only [lk]
       cases hb:Nat.beq id a with
       | true =>
        show y ≠ .free
        intro hy
        subst hy
        exact h.1
       | false =>
        refine ih h.2 ?_
        cases hx with
        | head=>simp at hb
        | tail _ hx=>exact ⟨x,hx⟩
     exact gen h5 ⟨x,hx⟩ h
   . rw [h]
     have:=(yey h5 hx).1
     cases x <;> simp only at this ⊢
     . exact this
     . exact this
 . rw [ylb fun x hx=>hm ⟨x,hx⟩]
   show lkN l id=none
   cases ho:lkN l id with
   | none=>rfl
   | some o=>exact absurd (zsm h1 (zpt ho)) hm
theorem yfa {pins:List Nat} (l:List (Nat × Option Nat)) (h3:pinOK (lkN l) pins):∀ id ∈ pins,lkN l id=some (some id):=by
 intro id hid
 have gen:∀ {r:List Nat},pinOK (lkN l) r -> id ∈ r -> lkN l id=some (some id):=by
  intro r
  induction r with
  | nil=>intro _ h;cases h
  | cons a r ih =>
   intro h hm
   simp only [pinOK] at h
   cases hm with
   | head=>exact h.1
   | tail _ hm=>exact ih h.2 hm
 exact gen h3 hid
def zyk (heap:List (Nat × HSlot)) (i:Nat):Bool:=match lk .free heap i with
 | .dead=>true
 | _=>false
def tgtsA (heap:List (Nat × HSlot)):List (Nat × Option Nat) -> List Nat
 | []=>[]
 | (i,some j) :: r=>bif zyk heap i then tgtsA heap r else j :: tgtsA heap r
 | (_,none) :: r=>tgtsA heap r
theorem yfb {heap:List (Nat × HSlot)}:∀ (l:List (Nat × Option Nat)),tgtsA heap l=tgts (l.filter fun p=>!zyk heap p.1)
 | []=>rfl
 | (i,o) :: r=>by
  cases hd:zyk heap i <;> cases o <;> simp [tgtsA,tgts,List.filter_cons,hd,yfb r]
theorem zyl {heap:List (Nat × HSlot)} {l:List (Nat × Option Nat)} (h:zdi (tgtsA heap l)=true) {i i' j:Nat} (h1:(i,some j) ∈ l) (h2:(i',some j) ∈ l) (d1:lk .free heap i ≠ .dead) (d2:lk .free heap i' ≠ .dead):i=i':=by
 rw [yfb] at h
 have hd:∀ k,lk .free heap k ≠ .dead -> zyk heap k=false:=by
  intro k hk
  unfold zyk
  split
  . rename_i he;exact absurd he hk
  . rfl
 exact zuy h (List.mem_filter.2 ⟨h1,by simp [hd i d1]⟩) (List.mem_filter.2 ⟨h2,by simp [hd i' d2]⟩)
theorem ylc {s:HS} {pins:List Nat} {n:Nat} {slots:List (Nat × HV)} {heap:List (Nat × HSlot)} (l:List (Nat × Option Nat)) (hn:n=s.n) (hp:pins=s.pins) (h1:zfl heap l=true) (h2:zdi (tgtsA heap l)=true)
 (h3:pinOK (lkN l) pins) (h4:slOK (lkN l) s slots) (h5:hpOK (lkN l) s heap):HLe0 s (hsP pins n slots heap):=by
 refine ⟨hn,hp,lkN l,fun i=>?_,yez l h1 h3 h5,fun id id' b j hb hd hj hj'=>zyl h2 (zpt hj) (zpt hj') (by intro he;have hb:lk HSlot.free heap id=_:=hb;rw [he] at hb;cases hb) hd,fun id hid=>yfa l h3 id (hp ▸ hid)⟩
 rcases zux (d:=HV.any) (l:=slots) (i:=i) with h | ⟨x,hx,h⟩
 . exact .inl h
 . right
   show rnOk (lkN l) (lk .any slots i)=true /\ rn (lkN l) (lk .any slots i)=s.slot i
   rw [h]
   exact yex h4 hx
theorem yld {s:HS} {pins:List Nat} {n:Nat} {slots:List (Nat × HV)} {heap:List (Nat × HSlot)} (l:List (Nat × Option Nat)) (hn:n=s.n) (hp:pins=s.pins) (h1:zfl heap l=true) (h2:zdi (tgtsA heap l)=true)
 (h3:pinOK (lkN l) pins) (h4:slOK (lkN l) s slots) (h5:hpOK (lkN l) s heap):HLe s (hsP pins n slots heap):=⟨[],by rw [ykx];exact ylc l hn hp h1 h2 h3 h4 h5⟩
theorem zbm {s:HS} {n:Nat} {slots:List (Nat × HV)} {heap:List (Nat × HSlot)} (l:List (Nat × Option Nat)) (hn:n=s.n) (hp:[]=s.pins) (h1:zfl heap l=true) (h2:zdi (tgtsA heap l)=true)
 (h4:slOK (lkN l) s slots) (h5:hpOK (lkN l) s heap):HLe s (hs n slots heap):=yld l hn hp h1 h2 trivial h4 h5
end Go.HL
namespace Go.HL
section
variable {P:Program}
def freOK (H:Nat -> HSlot):List (Nat × Nat) -> Prop
 | []=>True
 | p :: r=>(Nat.blt p.1 pin=true /\ H p.2=.free) /\ freOK H r
def hasOK (σ:Ren) (H' H:Nat -> HSlot):List (Nat × Nat) -> Prop
 | []=>True
 | p :: r=>(Nat.ble pin p.1=true /\ ∃ b,rnOkB σ b=true /\ ((H' p.1=.live b /\ H p.2=.live (rnB σ b)) \/ (H' p.1=.ro b /\ H p.2=.ro (rnB σ b)))) /\ hasOK σ H' H r
def aftOK (σ:Ren) (H'':Nat -> HSlot):List (Nat × Nat) -> Bool
 | []=>true
 | p :: r=>rnOkS σ (H'' p.1) && aftOK σ H'' r
def upsL (σ:Ren) (H'':Nat -> HSlot):List (Nat × Nat) -> List (Nat × HSlot)
 | []=>[]
 | p :: r=>(p.2,rnS σ (H'' p.1)) :: upsL σ H'' r
def keysB (B:List (Nat × Nat)):List (Nat × HSlot) -> Bool
 | []=>true
 | p :: r=>B.any (fun q=>Nat.beq q.1 p.1) && keysB B r
theorem zuz {σ:Ren} {H'':Nat -> HSlot}:∀ {L:List (Nat × Nat)},upsL σ H'' L=L.map fun p=>(p.2,rnS σ (H'' p.1))
 | []=>rfl
 | p :: r=>by simp only [upsL,List.map_cons,zuz]
theorem zla {H:Nat -> HSlot}:∀ {L:List (Nat × Nat)},freOK H L -> ∀ p ∈ L,p.1 < pin /\ H p.2=.free
 | q :: r,h,p,hp=>by
  rcases List.mem_cons.1 hp with rfl | hp
  . exact ⟨by have:=h.1.1;simp only [Nat.blt,Nat.ble_eq] at this;exact this,h.1.2⟩
  . exact zla h.2 p hp
theorem zym {σ:Ren} {H' H:Nat -> HSlot}:∀ {L:List (Nat × Nat)},hasOK σ H' H L -> ∀ p ∈ L,pin <= p.1 /\ ∃ b,rnOkB σ b=true /\ ((H' p.1=.live b /\ H p.2=.live (rnB σ b)) \/ (H' p.1=.ro b /\ H p.2=.ro (rnB σ b)))
 | q :: r,h,p,hp=>by
  rcases List.mem_cons.1 hp with rfl | hp
  . exact ⟨Nat.le_of_ble_eq_true h.1.1,h.1.2⟩
  . exact zym h.2 p hp
theorem zlb {σ:Ren} {H'':Nat -> HSlot}:∀ {L:List (Nat × Nat)},aftOK σ H'' L=true -> ∀ p ∈ L,rnOkS σ (H'' p.1)=true
 | q :: r,h,p,hp=>by
  simp only [aftOK,Bool.and_eq_true] at h
  rcases List.mem_cons.1 hp with rfl | hp
  . exact h.1
  . exact zlb h.2 p hp
theorem zdj:∀ {l:List Nat},zdi l=true -> l.Nodup
 | [],_=>by simp
 | x :: r,h=>by
  simp only [zdi,Bool.and_eq_true,Bool.not_eq_true'] at h
  refine List.nodup_cons.2 ⟨fun hm=>?_,zdj h.2⟩
  have:=List.any_eq_false.1 h.1 x hm
  simp at this
theorem zsn {B:List (Nat × Nat)}:∀ {L:List (Nat × HSlot)},keysB B L=true -> ∀ i,lk .free L i=.free \/ ∃ p ∈ B,p.1=i
 | [],_,i=>.inl rfl
 | q :: r,h,i=>by
  simp only [keysB,Bool.and_eq_true] at h
  obtain ⟨a,b⟩:=q
  simp only [lk]
  cases hb:Nat.beq i a with
  | true =>
   have:=Nat.eq_of_beq_eq_true hb
   subst this
   obtain ⟨p,hp,he⟩:=List.any_eq_true.1 h.1
   exact .inr ⟨p,hp,Nat.eq_of_beq_eq_true he⟩
  | false=>exact zsn h.2 i
def giveK (P:Program) (f:FuncId) (H:Nat -> HSlot) (B F:List (Nat × Nat)) (a1:List HV) (us:List (Nat × HSlot)) (K:Res -> Prop):Prop :=
 ∃ args' L' r' L'',FunOK P f args' (lk .free L') r' (lk .free L'') /\ (rnOkL (ren B) args'=true /\ rnL (ren B) args'=a1 /\ keysB B L'=true /\ hasOK (ren B) (lk .free L') (updL H us) B /\ freOK H F /\
  (zdi (B.map (·.1)) && zdi (B.map (·.2)) && zdi (F.map (·.1)) && zdi (F.map (·.2)))=true /\ aftOK (ren (B++F)) (lk .free L'') (B++F)=true /\ rnOk (ren (B++F)) r'=true) /\
  K ⟨rn (ren (B++F)) r',us++upsL (ren (B++F)) (lk .free L'') (B++F),[]⟩
theorem zae (ms:List Bool) (B F:List (Nat × Nat)) {f:FuncId} {args:List HV} {d:Nat} {H:Nat -> HSlot} {K:Res -> Prop} (h:mixKL H ms args fun a us=>zgr a fun a=>giveK P f H B F a us K) :
 hcall (CR P) f args d H K:=by
 have h:=zfq _ _ h
 obtain ⟨a,us,hg,hv⟩:=h
 rw [zei] at hg
 obtain ⟨args',L',r',L'',h1,⟨h2,h3,h4,h5,h6,h7,h8,h9⟩,h10⟩:=hg
 simp only [Bool.and_eq_true] at h7
 refine ⟨_,.give (us:=us) (ms:=ms) (args1:=a) (B:=B) (F:=F) (args':=args') (H':=lk .free L') (r':=r') (H'':=lk .free L'')
  ⟨hv.loc H (fun _ _=>rfl) _ ⟨rfl,rfl⟩,h1,h2,h3,zsn h4,zym h5,zdj h7.1.1.1,zdj h7.1.1.2,zla h6,zdj h7.1.2,zdj h7.2,zlb h8,h9,rfl,by rw [zuz]⟩,h10⟩
theorem zao (F:List (Nat × Nat)) {f:FuncId} {args:List HV} {d:Nat} {H:Nat -> HSlot} {K:Res -> Prop}
 (h:zel H args fun a us=>zgr (normArgs P (zus P f) a) fun a=>∃ r' L'',FunOK P f a zad r' (lk .free L'') /\
  (freOK H F /\ (zdi (F.map (·.1)) && zdi (F.map (·.2)))=true /\ aftOK (ren F) (lk .free L'') F=true /\ rnOk (ren F) r'=true) /\ K ⟨rn (ren F) r',us++upsL (ren F) (lk .free L'') F,[]⟩) :
 hcall (CR P) f args d H K:=by
 obtain ⟨a,us,h,hv⟩:=zcu _ h
 rw [zei] at h
 obtain ⟨r',L'',h1,⟨h6,h7,h8,h9⟩,h10⟩:=h
 simp only [Bool.and_eq_true] at h7
 replace h1:=h1.args fun _ _ _ _ hx=>hx.normArgs _
 have hre:ren []=noIds:=by funext i;rfl
 refine ⟨_,.give (B:=[]) (F:=F) (us:=us) (ms:=args.map fun _=>true) (args1:=a) (args':=a) (H':=zad) (r':=r') (H'':=lk .free L'')
  ⟨zuw (hv.loc H (fun _ _=>rfl) _ ⟨rfl,rfl⟩),h1,by rw [hre];exact hv.noid,by rw [hre];exact zgi a hv.noid,fun _=>.inl rfl,by simp,by simp,by simp,zla h6,zdj h7.1,zdj h7.2,zlb h8,h9,rfl,by rw [zuz];rfl⟩,h10⟩
theorem yto (fz:List Nat) {pins:List Nat} {v r:HV} {H2:Nat -> HSlot} {heap:List (Nat × HSlot)} (l:List (Nat × Option Nat)) (h1:zfl heap l=true) (h2:zdi (tgtsA heap l)=true) (h3:pinOK (lkN l) pins)
 (h4:rnOk (lkN l) r=true) (h5:rn (lkN l) r=fzV fz H2 v) (h6:hpOK (lkN l) (fzS fz (hinit [v] 1 H2 pins)) heap):HFin pins v H2 r (lk .free heap):=by
 refine ⟨fz,rfl,rfl,lkN l,fun i=>?_,?_,?_,?_⟩
 . cases i with
   | zero=>exact .inr ⟨h4,h5⟩
   | succ i =>
    refine .inr ⟨?_,?_⟩
    . show rnOk (lkN l) ((nth [r] (i+1)).getD .und)=true
      simp [nth,rnOk]
    . show rn (lkN l) ((nth [r] (i+1)).getD .und)=fzV fz H2 ((nth [v] (i+1)).getD .und)
      simp [nth,rn,fzV]
 . exact yez l h1 h3 h6
 . intro id id' b j hb hd hj hj'
   exact zyl h2 (zpt hj) (zpt hj') (by intro he;have hb:lk HSlot.free heap id=_:=hb;rw [he] at hb;cases hb) hd
 . exact yfa l h3
theorem zak {pins:List Nat} {v r:HV} {H2:Nat -> HSlot} {heap:List (Nat × HSlot)} (l:List (Nat × Option Nat)) (h1:zfl heap l=true) (h2:zdi (tgtsA heap l)=true) (h3:pinOK (lkN l) pins)
 (h4:rnOk (lkN l) r=true) (h5:rn (lkN l) r=v) (h6:hpOK (lkN l) (hinit [v] 1 H2 pins) heap):HFin pins v H2 r (lk .free heap) :=
 yto [] l h1 h2 h3 h4 (by rw [ycd];exact h5) (by rw [ykx];exact h6)
end
end Go.HL
namespace Go.HL
section
variable {P:Program}
theorem zed {f:FuncId} {args:List HV} {d:Nat} {H:Nat -> HSlot} {K:Res -> Prop} (h:zel H args fun a us=>∃ r,FunOK P f a zad r zad /\ scal r=true /\ K ⟨r,[],us.map (·.1)⟩) :
 hcall (CR P) f args d H K:=by
 obtain ⟨a,us,⟨r,h1,h2,h3⟩,hv⟩:=zcu _ h
 exact ⟨_,.lend ⟨hv.loc H (fun _ _=>rfl) _ ⟨rfl,rfl⟩,h1,h2,rfl,rfl⟩,h3⟩
def zbl {α:Type} (p:α -> Bool) (k:Nat):List α -> Int
 | []=>-1
 | x :: r=>if p x then k else zbl p (k+1) r
theorem W_nat {k n:Nat} (h:k < n) (hn:n < 2 ^ 62):W ((k:Int)+1)=((k+1:Nat):Int):=by rw [W_fit (by omega) (by omega)];push_cast;rfl
end
end Go.HL
namespace Go.HL
section
variable {P:Program}
theorem yid (F:List (Nat × Nat)) {f:FuncId} {args:List HV} {d:Nat} {H:Nat -> HSlot} {K:Res -> Prop}
 (h:zel H args fun a us=>∃ r' L'',FunOK P f a zad r' (lk .free L'') /\
  (freOK H F /\ (zdi (F.map (·.1)) && zdi (F.map (·.2)))=true /\ aftOK (ren F) (lk .free L'') F=true /\ rnOk (ren F) r'=true) /\ K ⟨rn (ren F) r',us++upsL (ren F) (lk .free L'') F,[]⟩) :
 hcall (CR P) f args d H K:=by
 obtain ⟨a,us,h,hv⟩:=zcu _ h
 obtain ⟨r',L'',h1,⟨h6,h7,h8,h9⟩,h10⟩:=h
 simp only [Bool.and_eq_true] at h7
 have hre:ren []=noIds:=by funext i;rfl
 refine ⟨_,.give (B:=[]) (F:=F) (us:=us) (ms:=args.map fun _=>true) (args1:=a) (args':=a) (H':=zad) (r':=r') (H'':=lk .free L'')
  ⟨zuw (hv.loc H (fun _ _=>rfl) _ ⟨rfl,rfl⟩),h1,by rw [hre];exact hv.noid,by rw [hre];exact zgi a hv.noid,fun _=>.inl rfl,by simp,by simp,by simp,zla h6,zdj h7.1,zdj h7.2,zlb h8,h9,rfl,by rw [zuz];rfl⟩,h10⟩
end
end Go.HL
namespace Go.HL
theorem zba:∀ {L:List (Nat × HSlot)} (i:Nat),lk .free L i=.free \/ i ∈ L.map (·.1)
 | [],i=>.inl rfl
 | (a,b) :: r,i=>by
  simp only [lk,List.map_cons,List.mem_cons]
  cases hb:Nat.beq i a with
  | true=>exact .inr (.inl (Nat.eq_of_beq_eq_true hb))
  | false =>
   rcases zba (L:=r) i with h | h
   . exact .inl h
   . exact .inr (.inr h)
end Go.HL
namespace Go.HL
open Go.RowKit
mutual
def PV.bulk:PV -> Nat
 | .v (.string s)=>s.size+1
 | .v _=>1
 | .sl _ rows=>bulkR rows+1
def bulkL:List PV -> Nat
 | []=>0
 | x :: r=>x.bulk+bulkL r
def bulkR:List (List PV) -> Nat
 | []=>0
 | r :: rs=>bulkL r+bulkR rs
end
mutual
def dwb {H:Type}:DataW H -> Nat
 | .lit (.string bytes)=>bytes.length+1
 | .lit _=>1
 | .nil=>1
 | .ptr d=>dwb d+1
 | .slice elems spare=>dwbL elems+dwbL spare+1
 | .agg parts=>dwbL parts+1
 | .iface _ d=>dwb d+1
 | .map entries=>dwbE entries+1
 | .held _=>1
def dwbL {H:Type}:List (DataW H) -> Nat
 | []=>0
 | d :: r=>dwb d+dwbL r
def dwbE {H:Type}:List (Lit × DataW H) -> Nat
 | []=>0
 | x :: r=>dwbE1 x+dwbE r
def dwbE1 {H:Type}:Lit × DataW H -> Nat
 | (.string bytes,d)=>bytes.length+dwb d+1
 | (_,d)=>dwb d+1
end
def suppF (P:Program) (S:TypeId -> Bool):Nat -> Nat -> List Field -> Bool
 | off,tot,[]=>Nat.beq off tot
 | off,tot,f :: fs=>Nat.beq f.offset off && S f.type && suppF P S (off+P.cellsOf f.type) tot fs
def supp (P:Program):Nat -> TypeId -> Bool
 | 0,_=>false
 | n+1,t=>match P.underlying t with
  | some .bool=>true
  | some (.int _)=>true
  | some .string=>true
  | some (.slice e)=>supp P n e && Nat.blt 0 (P.cellsOf e)
  | some (.struct fs)=>suppF P (supp P n) 0 (P.cellsOf t) fs.toList
  | _=>false
def shpF (P:Program) (S:TypeId -> List PV -> Prop):List Field -> List PV -> Prop
 | [],pvs=>pvs=[]
 | f :: fs,pvs=>∃ a b,pvs=a++b /\ a.length=P.cellsOf f.type /\ S f.type a /\ shpF P S fs b
def shp (P:Program):Nat -> TypeId -> List PV -> Prop
 | 0,_,_=>False
 | n+1,t,pvs=>match P.underlying t with
  | some .bool=>∃ b,pvs=[.v (.bool b)]
  | some (.int k)=>∃ z,pvs=[.v (.int k z)] /\ (Lit.int k z).wf=true
  | some .string=>∃ s,pvs=[.v (.string s)] /\ s.size <= maxLen
  | some (.slice e)=>∃ rows,pvs=[.sl (P.cellsOf e) rows] /\ ∀ r ∈ rows,shp P n e r
  | some (.struct fs)=>shpF P (shp P n) fs.toList pvs
  | _=>False
section
variable {H:Type} {enc:TypeId × Value -> H} {P:Program} {W:World} {base:Nat} {sp:Nat -> Bool} {held:Bool}
abbrev RW (W:World):Nat -> Prop:=fun b=>b < W.heap.size
theorem zso {a:Addr} {n:Nat} {cs:List Value} (h:W.cells? base a n=some cs):cs.length=n /\ (∀ k v,cs[k]?=some v -> W.cell? (a.add k)=some v):=by
 unfold World.cells? at h
 split at h
 . have hl:=mapM_some_length h
   refine ⟨by simpa using hl,fun k v hv=>?_⟩
   have hk:k < n:=by
    have:=(List.getElem?_eq_some_iff.1 hv).1
    simpa [hl] using this
   have:=mapM_some_get h k k (by rw [List.getElem?_range hk])
   rw [this];exact hv
 . cases h
theorem ytp {b o:Nat} {v:Value} (h:W.cell? ⟨b,o,none⟩=some v):b < W.heap.size:=by
 unfold World.cell? at h
 cases hb:W.heap[b]? with
 | none=>simp only [hb] at h;cases h
 | some x=>exact (Array.getElem?_eq_some_iff.1 hb).1
theorem znk:∀ (a b:List PV),bulkL (a++b)=bulkL a+bulkL b
 | [],b=>by simp [bulkL]
 | x :: a,b=>by simp [bulkL,znk a b];omega
theorem zyn {fuel:Nat} {S:TypeId -> Bool} {Sh:TypeId -> List PV -> Prop} {cs:List Value}
 (ih:∀ t cs d ps,S t=true -> DataW.trod enc P W base sp held fuel t cs=some (d,ps) -> ∃ pvs,PRepL W (RW W) pvs cs /\ Sh t pvs /\ bulkL pvs <= dwb d) :
 ∀ (fs:List Field) (off:Nat) (xs:List (DataW H × List MemPlace)),suppF P S off cs.length fs=true -> off <= cs.length ->
  (∀ f ∈ fs,f.offset+P.cellsOf f.type <= cs.length) ->
  fs.mapM (fun f=>DataW.trod enc P W base sp held fuel f.type ((cs.drop f.offset).take (P.cellsOf f.type)))=some xs ->
  ∃ pvs,PRepL W (RW W) pvs (cs.drop off) /\ shpF P Sh fs pvs /\ bulkL pvs <= dwbL (xs.map (·.1))
 | [],off,xs,hs,hle,_,h=>by
  simp only [suppF] at hs
  have:=Nat.eq_of_beq_eq_true hs
  subst this
  simp only [List.mapM_nil,Option.pure_def,Option.some.injEq] at h
  subst h
  exact ⟨[],by rw [List.drop_eq_nil_of_le (Nat.le_refl _)];exact .nil,rfl,by simp [bulkL,dwbL]⟩
 | f :: fs,off,xs,hs,hle,hb,h=>by
  simp only [suppF,Bool.and_eq_true] at hs
  obtain ⟨⟨h1,h2⟩,h3⟩:=hs
  have h1:=Nat.eq_of_beq_eq_true h1
  subst h1
  simp only [List.mapM_cons,Option.bind_eq_bind,Option.pure_def] at h
  cases hx:DataW.trod enc P W base sp held fuel f.type ((cs.drop f.offset).take (P.cellsOf f.type)) with
  | none=>rw [hx] at h;simp at h
  | some x =>
   obtain ⟨d,ps⟩:=x
   rw [hx] at h
   simp only [Option.bind_some] at h
   cases hr:fs.mapM (fun f=>DataW.trod enc P W base sp held fuel f.type ((cs.drop f.offset).take (P.cellsOf f.type))) with
   | none=>rw [hr] at h;simp at h
   | some r =>
    rw [hr] at h
    simp only [Option.bind_some,Option.some.injEq] at h
    subst h
    obtain ⟨pa,ha1,ha2,ha3⟩:=ih _ _ _ _ h2 hx
    have hbf:=hb f (by simp)
    obtain ⟨pb,hb1,hb2,hb3⟩:=zyn ih fs (f.offset+P.cellsOf f.type) r h3 hbf (fun g hg=>hb g (by simp [hg])) hr
    have hl:=ha1.length
    have htl:((cs.drop f.offset).take (P.cellsOf f.type)).length=P.cellsOf f.type:=by simp;omega
    refine ⟨pa++pb,?_,⟨pa,pb,rfl,by omega,ha2,hb2⟩,by rw [znk];simp only [List.map_cons,dwbL];omega⟩
    have:=ha1.append hb1
    rw [<- List.drop_drop,List.take_append_drop] at this
    exact this
theorem yfc {S:TypeId -> Bool} {tot:Nat}:∀ {fs:List Field} {off:Nat},suppF P S off tot fs=true -> off <= tot /\ ∀ f ∈ fs,f.offset+P.cellsOf f.type <= tot
 | [],off,h=>by simp only [suppF] at h;have:=Nat.eq_of_beq_eq_true h;exact ⟨by omega,by simp⟩
 | f :: fs,off,h=>by
  simp only [suppF,Bool.and_eq_true] at h
  obtain ⟨⟨h1,h2⟩,h3⟩:=h
  have h1:=Nat.eq_of_beq_eq_true h1
  obtain ⟨h4,h5⟩:=yfc h3
  refine ⟨by omega,fun g hg=>?_⟩
  rcases List.mem_cons.1 hg with rfl | hg
  . omega
  . exact h5 g hg
theorem zva:∀ (n fuel:Nat) (t:TypeId) (cs:List Value) (d:DataW H) (ps:List MemPlace),supp P n t=true -> DataW.trod enc P W base sp held fuel t cs=some (d,ps) ->
 ∃ pvs,PRepL W (RW W) pvs cs /\ shp P n t pvs /\ bulkL pvs <= dwb d
 | 0,fuel,t,cs,d,ps,hs,h=>by cases hs
 | n+1,0,t,cs,d,ps,hs,h=>by simp [DataW.trod] at h
 | n+1,fuel+1,t,cs,d,ps,hs,h=>by
  simp only [supp] at hs
  simp only [shp]
  unfold DataW.trod at h
  cases hu:P.underlying t with
  | none=>rw [hu] at hs;cases hs
  | some u =>
   rw [hu] at hs h
   cases u with
   | bool =>
    rcases cs with _ | ⟨c,_ | ⟨c2,cs⟩⟩
    . cases h
    . cases c <;> try cases h
      rename_i b
      exact ⟨[.v (.bool b)],.cons (.v _ rfl) .nil,⟨b,rfl⟩,by simp [bulkL,PV.bulk,dwb]⟩
    . cases c <;> first | cases h | simp at h
   | int k =>
    rcases cs with _ | ⟨c,_ | ⟨c2,cs⟩⟩
    . cases h
    . cases c <;> try cases h
      rename_i k' z
      simp only at h
      split at h
      . rename_i hw
        obtain ⟨rfl,hw⟩:=hw
        cases h
        exact ⟨[.v (.int k' z)],.cons (.v _ rfl) .nil,⟨z,rfl,hw⟩,by simp [bulkL,PV.bulk,dwb]⟩
      . cases h
    . cases c <;> first | cases h | simp at h
   | string =>
    rcases cs with _ | ⟨c,_ | ⟨c2,cs⟩⟩
    . cases h
    . cases c <;> try cases h
      rename_i s
      simp only at h
      split at h
      . rename_i hw
        cases h
        exact ⟨[.v (.string s)],.cons (.v _ rfl) .nil,⟨s,rfl,hw⟩,by simp only [bulkL,PV.bulk,dwb,Array.length_toList,Nat.add_zero];exact Nat.le_refl _⟩
      . cases h
    . cases c <;> first | cases h | simp at h
   | slice e =>
    simp only [Bool.and_eq_true] at hs
    obtain ⟨hs,hpos⟩:=hs
    have hpos:0 < P.cellsOf e:=Nat.le_of_ble_eq_true hpos
    rcases cs with _ | ⟨c,_ | ⟨c2,cs⟩⟩
    . cases h
    . cases c <;> try cases h
      rename_i a len cap
      cases a with
      | none =>
       cases len with
       | zero=>cases cap with
        | zero =>
         cases h
         exact ⟨[.sl (P.cellsOf e) []],.cons (.sl0 _ _ _ (Nat.zero_le _)) .nil,⟨[],rfl,by simp⟩,by simp [bulkL,PV.bulk,bulkR,dwb]⟩
        | succ cap=>cases h
       | succ len=>cases h
      | some a =>
       simp only at h
       split at h
       . rename_i hb
         obtain ⟨hb,hlc,hcm⟩:=hb
         cases he:(List.range len).mapM (fun i=>(W.cells? base (a.add (i * P.cellsOf e)) (P.cellsOf e)).bind (DataW.trod enc P W base sp held fuel e)) with
         | none=>rw [he] at h;simp at h
         | some elems =>
          rw [he] at h
          simp only [Option.bind_some] at h
          have hle:=mapM_some_length he
          simp only [List.length_range] at hle
          have hd:dwbL (elems.map (·.1))+1 <= dwb d:=by
           obtain ⟨rest,hr,hx⟩:=Option.map_eq_some_iff.1 h
           cases hx
           simp only [dwb]
           omega
          -- each element
          have hat:∀ i,i < len -> ∃ cs x,W.cells? base (a.add (i * P.cellsOf e)) (P.cellsOf e)=some cs /\ elems[i]?=some x /\ DataW.trod enc P W base sp held fuel e cs=some x:=by
           intro i hi
           have hg:=mapM_some_get he i i (by rw [List.getElem?_range hi])
           obtain ⟨x,hx⟩:∃ x,elems[i]?=some x:=⟨_,List.getElem?_eq_getElem (by omega)⟩
           rw [hx] at hg
           cases hc:W.cells? base (a.add (i * P.cellsOf e)) (P.cellsOf e) with
           | none=>rw [hc] at hg;simp at hg
           | some cs=>rw [hc] at hg;exact ⟨cs,x,rfl,hx,by simpa using hg⟩
          cases len with
          | zero =>
           have:elems=[]:=List.eq_nil_of_length_eq_zero hle
           subst this
           refine ⟨[.sl (P.cellsOf e) []],.cons (.sl0 _ _ _ hcm) .nil,⟨[],rfl,by simp⟩,?_⟩
           simp [bulkL,PV.bulk,bulkR] at hd ⊢
           omega
          | succ len =>
           have hspot:a=⟨a.block,a.off,none⟩:=by
            obtain ⟨cs0,x0,h1,_,_⟩:=hat 0 (by omega)
            obtain ⟨hl0,hc0⟩:=zso h1
            have h2:=hc0 0 (cs0[0]'(by omega)) (List.getElem?_eq_getElem (by omega))
            simp only [Nat.zero_mul,Addr.add,if_true] at h2
            obtain ⟨blk,off,spot⟩:=a
            unfold World.cell? at h2
            split at h2
            . split at h2
              . cases h2
              . rename_i hsn
                cases spot with
                | none=>rfl
                | some x=>simp at hsn
            . cases h2
           obtain ⟨blk,off,spot⟩:=a
           simp only [Addr.mk.injEq,true_and] at hspot
           subst hspot
           have hadd:∀ off j,(⟨blk,off,none⟩:Addr).add j=⟨blk,off+j,none⟩:=by
            intro off j;unfold Addr.add;split
            . rename_i h0;subst h0;rfl
            . rfl
           have hrow:∀ i,i < len+1 -> ∃ r:List PV,r.length=P.cellsOf e /\ shp P n e r /\ (∃ x,elems[i]?=some x /\ bulkL r <= dwb x.1) /\ ∀ (k:Nat) y,r[k]?=some y -> ∃ cv,W.cell? ⟨blk,off+(i * P.cellsOf e+k),none⟩=some cv /\ PRep W (RW W) y cv:=by
            intro i hi
            obtain ⟨cs,x,h1,h2,h3⟩:=hat i hi
            obtain ⟨r,h4,h5,h6⟩:=zva n fuel e cs x.1 x.2 hs h3
            obtain ⟨h7,h8⟩:=zso h1
            refine ⟨r,by rw [<- h7];exact h4.length.symm,h5,⟨x,h2,h6⟩,fun k y hk=>?_⟩
            obtain ⟨v,hv,hp⟩:=h4.get k y hk
            have h9:=h8 k v hv
            rw [hadd,hadd] at h9
            exact ⟨v,by rw [<- h9,Nat.add_assoc],hp⟩
           let row:Nat -> List PV:=fun i=>if hi:i < len+1 then Classical.choose (hrow i hi) else []
           have hrowi:∀ i (hi:i < len+1),(row i).length=P.cellsOf e /\ shp P n e (row i) /\ (∃ x,elems[i]?=some x /\ bulkL (row i) <= dwb x.1) /\ ∀ (k:Nat) y,(row i)[k]?=some y -> ∃ cv,W.cell? ⟨blk,off+(i * P.cellsOf e+k),none⟩=some cv /\ PRep W (RW W) y cv:=by
            intro i hi
            have:=Classical.choose_spec (hrow i hi)
            simp only [row,dif_pos hi]
            exact this
           let rows:=(List.range (len+1)).map row
           have hrl:rows.length=len+1:=by simp [rows]
           have hmem:∀ r ∈ rows,∃ i,i < len+1 /\ r=row i:=by
            intro r hr
            obtain ⟨i,hi,rfl⟩:=List.mem_map.1 hr
            exact ⟨i,List.mem_range.1 hi,rfl⟩
           have hlens:∀ r ∈ rows,r.length=P.cellsOf e:=by
            intro r hr
            obtain ⟨i,hi,rfl⟩:=hmem r hr
            exact (hrowi i hi).1
           have hcell:∀ k y,rows.flatten[k]?=some y -> ∃ cv,W.cell? ⟨blk,off+k,none⟩=some cv /\ PRep W (RW W) y cv:=by
            intro k y hk
            obtain ⟨i,j,r,e1,hj,hr,hy⟩:=zdw hlens hk
            have hi:i < len+1:=by
             have:=(List.getElem?_eq_some_iff.1 hr).1
             rw [hrl] at this;exact this
            have hre:r=row i:=by
             simp only [rows,List.getElem?_map,List.getElem?_range hi,Option.map_some,Option.some.injEq] at hr
             exact hr.symm
            subst hre
            obtain ⟨cv,h1,h2⟩:=(hrowi i hi).2.2.2 j y hy
            exact ⟨cv,by rw [e1];exact h1,h2⟩
           have hblk:blk < W.heap.size:=by
            obtain ⟨hl0,_,_,hc0⟩:=hrowi 0 (by omega)
            obtain ⟨cv,h1,_⟩:=hc0 0 ((row 0)[0]'(by omega)) (List.getElem?_eq_getElem (by omega))
            exact ytp h1
           have hprep:PRep W (RW W) (.sl (P.cellsOf e) rows) (.slice (some ⟨blk,off,none⟩) (len+1) cap):=by
            have:=PRep.sl (w:=W) (R:=RW W) (P.cellsOf e) rows blk off cap (fun k=>(W.cell? ⟨blk,off+k,none⟩).getD undef) (by omega) hcm hlens hblk
             (fun k y hk=>by obtain ⟨cv,h1,_⟩:=hcell k y hk;simp only [h1];rfl) (fun k y hk=>by obtain ⟨cv,h1,h2⟩:=hcell k y hk;simp only [h1];exact h2)
            rw [hrl] at this
            exact this
           refine ⟨[.sl (P.cellsOf e) rows],.cons hprep .nil,⟨rows,rfl,fun r hr=>?_⟩,?_⟩
           . obtain ⟨i,hi,rfl⟩:=hmem r hr
             exact (hrowi i hi).2.1
           . have hbr:∀ (es:List (DataW H × List MemPlace)) (g:Nat -> List PV) (m:Nat),es.length=m -> (∀ i,i < m -> ∃ x,es[i]?=some x /\ bulkL (g i) <= dwb x.1) -> bulkR ((List.range m).map g) <= dwbL (es.map (·.1)):=by
              intro es
              induction es with
              | nil=>intro g m hm _;simp at hm;subst hm;simp [bulkR,dwbL]
              | cons x es ih =>
               intro g m hm hg
               simp at hm
               subst hm
               rw [List.range_succ_eq_map]
               simp only [List.map_cons,List.map_map,bulkR,dwbL]
               obtain ⟨x0,h1,h2⟩:=hg 0 (by omega)
               simp at h1
               subst h1
               have:=ih (g ∘ Nat.succ) es.length rfl fun i hi=>by
                obtain ⟨y,h3,h4⟩:=hg (i+1) (by omega)
                exact ⟨y,by simpa using h3,h4⟩
               omega
             have:bulkR rows <= dwbL (elems.map (·.1)):=hbr elems row (len+1) hle fun i hi=>(hrowi i hi).2.2.1
             simp only [bulkL,PV.bulk]
             show bulkR rows+1+0 <= dwb d
             omega
       . cases h
    . cases c <;> first | cases h | simp at h
   | struct fs =>
    simp only at h
    split at h
    . rename_i hl
      obtain ⟨xs,hx,hx2⟩:=Option.map_eq_some_iff.1 h
      cases hx2
      rw [<- hl] at hs
      obtain ⟨h1,h2⟩:=yfc hs
      obtain ⟨pvs,h3,h4,h5⟩:=zyn (S:=supp P n) (Sh:=shp P n) (fun t cs d ps=>zva n fuel t cs d ps) fs.toList 0 xs hs h1 h2 hx
      exact ⟨pvs,by simpa using h3,h4,by simp only [dwb];omega⟩
    . cases h
   | _=>cases hs
def argHV (P:Program) (t:TypeId) (pvs:List PV):HV:=match P.underlying t with
 | some (.struct _)=>.agg (pvs.map .p)
 | _=>match pvs with | [x]=>.p x | _=>.any
theorem yle {m:LMap} {R:Nat -> Prop} {pvs:List PV} {vs:List Value} (h:PRepL W R pvs vs):HRepL m W R (pvs.map .p) vs:=by
 induction h with
 | nil=>simp only [List.map_nil,HRepL]
 | cons h _ ih=>simp only [List.map_cons,HRepL];exact ⟨_,_,rfl,by simp only [HRep];exact h,ih⟩
theorem ytq {n:Nat} {t:TypeId} {v:Value} {d:DataW H} {ps:List MemPlace} {r:Reach} {b0:Nat} {m:LMap} (hs:supp P n t=true) (hok:Value.okWide P W r b0 t v) (h:DataW.Trod enc P W base sp held t v d ps) :
 ∃ pvs,shp P n t pvs /\ bulkL pvs <= dwb d /\ HRep m W (RW W) (argHV P t pvs) v:=by
 obtain ⟨fuel,h⟩:=h
 obtain ⟨pvs,h1,h2,h3⟩:=zva n fuel t _ d ps hs h
 refine ⟨pvs,h2,h3,?_⟩
 cases n with
 | zero=>cases hs
 | succ n =>
  have one:∀ {x:PV},pvs=[x] -> v.cells=#[v] -> HRep m W (RW W) (.p x) v:=by
   intro x hx hv
   subst hx
   rw [hv] at h1
   cases h1 with
   | cons h _=>simp only [HRep];exact h
  simp only [supp] at hs
  simp only [shp] at h2
  simp only [Value.okWide] at hok
  unfold argHV
  cases hu:P.underlying t with
  | none=>rw [hu] at hs;cases hs
  | some u =>
   rw [hu] at hs h2 hok
   cases u with
   | bool =>
    simp only [Cell.okWide,Cell.ok,hu] at hok
    obtain ⟨b,rfl⟩:=h2
    cases v <;> try exact hok.elim
    exact one rfl rfl
   | int k =>
    simp only [Cell.okWide,Cell.ok,hu] at hok
    obtain ⟨b,rfl,_⟩:=h2
    cases v <;> try exact hok.elim
    exact one rfl rfl
   | string =>
    simp only [Cell.okWide,Cell.ok,hu] at hok
    obtain ⟨b,rfl,_⟩:=h2
    cases v <;> try exact hok.elim
    exact one rfl rfl
   | slice e =>
    simp only [Cell.okWide,Cell.ok,hu] at hok
    obtain ⟨b,rfl,_⟩:=h2
    cases v <;> try exact hok.elim
    exact one rfl rfl
   | struct fs =>
    obtain ⟨cs,rfl,_,_⟩:=hok
    simp only [HRep]
    exact ⟨cs,rfl,yle h1⟩
   | _=>cases hs
def shpL (P:Program) (n:Nat):List TypeId -> List (List PV) -> Prop
 | [],[]=>True
 | t :: ts,x :: xs=>shp P n t x /\ shpL P n ts xs
 | _,_=>False
def zpu (P:Program):List TypeId -> List (List PV) -> List HV
 | t :: ts,x :: xs=>argHV P t x :: zpu P ts xs
 | _,_=>[]
theorem yfd {n:Nat} {r:Reach} {b0:Nat} {m:LMap}:∀ {ts:List TypeId} {vs:List Value} {ds:List (DataW H)} {ps:List MemPlace},(∀ t ∈ ts,supp P n t=true) -> (∀ (j:Nat) t v,ts[j]?=some t -> vs[j]?=some v -> Value.okWide P W r b0 t v) ->
 DataW.TrodAll enc P W base sp held ts vs ds ps -> ∃ L,shpL P n ts L /\ bulkR L <= dwbL ds /\ HRepL m W (RW W) (zpu P ts L) vs /\ ds.length=ts.length
 | [],[],[],ps,_,_,_=>⟨[],trivial,by simp [bulkR,dwbL],by simp only [zpu,HRepL],rfl⟩
 | t :: ts,v :: vs,d :: ds,ps,hs,hok,h=>by
  obtain ⟨p,q,h1,h2,rfl⟩:=h
  obtain ⟨x,h3,h4,h5⟩:=ytq (m:=m) (hs t (by simp)) (hok 0 t v rfl rfl) h1
  obtain ⟨L,h6,h7,h8,h9⟩:=yfd (fun t ht=>hs t (by simp [ht])) (fun j t v hj hv=>hok (j+1) t v (by simpa using hj) (by simpa using hv)) h2
  exact ⟨x :: L,⟨h3,h6⟩,by simp only [bulkR,dwbL];omega,by simp only [zpu,HRepL];exact ⟨v,vs,rfl,h5,h8⟩,by simp [h9]⟩
 | [],[],_ :: _,_,_,_,h=>h.elim
 | [],_ :: _,_,_,_,_,h=>h.elim
 | _ :: _,[],_,_,_,_,h=>h.elim
 | _ :: _,_ :: _,[],_,_,_,h=>h.elim
theorem zlc (hl:laidOutB P=true) {W':World} (hb:Below W.heap.size W W'):∀ {ts:List TypeId} {vs:List Value} {ds:List (DataW H)} {ps:List MemPlace},(∀ t ∈ ts,P.readableRec t=true /\ t < P.types.size) ->
 DataW.TrodAll enc P W 0 (fun _=>true) true ts vs ds ps -> (∀ x ∈ ps,x.block < W.heap.size) -> DataW.TrodAll enc P W' 0 (fun b=>decide (b < W.heap.size)) true ts vs ds ps
 | [],[],[],ps,_,h,_=>h
 | t :: ts,v :: vs,d :: ds,ps,hr,h,hlt=>by
  obtain ⟨p,q,h1,h2,rfl⟩:=h
  exact ⟨p,q,Below.trod hl (hr t (by simp)).1 (hr t (by simp)).2 h1 hb fun x hx=>hlt x (by simp [hx]),zlc hl hb (fun t ht=>hr t (by simp [ht])) h2 fun x hx=>hlt x (by simp [hx]),rfl⟩
 | [],[],_ :: _,_,_,h,_=>h.elim
 | [],_ :: _,_,_,_,h,_=>h.elim
 | _ :: _,[],_,_,_,h,_=>h.elim
 | _ :: _,_ :: _,[],_,_,h,_=>h.elim
theorem zyo {f:FuncId} {fn:Func} {s:ChangeSpec} {args:Array Value} {ds gs:List (DataW H)} {before:List MemPlace} {b0:Nat} {tb:TypeId} (n:Nat) (hl:laidOutB P=true)
 (hsupp:fn.params.toList.all (supp P n)=true) (hread:fn.params.toList.all (fun t=>P.readableRec t && decide (t < P.types.size))=true)
 (hrt:fn.resultTypes=#[tb]) (htb:P.underlying tb=some .bool) (hvars:s.vars=[]) (hfn:∀ ds:List (DataW H),ds.length=fn.params.toList.length -> (s.fn H ds).results=[.lit (.bool true)] /\ (s.fn H ds).args=ds /\ (s.fn H ds).vars=[])
 (hval:∀ (j:Nat) t v,fn.params[j]?=some t -> args[j]?=some v -> Value.okWide P W .any b0 t v)
 (hW:DataW.Whole enc P fn.params.toList s.vars false W args.toList ds gs before)
 (hspec:∀ L,shpL P n fn.params.toList L -> bulkR L <= dwbL ds -> FunOK P f (zpu P fn.params.toList L) zad (hbool true) zad) :
 Calls P f args W fun e W'=>∃ v,e=.returned v /\ s.post enc P fn false true false false W args v W':=by
 have hW':=hW
 obtain ⟨p,q,hA,hV,rfl,hfz,hnd⟩:=hW
 have hVe:gs=[] /\ q=[]:=by
  rw [hvars] at hV
  cases gs with
  | nil=>exact ⟨rfl,hV⟩
  | cons=>exact hV.elim
 obtain ⟨rfl,rfl⟩:=hVe
 obtain ⟨L,h1,h2,h3,h4⟩:=yfd (m:=fun _=>none) (n:=n) (fun t ht=>List.all_eq_true.1 hsupp t ht) (fun j t v hj hv=>hval j t v (by simpa using hj) (by simpa using hv)) hA
 let Γ:Ctx:=⟨fun _=>True,W,fun _=>False,fun _=>none⟩
 have hok:zax Γ (fun _=>none) zad W:=⟨Nat.le_refl _,rfl,rfl,rfl,fun _ _ _=>rfl,fun _ _=>rfl,(fun id b hb=>by cases hb),(fun id b hb=>by cases hb),(fun id id' b b' l l' hb=>by cases hb),fun b hb=>hb.elim⟩
 have hrep:HRepL (fun _=>none) W (RR Γ (fun _=>none) zad W) (zpu P fn.params.toList L) args.toList:=HRepL.mono (.refl _) (fun b hb=>⟨rfl,.inl trivial,hb,zuv⟩) _ _ h3
 obtain ⟨-,hcalls⟩:=hspec L h1 h2 Γ _ W args.toList hok hrep rfl
 have hat:args.toList.toArray=args:=by simp
 rw [hat] at hcalls
 refine hcalls.mono fun e W1 he=>?_
 obtain ⟨v,m',rfl,hok',hv,_⟩:=he
 have hvb:=zfp hv
 subst hvb
 have hb:Below W.heap.size W W1:=⟨hok'.os,hok'.tape,hok'.output,hok'.size,fun k hk=>hok'.frame k hk fun h=>h⟩
 obtain ⟨hf1,hf2,hf3⟩:=hfn (ds++[]) (by simp [h4])
 refine ⟨_,rfl,ds,[],p++[],[],p,[],hW',?_,?_,?_,hb.frame _,fun h=>by cases h⟩
 . rw [hf1,hrt]
   have:(Value.bool true).resultList (#[tb]:Array TypeId).size=[.bool true]:=by simp [Value.resultList]
   rw [this]
   exact ⟨[],[],⟨1,by simp [DataW.trod,htb,Value.cells]⟩,rfl,rfl⟩
 . rw [hf2]
   have hlt:∀ x ∈ p,x.block < W.heap.size:=fun x hx=>by simpa using hW'.lt x (by simpa using hx)
   have:=zlc hl hb (fun t ht=>by
    have:=List.all_eq_true.1 hread t ht
    simp only [Bool.and_eq_true,decide_eq_true_eq] at this
    exact this) hA hlt
   simpa using this
 . rw [hvars,hf3]
   rfl
end
end Go.HL
namespace Go.HL
section
variable {P:Program} {n:Nat} {t e:TypeId} {pvs:List PV}
theorem zeu {k:IntKind} (hu:P.underlying t=some (.int k)) (h:shp P n t pvs):∃ z,pvs=[.v (.int k z)] /\ (Lit.int k z).wf=true:=by
 cases n with
 | zero=>exact h.elim
 | succ n=>simpa only [shp,hu] using h
theorem yqh (hu:P.underlying t=some .bool) (h:shp P n t pvs):∃ b,pvs=[.v (.bool b)]:=by
 cases n with
 | zero=>exact h.elim
 | succ n=>simpa only [shp,hu] using h
theorem ylf (hu:P.underlying t=some (.slice e)) (h:shp P n t pvs):∃ rows,pvs=[.sl (P.cellsOf e) rows] /\ ∀ r ∈ rows,shp P (n - 1) e r:=by
 cases n with
 | zero=>exact h.elim
 | succ n=>simpa only [shp,hu,Nat.add_sub_cancel] using h
theorem zmo {fs:Array Field} (hu:P.underlying t=some (.struct fs)) (h:shp P n t pvs):shpF P (shp P (n - 1)) fs.toList pvs:=by
 cases n with
 | zero=>exact h.elim
 | succ n=>simpa only [shp,hu,Nat.add_sub_cancel] using h
theorem zcv {S:TypeId -> List PV -> Prop} {f:Field} {fs:List Field} (h:shpF P S (f :: fs) pvs):∃ a b,pvs=a++b /\ S f.type a /\ shpF P S fs b:=by
 obtain ⟨a,b,h1,_,h2,h3⟩:=h
 exact ⟨a,b,h1,h2,h3⟩
theorem ylg {β:Type} {row:β -> List PV} {Q:β -> Prop}:∀ {rows:List (List PV)},(∀ r ∈ rows,∃ x,r=row x /\ Q x) -> ∃ xs:List β,rows=xs.map row /\ ∀ x ∈ xs,Q x
 | [],_=>⟨[],rfl,by simp⟩
 | r :: rows,h=>by
  obtain ⟨x,rfl,hx⟩:=h r (by simp)
  obtain ⟨xs,rfl,hxs⟩:=ylg (rows:=rows) fun r hr=>h r (by simp [hr])
  exact ⟨x :: xs,rfl,by intro y hy;rcases List.mem_cons.1 hy with rfl | hy;exact hx;exact hxs y hy⟩
theorem yfe:∀ {rows:List (List PV)},(∀ r ∈ rows,1 <= bulkL r) -> rows.length <= bulkR rows
 | [],_=>by simp [bulkR]
 | r :: rows,h=>by
  have h1:=h r (by simp)
  have h2:=yfe (rows:=rows) fun r hr=>h r (by simp [hr])
  simp only [bulkR,List.length_cons];omega
theorem wf_i64 {z:Int} (h:(Lit.int .i64 z).wf=true):-9223372036854775808 <= z /\ z <= 9223372036854775807:=by
 simpa [Lit.wf,IntKind.min,IntKind.max,IntKind.signed,IntKind.bits] using h
theorem zyp {ts:List TypeId} {L:List (List PV)} (h:shpL P n (t :: ts) L):∃ x xs,L=x :: xs /\ shp P n t x /\ shpL P n ts xs:=by
 cases L with
 | nil=>exact h.elim
 | cons x xs=>exact ⟨x,xs,rfl,h.1,h.2⟩
theorem yqi {L:List (List PV)} (h:shpL P n [] L):L=[]:=by
 cases L with
 | nil=>rfl
 | cons x xs=>exact h.elim
end
end Go.HL
namespace Go.HL
abbrev pi (n:Int):PV:=.v (.int .i64 n)
abbrev pb (b:Bool):PV:=.v (.bool b)
abbrev ints (l:List Int):HV:=.p (.sl 1 (l.map fun n=>[pi n]))
def inI (z:Int):Prop:=-9223372036854775808 <= z /\ z <= 9223372036854775807
section
variable {P:Program} {n c:Nat} {t e:TypeId} {pvs:List PV}
theorem zid {z:Int} (h:(Lit.int .i64 z).wf=true):inI z:=wf_i64 h
theorem yff {α:Type} {row:α -> List PV} {Q:α -> Prop} (hu:P.underlying t=some (.slice e)) (hc:P.cellsOf e=c) (he:∀ r,shp P (n - 1) e r -> ∃ x,r=row x /\ Q x) (h:shp P n t pvs) :
 ∃ l:List α,pvs=[.sl c (l.map row)] /\ ∀ y ∈ l,Q y:=by
 obtain ⟨rows,h1,h2⟩:=ylf hu h
 obtain ⟨l,h3,h4⟩:=ylg (row:=row) (Q:=Q) fun r hr=>he r (h2 r hr)
 exact ⟨l,by rw [h1,h3,hc],h4⟩
theorem ylh (hu:P.underlying t=some (.slice e)) (hi:P.underlying e=some (.int .u8)) (hc:P.cellsOf e=1) (h:shp P n t pvs):∃ l:List UInt8,pvs=[.sl 1 (l.map bRow)]:=by
 obtain ⟨l,h1,-⟩:=yff (row:=bRow) (Q:=fun _=>True) hu hc (fun r hr=>by
  obtain ⟨z,h1,h2⟩:=zeu hi hr
  have h3:0 <= z /\ z <= 255:=by simpa [Lit.wf,IntKind.min,IntKind.max,IntKind.signed,IntKind.bits] using h2
  refine ⟨UInt8.ofNat z.toNat,?_,trivial⟩
  rw [h1]
  have:((UInt8.ofNat z.toNat).toNat:Int)=z:=by
   rw [UInt8.toNat_ofNat'];omega
  simp only [bRow,this]) h
 exact ⟨l,h1⟩
theorem yli {rows:List (List PV)} {k:Nat} (hu:P.underlying t=some (.slice e)):argHV P t [.sl k rows]=.p (.sl k rows):=by unfold argHV;rw [hu]
end
end Go.HL
namespace Go.HL
theorem zbe {α:Type} {f:α -> List PV} {l:List α} {z:Int} {K:List PV -> Prop} (k:Nat) (hz:z=k) (h:k < l.length) (hk:K (f l[k])):hrow (l.map f) z K :=
 ⟨_,by omega,by rw [hz,Int.toNat_natCast,List.getElem?_map,List.getElem?_eq_getElem h];rfl,hk⟩
theorem zfx {b:List UInt8} {z:Int} {K:List PV -> Prop} (k:Nat) (hz:z=k) (h:k < b.length) (hk:K (bRow (b[k]?.getD 0))):hrow (b.map bRow) z K :=
 ⟨_,by omega,by rw [hz,Int.toNat_natCast,List.getElem?_map,List.getElem?_eq_getElem h];rfl,hk⟩
theorem zee {α:Type} {f:α -> List PV} {l:List α} {o n:Nat} {K:List (List PV) -> Prop} (h:o+n <= l.length) (hk:K (((l.drop o).take n).map f)):hsub (l.map f) o n K :=
 ⟨_,rfl,by rw [List.length_map];exact h,by rw [<- List.map_drop,<- List.map_take];exact hk⟩
theorem zdq {α:Type} {f:α -> List PV} {l:List α} {o n:Nat} {K:List (List PV) -> Prop} (h:o+n=l.length) (hk:K ((l.drop o).map f)):hsub (l.map f) o n K:=by
 refine zee (by omega) ?_
 rw [List.take_of_length_le (by rw [List.length_drop];omega)]
 exact hk
end Go.HL
namespace Go.HL
def by8 (z:Int):UInt8:=UInt8.ofNat (z % 256).toNat
theorem zgw (z:Int):((by8 z).toNat:Int)=z % 256:=by
 unfold by8
 rw [UInt8.toNat_ofNat'];omega
theorem wrap8 (z:Int):IntKind.u8.wrap z=((by8 z).toNat:Int):=by
 rw [zgw]
 unfold IntKind.wrap
 simp [IntKind.bits,IntKind.signed]
theorem zcj {z:Int} {K:Int -> Prop} (h:K ((by8 z).toNat:Int)):hwrap .u8 z K:=⟨_,(wrap8 z).symm,h⟩
abbrev byts (l:List UInt8):HV:=.p (.sl 1 (l.map bRow))
def enc16 (n:Int):List UInt8:=[by8 (n / 256),by8 n]
def dec16 (a b:UInt8):Int:=a.toNat * 256+b.toNat
theorem zsp (b:UInt8):by8 (b.toNat:Int)=b:=by
 apply UInt8.toNat_inj.1
 have h1:=zgw (b.toNat:Int)
 have h2:=b.toNat_lt
 have:(b.toNat:Int) % 256=b.toNat:=by omega
 omega
theorem zim (a b:UInt8):enc16 (dec16 a b)=[a,b]:=by
 have ha:=a.toNat_lt
 have hb:=b.toNat_lt
 unfold enc16 dec16
 have e1:((a.toNat:Int) * 256+b.toNat) / 256=a.toNat:=by omega
 rw [e1,zsp]
 have e2:by8 ((a.toNat:Int) * 256+b.toNat)=b:=by
  apply UInt8.toNat_inj.1
  have h1:=zgw ((a.toNat:Int) * 256+b.toNat)
  have:((a.toNat:Int) * 256+b.toNat) % 256=b.toNat:=by omega
  omega
 rw [e2]
end Go.HL
namespace Go.HL
theorem yfg (a:Nat) (ha:a < 2 ^ 64):(BitVec.ofInt 64 (a:Int)).toNat=a:=by
 rw [BitVec.ofInt_natCast,BitVec.toNat_ofNat];exact Nat.mod_eq_of_lt (by omega)
theorem yqj (a b:Nat) (ha:a < 256) (hb:b < 256):bits .or .i64 ((a:Int) * 256) (b:Int)=(a:Int) * 256+b:=by
 have e:∀ z:Int,z=(a:Int) * 256 -> z=((a <<< 8:Nat):Int):=by intro z hz;rw [Nat.shiftLeft_eq,hz];omega
 have h1:a <<< 8 < 2 ^ 64:=by rw [Nat.shiftLeft_eq];omega
 show IntKind.i64.wrap ((BitVec.ofInt 64 ((a:Int) * 256) ||| BitVec.ofInt 64 (b:Int)).toNat:Int)=_
 rw [e _ rfl,BitVec.toNat_or,yfg _ h1,yfg b (by omega),<- Nat.shiftLeft_add_eq_or_of_lt (by omega:b < 2 ^ 8),Nat.shiftLeft_eq]
 have:=W_fit (z:=((a * 2 ^ 8+b:Nat):Int)) (by omega) (by omega)
 rw [show IntKind.i64.wrap ((a * 2 ^ 8+b:Nat):Int)=W ((a * 2 ^ 8+b:Nat):Int) from rfl,this]
 omega
theorem ytr (a:Nat) (ha:a < 256):(BitVec.ofInt 8 (a:Int)).toNat=a:=by
 rw [BitVec.ofInt_natCast,BitVec.toNat_ofNat];exact Nat.mod_eq_of_lt (by omega)
theorem yts (b:UInt8):bits .and .u8 (b.toNat:Int) 1=((b.toNat % 2:Nat):Int):=by
 have hb:=b.toNat_lt
 show IntKind.u8.wrap ((BitVec.ofInt 8 (b.toNat:Int) &&& BitVec.ofInt 8 1).toNat:Int)=_
 have h1:(BitVec.ofInt 8 1).toNat=2 ^ 1 - 1:=by decide
 rw [BitVec.toNat_and,ytr _ (by omega),h1,Nat.and_two_pow_sub_one_eq_mod,wrap8,zgw]
 omega
theorem ytt (b:UInt8) (h:b.toNat <= 3):bits .and .u8 (b.toNat:Int) 2=((b.toNat / 2 * 2:Nat):Int):=by
 generalize b.toNat=n at h ⊢
 match n,h with
 | 0,_=>decide
 | 1,_=>decide
 | 2,_=>decide
 | 3,_=>decide
theorem ytu (n:Int):bits .and .i64 n 65535=n % 65536:=by
 have h127:(BitVec.ofInt 64 65535).toNat=2 ^ 16 - 1:=by decide
 have key:(BitVec.ofInt 64 n &&& BitVec.ofInt 64 65535).toNat=(n % ((2 ^ 64:Nat):Int)).toNat % 2 ^ 16:=by
  rw [BitVec.toNat_and,BitVec.toNat_ofInt,h127,Nat.and_two_pow_sub_one_eq_mod]
 show IntKind.i64.wrap ((BitVec.ofInt 64 n &&& BitVec.ofInt 64 65535).toNat:Nat)=n % 65536
 rw [key]
 rw [show IntKind.i64.wrap (((n % ((2 ^ 64:Nat):Int)).toNat % 2 ^ 16:Nat):Int)=W (((n % ((2 ^ 64:Nat):Int)).toNat % 2 ^ 16:Nat):Int) from rfl,W_fit (by omega) (by omega)]
 omega
end Go.HL
namespace Go.HL
theorem zhq {α:Type} {d:α} {i:Nat} {x:α} {L:List (Nat × α)}:lk d ((i,x) :: L)=upd (lk d L) i x:=by
 funext j;simp only [lk,upd]
theorem ylj {α:Type} (f:Nat -> α) (i:Nat) (x y:α):upd (upd f i x) i y=upd f i y:=by
 funext j
 by_cases h:j=i
 . subst h;rw [zav,zav]
 . rw [zay _ _ h,zay _ _ h,zay _ _ h]
section
variable {P:Program}
theorem yqk {f:FuncId} {args:List HV} {d:Nat} {H:Nat -> HSlot} {K:Res -> Prop} {r:Res} (h:Ov P f args H r) (k:K r):hcall (CR P) f args d H K:=⟨r,.ov h,k⟩
theorem ylk {f:FuncId} {id:Nat} {t:TypeId} {n:Nat} {rows:List (List PV)} {rest:List HV} {L:List (Nat × HSlot)} {r:HV} {H':Nat -> HSlot} (hne:rows ≠ [])
 (h:∀ cap,rows.length <= cap -> cap <= maxLen -> FunOK P f (.osl id n 0 rows.length :: rest) (lk .free ((id,.live (.buf t n rows cap)) :: L)) r H'):FunOK P f (.own id :: rest) (lk .free ((id,.live (.row t n rows)) :: L)) r H':=by
 intro Γ m w vals hok hx h0
 have hH:lk .free ((id,HSlot.live (.row t n rows)) :: L) id=.live (.row t n rows):=by rw [zhq,zav]
 obtain ⟨l,hl,hbr,_⟩:=hok.live id _ hH
 obtain ⟨h1,h2,h3⟩:=hbr
 rcases h3 with ⟨_,h3⟩ | ⟨hn,h4,h5,arr,h6,h7,h8⟩
 . exact absurd h3 hne
 have hws:=WS.set hok hH hl hn (w':=w) (b':=.buf t n rows l.cap) rfl rfl rfl rfl (fun _ _=>rfl) fun R' hk =>
  ⟨hn,rfl,h2,h4,h5,arr,h6,h7,fun k x hx=>let ⟨cv,h9,h10⟩:=h8 k x hx;⟨cv,h9,h10.mono hk⟩⟩
 have he:upd (lk .free ((id,HSlot.live (.row t n rows)) :: L)) id (.live (.buf t n rows l.cap))=lk .free ((id,.live (.buf t n rows l.cap)) :: L):=by
  rw [zhq,zhq,ylj]
 rw [he] at hws
 refine h l.cap h4 h5 Γ m w vals hws.ok ?_ h0
 simp only [HRepL] at hx ⊢
 obtain ⟨v,vs,rfl,hv,hvs⟩:=hx
 refine ⟨v,vs,rfl,?_,hws.repL hvs⟩
 simp only [HRep] at hv ⊢
 obtain ⟨l',hl',rfl⟩:=hv
 rw [hl] at hl';cases hl'
 exact ⟨l,some ⟨l.blk,0,none⟩,hl,by simp [Loc.room,hn];exact h4,by simp [Loc.room,hn];exact h5,by simp [hdr,hn,h1,Loc.room],fun _=>by simp [Loc.at,hn]⟩
theorem zpv {f:FuncId} {id:Nat} {t:TypeId} {n:Nat} {rows:List (List PV)} {rest:List HV} {L:List (Nat × HSlot)} {r:HV} {H':Nat -> HSlot}
 (h:FunOK P f (.osl id n 0 rows.length :: rest) (lk .free ((id,.live (.row t n rows)) :: L)) r H'):FunOK P f (.own id :: rest) (lk .free ((id,.live (.row t n rows)) :: L)) r H':=by
 intro Γ m w vals hok hx h0
 have hH:lk .free ((id,HSlot.live (.row t n rows)) :: L) id=.live (.row t n rows):=by rw [zhq,zav]
 obtain ⟨l,hl,hbr,_⟩:=hok.live id _ hH
 obtain ⟨h1,h2,h3⟩:=hbr
 refine h Γ m w vals hok ?_ h0
 simp only [HRepL] at hx ⊢
 obtain ⟨v,vs,rfl,hv,hvs⟩:=hx
 refine ⟨v,vs,rfl,?_,hvs⟩
 simp only [HRep] at hv ⊢
 obtain ⟨l',hl',rfl⟩:=hv
 rw [hl] at hl';cases hl'
 rcases h3 with ⟨hn,h3⟩ | ⟨hn,h4,h5,_⟩
 . subst h3
   exact ⟨l,none,hl,by simp,by simp [Loc.room,hn],by simp [hdr,hn,Loc.room],fun _=>by simp [Loc.at,hn]⟩
 . exact ⟨l,some ⟨l.blk,0,none⟩,hl,by simp [Loc.room,hn];exact h4,by simp [Loc.room,hn];exact h5,by simp [hdr,hn,h1,Loc.room],fun _=>by simp [Loc.at,hn]⟩
theorem zgx {f:FuncId} {args:List HV} {H:Nat -> HSlot} {id d:Nat} {b:HBlk} {t:TypeId} {n k:Nat} {rows:List (List PV)} {L:List (Nat × HSlot)}
 (h:FunOK P f args H (.osl id n 0 k) (lk .free ((id,.live b) :: L))) (hb:b=.row t n rows \/ ∃ c,b=.buf t n rows c) (hk:k <= rows.length) (hd:lk .free L d=.free) (hid:d ≠ id) :
 FunOK P f args H (.own d) (lk .free ((id,.dead) :: (d,.live (.row t n (rows.take k))) :: L)):=by
 intro Γ m w vals hok hx h0
 obtain ⟨hcf,hcalls⟩:=h Γ m w vals hok hx h0
 refine ⟨hcf,hcalls.mono fun e w' he=>?_⟩
 obtain ⟨v,m',rfl,hok',hv,hpin⟩:=he
 have hH:lk .free ((id,HSlot.live b) :: L) id=.live b:=by rw [zhq,zav]
 have hdf:lk .free ((id,HSlot.live b) :: L) d=.free:=by rw [zhq,zay _ _ hid];exact hd
 obtain ⟨l,hl,hbr,_⟩:=hok'.live id _ hH
 have heq:∀ y:HSlot,upd (upd (lk .free ((id,HSlot.live b) :: L)) id .dead) d y=lk .free ((id,.dead) :: (d,y) :: L):=by
  intro y
  rw [zhq,zhq,zhq,ylj,zum _ _ _ (Ne.symm hid)]
 simp only [HRep] at hv
 obtain ⟨l',a,hl',g1,g2,rfl,g5⟩:=hv
 rw [hl] at hl';cases hl'
 have g5:=g5 (.inr trivial)
 have hlt:((rows.take k)).length=k:=by simp;omega
 have hlens:(∀ r ∈ rows,r.length=n) /\ (l.nil=true -> rows=[]) /\ (l.nil=false -> rows.length <= l.cap /\ l.cap <= maxLen /\ ∃ arr:Array Value,w'.heap[l.blk]?=some (.cells arr t (0,0)) /\ arr.size=l.cap * n /\ ∀ (k:Nat) x,rows.flatten[k]?=some x -> ∃ cv,arr[k]?=some cv /\ PRep w' (RR Γ m' (lk .free ((id,HSlot.live b) :: L)) w') x cv):=by
  rcases hb with rfl | ⟨c,rfl⟩
  . obtain ⟨q1,q2,q3⟩:=hbr
    refine ⟨q2,fun hn=>?_,fun hn=>?_⟩
    . rcases q3 with ⟨_,q3⟩ | ⟨q3,_⟩
      . exact q3
      . rw [hn] at q3;cases q3
    . rcases q3 with ⟨q3,_⟩ | ⟨_,q4,q5,q6⟩
      . rw [hn] at q3;cases q3
      . exact ⟨q4,q5,q6⟩
  . obtain ⟨q1,q2,q3,q4,q5,q6⟩:=hbr
    exact ⟨q3,(fun hn=>by rw [hn] at q1;cases q1),fun _=>⟨q4,q5,q6⟩⟩
 obtain ⟨c1,c2,c3⟩:=hlens
 cases hn:l.nil with
 | true =>
  have hr0:=c2 hn
  subst hr0
  have hk0:k=0:=by simpa using hk
  subst hk0
  have hdrop:=WS.drop hok' hH
  have hf2:upd (lk .free ((id,HSlot.live b) :: L)) id .dead d=.free:=(zay _ _ hid).trans hdf
  obtain ⟨m2,hws,hm2⟩:=WS.newNil hdrop.ok hf2 t n
  rw [heq] at hws
  refine ⟨_,m2,rfl,hws.ok,?_,fun i l hp hi=>(hdrop.ext.trans hws.ext) _ _ (hpin i l hp hi)⟩
  simp only [HRep]
  refine ⟨_,hm2,?_⟩
  rw [g5]
  simp [hdr,Loc.at,Loc.room,hn]
 | false =>
  obtain ⟨c4,c5,arr,c6,c7,c8⟩:=c3 hn
  obtain ⟨m2,hws,hm2⟩:=WS.rename hok' hH hl hn hdf (b':=.row t n (rows.take k)) k (w':=w') rfl rfl rfl rfl (fun _ _=>rfl) fun m3 R' hext hkk =>
   ⟨by simp;omega,fun r hr=>c1 r (List.mem_of_mem_take hr),.inr ⟨rfl,by simp;omega,c5,arr,c6,c7,fun j x hj=>by
    have:rows.flatten=(rows.take k).flatten++(rows.drop k).flatten:=by rw [<- List.flatten_append,List.take_append_drop]
    have hj':rows.flatten[j]?=some x:=by rw [this,List.getElem?_append_left ((List.getElem?_eq_some_iff.1 hj).1)];exact hj
    obtain ⟨cv,q1,q2⟩:=c8 j x hj'
    exact ⟨cv,q1,q2.mono hkk⟩⟩⟩
  rw [heq] at hws
  refine ⟨_,m2,rfl,hws.ok,?_,fun i l hp hi=>hws.ext _ _ (hpin i l hp hi)⟩
  simp only [HRep]
  refine ⟨_,hm2,?_⟩
  rw [g5]
  simp [hdr,Loc.at,Loc.room,hn]
end
end Go.HL
namespace Go.HL
theorem hif_T {b:Bool} {A B:Prop} (ha:A) (h:b=true:=by first | rfl | assumption | omega | (simp only [gt_iff_lt,ge_iff_le,decide_eq_true_eq,decide_eq_false_iff_not,beq_iff_eq,bne_iff_ne,ne_eq,beq_eq_false_iff_ne,bne_eq_false_iff_eq,List.length_map,List.length_append,List.length_cons,List.length_nil,List.length_take,List.length_drop,Bool.not_eq_true',Bool.not_eq_false',Bool.not_eq_true,Bool.not_eq_false,Decidable.not_not,Nat.cast_ofNat,Int.natCast_add] <;> omega) | (simp <;> omega)):hif b A B:=zac h ha
theorem hif_F {b:Bool} {A B:Prop} (hb:B) (h:b=false:=by first | rfl | assumption | omega | (simp only [gt_iff_lt,ge_iff_le,decide_eq_true_eq,decide_eq_false_iff_not,beq_iff_eq,bne_iff_ne,ne_eq,beq_eq_false_iff_ne,bne_eq_false_iff_eq,List.length_map,List.length_append,List.length_cons,List.length_nil,List.length_take,List.length_drop,Bool.not_eq_true',Bool.not_eq_false',Bool.not_eq_true,Bool.not_eq_false,Decidable.not_not,Nat.cast_ofNat,Int.natCast_add] <;> omega) | (simp <;> omega)):hif b A B:=zab h hb
theorem hle_Q {s:HS} {n:Nat} {slots:List (Nat × HV)} {heap:List (Nat × HSlot)} (l:List (Nat × Option Nat))
 (h4:slOK (lkN l) s slots:=by repeat' (first | exact trivial | exact rfl | (refine ⟨⟨rfl,?_⟩,?_⟩) | (refine ⟨rfl,?_⟩) | (simp;done) | (simp;rfl)))
 (h5:hpOK (lkN l) s heap:=by repeat' (first | exact trivial | exact rfl | exact .inl rfl | exact .inr rfl | (refine ⟨⟨rfl,.inl ⟨_,rfl,?_⟩⟩,?_⟩) | (refine ⟨⟨rfl,_,rfl,?_⟩,?_⟩) | (refine ⟨⟨rfl,.inr ⟨rfl,?_⟩⟩,?_⟩) | (refine ⟨rfl,?_⟩) | (simp;done) | (simp;rfl)))
 (hn:n=s.n:=by rfl) (hp:[]=s.pins:=by rfl) (h1:zfl heap l=true:=by rfl) (h2:zdi (tgtsA heap l)=true:=by rfl):HLe s (hs n slots heap):=zbm l hn hp h1 h2 h4 h5
theorem hle_P {s:HS} {pins:List Nat} {n:Nat} {slots:List (Nat × HV)} {heap:List (Nat × HSlot)} (l:List (Nat × Option Nat))
 (h4:slOK (lkN l) s slots:=by repeat' (first | exact trivial | exact rfl | (refine ⟨⟨rfl,?_⟩,?_⟩) | (refine ⟨rfl,?_⟩) | (simp;done) | (simp;rfl)))
 (h5:hpOK (lkN l) s heap:=by repeat' (first | exact trivial | exact rfl | exact .inl rfl | exact .inr rfl | (refine ⟨⟨rfl,.inl ⟨_,rfl,?_⟩⟩,?_⟩) | (refine ⟨⟨rfl,_,rfl,?_⟩,?_⟩) | (refine ⟨⟨rfl,.inr ⟨rfl,?_⟩⟩,?_⟩) | (refine ⟨rfl,?_⟩) | (simp;done) | (simp;rfl)))
 (hn:n=s.n:=by rfl) (hp:pins=s.pins:=by rfl) (h1:zfl heap l=true:=by rfl) (h2:zdi (tgtsA heap l)=true:=by rfl) (h3:pinOK (lkN l) pins:=by repeat' (first | exact trivial | (refine ⟨rfl,?_⟩))):HLe s (hsP pins n slots heap):=yld l hn hp h1 h2 h3 h4 h5
theorem zbn {pins:List Nat} {v r:HV} {H2:Nat -> HSlot} {heap:List (Nat × HSlot)} (l:List (Nat × Option Nat)) (h5:rn (lkN l) r=v:=by rfl)
 (h6:hpOK (lkN l) (hinit [v] 1 H2 pins) heap:=by repeat' (first | exact trivial | exact rfl | exact .inl rfl | exact .inr rfl | (refine ⟨⟨rfl,.inl ⟨_,rfl,?_⟩⟩,?_⟩) | (refine ⟨⟨rfl,_,rfl,?_⟩,?_⟩) | (refine ⟨⟨rfl,.inr ⟨rfl,?_⟩⟩,?_⟩) | (refine ⟨rfl,?_⟩) | (simp;done) | (simp;rfl)))
 (h1:zfl heap l=true:=by rfl) (h2:zdi (tgtsA heap l)=true:=by rfl) (h3:pinOK (lkN l) pins:=by repeat' (first | exact trivial | (refine ⟨rfl,?_⟩))) (h4:rnOk (lkN l) r=true:=by rfl):HFin pins v H2 r (lk .free heap):=zak l h1 h2 h3 h4 h5 h6
end Go.HL
namespace Go.HL
theorem om {P:Prop} (h:P:=by first | omega | (simp only [List.length_map,List.length_append,List.length_take,List.length_drop,List.length_cons,List.length_nil] <;> omega) | (simp <;> omega)):P:=h
theorem dc {P:Prop} (h:P:=by first | rfl | assumption | omega | (simp only [gt_iff_lt,ge_iff_le,decide_eq_true_eq,decide_eq_false_iff_not,beq_iff_eq,bne_iff_ne,ne_eq,beq_eq_false_iff_ne,bne_eq_false_iff_eq,List.length_map,List.length_append,List.length_cons,List.length_nil,List.length_take,List.length_drop,Bool.not_eq_true',Bool.not_eq_false',Bool.not_eq_true,Bool.not_eq_false,Decidable.not_not,Nat.cast_ofNat,Int.natCast_add] <;> omega) | (simp <;> omega)):P:=h
theorem sF {z:Int} {K:Int -> Prop} {Q:Prop} (q:Q) (h1:-9223372036854775808 <= z:=by exact om) (h2:z <= 9223372036854775807:=by exact om) (e:Q -> K z:=by (intro h;(conv=>whnf);(try (refine hcut.go ?_;conv=>whnf));exact h)):hwrap .i64 z K:=zam (W_fit h1 h2) (e q)
theorem sT {b:Bool} {A B Q:Prop} (q:Q) (h:b=true:=by exact dc) (e:Q -> A:=by (intro h;(conv=>whnf);(try (refine hcut.go ?_;conv=>whnf));exact h)):hif b A B:=zac h (e q)
theorem sN {b:Bool} {A B Q:Prop} (q:Q) (h:b=false:=by exact dc) (e:Q -> B:=by (intro h;(conv=>whnf);(try (refine hcut.go ?_;conv=>whnf));exact h)):hif b A B:=zab h (e q)
theorem sO {c k Q:Prop} (q:Q) (h:c:=by exact om) (e:Q -> k:=by (intro h;(conv=>whnf);(try (refine hcut.go ?_;conv=>whnf));exact h)):hobl c k:=zaa h (e q)
theorem sR {P Q:Prop} (q:Q) (e:Q -> P:=by (intro h;(first | refine ylm ?_ | refine zbp ?_);(conv=>whnf);(try (refine hcut.go ?_;conv=>whnf));exact h)):P:=e q
theorem sD {P:Program} {s:HS} {all:Array Oper} {l:List Lab} {k Q:Prop} (q:Q) (e:Q -> k:=by (intro h;(conv=>whnf);(try (refine hcut.go ?_;conv=>whnf));exact h)) (h:zge all l=true:=by kernel_rfl):hdraw P s all l k:=zap h (e q)
theorem sFm {z:Int} {K:Int -> Prop} {Q:Prop} (q:Q) (h1:-9223372036854775808 <= z:=by exact om) (h2:z <= 9223372036854775807:=by exact om) (e:Q -> K z:=by (intro h;(conv=>whnf);exact h)):hwrap .i64 z K:=zam (W_fit h1 h2) (e q)
theorem sTm {b:Bool} {A B Q:Prop} (q:Q) (h:b=true:=by exact dc) (e:Q -> A:=by (intro h;(conv=>whnf);exact h)):hif b A B:=zac h (e q)
theorem sNm {b:Bool} {A B Q:Prop} (q:Q) (h:b=false:=by exact dc) (e:Q -> B:=by (intro h;(conv=>whnf);exact h)):hif b A B:=zab h (e q)
theorem sOm {c k Q:Prop} (q:Q) (h:c:=by exact om) (e:Q -> k:=by (intro h;(conv=>whnf);exact h)):hobl c k:=zaa h (e q)
theorem sRm {P Q:Prop} (q:Q) (e:Q -> P:=by (intro h;(first | refine ylm ?_ | refine zbp ?_);(conv=>whnf);exact h)):P:=e q
theorem sDm {P:Program} {s:HS} {all:Array Oper} {l:List Lab} {k Q:Prop} (q:Q) (e:Q -> k:=by (intro h;(conv=>whnf);exact h)) (h:zge all l=true:=by kernel_rfl):hdraw P s all l k:=zap h (e q)
theorem cL {P Q:Prop} (q:Q) (e:Q -> P:=by (intro h;refine zar ?_;(conv=>whnf);exact h)):P:=e q
theorem cZ {P Q:Prop} (q:Q) (e:Q -> P:=by (intro h;refine zed ?_;(conv=>whnf);exact h)):P:=e q
theorem cP {P Q:Prop} (q:Q) (e:Q -> P:=by (intro h;refine zbw ?_;(conv=>whnf);exact h)):P:=e q
theorem dL {α:Type} {A B K:α -> Prop} {r:α} {Q:Prop} (c:A r) (q:Q) (s:B r:=by exact rfl) (e:Q -> K r:=by (intro h;(conv=>whnf);(try (refine hcut.go ?_;conv=>whnf));exact h)):∃ r,A r /\ B r /\ K r:=⟨r,c,s,e q⟩
theorem dLm {α:Type} {A B K:α -> Prop} {r:α} {Q:Prop} (c:A r) (q:Q) (s:B r:=by exact rfl) (e:Q -> K r:=by (intro h;(conv=>whnf);exact h)):∃ r,A r /\ B r /\ K r:=⟨r,c,s,e q⟩
theorem dO {α β:Type} {A B K:α -> β -> Prop} {r:α} {t:β} {Q:Prop} (c:A r t) (q:Q) (s:B r t:=by exact ⟨(by repeat' (first | exact trivial | (refine ⟨⟨rfl,rfl⟩,?_⟩))),rfl,rfl,rfl⟩) (e:Q -> K r t:=by (intro h;(conv=>whnf);(try (refine hcut.go ?_;conv=>whnf));exact h)) :
 ∃ r t,A r t /\ B r t /\ K r t:=⟨r,t,c,s,e q⟩
theorem dOm {α β:Type} {A B K:α -> β -> Prop} {r:α} {t:β} {Q:Prop} (c:A r t) (q:Q) (s:B r t:=by exact ⟨(by repeat' (first | exact trivial | (refine ⟨⟨rfl,rfl⟩,?_⟩))),rfl,rfl,rfl⟩) (e:Q -> K r t:=by (intro h;(conv=>whnf);exact h)) :
 ∃ r t,A r t /\ B r t /\ K r t:=⟨r,t,c,s,e q⟩
theorem dG {α β γ δ:Type} {A B K:α -> β -> γ -> δ -> Prop} {a:α} {b:β} {r:γ} {t:δ} {Q:Prop} (c:A a b r t) (q:Q)
 (s:B a b r t:=by exact ⟨rfl,rfl,rfl,(by repeat' (first | exact trivial | (refine ⟨⟨rfl,_,rfl,.inl ⟨rfl,rfl⟩⟩,?_⟩))),(by repeat' (first | exact trivial | (refine ⟨⟨rfl,rfl⟩,?_⟩))),rfl,rfl,rfl⟩)
 (e:Q -> K a b r t:=by (intro h;(conv=>whnf);(try (refine hcut.go ?_;conv=>whnf));exact h)):∃ a b r t,A a b r t /\ B a b r t /\ K a b r t:=⟨a,b,r,t,c,s,e q⟩
theorem dGm {α β γ δ:Type} {A B K:α -> β -> γ -> δ -> Prop} {a:α} {b:β} {r:γ} {t:δ} {Q:Prop} (c:A a b r t) (q:Q)
 (s:B a b r t:=by exact ⟨rfl,rfl,rfl,(by repeat' (first | exact trivial | (refine ⟨⟨rfl,_,rfl,.inl ⟨rfl,rfl⟩⟩,?_⟩))),(by repeat' (first | exact trivial | (refine ⟨⟨rfl,rfl⟩,?_⟩))),rfl,rfl,rfl⟩)
 (e:Q -> K a b r t:=by (intro h;(conv=>whnf);exact h)):∃ a b r t,A a b r t /\ B a b r t /\ K a b r t:=⟨a,b,r,t,c,s,e q⟩
theorem z0 {P:Prop} (h:P:=by first | exact trivial | exact rfl | exact .inl rfl | exact .inr rfl):P:=h
theorem z2 {P:Prop} (h:P:=by first | (simp;done) | (simp;rfl)):P:=h
theorem z1 {P Q:Prop} (q:Q) (e:Q -> P:=by first | exact fun h=>.inl ⟨_,rfl,h⟩ | exact fun h=>⟨_,rfl,h⟩ | exact fun h=>.inr ⟨rfl,h⟩):P:=e q
abbrev pK5 (l:List (Nat × Option Nat)):List (Nat × Option Nat):=(1000,some 1000) :: (1001,some 1001) :: (1002,some 1002) :: (1003,some 1003) :: (1004,some 1004) :: l
abbrev pK7 (l:List (Nat × Option Nat)):List (Nat × Option Nat):=(1000,some 1000) :: (1001,some 1001) :: (1002,some 1002) :: (1003,some 1003) :: (1004,some 1004) :: (1005,some 1005) :: (1006,some 1006) :: l
abbrev pK8 (l:List (Nat × Option Nat)):List (Nat × Option Nat):=(1000,some 1000) :: (1001,some 1001) :: (1002,some 1002) :: (1003,some 1003) :: (1004,some 1004) :: (1005,some 1005) :: (1006,some 1006) :: (1007,some 1007) :: l
abbrev pK9 (l:List (Nat × Option Nat)):List (Nat × Option Nat):=(1000,some 1000) :: (1001,some 1001) :: (1002,some 1002) :: (1003,some 1003) :: (1004,some 1004) :: (1005,some 1005) :: (1006,some 1006) :: (1007,some 1007) :: (1008,some 1008) :: l
abbrev pK10 (l:List (Nat × Option Nat)):List (Nat × Option Nat):=(1000,some 1000) :: (1001,some 1001) :: (1002,some 1002) :: (1003,some 1003) :: (1004,some 1004) :: (1005,some 1005) :: (1006,some 1006) :: (1007,some 1007) :: (1008,some 1008) :: (1009,some 1009) :: l
abbrev pJ3 (l:List (Nat × Option Nat)):List (Nat × Option Nat):=(900,some 900) :: (901,some 901) :: (902,some 902) :: l
abbrev pJ6 (l:List (Nat × Option Nat)):List (Nat × Option Nat):=(900,some 900) :: (901,some 901) :: (902,some 902) :: (903,some 903) :: (904,some 904) :: (905,some 905) :: l
abbrev pJ7 (l:List (Nat × Option Nat)):List (Nat × Option Nat):=(900,some 900) :: (901,some 901) :: (902,some 902) :: (903,some 903) :: (904,some 904) :: (905,some 905) :: (906,some 906) :: l
abbrev pJ8 (l:List (Nat × Option Nat)):List (Nat × Option Nat):=(900,some 900) :: (901,some 901) :: (902,some 902) :: (903,some 903) :: (904,some 904) :: (905,some 905) :: (906,some 906) :: (907,some 907) :: l
theorem hle_X {s:HS} {n:Nat} {slots:List (Nat × HV)} {heap:List (Nat × HSlot)} (l:List (Nat × Option Nat)) (h:slOK (lkN l) s slots /\ hpOK (lkN l) s heap)
 (hn:n=s.n:=by rfl) (hp:[]=s.pins:=by rfl) (h1:zfl heap l=true:=by rfl) (h2:zdi (tgtsA heap l)=true:=by rfl):HLe s (hs n slots heap):=zbm l hn hp h1 h2 h.1 h.2
theorem hle_Y {s:HS} {pins:List Nat} {n:Nat} {slots:List (Nat × HV)} {heap:List (Nat × HSlot)} (l:List (Nat × Option Nat)) (h:slOK (lkN l) s slots /\ hpOK (lkN l) s heap)
 (hn:n=s.n:=by rfl) (hp:pins=s.pins:=by rfl) (h1:zfl heap l=true:=by rfl) (h2:zdi (tgtsA heap l)=true:=by rfl) (h3:pinOK (lkN l) pins:=by repeat' (first | exact trivial | (refine ⟨rfl,?_⟩))):HLe s (hsP pins n slots heap):=yld l hn hp h1 h2 h3 h.1 h.2
theorem zby {pins:List Nat} {v r:HV} {H2:Nat -> HSlot} {heap:List (Nat × HSlot)} (l:List (Nat × Option Nat)) (h:rn (lkN l) r=v /\ hpOK (lkN l) (hinit [v] 1 H2 pins) heap)
 (h1:zfl heap l=true:=by rfl) (h2:zdi (tgtsA heap l)=true:=by rfl) (h3:pinOK (lkN l) pins:=by repeat' (first | exact trivial | (refine ⟨rfl,?_⟩))) (h4:rnOk (lkN l) r=true:=by rfl):HFin pins v H2 r (lk .free heap):=zak l h1 h2 h3 h4 h.1 h.2
end Go.HL
namespace Go.HL
theorem hle_Z (fz:List Nat) {s:HS} {pins:List Nat} {n:Nat} {slots:List (Nat × HV)} {heap:List (Nat × HSlot)} (l:List (Nat × Option Nat)) (h:slOK (lkN l) (fzS fz s) slots /\ hpOK (lkN l) (fzS fz s) heap)
 (hn:n=s.n:=by rfl) (hp:pins=s.pins:=by rfl) (h1:zfl heap l=true:=by rfl) (h2:zdi (tgtsA heap l)=true:=by rfl) (h3:pinOK (lkN l) pins:=by repeat' (first | exact trivial | (refine ⟨rfl,?_⟩))):HLe s (hsP pins n slots heap):=⟨fz,ylc l hn hp h1 h2 h3 h.1 h.2⟩
end Go.HL
namespace Go.Proofs.YticmofoeecjnhaaGreat
open Go.HL Go.ChangeShapes Go.WideShapes Go.ChangeAt Go.RowKit
theorem own:ownKnob Tryz.prog.godebug=none:=by kernel_rfl
mutual
theorem zvb {H:Type}:(d:DataW H) -> Rows.uptoBulk d=dwb d
 | .lit l=>by cases l <;> simp only [Rows.uptoBulk,dwb]
 | .nil=>by simp only [Rows.uptoBulk,dwb]
 | .ptr d=>by simp only [Rows.uptoBulk,dwb,zvb d]
 | .slice a b=>by simp only [Rows.uptoBulk,dwb,zgy a,zgy b]
 | .agg p=>by simp only [Rows.uptoBulk,dwb,zgy p]
 | .iface _ d=>by simp only [Rows.uptoBulk,dwb,zvb d]
 | .map e=>by simp only [Rows.uptoBulk,dwb,yfh e]
 | .held _=>by simp only [Rows.uptoBulk,dwb]
theorem zgy {H:Type}:(l:List (DataW H)) -> Rows.uptoBulkAll l=dwbL l
 | []=>by simp only [Rows.uptoBulkAll,dwbL]
 | d :: r=>by simp only [Rows.uptoBulkAll,dwbL,zvb d,zgy r]
theorem yfh {H:Type}:(l:List (Lit × DataW H)) -> Rows.uptoBulkEntries l=dwbE l
 | []=>by simp only [Rows.uptoBulkEntries,dwbE]
 | d :: r=>by simp only [Rows.uptoBulkEntries,dwbE,yll d,yfh r]
theorem yll {H:Type}:(x:Lit × DataW H) -> Rows.uptoBulkEntry x=dwbE1 x
 | (l,d)=>by cases l <;> simp only [Rows.uptoBulkEntry,dwbE1,zvb d]
end
theorem yce {H:Type} (l r:List (DataW H)):dwbL (l++r)=dwbL l+dwbL r:=by
 induction l with
 | nil=>simp [dwbL]
 | cons x l ih=>simp only [List.cons_append,dwbL,ih];omega
theorem yvc {H:Type} {ds gs:List (DataW H)} (hk:Rows.uptoSmall H (ds++gs)=true):dwbL ds <= 1048576:=by
 have h:=of_decide_eq_true hk
 rw [zgy,yce] at h
 omega
theorem yvd {a b:Bool} (ha:a=true) (hb:b=true):(a && b)=true:=by rw [ha,hb];rfl
end Go.Proofs.YticmofoeecjnhaaGreat
namespace Go.HL
theorem mixed:Tryz.prog.follows .mixedOrders=true:=by kernel_rfl
structure Span where
 lo:Int
 hi:Int
def Span.row (x:Span):List PV:=[pi x.lo,pi x.hi]
def Span.hv (x:Span):HV:=.agg [.p (pi x.lo),.p (pi x.hi)]
structure Skip where
 stream:Int
 mid:Int
 ordered:Bool
def Skip.row (x:Skip):List PV:=[pi x.stream,pi x.mid,pb x.ordered]
def Skip.hv (x:Skip):HV:=.agg [.p (pi x.stream),.p (pi x.mid),.p (pb x.ordered)]
structure Chunk where
 kind:Int
 tag:Int
 stream:Int
 mid:Int
 part:Int
 last:Bool
 ordered:Bool
 data:List UInt8
 spans:List Span
 room:Int
 skips:List Skip
def Chunk.row (x:Chunk):List PV:=[pi x.kind,pi x.tag,pi x.stream,pi x.mid,pi x.part,pb x.last,pb x.ordered,.sl 1 (x.data.map bRow),.sl 2 (x.spans.map Span.row),pi x.room,.sl 3 (x.skips.map Skip.row)]
def Chunk.cells (x:Chunk):List HV:=[.p (pi x.kind),.p (pi x.tag),.p (pi x.stream),.p (pi x.mid),.p (pi x.part),.p (pb x.last),.p (pb x.ordered),.p (.sl 1 (x.data.map bRow)),.p (.sl 2 (x.spans.map Span.row)),.p (pi x.room),.p (.sl 3 (x.skips.map Skip.row))]
def Chunk.hv (x:Chunk):HV:=.agg [.p (pi x.kind),.p (pi x.tag),.p (pi x.stream),.p (pi x.mid),.p (pi x.part),.p (pb x.last),.p (pb x.ordered),.p (.sl 1 (x.data.map bRow)),.p (.sl 2 (x.spans.map Span.row)),.p (pi x.room),.p (.sl 3 (x.skips.map Skip.row))]
structure Config where
 streams:Int
 part:Int
 packet:Int
 paths:Int
 turns:Int
 waiting:Int
 first:Int
def Config.row (x:Config):List PV:=[pi x.streams,pi x.part,pi x.packet,pi x.paths,pi x.turns,pi x.waiting,pi x.first]
def Config.cells (x:Config):List HV:=[.p (pi x.streams),.p (pi x.part),.p (pi x.packet),.p (pi x.paths),.p (pi x.turns),.p (pi x.waiting),.p (pi x.first)]
def Config.hv (x:Config):HV:=.agg [.p (pi x.streams),.p (pi x.part),.p (pi x.packet),.p (pi x.paths),.p (pi x.turns),.p (pi x.waiting),.p (pi x.first)]
structure Config.Wf (x:Config):Prop where
 streams:inI x.streams
 part:inI x.part
 packet:inI x.packet
 paths:inI x.paths
 turns:inI x.turns
 waiting:inI x.waiting
 first:inI x.first
theorem yie {n:Nat} {pvs:List PV} (h:shp Tryz.prog n 24 pvs):∃ x:Config,pvs=x.row /\ x.Wf:=by
 have t0:=zmo Tryz.underlying24 h
 obtain ⟨a1,b1,e1,h1,t1⟩:=zcv t0
 obtain ⟨a2,b2,e2,h2,t2⟩:=zcv t1
 obtain ⟨a3,b3,e3,h3,t3⟩:=zcv t2
 obtain ⟨a4,b4,e4,h4,t4⟩:=zcv t3
 obtain ⟨a5,b5,e5,h5,t5⟩:=zcv t4
 obtain ⟨a6,b6,e6,h6,t6⟩:=zcv t5
 obtain ⟨a7,b7,e7,h7,t7⟩:=zcv t6
 obtain ⟨z1,i1,w1⟩:=zeu Tryz.underlying3 h1
 obtain ⟨z2,i2,w2⟩:=zeu Tryz.underlying3 h2
 obtain ⟨z3,i3,w3⟩:=zeu Tryz.underlying3 h3
 obtain ⟨z4,i4,w4⟩:=zeu Tryz.underlying3 h4
 obtain ⟨z5,i5,w5⟩:=zeu Tryz.underlying3 h5
 obtain ⟨z6,i6,w6⟩:=zeu Tryz.underlying3 h6
 obtain ⟨z7,i7,w7⟩:=zeu Tryz.underlying3 h7
 have e8:b7=[]:=t7
 rw [e1,e2,e3,e4,e5,e6,e7,e8,i1,i2,i3,i4,i5,i6,i7]
 exact ⟨⟨z1,z2,z3,z4,z5,z6,z7⟩,rfl,⟨zid w1,zid w2,zid w3,zid w4,zid w5,zid w6,zid w7⟩⟩
theorem yif (x:Config):argHV Tryz.prog 24 x.row=x.hv:=by
 unfold argHV
 rw [Tryz.underlying24]
 rfl
structure Message where
 stream:Int
 ordered:Bool
 life:Int
 tries:Int
 data:List UInt8
def Message.row (x:Message):List PV:=[pi x.stream,pb x.ordered,pi x.life,pi x.tries,.sl 1 (x.data.map bRow)]
def Message.hv (x:Message):HV:=.agg [.p (pi x.stream),.p (pb x.ordered),.p (pi x.life),.p (pi x.tries),.p (.sl 1 (x.data.map bRow))]
structure Message.Wf (x:Message):Prop where
 stream:inI x.stream
 life:inI x.life
 tries:inI x.tries
theorem ycf {n:Nat} {pvs:List PV} (h:shp Tryz.prog n 48 pvs):∃ x:Message,pvs=x.row /\ x.Wf:=by
 have t0:=zmo Tryz.underlying48 h
 obtain ⟨a1,b1,e1,h1,t1⟩:=zcv t0
 obtain ⟨a2,b2,e2,h2,t2⟩:=zcv t1
 obtain ⟨a3,b3,e3,h3,t3⟩:=zcv t2
 obtain ⟨a4,b4,e4,h4,t4⟩:=zcv t3
 obtain ⟨a5,b5,e5,h5,t5⟩:=zcv t4
 obtain ⟨z1,i1,w1⟩:=zeu Tryz.underlying3 h1
 obtain ⟨z2,i2⟩:=yqh Tryz.underlying4 h2
 obtain ⟨z3,i3,w3⟩:=zeu Tryz.underlying3 h3
 obtain ⟨z4,i4,w4⟩:=zeu Tryz.underlying3 h4
 obtain ⟨z5,i5⟩:=ylh Tryz.underlying46 Tryz.underlying5 (by kernel_rfl) h5
 have e6:b5=[]:=t5
 rw [e1,e2,e3,e4,e5,e6,i1,i2,i3,i4,i5]
 exact ⟨⟨z1,z2,z3,z4,z5⟩,rfl,⟨zid w1,zid w3,zid w4⟩⟩
structure Queued where
 id:Int
 mid:Int
 came:Int
 sent:Int
 parts:Int
 message:Message
def Queued.row (x:Queued):List PV:=[pi x.id,pi x.mid,pi x.came,pi x.sent,pi x.parts,pi x.message.stream,pb x.message.ordered,pi x.message.life,pi x.message.tries,.sl 1 (x.message.data.map bRow)]
def Queued.cells (x:Queued):List HV:=[.p (pi x.id),.p (pi x.mid),.p (pi x.came),.p (pi x.sent),.p (pi x.parts),.p (pi x.message.stream),.p (pb x.message.ordered),.p (pi x.message.life),.p (pi x.message.tries),.p (.sl 1 (x.message.data.map bRow))]
def Queued.hv (x:Queued):HV:=.agg [.p (pi x.id),.p (pi x.mid),.p (pi x.came),.p (pi x.sent),.p (pi x.parts),.p (pi x.message.stream),.p (pb x.message.ordered),.p (pi x.message.life),.p (pi x.message.tries),.p (.sl 1 (x.message.data.map bRow))]
structure Sched where
 last:Int
 hand:Int
 had:List Int
def Sched.row (x:Sched):List PV:=[pi x.last,pi x.hand,.sl 1 (x.had.map (fun n=>[pi n]))]
def Sched.cells (x:Sched):List HV:=[.p (pi x.last),.p (pi x.hand),.p (.sl 1 (x.had.map (fun n=>[pi n])))]
def Sched.hv (x:Sched):HV:=.agg [.p (pi x.last),.p (pi x.hand),.p (.sl 1 (x.had.map (fun n=>[pi n])))]
structure Sent where
 number:Int
 id:Int
 state:Int
 path:Int
 missed:Int
 times:Int
 came:Int
 life:Int
 tries:Int
 chunk:Chunk
def Sent.row (x:Sent):List PV:=[pi x.number,pi x.id,pi x.state,pi x.path,pi x.missed,pi x.times,pi x.came,pi x.life,pi x.tries,pi x.chunk.kind,pi x.chunk.tag,pi x.chunk.stream,pi x.chunk.mid,pi x.chunk.part,pb x.chunk.last,pb x.chunk.ordered,.sl 1 (x.chunk.data.map bRow),.sl 2 (x.chunk.spans.map Span.row),pi x.chunk.room,.sl 3 (x.chunk.skips.map Skip.row)]
def Sent.hv (x:Sent):HV:=.agg [.p (pi x.number),.p (pi x.id),.p (pi x.state),.p (pi x.path),.p (pi x.missed),.p (pi x.times),.p (pi x.came),.p (pi x.life),.p (pi x.tries),.p (pi x.chunk.kind),.p (pi x.chunk.tag),.p (pi x.chunk.stream),.p (pi x.chunk.mid),.p (pi x.chunk.part),.p (pb x.chunk.last),.p (pb x.chunk.ordered),.p (.sl 1 (x.chunk.data.map bRow)),.p (.sl 2 (x.chunk.spans.map Span.row)),.p (pi x.chunk.room),.p (.sl 3 (x.chunk.skips.map Skip.row))]
structure Path where
 window:Int
 slow:Int
 gathered:Int
 flight:Int
 errors:Int
 alarm:Int
 wait:Int
def Path.row (x:Path):List PV:=[pi x.window,pi x.slow,pi x.gathered,pi x.flight,pi x.errors,pi x.alarm,pi x.wait]
def Path.cells (x:Path):List HV:=[.p (pi x.window),.p (pi x.slow),.p (pi x.gathered),.p (pi x.flight),.p (pi x.errors),.p (pi x.alarm),.p (pi x.wait)]
def Path.hv (x:Path):HV:=.agg [.p (pi x.window),.p (pi x.slow),.p (pi x.gathered),.p (pi x.flight),.p (pi x.errors),.p (pi x.alarm),.p (pi x.wait)]
structure Piece where
 number:Int
 chunk:Chunk
def Piece.row (x:Piece):List PV:=[pi x.number,pi x.chunk.kind,pi x.chunk.tag,pi x.chunk.stream,pi x.chunk.mid,pi x.chunk.part,pb x.chunk.last,pb x.chunk.ordered,.sl 1 (x.chunk.data.map bRow),.sl 2 (x.chunk.spans.map Span.row),pi x.chunk.room,.sl 3 (x.chunk.skips.map Skip.row)]
def Piece.hv (x:Piece):HV:=.agg [.p (pi x.number),.p (pi x.chunk.kind),.p (pi x.chunk.tag),.p (pi x.chunk.stream),.p (pi x.chunk.mid),.p (pi x.chunk.part),.p (pb x.chunk.last),.p (pb x.chunk.ordered),.p (.sl 1 (x.chunk.data.map bRow)),.p (.sl 2 (x.chunk.spans.map Span.row)),.p (pi x.chunk.room),.p (.sl 3 (x.chunk.skips.map Skip.row))]
structure Arrival where
 stream:Int
 mid:Int
 ordered:Bool
 data:List UInt8
def Arrival.row (x:Arrival):List PV:=[pi x.stream,pi x.mid,pb x.ordered,.sl 1 (x.data.map bRow)]
structure Receiver where
 config:Config
 cum:Int
 spans:List Span
 pieces:List Piece
 turn:List Int
 log:List Arrival
def Receiver.hv (x:Receiver):HV:=.agg [.p (pi x.config.streams),.p (pi x.config.part),.p (pi x.config.packet),.p (pi x.config.paths),.p (pi x.config.turns),.p (pi x.config.waiting),.p (pi x.config.first),.p (pi x.cum),.p (.sl 2 (x.spans.map Span.row)),.p (.sl 12 (x.pieces.map Piece.row)),.p (.sl 1 (x.turn.map (fun n=>[pi n]))),.p (.sl 4 (x.log.map Arrival.row))]
structure Packet where
 path:Int
 back:Bool
 bytes:List UInt8
def Packet.row (x:Packet):List PV:=[pi x.path,pb x.back,.sl 1 (x.bytes.map bRow)]
def Packet.cells (x:Packet):List HV:=[.p (pi x.path),.p (pb x.back),.p (.sl 1 (x.bytes.map bRow))]
def Packet.hv (x:Packet):HV:=.agg [.p (pi x.path),.p (pb x.back),.p (.sl 1 (x.bytes.map bRow))]
structure Sender where
 config:Config
 clock:Int
 queue:List Queued
 sched:Sched
 out:List Sent
 paths:List Path
 cum:Int
 next:Int
 room:Int
 mids:List Int
 fates:List Int
 forward:Bool
 recover:Int
def Sender.hv (x:Sender):HV:=.agg [.p (pi x.config.streams),.p (pi x.config.part),.p (pi x.config.packet),.p (pi x.config.paths),.p (pi x.config.turns),.p (pi x.config.waiting),.p (pi x.config.first),.p (pi x.clock),.p (.sl 10 (x.queue.map Queued.row)),.p (pi x.sched.last),.p (pi x.sched.hand),.p (.sl 1 (x.sched.had.map (fun n=>[pi n]))),.p (.sl 20 (x.out.map Sent.row)),.p (.sl 7 (x.paths.map Path.row)),.p (pi x.cum),.p (pi x.next),.p (pi x.room),.p (.sl 1 (x.mids.map (fun n=>[pi n]))),.p (.sl 1 (x.fates.map (fun n=>[pi n]))),.p (pb x.forward),.p (pi x.recover)]
structure Line where
 sender:Sender
 receiver:Receiver
 way:List Packet
def Line.cells (x:Line):List HV:=[.p (pi x.sender.config.streams),.p (pi x.sender.config.part),.p (pi x.sender.config.packet),.p (pi x.sender.config.paths),.p (pi x.sender.config.turns),.p (pi x.sender.config.waiting),.p (pi x.sender.config.first),.p (pi x.sender.clock),.p (.sl 10 (x.sender.queue.map Queued.row)),.p (pi x.sender.sched.last),.p (pi x.sender.sched.hand),.p (.sl 1 (x.sender.sched.had.map (fun n=>[pi n]))),.p (.sl 20 (x.sender.out.map Sent.row)),.p (.sl 7 (x.sender.paths.map Path.row)),.p (pi x.sender.cum),.p (pi x.sender.next),.p (pi x.sender.room),.p (.sl 1 (x.sender.mids.map (fun n=>[pi n]))),.p (.sl 1 (x.sender.fates.map (fun n=>[pi n]))),.p (pb x.sender.forward),.p (pi x.sender.recover),.p (pi x.receiver.config.streams),.p (pi x.receiver.config.part),.p (pi x.receiver.config.packet),.p (pi x.receiver.config.paths),.p (pi x.receiver.config.turns),.p (pi x.receiver.config.waiting),.p (pi x.receiver.config.first),.p (pi x.receiver.cum),.p (.sl 2 (x.receiver.spans.map Span.row)),.p (.sl 12 (x.receiver.pieces.map Piece.row)),.p (.sl 1 (x.receiver.turn.map (fun n=>[pi n]))),.p (.sl 4 (x.receiver.log.map Arrival.row)),.p (.sl 3 (x.way.map Packet.row))]
def Line.hv (x:Line):HV:=.agg [.p (pi x.sender.config.streams),.p (pi x.sender.config.part),.p (pi x.sender.config.packet),.p (pi x.sender.config.paths),.p (pi x.sender.config.turns),.p (pi x.sender.config.waiting),.p (pi x.sender.config.first),.p (pi x.sender.clock),.p (.sl 10 (x.sender.queue.map Queued.row)),.p (pi x.sender.sched.last),.p (pi x.sender.sched.hand),.p (.sl 1 (x.sender.sched.had.map (fun n=>[pi n]))),.p (.sl 20 (x.sender.out.map Sent.row)),.p (.sl 7 (x.sender.paths.map Path.row)),.p (pi x.sender.cum),.p (pi x.sender.next),.p (pi x.sender.room),.p (.sl 1 (x.sender.mids.map (fun n=>[pi n]))),.p (.sl 1 (x.sender.fates.map (fun n=>[pi n]))),.p (pb x.sender.forward),.p (pi x.sender.recover),.p (pi x.receiver.config.streams),.p (pi x.receiver.config.part),.p (pi x.receiver.config.packet),.p (pi x.receiver.config.paths),.p (pi x.receiver.config.turns),.p (pi x.receiver.config.waiting),.p (pi x.receiver.config.first),.p (pi x.receiver.cum),.p (.sl 2 (x.receiver.spans.map Span.row)),.p (.sl 12 (x.receiver.pieces.map Piece.row)),.p (.sl 1 (x.receiver.turn.map (fun n=>[pi n]))),.p (.sl 4 (x.receiver.log.map Arrival.row)),.p (.sl 3 (x.way.map Packet.row))]
structure Step where
 kind:Int
 n:Int
 message:Message
def Step.row (x:Step):List PV:=[pi x.kind,pi x.n,pi x.message.stream,pb x.message.ordered,pi x.message.life,pi x.message.tries,.sl 1 (x.message.data.map bRow)]
def Step.hv (x:Step):HV:=.agg [.p (pi x.kind),.p (pi x.n),.p (pi x.message.stream),.p (pb x.message.ordered),.p (pi x.message.life),.p (pi x.message.tries),.p (.sl 1 (x.message.data.map bRow))]
structure Step.Wf (x:Step):Prop where
 kind:inI x.kind
 n:inI x.n
 message:Message.Wf x.message
theorem yql {n:Nat} {pvs:List PV} (h:shp Tryz.prog n 50 pvs):∃ x:Step,pvs=x.row /\ x.Wf:=by
 have t0:=zmo Tryz.underlying50 h
 obtain ⟨a1,b1,e1,h1,t1⟩:=zcv t0
 obtain ⟨a2,b2,e2,h2,t2⟩:=zcv t1
 obtain ⟨a3,b3,e3,h3,t3⟩:=zcv t2
 obtain ⟨z1,i1,w1⟩:=zeu Tryz.underlying3 h1
 obtain ⟨z2,i2,w2⟩:=zeu Tryz.underlying3 h2
 obtain ⟨z3,i3,w3⟩:=ycf h3
 have e4:b3=[]:=t3
 rw [e1,e2,e3,e4,i1,i2,i3]
 exact ⟨⟨z1,z2,z3⟩,rfl,⟨zid w1,zid w2,w3⟩⟩
structure Answer where
 err:Int
 n:Int
def Answer.row (x:Answer):List PV:=[pi x.err,pi x.n]
def Answer.hv (x:Answer):HV:=.agg [.p (pi x.err),.p (pi x.n)]
end Go.HL
namespace Go.HL
theorem zev {rows:List (List PV)} {o n o' n':Nat} {K:List (List PV) -> Prop} (ho:o=o') (hn:n=n') (h:hsub rows o' n' K):hsub rows o n K:=by subst ho;subst hn;exact h
theorem zpw {z:Int} (h1:0 <= z) (h2:z < 18446744073709551616):IntKind.u64.wrap z=z:=by
 unfold IntKind.wrap
 simp [IntKind.bits,IntKind.signed]
 omega
theorem zbc {k:IntKind} {z z':Int} {K:Int -> Prop} (h:k.wrap z=z') (hk:K z'):hwrap k z K:=⟨z',h.symm,hk⟩
theorem ylm {z:Int} {K:Int -> Prop} (h:K (W z)):hwrap .i64 z K:=⟨_,rfl,h⟩
theorem zda {α:Type} {t n:Nat} {f:α -> List PV} {a b:List α} {x:α} (h:a++[x]=b):HSlot.live (.row t n (b.map f))=HSlot.live (.row t n (a.map f++[f x])):=by
 rw [<- h,List.map_append];rfl
theorem zau {α:Type} {t n:Nat} {f:α -> List PV} {a b:List α} {x:α} {r:List PV} (h:b=a++[x]) (hr:f x=r):HSlot.live (.row t n (a.map f++[r]))=HSlot.live (.row t n (b.map f)):=by
 rw [h,List.map_append,<- hr];rfl
theorem zah {α:Type} {f:α -> List PV} {l a b:List α} {s:α} {z:Int} {K:List PV -> Prop} (h:l=a++s :: b) (hz:z=a.length) (hk:K (f s)):hrow (l.map f) z K:=by
 subst h
 exact ⟨_,by omega,by rw [hz,Int.toNat_natCast,List.getElem?_map,List.getElem?_append_right (Nat.le_refl _)];simp,hk⟩
theorem zcw {α:Type} {t n:Nat} {f:α -> List PV} {a b:List α} {x y:α} {k:Nat} {r:List PV} (hk:k=a.length) (hr:f y=r) :
 HSlot.live (.row t n ((a++y :: b).map f))=HSlot.live (.row t n (((a++x :: b).map f).set k r)):=by
 subst hk;subst hr
 have:((a++x :: b).map f).set a.length (f y)=(a++y :: b).map f:=by
  induction a with
  | nil=>rfl
  | cons z a ih=>simp only [List.cons_append,List.map_cons,List.length_cons,List.set_cons_succ];rw [ih]
 rw [this]
theorem zbj {rows:List (List PV)} {k:Nat} {r:List PV} {z:Int} {K:List PV -> Prop} (hz:z=k) (h:k < rows.length) (hk:K r):hrow (rows.set k r) z K :=
 ⟨r,by omega,by rw [hz,Int.toNat_natCast,List.getElem?_set_self h],hk⟩
theorem yqm {α:Type} {t n:Nat} {f:α -> List PV} {a b:List α} {x y:α} {k:Nat} {r r':List PV} (hk:k=a.length) (hr:f y=r) :
 HSlot.live (.row t n ((a++y :: b).map f))=HSlot.live (.row t n ((((a++x :: b).map f).set k r').set k r)):=by
 rw [List.set_set];exact zcw hk hr
theorem zaz {α:Type} {l a:List α} (h:l=a++[]):l.length=a.length:=by rw [h];simp
theorem zat {α:Type} {l a b:List α} {s:α} (h:l=a++s :: b):l.length=a.length+b.length+1:=by rw [h];simp;omega
theorem zag {α:Type} {l a b:List α} {s:α} (h:l=a++s :: b):l=(a++[s])++b:=by rw [h];simp
theorem zef {α:Type} {l a b:List α} {s:α} (h:l=a++s :: b):s ∈ l:=by rw [h];simp
theorem yfi {α:Type} {f:α -> List PV} (hf:∀ x,1 <= bulkL (f x)) (l:List α):l.length <= bulkR (l.map f):=by
 have:=yfe (rows:=l.map f) (fun r hr=>by obtain ⟨p,_,rfl⟩:=List.mem_map.1 hr;exact hf p)
 rwa [List.length_map] at this
theorem yfj {α:Type} {f:α -> List PV}:∀ {l:List α} {x:α},x ∈ l -> bulkL (f x) <= bulkR (l.map f)
 | y :: l,x,h=>by
  simp only [List.map_cons,bulkR]
  rcases List.mem_cons.1 h with rfl | h
  . omega
  . have:=yfj (f:=f) h;omega
theorem zan {t n:Nat} {a b:List (List PV)} (h:a=b):HSlot.live (.row t n a)=HSlot.live (.row t n b):=by rw [h]
theorem zaw {a b:Int} (h:a=b):i64 a=i64 b:=by rw [h]
theorem zbt {P:Program} {f:FuncId} {fn:Func} (_:P.funcs[f]?=some fn) {args:List HV} {r r':HV} {L:List (Nat × HSlot)} (h:FunOK P f args zad r (lk .free L))
 (hk:pureK (lk .free L) r fun y _=>zpo (zkh P fn.resultTypes.toList y) fun y=>y=r'):FunOK P f args zad r' zad:=by
 intro Γ m w vals hok hargs h0
 obtain ⟨h1,h2⟩:=h Γ m w vals hok hargs h0
 refine ⟨h1,h2.mono fun e w' he=>?_⟩
 obtain ⟨v,m',rfl,hok',hv,hp⟩:=he
 obtain ⟨y,us,hy,hview⟩:=zgv _ hk
 rw [zpp] at hy
 subst hy
 have hws:=WS.frz hok' hview.frz
 have hy:=hview.rep m' w' _ v (WS.kept hview.frz hws.ok) (hws.rep hv)
 have hRn:∀ b,RR Γ m' (updL (lk .free L) us) w' b -> RR Γ (fun _=>none) zad w' b:=fun b hb=>⟨hb.1,hb.2.1,zuv⟩
 refine ⟨v,fun _=>none,rfl,⟨hok'.size,hok'.os,hok'.tape,hok'.output,hok'.frame,fun _ _=>rfl,(fun id b hb=>by cases hb),(fun id b hb=>by cases hb),(fun id id' b b' l l' hb=>by cases hb),hok'.dom⟩,?_,fun id l _ hl=>?_⟩
 . refine HRep.zkh _ ?_
   refine yeq (σ:=noIds) (m:=m') (R:=RR Γ m' (updL (lk .free L) us) w') (fun i j hj=>by cases hj) (fun i hj=>by cases hj) hRn _ v hview.noid ?_
   rw [zuu _ hview.noid]
   exact hy
 . rw [hok.free id rfl] at hl;cases hl
theorem zbh {X:HS -> (HX -> HS -> Prop) -> Prop} {s:HS} {Q:HX -> HS -> Prop} (h:∀ Q':HX -> HS -> Prop,(∀ e s',Q e s' -> Q' e s') -> X s Q'):X s Q:=h Q fun _ _ h=>h
end Go.HL
namespace Go.HL
namespace Srt
section
variable {α:Type} (key:α -> Int)
def ins (x:α):List α -> List α
 | []=>[x]
 | y :: r=>if key x <= key y then x :: y :: r else y :: ins x r
def srt:List α -> List α
 | []=>[]
 | x :: r=>ins key x (srt r)
def mrg:List α -> List α -> List α
 | [],v=>v
 | x :: u,[]=>x :: u
 | x :: u,y :: v=>if key x <= key y then x :: mrg u (y :: v) else y :: mrg (x :: u) v
termination_by u v=>u.length+v.length
def Sd:List α -> Prop
 | []=>True
 | x :: r=>(∀ y ∈ r,key x <= key y) /\ Sd r
variable {key}
theorem yln {x z:α}:∀ {l:List α},z ∈ ins key x l ↔ z=x \/ z ∈ l
 | []=>by simp [ins]
 | y :: r=>by
  rw [ins];split
  . simp
  . simp only [List.mem_cons,yln (l:=r)]
    constructor
    . rintro (h | h | h)
      . exact .inr (.inl h)
      . exact .inl h
      . exact .inr (.inr h)
    . rintro (h | h | h)
      . exact .inr (.inl h)
      . exact .inl h
      . exact .inr (.inr h)
theorem yfk {x:α}:∀ {l:List α},(ins key x l).Perm (x :: l)
 | []=>List.Perm.refl _
 | y :: r=>by
  rw [ins];split
  . exact List.Perm.refl _
  . exact ((yfk (l:=r)).cons y).trans (List.Perm.swap x y r)
theorem zld:∀ {l:List α},(srt key l).Perm l
 | []=>List.Perm.refl _
 | x :: r=>yfk.trans ((zld (l:=r)).cons x)
theorem zgz (l:List α):(srt key l).length=l.length:=zld.length_eq
theorem ysh {x:α}:∀ {l:List α},Sd key l -> Sd key (ins key x l)
 | [],_=>by simp [ins,Sd]
 | y :: r,h=>by
  rw [ins];split
  . rename_i c
    refine ⟨fun z hz=>?_,h⟩
    rcases List.mem_cons.1 hz with rfl | hz
    . exact c
    . exact Int.le_trans c (h.1 z hz)
  . rename_i c
    refine ⟨fun z hz=>?_,ysh h.2⟩
    rcases yln.1 hz with rfl | hz
    . omega
    . exact h.1 z hz
theorem znl:∀ {l:List α},Sd key (srt key l)
 | []=>trivial
 | _ :: r=>ysh (znl (l:=r))
theorem zkj:∀ (u:List α),mrg key u []=u
 | []=>by rw [mrg]
 | x :: u=>by rw [mrg]
theorem ylo (x:α):∀ (v:List α),mrg key [x] v=ins key x v
 | []=>by rw [mrg,ins]
 | y :: v=>by
  rw [mrg,ins];split
  . rw [mrg]
  . rw [ylo x v]
theorem ylp {x:α} {l:List α} (h:∀ y ∈ l,key x <= key y):ins key x l=x :: l:=by
 cases l with
 | nil=>rfl
 | cons y r=>rw [ins,if_pos (h y (by simp))]
theorem ylq {z:α} (u v:List α):z ∈ mrg key u v ↔ z ∈ u \/ z ∈ v:=by
 fun_induction mrg key u v with
 | case1 v=>simp
 | case2 x u=>simp
 | case3 x u y v h ih =>
  have e:z ∈ x :: mrg key u (y :: v) ↔ z=x \/ z ∈ u \/ z=y \/ z ∈ v:=by rw [List.mem_cons,ih,List.mem_cons]
  rw [e,List.mem_cons,List.mem_cons,or_assoc]
 | case4 x u y v h ih =>
  have e:z ∈ y :: mrg key (x :: u) v ↔ z=y \/ (z=x \/ z ∈ u) \/ z ∈ v:=by rw [List.mem_cons,ih,List.mem_cons]
  rw [e,List.mem_cons,List.mem_cons,or_left_comm]
theorem ytv (x:α) (u v:List α) (hu:Sd key u) (hv:Sd key v):mrg key (ins key x u) v=ins key x (mrg key u v):=by
 fun_induction mrg key u v with
 | case1 v=>rw [ins,ylo]
 | case2 y u=>rw [zkj]
 | case3 y u z v h ih =>
  by_cases c:key x <= key y
  . rw [ins,if_pos c,mrg,if_pos (by omega),mrg,if_pos h,ins,if_pos c]
  . rw [ins,if_neg c,mrg,if_pos h,ih hu.2 hv,ins,if_neg c]
 | case4 y u z v h ih =>
  by_cases c:key x <= key z
  . have c2:key x <= key y:=by omega
    rw [ins,if_pos c2,mrg,if_pos c,mrg,if_neg h,ins,if_pos c]
  . have hi:=ih hu hv.2
    rw [show ins key x (z :: mrg key (y :: u) v)=z :: ins key x (mrg key (y :: u) v) by rw [ins,if_neg c],<- hi]
    by_cases c2:key x <= key y
    . rw [show ins key x (y :: u)=x :: y :: u by rw [ins,if_pos c2],mrg,if_neg c]
    . rw [show ins key x (y :: u)=y :: ins key x u by rw [ins,if_neg c2],mrg,if_neg h]
theorem ylr (u v:List α) (hu:Sd key u) (hv:Sd key v):Sd key (mrg key u v):=by
 fun_induction mrg key u v with
 | case1 v=>exact hv
 | case2 y u=>exact hu
 | case3 y u z v h ih =>
  refine ⟨fun a ha=>?_,ih hu.2 hv⟩
  rcases (ylq u (z :: v)).1 ha with ha | ha
  . exact hu.1 a ha
  . rcases List.mem_cons.1 ha with rfl | ha
    . exact h
    . have:=hv.1 a ha;omega
 | case4 y u z v h ih =>
  refine ⟨fun a ha=>?_,ih hu hv.2⟩
  rcases (ylq (y :: u) v).1 ha with ha | ha
  . rcases List.mem_cons.1 ha with rfl | ha
    . omega
    . have:=hu.1 a ha;omega
  . exact hv.1 a ha
theorem zkk (v:List α):∀ (u:List α),mrg key (srt key u) (srt key v)=srt key (u++v)
 | []=>by rw [srt,mrg];rfl
 | x :: u=>by rw [srt,ytv x _ _ znl znl,zkk v u];rfl
theorem zin {u2 v2:List α} (u1 v1:List α) (h1:∀ a ∈ u1,∀ b ∈ v2,key a <= key b) (h2:∀ b ∈ v1,∀ a ∈ u2,key b < key a) :
 mrg key (u1++u2) (v1++v2)=mrg key u1 v1++mrg key u2 v2:=by
 fun_induction mrg key u1 v1 with
 | case1 v =>
  clear h1
  induction v with
  | nil=>rfl
  | cons y v ih =>
   have ih:=ih (fun b hb=>h2 b (by simp [hb]))
   cases u2 with
   | nil=>simp [mrg]
   | cons a u =>
    have:=h2 y (by simp) a (by simp)
    rw [List.nil_append,List.cons_append,mrg,if_neg (by omega)]
    rw [List.nil_append] at ih
    rw [ih];rfl
 | case2 x u =>
  have hh:∀ u:List α,(∀ a ∈ u,∀ b ∈ v2,key a <= key b) -> mrg key (u++u2) v2=u++mrg key u2 v2:=by
   intro u h
   induction u with
   | nil=>rfl
   | cons x u ih =>
    cases v2 with
    | nil=>rw [zkj,zkj]
    | cons b v =>
     rw [List.cons_append,mrg,if_pos (h x (by simp) b (by simp)),ih (fun a ha=>h a (by simp [ha]))];rfl
  exact hh (x :: u) h1
 | case3 x u y v h ih =>
  rw [List.cons_append,List.cons_append,mrg,if_pos h,List.cons_append]
  rw [<- List.cons_append,ih (fun a ha=>h1 a (by simp [ha])) h2]
 | case4 x u y v h ih =>
  rw [List.cons_append,List.cons_append,mrg,if_neg h,List.cons_append]
  rw [<- List.cons_append,ih h1 (fun b hb=>h2 b (by simp [hb]))]
theorem zyq {a b:List α} {y:α} (h1:∀ x ∈ a,key x <= key y) (h2:∀ x ∈ b,key y < key x):mrg key (a++b) [y]=a++y :: b:=by
 have e1:=zin (key:=key) (u2:=b) (v2:=[]) a [y] (by simp) (by simpa using h2)
 have e2:=zin (key:=key) (u2:=[]) (v2:=[y]) a [] (by simpa using h1) (by simp)
 rw [List.append_nil,List.nil_append,zkj,mrg] at e2
 rw [List.append_nil,zkj,e2] at e1
 simpa using e1
theorem yqn {a b:List α} {y:α} (h1:∀ x ∈ a,key x < key y) (h2:∀ x ∈ b,key y <= key x):mrg key [y] (a++b)=a++y :: b:=by
 have e1:=zin (key:=key) (u2:=[y]) (v2:=b) [] a (by simp) (by simpa using h1)
 have e2:=zin (key:=key) (u2:=[]) (v2:=b) [y] [] (by simpa using h2) (by simp)
 rw [List.nil_append,mrg] at e1
 rw [List.append_nil,List.nil_append,zkj,mrg] at e2
 rw [e1,e2];rfl
theorem zyr:∀ {a b:List α},Sd key (a++b) ↔ Sd key a /\ Sd key b /\ ∀ x ∈ a,∀ y ∈ b,key x <= key y
 | [],b=>by simp [Sd]
 | s :: a,b=>by
  simp only [List.cons_append,Sd,zyr (a:=a) (b:=b),List.mem_append,List.mem_cons]
  constructor
  . rintro ⟨h1,h2,h3,h4⟩
    exact ⟨⟨fun y hy=>h1 y (.inl hy),h2⟩,h3,fun x hx y hy=>by rcases hx with rfl | hx;exact h1 y (.inr hy);exact h4 x hx y hy⟩
  . rintro ⟨⟨h1,h2⟩,h3,h4⟩
    exact ⟨fun y hy=>by rcases hy with hy | hy;exact h1 y hy;exact h4 s (.inl rfl) y hy,h2,h3,fun x hx=>h4 x (.inr hx)⟩
theorem zsq {l:List α} (h:Sd key l) {i j:Nat} (hj:j < l.length) (hij:i <= j):key (l[i]'(by omega)) <= key l[j]:=by
 induction l generalizing i j with
 | nil=>simp at hj
 | cons _ r ih =>
  cases j with
  | zero =>
   obtain rfl:i=0:=by omega
   exact Int.le_refl _
  | succ j =>
   cases i with
   | zero=>simpa using h.1 _ (List.getElem_mem (by simpa using hj))
   | succ i=>simpa using ih h.2 (by simpa using hj) (by omega)
theorem zha:∀ {l:List α},Sd key l -> srt key l=l
 | [],_=>rfl
 | x :: r,h=>by rw [srt,zha h.2,ylp h.1]
theorem yqo (u:List α) (x:α):srt key (u++[x])=mrg key (srt key u) [x]:=by rw [<- zkk];rfl
end
end Srt
namespace Srt
theorem zpx {α:Type} {A B:List α} {x y:α} {i:Nat} (h:i=A.length):(A++x :: B).set i y=A++y :: B:=by
 subst h
 induction A with
 | nil=>rfl
 | cons a A ih=>simp only [List.cons_append,List.length_cons,List.set_cons_succ,ih]
theorem zvc {α:Type} {t n:Nat} {f:α -> List PV} {l l' A B C:List α} {x y:α} {i j:Nat} {r s:List PV} (h:l=A++x :: (B++y :: C)) (h':l'=A++y :: (B++x :: C)) (hi:i=A.length) (hj:j=A.length+1+B.length) (hr:f y=r) (hs:f x=s) :
 HSlot.live (.row t n (((l.map f).set i r).set j s))=HSlot.live (.row t n (l'.map f)):=by
 subst h h' hr hs
 rw [<- List.map_set,<- List.map_set,zpx hi,show A++y :: (B++y :: C)=(A++y :: B)++y :: C by simp,zpx (by simp;omega)]
 simp
theorem zys {α:Type} {t n:Nat} {f:α -> List PV} {l l' A B C:List α} {x y:α} {i j:Nat} {r s:List PV} (h:l=A++x :: (B++y :: C)) (h':l'=A++y :: (B++x :: C)) (hi:i=A.length) (hj:j=A.length+1+B.length) (hr:f y=r) (hs:f x=s) :
 HSlot.live (.row t n (((l.map f).set j s).set i r))=HSlot.live (.row t n (l'.map f)):=by
 rw [List.set_comm _ _ (by omega)]
 exact zvc h h' hi hj hr hs
theorem zgk {α:Type} {f:α -> List PV} {l A B:List α} {y:α} {i:Nat} {r:List PV} {z:Int} {K:List PV -> Prop} (h:l=A++y :: B) (hz:z=A.length) (hi:i ≠ A.length) (hk:K (f y)):hrow ((l.map f).set i r) z K :=
 ⟨f y,by omega,by rw [hz,Int.toNat_natCast,List.getElem?_set_ne hi,h];simp,hk⟩
abbrev ck (p:Piece):Int:=p.chunk.part
abbrev H1 (l:List Piece):List (Nat × HSlot):=[(1000,.live (.row 162 12 (l.map Piece.row)))]
def cmp (a b:Piece):Int:=if ck a < ck b then -1 else if ck a > ck b then 1 else 0
def CmpOK (g:FuncId):Prop:=∀ a b:Piece,FunOK Tryz.prog g [a.hv,b.hv] zad (i64 (cmp a b)) zad
theorem zio {a b:Piece}:cmp a b < 0 ↔ ck a < ck b:=by unfold cmp;split <;> (try split) <;> omega
theorem yls {g:FuncId} (P M Q X Y:List Piece) (hxy:X.length=Y.length) (hb:(P++X++M++Y++Q).length < 2 ^ 40) (a b n:Int) (ha:a=P.length) (hb':b=(P++X++M).length) (hn:n=X.length) :
 FunOK Tryz.prog 220 [.own 1000,i64 a,i64 b,i64 n,.clo g []] (lk .free (H1 (P++X++M++Y++Q))) (.tup []) (lk .free (H1 (P++Y++M++X++Q))):=by
 refine zal mixed Tryz.func220 (by decide) [1000] zba ?_
 conv=>whnf
 refine ⟨{ x:(List Piece × List Piece) × (List Piece × List Piece) // X=x.1.1++x.1.2 /\ Y=x.2.1++x.2.2 /\ x.1.1.length=x.2.1.length },fun | ⟨((X1,X2),(Y1,Y2)),_⟩=>hsP [1000] 38 [(0,.own 1000),(1,i64 a),(2,i64 b),(3,i64 n),(10,i64 X1.length)] (H1 (P++Y1++X2++M++X1++Y2++Q)),fun x=>x.1.1.2.length,⟨(([],X),([],Y)),rfl,rfl,rfl⟩,?_,?_⟩
 . exact (hle_Y [(1000,some 1000)] (by repeat' (first | exact z0 | refine z1 ?_ | refine ⟨?_,?_⟩ | ((exact zan (by simp))) | exact z2)))
 rintro ⟨⟨⟨X1,X2⟩,⟨Y1,Y2⟩⟩,hX,hY,h12⟩
 dsimp only at hX hY h12
 have lX:X.length=X1.length+X2.length:=by rw [hX];simp
 have lY:Y.length=Y1.length+Y2.length:=by rw [hY];simp
 simp only [List.length_append] at hb hb'
 conv=>whnf
 cases X2 with
 | nil =>
  have:Y2=[]:=List.eq_nil_of_length_eq_zero (by rw [List.length_nil] at lX;omega)
  subst this
  rw [List.length_nil] at lX
  rw [List.append_nil] at hX hY
  subst hX hY
  refine sN ?_
  refine zak [(1000,some 1000)] rfl rfl ⟨rfl,trivial⟩ rfl rfl ⟨⟨rfl,.inl ⟨1000,rfl,?_⟩⟩,trivial⟩
  exact zan (by simp)
 | cons x X2 =>
  cases Y2 with
  | nil=>simp at lX lY;omega
  | cons y Y2 =>
   rw [List.length_cons] at lX lY
   have e1:P++Y1++x :: X2++M++X1++y :: Y2++Q=(P++Y1)++x :: ((X2++M++X1)++y :: (Y2++Q)):=by simp
   have e2:P++Y1++x :: X2++M++X1++y :: Y2++Q=(P++Y1++x :: X2++M++X1)++y :: (Y2++Q):=by simp
   refine sT ?_
   refine sF ?_
   refine sF ?_
   refine sF ?_
   refine sO ?_
   refine zah e2 ?_ ?_
   . simp;omega
   conv=>whnf
   refine sF ?_
   refine sO ?_
   refine zah e1 ?_ ?_
   . simp;omega
   conv=>whnf
   refine sO ?_
   refine zah e1 ?_ ?_
   . simp;omega
   conv=>whnf
   refine sO ?_
   refine zgk e2 ?_ ?_ ?_
   . simp;omega
   . simp;omega
   conv=>whnf
   refine sD ?_
   refine sF ?_
   refine ⟨⟨((X1++[x],X2),(Y1++[y],Y2)),by rw [hX];simp,by rw [hY];simp,by simp;omega⟩,(hle_Y [(1000,some 1000)] (by repeat' (first | exact z0 | refine z1 ?_ | refine ⟨?_,?_⟩ | ((refine zvc e1 (by simp) ?_ ?_ rfl rfl <;> (simp;try omega))) | exact z2))),by simp⟩
theorem ziq {g:FuncId} {L L':List Piece} (P M Q X Y:List Piece) (h1:L=P++X++M++Y++Q) (h2:L'=P++Y++M++X++Q) (hxy:X.length=Y.length) (hb:L.length < 2 ^ 40) (a b n:Int) (ha:a=P.length) (hb':b=(P++X++M).length) (hn:n=X.length) :
 FunOK Tryz.prog 220 [.own 1000,i64 a,i64 b,i64 n,.clo g []] (lk .free (H1 L)) (.tup []) (lk .free (H1 L')):=by
 subst h1 h2;exact yls P M Q X Y hxy hb a b n ha hb' hn
theorem ycg {g:FuncId} (P Q U V:List Piece) (hU:U ≠ []) (hV:V ≠ []) (hb:(P++U++V++Q).length < 2 ^ 40) (a m b:Int) (ha:a=P.length) (hm:m=(P++U).length) (hb':b=(P++U++V).length) :
 FunOK Tryz.prog 219 [.own 1000,i64 a,i64 m,i64 b,.clo g []] (lk .free (H1 (P++U++V++Q))) (.tup []) (lk .free (H1 (P++V++U++Q))):=by
 refine zal mixed Tryz.func219 (by decide) [1000] zba ?_
 simp only [List.length_append] at hb hm hb'
 have hU0:=List.length_pos_iff.2 hU
 have hV0:=List.length_pos_iff.2 hV
 generalize hT:P++V++U++Q=T
 conv=>whnf
 refine sF ?_
 refine sF ?_
 refine ⟨{ x:(List Piece × List Piece) × (List Piece × List Piece) // x.1.1++x.2.1++x.1.2++x.2.2=T /\ x.1.1.length+x.1.2.length=P.length+U.length /\ 0 < x.1.2.length /\ 0 < x.2.1.length /\ x.1.1.length+x.1.2.length+x.2.1.length+x.2.2.length=P.length+U.length+V.length+Q.length },
  fun | ⟨((P',U'),(V',Q')),_⟩=>hsP [1000] 58 [(0,.own 1000),(2,i64 m),(4,.clo g []),(10,i64 U'.length),(11,i64 V'.length)] (H1 (P'++U'++V'++Q')),fun x=>x.1.1.2.length+x.1.2.1.length,⟨((P,U),(V,Q)),by simpa using hT,rfl,hU0,hV0,rfl⟩,?_,?_⟩
 . exact (hle_Y [(1000,some 1000)] (by repeat' (first | exact z0 | refine z1 ?_ | refine ⟨?_,?_⟩ | ((exact zaw (by omega))) | exact z2)))
 clear hT hU hV
 rintro ⟨⟨⟨P',U'⟩,⟨V',Q'⟩⟩,h1,h2,h3,h4,h5⟩
 dsimp only at h1 h2 h3 h4 h5
 subst hm
 conv=>whnf
 by_cases c:U'.length=V'.length
 . refine sN ?_
   refine sF ?_
   (refine zae [] [(1000,1000)] [] ?_;(conv=>whnf);refine dG (ziq (L:=P'++U'++V'++Q') (L':=T) P' [] Q' U' V' (by simp) (by rw [<- h1];simp) c (by simp;omega) _ _ _ (by simp;omega) (by simp;omega) rfl) ?_ ⟨rfl,rfl,rfl,⟨⟨rfl,_,rfl,.inl ⟨rfl,rfl⟩⟩,trivial⟩,trivial,rfl,rfl,rfl⟩)
   exact yy72
 . refine sT ?_
   by_cases c2:U'.length > V'.length
   . obtain ⟨A,B,rfl,hA⟩:∃ A B,U'=A++B /\ A.length=V'.length:=⟨U'.take V'.length,U'.drop V'.length,by simp,by simp;omega⟩
     simp only [List.length_append] at h2 h3 h5 c c2
     refine zac (by simp;omega) ?_;conv=>whnf
     try (refine hcut.go ?_;conv=>whnf)
     refine sF ?_
     (refine zae [] [(1000,1000)] [] ?_;(conv=>whnf);refine dG (ziq (L:=P'++(A++B)++V'++Q') (L':=P'++V'++B++A++Q') P' B Q' A V' (by simp) rfl hA om _ _ _ om om om) ?_ ⟨rfl,rfl,rfl,⟨⟨rfl,_,rfl,.inl ⟨rfl,rfl⟩⟩,trivial⟩,trivial,rfl,rfl,rfl⟩)
     refine sF ?_
     refine ⟨⟨((P'++V',B),(A,Q')),by rw [<- h1];simp,by simp;omega,by dsimp only;omega,by dsimp only;omega,by simp;omega⟩,(hle_Y [(1000,some 1000)] (by repeat' (first | exact z0 | refine z1 ?_ | refine ⟨?_,?_⟩ | ((exact zaw om)) | exact z2))),by simp;omega⟩
   . obtain ⟨A,B,rfl,hB⟩:∃ A B,V'=A++B /\ B.length=U'.length:=⟨V'.take (V'.length - U'.length),V'.drop (V'.length - U'.length),by simp,by simp;omega⟩
     simp only [List.length_append] at h2 h4 h5 c c2
     refine zab (by simp;omega) ?_;conv=>whnf
     try (refine hcut.go ?_;conv=>whnf)
     refine sF ?_
     refine sF ?_
     refine sF ?_
     (refine zae [] [(1000,1000)] [] ?_;(conv=>whnf);refine dG (ziq (L:=P'++U'++(A++B)++Q') (L':=P'++B++A++U'++Q') P' A Q' U' B (by simp) rfl hB.symm om _ _ _ om om om) ?_ ⟨rfl,rfl,rfl,⟨⟨rfl,_,rfl,.inl ⟨rfl,rfl⟩⟩,trivial⟩,trivial,rfl,rfl,rfl⟩)
     refine sF ?_
     refine ⟨⟨((P',B),(A,U'++Q')),by rw [<- h1];simp,by simp;omega,by dsimp only;omega,by dsimp only;omega,by simp;omega⟩,(hle_Y [(1000,some 1000)] (by repeat' (first | exact z0 | refine z1 ?_ | refine ⟨?_,?_⟩ | ((exact zaw om)) | ((exact zan (by simp))) | exact z2))),by simp;omega⟩
theorem zeg {α:Type} (l:List α):l=[] \/ ∃ a x,l=a++[x]:=by
 exact yy134
theorem yig {g:FuncId} (hg:CmpOK g) (P X Q:List Piece) (hb:(P++X++Q).length < 2 ^ 40) (a b:Int) (ha:a=P.length) (hb':b=(P++X).length) :
 FunOK Tryz.prog 217 [.own 1000,i64 a,i64 b,.clo g []] (lk .free (H1 (P++X++Q))) (.tup []) (lk .free (H1 (P++srt ck X++Q))):=by
 refine zal mixed Tryz.func217 (by decide) [1000] zba ?_
 simp only [List.length_append] at hb hb'
 conv=>whnf
 refine sF ?_
 cases X with
 | nil =>
  refine ⟨Unit,fun _=>hsP [1000] 53 [(0,.own 1000),(1,i64 a),(2,i64 b),(3,.clo g []),(8,i64 (a+1))] (H1 (P++[]++Q)),fun _=>0,(),?_,fun _=>?_⟩
  . exact (hle_P [(1000,some 1000)])
  conv=>whnf
  refine zab (by simp at hb' ⊢;omega) ?_;conv=>whnf
  try (refine hcut.go ?_;conv=>whnf)
  exact yy72
 | cons x0 X =>
  refine ⟨{ x:List Piece × List Piece // x0 :: X=x.1++x.2 /\ 0 < x.1.length },fun | ⟨(A,B),_⟩=>hsP [1000] 53 [(0,.own 1000),(1,i64 a),(2,i64 b),(3,.clo g []),(8,i64 (P.length+A.length:Nat))] (H1 (P++srt ck A++B++Q)),fun x=>x.1.2.length,⟨([x0],X),rfl,by simp⟩,?_,?_⟩
  . exact (hle_Y [(1000,some 1000)] (by repeat' (first | exact z0 | refine z1 ?_ | refine ⟨?_,?_⟩ | ((exact zaw om)) | ((exact zan (by simp [srt,ins]))) | exact z2)))
  rintro ⟨⟨A,B⟩,h,hA⟩
  dsimp only at h hA
  have hl:(x0 :: X).length=A.length+B.length:=by rw [h];simp
  rw [hl] at hb hb'
  have hS:=zgz (key:=ck) A
  conv=>whnf
  cases B with
  | nil =>
   rw [List.length_nil] at hb hb'
   rw [List.append_nil] at h
   refine sN ?_
   refine zak [(1000,some 1000)] rfl rfl ⟨rfl,trivial⟩ rfl rfl ⟨⟨rfl,.inl ⟨1000,rfl,?_⟩⟩,trivial⟩
   exact zan (by rw [h];simp)
  | cons x B =>
   rw [List.length_cons] at hb hb'
   refine zac (by simp;omega) ?_;conv=>whnf
   try (refine hcut.go ?_;conv=>whnf)
   have hsd:=znl (key:=ck) (l:=A)
   have hsn:=yqo (key:=ck) A x
   obtain ⟨S,hSe⟩:∃ S,S=srt ck A:=⟨_,rfl⟩
   rw [<- hSe] at hS hsd hsn
   refine ⟨{ y:List Piece × List Piece // S=y.1++y.2 /\ ∀ z ∈ y.2,ck x < ck z },fun | ⟨(S1,S2),_⟩=>hsP [1000] 53 [(0,.own 1000),(1,i64 a),(2,i64 b),(3,.clo g []),(8,i64 (P.length+A.length:Nat)),(9,i64 (P.length+S1.length:Nat))] (H1 (P++S1++x :: (S2++B++Q))),fun y=>y.1.1.length,⟨(S,[]),by simp,by simp⟩,?_,?_⟩
   . exact (hle_Y [(1000,some 1000)] (by repeat' (first | exact z0 | refine z1 ?_ | refine ⟨?_,?_⟩ | ((exact zaw om)) | ((exact zan (by simp [hSe]))) | exact z2)))
   rintro ⟨⟨S1,S2⟩,g1,g2⟩
   dsimp only at g1 g2
   have hSl:S.length=S1.length+S2.length:=by rw [g1];simp
   have fin:∀ (hle:∀ z ∈ S1,ck z <= ck x),srt ck (A++[x])=S1++x :: S2:=fun hle=>by rw [hsn,g1];exact zyq hle g2
   conv=>whnf
   rcases zeg S1 with rfl | ⟨S1,y,rfl⟩
   . refine zab (by simp;omega) ?_;conv=>whnf
     refine sD ?_
     refine sF ?_
     exact ⟨⟨(A++[x],B),by rw [h];simp,by simp⟩,(hle_Y [(1000,some 1000)] (by repeat' (first | exact z0 | refine z1 ?_ | refine ⟨?_,?_⟩ | ((exact zaw om)) | ((exact zan (by rw [fin (by simp)];simp))) | exact z2))),by simp⟩
   . have e1:P++(S1++[y])++x :: (S2++B++Q)=(P++S1)++y :: ([]++x :: (S2++B++Q)):=by simp
     have e2:P++(S1++[y])++x :: (S2++B++Q)=(P++S1++[y])++x :: (S2++B++Q):=by simp
     simp only [List.length_append,List.length_cons,List.length_nil] at hSl
     refine zac (by simp;omega) ?_;conv=>whnf
     refine sO ?_
     refine zah e2 (by simp;omega) ?_;conv=>whnf
     refine sF ?_
     refine sO ?_
     refine zah e1 (by simp;omega) ?_;conv=>whnf
     (refine cZ ?_;refine dL (hg x y) ?_)
     refine sD ?_
     by_cases c:cmp x y < 0
     . refine sT ?_
       refine sF ?_
       refine sF ?_
       refine sO ?_
       refine zah e1 (by simp;omega) ?_;conv=>whnf
       refine sO ?_
       refine zah e2 (by simp;omega) ?_;conv=>whnf
       refine sO ?_
       refine zah e2 (by simp;omega) ?_;conv=>whnf
       refine sO ?_
       refine zgk e1 (by simp;omega) (by simp;omega) ?_;conv=>whnf
       refine sD ?_
       refine sF ?_
       refine ⟨⟨(S1,y :: S2),by rw [g1];simp,fun z hz=>?_⟩,(hle_Y [(1000,some 1000)] (by repeat' (first | exact z0 | refine z1 ?_ | refine ⟨?_,?_⟩ | ((exact zaw om)) | ((refine zys e1 (by simp) ?_ ?_ rfl rfl <;> (simp;try omega))) | exact z2))),by simp⟩
       rcases List.mem_cons.1 hz with rfl | hz
       . exact zio.1 c
       . exact g2 z hz
     . have hle:∀ z ∈ S1++[y],ck z <= ck x:=fun z hz=>by
        have h1:¬ ck x < ck y:=fun h=>c (zio.2 h)
        rw [g1] at hsd
        have h2:=(zyr.1 (zyr.1 hsd).1).2.2
        rcases List.mem_append.1 hz with hz | hz
        . have:=h2 z hz y (by simp);omega
        . rw [List.mem_singleton.1 hz];omega
       refine sN ?_
       refine sF ?_
       exact ⟨⟨(A++[x],B),by rw [h];simp,by simp⟩,(hle_Y [(1000,some 1000)] (by repeat' (first | exact z0 | refine z1 ?_ | refine ⟨?_,?_⟩ | ((exact zaw om)) | ((exact zan (by rw [fin hle];simp))) | exact z2))),by simp⟩
theorem zvd {α:Type} {f:α -> List PV} {l A V B:List α} {z:Int} {K:List PV -> Prop} (k:Nat) (h:l=A++V++B) (hk:k < V.length) (hz:z=A.length+k) (hK:K (f V[k])):hrow (l.map f) z K:=by
 subst h
 refine ⟨_,by omega,?_,hK⟩
 have:z.toNat=A.length+k:=by omega
 rw [this,List.getElem?_map,List.append_assoc,List.getElem?_append_right (by omega),List.getElem?_append_left (by omega)]
 simp [hk]
theorem parted (p:Piece -> Prop) [DecidablePred p]:∀ {V:List Piece},(∀ i j (hj:j < V.length) (hij:i <= j),p V[j] -> p (V[i]'(by omega))) -> ∃ V1 V2,V=V1++V2 /\ (∀ z ∈ V1,p z) /\ ∀ z ∈ V2,¬ p z
 | [],_=>⟨[],[],rfl,by simp,by simp⟩
 | y :: V,h=>by
  by_cases c:p y
  . obtain ⟨V1,V2,e,h1,h2⟩:=parted p (V:=V) fun i j hj hij hp=>by
     have:=h (i+1) (j+1) (by simpa using hj) (by omega) (by simpa using hp)
     simpa using this
    exact ⟨y :: V1,V2,by rw [e];rfl,fun z hz=>by rcases List.mem_cons.1 hz with rfl | hz;exact c;exact h1 z hz,h2⟩
  . refine ⟨[],y :: V,rfl,by simp,fun z hz hp=>?_⟩
    obtain ⟨j,hj,rfl⟩:=List.getElem_of_mem hz
    exact c (h 0 j hj (Nat.zero_le _) hp)
theorem mem_left {V V1 V2:List Piece} (h:V=V1++V2) {k:Nat} (hk:k < V.length) (h1:k < V1.length):V[k] ∈ V1:=by
 subst h;rw [List.getElem_append_left h1];exact List.getElem_mem h1
theorem zyt {V V1 V2:List Piece} (h:V=V1++V2) {k:Nat} (hk:k < V.length) (h1:¬ k < V1.length):V[k] ∈ V2:=by
 subst h;rw [List.getElem_append_right (by omega)];exact List.getElem_mem _
end Srt
namespace Srt
theorem yih {g:FuncId} (hg:CmpOK g) (P U V Q L L':List Piece) (hL:L=P++U++V++Q) (hL':L'=P++mrg ck U V++Q) (hU:U ≠ []) (hV:V ≠ []) (sU:Sd ck U) (sV:Sd ck V) (hb:L.length < 2 ^ 40) (a m b:Int) (ha:a=P.length) (hm:m=(P++U).length) (hb':b=(P++U++V).length) (c1:U.length=1) :
 FunOK Tryz.prog 218 [.own 1000,i64 a,i64 m,i64 b,.clo g []] (lk .free (H1 L)) (.tup []) (lk .free (H1 L')):=by
 have hU0:=List.length_pos_iff.2 hU
 have hV0:=List.length_pos_iff.2 hV
 rw [hL] at hb
 simp only [List.length_append] at hb hm hb'
 refine zal mixed Tryz.func218 (by decide) [1000] zba ?_
 conv=>whnf
 refine sF ?_
 refine sT ?_
 obtain ⟨x,rfl⟩:∃ x,U=[x]:=List.length_eq_one_iff.1 c1
 obtain ⟨V1,V2,hVV,h1,h2⟩:=parted (fun z=>ck z < ck x) (V:=V) fun i j hj hij hp=>by
  have:=zsq sV hj hij;omega
 have hmrg:mrg ck [x] V=V1++x :: V2:=by rw [hVV];exact yqn h1 fun z hz=>by have:=h2 z hz;omega
 have hVl:V.length=V1.length+V2.length:=by rw [hVV];simp
 rw [List.length_singleton] at hb hm hb'
 refine ⟨{ x:Nat × Nat // x.1 <= V1.length /\ V1.length <= x.2 /\ x.2 <= V.length },fun | ⟨(i,j),_⟩=>hsP [1000] 220 [(0,.own 1000),(1,i64 a),(2,i64 m),(3,i64 b),(4,.clo g []),(10,i64 (P.length+1+i:Nat)),(11,i64 (P.length+1+j:Nat))] (H1 L),fun x=>x.1.2 - x.1.1,⟨(0,V.length),by omega,by omega,Nat.le_refl _⟩,?_,?_⟩
 . exact (hle_Y [(1000,some 1000)] (by repeat' (first | exact z0 | refine z1 ?_ | refine ⟨?_,?_⟩ | ((exact zaw om)) | exact z2)))
 rintro ⟨⟨i,j⟩,g1,g2,g3⟩
 dsimp only at g1 g2 g3
 conv=>whnf
 by_cases c:i < j
 . have hlt:(i+j) / 2 < V.length:=by omega
   refine sT ?_
   refine sF ?_
   refine zbc (zpw (by omega) (by omega)) ?_;conv=>whnf
   refine zaa (by decide) ?_;conv=>whnf
   refine zbc (z':=((P.length+1+(i+j) / 2:Nat):Int)) ?_ ?_
   . show W ((((P.length+1+i:Nat):Int)+((P.length+1+j:Nat):Int)) / 2)=_
     rw [W_fit (by omega) (by omega)];omega
   conv=>whnf
   refine zaa (by rw [hL];simp;omega) ?_;conv=>whnf
   refine zvd ((i+j) / 2) (show L=(P++[x])++V++Q from hL) hlt om ?_;conv=>whnf
   refine zaa (by rw [hL];simp;omega) ?_;conv=>whnf
   refine zah (show L=P++x :: (V++Q) by rw [hL];simp) (by simp;omega) ?_;conv=>whnf
   (refine cZ ?_;refine dL (hg _ x) ?_)
   refine sD ?_
   by_cases c2:(i+j) / 2 < V1.length
   . have hk:=h1 _ (mem_left hVV hlt c2)
     refine zac (decide_eq_true (zio.2 hk)) ?_;conv=>whnf
     exact yy95
   . have hk:=h2 _ (zyt hVV hlt c2)
     refine zab (decide_eq_false fun h=>hk (zio.1 h)) ?_;conv=>whnf
     exact yy122
 . obtain rfl:i=V1.length:=by omega
   refine sN ?_
   refine ⟨{ y:List Piece × List Piece // V1=y.1++y.2 },fun | ⟨(W1,W2),_⟩=>hsP [1000] 220 [(0,.own 1000),(10,i64 (P.length+1+V1.length:Nat)),(13,i64 (P.length+W1.length:Nat))] (H1 (P++W1++x :: (W2++V2++Q))),fun y=>y.1.2.length,⟨([],V1),rfl⟩,?_,?_⟩
   . exact (hle_Y [(1000,some 1000)] (by repeat' (first | exact z0 | refine z1 ?_ | refine ⟨?_,?_⟩ | ((exact zaw om)) | ((exact zan (by rw [hL,hVV];simp))) | exact z2)))
   rintro ⟨⟨W1,W2⟩,gw⟩
   dsimp only at gw
   have hW:V1.length=W1.length+W2.length:=by rw [gw];simp
   conv=>whnf
   refine sF ?_
   cases W2 with
   | nil =>
    rw [List.length_nil] at hW
    exact yy119
   | cons y W2 =>
    rw [List.length_cons] at hW
    have e1:P++W1++x :: (y :: W2++V2++Q)=(P++W1)++x :: ([]++y :: (W2++V2++Q)):=by simp
    have e2:P++W1++x :: (y :: W2++V2++Q)=(P++W1++[x])++y :: (W2++V2++Q):=by simp
    refine sT ?_
    refine sF ?_
    refine sF ?_
    refine sO ?_
    refine zah e2 om ?_;conv=>whnf
    refine sO ?_
    refine zah e1 om ?_;conv=>whnf
    refine sO ?_
    refine zah e1 om ?_;conv=>whnf
    refine sO ?_
    refine zgk e2 om om ?_;conv=>whnf
    refine sD ?_
    refine sF ?_
    exact ⟨⟨(W1++[y],W2),by rw [gw];simp⟩,(hle_Y [(1000,some 1000)] (by repeat' (first | exact z0 | refine z1 ?_ | refine ⟨?_,?_⟩ | ((exact zaw om)) | ((refine zvc e1 (by simp) ?_ ?_ rfl rfl <;> (simp;try omega))) | exact z2))),by simp⟩
end Srt
namespace Srt
theorem yii {g:FuncId} (hg:CmpOK g) (P U V Q L L':List Piece) (hL:L=P++U++V++Q) (hL':L'=P++mrg ck U V++Q) (hU:U ≠ []) (hV:V ≠ []) (sU:Sd ck U) (sV:Sd ck V) (hb:L.length < 2 ^ 40) (a m b:Int) (ha:a=P.length) (hm:m=(P++U).length) (hb':b=(P++U++V).length) (c1:¬ U.length=1) (c2:V.length=1) :
 FunOK Tryz.prog 218 [.own 1000,i64 a,i64 m,i64 b,.clo g []] (lk .free (H1 L)) (.tup []) (lk .free (H1 L')):=by
 have hU0:=List.length_pos_iff.2 hU
 have hV0:=List.length_pos_iff.2 hV
 rw [hL] at hb
 simp only [List.length_append] at hb hm hb'
 refine zal mixed Tryz.func218 (by decide) [1000] zba ?_
 conv=>whnf
 refine sF ?_
 refine sN ?_
 refine sF ?_
 refine sT ?_
 obtain ⟨y,rfl⟩:∃ y,V=[y]:=List.length_eq_one_iff.1 c2
 obtain ⟨U1,U2,hUU,h1,h2⟩:=parted (fun z=>ck z <= ck y) (V:=U) fun i j hj hij hp=>by
  have:=zsq sU hj hij;omega
 have hmrg:mrg ck U [y]=U1++y :: U2:=by rw [hUU];exact zyq h1 fun z hz=>by have:=h2 z hz;omega
 have hUl:U.length=U1.length+U2.length:=by rw [hUU];simp
 rw [List.length_singleton] at hb hb'
 refine ⟨{ x:Nat × Nat // x.1 <= U1.length /\ U1.length <= x.2 /\ x.2 <= U.length },fun | ⟨(i,j),_⟩=>hsP [1000] 220 [(0,.own 1000),(1,i64 a),(2,i64 m),(3,i64 b),(4,.clo g []),(14,i64 (P.length+i:Nat)),(15,i64 (P.length+j:Nat))] (H1 L),fun x=>x.1.2 - x.1.1,⟨(0,U.length),by omega,by omega,Nat.le_refl _⟩,?_,?_⟩
 . exact (hle_Y [(1000,some 1000)] (by repeat' (first | exact z0 | refine z1 ?_ | refine ⟨?_,?_⟩ | ((exact zaw om)) | exact z2)))
 rintro ⟨⟨i,j⟩,g1,g2,g3⟩
 dsimp only at g1 g2 g3
 conv=>whnf
 by_cases c:i < j
 . have hlt:(i+j) / 2 < U.length:=by omega
   refine sT ?_
   refine sF ?_
   refine zbc (zpw (by omega) (by omega)) ?_;conv=>whnf
   refine zaa (by decide) ?_;conv=>whnf
   refine zbc (z':=((P.length+(i+j) / 2:Nat):Int)) ?_ ?_
   . show W ((((P.length+i:Nat):Int)+((P.length+j:Nat):Int)) / 2)=_
     rw [W_fit (by omega) (by omega)];omega
   conv=>whnf
   refine zaa (by rw [hL];simp;omega) ?_;conv=>whnf
   refine zah (show L=(P++U)++y :: Q by rw [hL];simp) om ?_;conv=>whnf
   refine zaa (by rw [hL];simp;omega) ?_;conv=>whnf
   refine zvd ((i+j) / 2) (show L=P++U++([y]++Q) by rw [hL];simp) hlt om ?_;conv=>whnf
   (refine cZ ?_;refine dL (hg y _) ?_)
   refine sD ?_
   by_cases c2:(i+j) / 2 < U1.length
   . have hk:=h1 _ (mem_left hUU hlt c2)
     have hc:decide (cmp y U[(i+j) / 2] < 0)=false:=decide_eq_false fun h=>by have:=zio.1 h;omega
     refine zac (by rw [hc];rfl) ?_;conv=>whnf
     exact yy95
   . have hk:=h2 _ (zyt hUU hlt c2)
     have hc:decide (cmp y U[(i+j) / 2] < 0)=true:=decide_eq_true (zio.2 (by omega))
     refine zab (by rw [hc];rfl) ?_;conv=>whnf
     exact yy122
 . obtain rfl:i=U1.length:=by omega
   refine sN ?_
   refine ⟨{ z:List Piece × List Piece // U2=z.1++z.2 },fun | ⟨(W1,W2),_⟩=>hsP [1000] 220 [(0,.own 1000),(14,i64 (P.length+U1.length:Nat)),(17,i64 (P.length+U1.length+W1.length:Nat))] (H1 (P++U1++W1++y :: (W2++Q))),fun z=>z.1.1.length,⟨(U2,[]),by simp⟩,?_,?_⟩
   . exact (hle_Y [(1000,some 1000)] (by repeat' (first | exact z0 | refine z1 ?_ | refine ⟨?_,?_⟩ | ((exact zaw om)) | ((exact zan (by rw [hL,hUU];simp))) | exact z2)))
   rintro ⟨⟨W1,W2⟩,gw⟩
   dsimp only at gw
   have hW:U2.length=W1.length+W2.length:=by rw [gw];simp
   conv=>whnf
   rcases zeg W1 with rfl | ⟨W1,z,rfl⟩
   . rw [List.length_nil] at hW
     exact yy119
   . simp only [List.length_append,List.length_cons,List.length_nil] at hW
     have e1:P++U1++(W1++[z])++y :: (W2++Q)=(P++U1++W1)++z :: ([]++y :: (W2++Q)):=by simp
     have e2:P++U1++(W1++[z])++y :: (W2++Q)=(P++U1++W1++[z])++y :: (W2++Q):=by simp
     refine zac (by simp;omega) ?_;conv=>whnf
     try (refine hcut.go ?_;conv=>whnf)
     refine sF ?_
     refine sF ?_
     refine sO ?_
     refine zah e1 (by simp;omega) ?_;conv=>whnf
     refine sO ?_
     refine zah e2 (by simp;omega) ?_;conv=>whnf
     refine sO ?_
     refine zah e2 (by simp;omega) ?_;conv=>whnf
     refine sO ?_
     refine zgk e1 (by simp;omega) (by simp;omega) ?_;conv=>whnf
     refine sD ?_
     refine sF ?_
     exact ⟨⟨(W1,z :: W2),by rw [gw];simp⟩,(hle_Y [(1000,some 1000)] (by repeat' (first | exact z0 | refine z1 ?_ | refine ⟨?_,?_⟩ | ((exact zaw om)) | ((refine zys e1 (by simp) ?_ ?_ rfl rfl <;> (simp;try omega))) | exact z2))),by simp⟩
end Srt
namespace Srt
structure Part (U V:List Piece) (h s:Nat):Prop where
 hs:s <= h
 hv:h - s <= V.length
 hu:s <= U.length
 lo:∀ x ∈ U.take s,∀ z ∈ V.drop (h - s),ck x <= ck z
 hi:∀ z ∈ V.take (h - s),∀ x ∈ U.drop s,ck z < ck x
theorem znm {α:Type} {l:List α} {n:Nat} {x:α} (h:x ∈ l.take n):∃ i,∃ hi:i < l.length,i < n /\ x=l[i]:=by
 obtain ⟨i,hi,rfl⟩:=List.getElem_of_mem h
 rw [List.length_take] at hi
 exact ⟨i,by omega,by omega,by simp⟩
theorem znn {α:Type} {l:List α} {n:Nat} {x:α} (h:x ∈ l.drop n):∃ i,∃ hi:i < l.length,n <= i /\ x=l[i]:=by
 obtain ⟨i,hi,rfl⟩:=List.getElem_of_mem h
 rw [List.length_drop] at hi
 exact ⟨n+i,by omega,by omega,by simp⟩
def LoB (U V:List Piece) (h s:Nat):Prop:=∃ i j,∃ (h1:i < U.length) (h2:j < V.length),i+1=s /\ j+s=h /\ ck U[i] <= ck V[j]
def HiB (U V:List Piece) (h s:Nat):Prop:=∃ i j,∃ (h1:i < U.length) (h2:j < V.length),i=s /\ j+1+s=h /\ ck V[j] < ck U[i]
theorem ytw {U V:List Piece} {h s s0 r0:Nat} (sU:Sd ck U) (sV:Sd ck V) (h0:s0 <= s) (h1:s <= r0) (hr:r0 <= h) (hru:r0 <= U.length) (hv:h - s0 <= V.length)
 (e0:s0=0 \/ h - s0=V.length) (e1:r0=h \/ r0=U.length) (p0:s=s0 \/ LoB U V h s)
 (p1:s=r0 \/ HiB U V h s):Part U V h s:=by
 refine ⟨by omega,by omega,by omega,fun x hx z hz=>?_,fun z hz x hx=>?_⟩
 . obtain ⟨i,hi,hi2,rfl⟩:=znm hx
   obtain ⟨j,hj,hj2,rfl⟩:=znn hz
   rcases p0 with p0 | ⟨i',j',k1,k2,k3,k4,k5⟩
   . rcases e0 with e0 | e0 <;> omega
   . have a1:=zsq sU (i:=i) k1 (by omega)
     have a2:=zsq sV (i:=j') hj (by omega)
     omega
 . obtain ⟨j,hj,hj2,rfl⟩:=znm hz
   obtain ⟨i,hi,hi2,rfl⟩:=znn hx
   rcases p1 with p1 | ⟨i',j',k1,k2,k3,k4,k5⟩
   . rcases e1 with e1 | e1 <;> omega
   . have a1:=zsq sU (i:=i') hi (by omega)
     have a2:=zsq sV (i:=j) k2 (by omega)
     omega
theorem Part.merge {U V:List Piece} {h s:Nat} (p:Part U V h s):mrg ck U V=mrg ck (U.take s) (V.take (h - s))++mrg ck (U.drop s) (V.drop (h - s)):=by
 have:=zin (key:=ck) (u2:=U.drop s) (v2:=V.drop (h - s)) (U.take s) (V.take (h - s)) p.lo p.hi
 rwa [List.take_append_drop,List.take_append_drop] at this
theorem ylt {l:List Piece} (h:Sd ck l) (n:Nat):Sd ck (l.take n):=by
 rw [<- List.take_append_drop n l] at h;exact (zyr.1 h).1
theorem ylu {l:List Piece} (h:Sd ck l) (n:Nat):Sd ck (l.drop n):=by
 rw [<- List.take_append_drop n l] at h;exact (zyr.1 h).2.1
theorem zrs {g:FuncId} {L L':List Piece} (P Q U V:List Piece) (h1:L=P++U++V++Q) (h2:L'=P++V++U++Q) (hU:U ≠ []) (hV:V ≠ []) (hb:L.length < 2 ^ 40) (a m b:Int) (ha:a=P.length) (hm:m=(P++U).length) (hb':b=(P++U++V).length) :
 FunOK Tryz.prog 219 [.own 1000,i64 a,i64 m,i64 b,.clo g []] (lk .free (H1 L)) (.tup []) (lk .free (H1 L')):=by
 subst h1 h2;exact ycg P Q U V hU hV hb a m b ha hm hb'
theorem yfl {U V:List Piece} (h:U=[] \/ V=[]):mrg ck U V=U++V:=by
 rcases h with rfl | rfl
 . rw [mrg];rfl
 . rw [zkj];simp
theorem ych (U V:List Piece):(mrg ck U V).length=U.length+V.length:=by
 fun_induction mrg ck U V <;> simp_all <;> omega
theorem zve {g:FuncId} (hg:CmpOK g):∀ (n:Nat) (P U V Q L L':List Piece) (_:L=P++U++V++Q) (_:L'=P++mrg ck U V++Q) (_:U.length+V.length <= n) (_:U ≠ []) (_:V ≠ []) (_:Sd ck U) (_:Sd ck V) (_:L.length < 2 ^ 40) (a m b:Int) (_:a=P.length) (_:m=(P++U).length) (_:b=(P++U++V).length),
 FunOK Tryz.prog 218 [.own 1000,i64 a,i64 m,i64 b,.clo g []] (lk .free (H1 L)) (.tup []) (lk .free (H1 L'))
 | 0,P,U,V,Q,L,L',hL,hL',hn,hU,hV,sU,sV,hb,a,m,b,ha,hm,hb'=>by
  have:=List.length_pos_iff.2 hU;omega
 | n+1,P,U,V,Q,L,L',hL,hL',hn,hU,hV,sU,sV,hb,a,m,b,ha,hm,hb'=>by
  by_cases c1:U.length=1
  . exact yih hg P U V Q L L' hL hL' hU hV sU sV hb a m b ha hm hb' c1
  by_cases c2:V.length=1
  . exact yii hg P U V Q L L' hL hL' hU hV sU sV hb a m b ha hm hb' c1 c2
  have ih:=zve hg n
  have hU0:=List.length_pos_iff.2 hU
  have hV0:=List.length_pos_iff.2 hV
  have hLl:L.length=P.length+U.length+V.length+Q.length:=by rw [hL];simp;omega
  rw [hLl] at hb
  simp only [List.length_append] at hm hb'
  obtain ⟨h,hh⟩:∃ h,h=(U.length+V.length) / 2:=⟨_,rfl⟩
  refine zal mixed Tryz.func218 (by decide) [1000] zba ?_
  conv=>whnf
  refine sF ?_
  refine sN ?_
  refine sF ?_
  refine sN ?_
  refine sF ?_
  refine zbc (zpw (by omega) (by omega)) ?_;conv=>whnf
  refine zaa (by decide) ?_;conv=>whnf
  refine zbc (z':=((P.length+h:Nat):Int)) ?_ ?_
  . show W ((a+b) / 2)=_
    rw [W_fit (by omega) (by omega)];omega
  conv=>whnf
  refine sFm ?_
  refine hcut.meet { x:Nat × Nat // x.1 <= x.2 /\ x.2 <= h /\ x.2 <= U.length /\ h - x.1 <= V.length /\ (x.1=0 \/ h - x.1=V.length) /\ (x.2=h \/ x.2=U.length) } (fun | ⟨(s,r),_⟩=>hsP [1000] 220 [(0,.own 1000),(1,i64 a),(2,i64 m),(3,i64 b),(4,.clo g []),(18,i64 (P.length+h:Nat)),(19,i64 (2 * P.length+h+U.length:Nat)),(20,i64 (P.length+s:Nat)),(21,i64 (P.length+r:Nat))] (H1 L)) ?_ ?_
  . by_cases c3:U.length > h
    . refine zac (by simp;omega) ?_;conv=>whnf
      refine sFm ?_
      exact ⟨⟨(h - V.length,h),by dsimp only;omega⟩,(hle_Y [(1000,some 1000)] (by repeat' (first | exact z0 | refine z1 ?_ | refine ⟨?_,?_⟩ | ((exact zaw om)) | exact z2)))⟩
    . refine zab (by simp;omega) ?_;conv=>whnf
      exact ⟨⟨(0,U.length),by dsimp only;omega⟩,(hle_Y [(1000,some 1000)] (by repeat' (first | exact z0 | refine z1 ?_ | refine ⟨?_,?_⟩ | ((exact zaw om)) | exact z2)))⟩
  rintro ⟨⟨s0,r0⟩,k1,k2,k3,k4,k5,k6⟩
  dsimp only at k1 k2 k3 k4 k5 k6
  conv=>whnf
  refine sF ?_
  refine ⟨{ x:Nat × Nat // s0 <= x.1 /\ x.1 <= x.2 /\ x.2 <= r0 /\ (x.1=s0 \/ LoB U V h x.1) /\ (x.2=r0 \/ HiB U V h x.2) },
   fun | ⟨(s,r),_⟩=>hsP [1000] 220 [(0,.own 1000),(1,i64 a),(2,i64 m),(3,i64 b),(4,.clo g []),(18,i64 (P.length+h:Nat)),(19,i64 (2 * P.length+h+U.length:Nat)),(20,i64 (P.length+s:Nat)),(21,i64 (P.length+r:Nat)),(22,i64 ((2 * P.length+h+U.length:Nat) - 1))] (H1 L),fun x=>x.1.2 - x.1.1,⟨(s0,r0),Nat.le_refl _,k1,Nat.le_refl _,.inl rfl,.inl rfl⟩,?_,?_⟩
  . exact (hle_P [(1000,some 1000)])
  rintro ⟨⟨s,r⟩,g1,g2,g3,g4,g5⟩
  dsimp only at g1 g2 g3 g4 g5
  conv=>whnf
  by_cases c:s < r
  . obtain ⟨k,hk⟩:∃ k,k=(s+r) / 2:=⟨_,rfl⟩
    obtain ⟨j,hj⟩:∃ j,j+1+k=h:=⟨h - 1 - k,by omega⟩
    have hkU:k < U.length:=by omega
    have hjV:j < V.length:=by omega
    refine sT ?_
    refine sF ?_
    refine zbc (zpw (by omega) (by omega)) ?_;conv=>whnf
    refine zaa (by decide) ?_;conv=>whnf
    refine zbc (z':=((P.length+k:Nat):Int)) ?_ ?_
    . show W ((((P.length+s:Nat):Int)+((P.length+r:Nat):Int)) / 2)=_
      rw [W_fit (by omega) (by omega)];omega
    conv=>whnf
    refine sF ?_
    refine zaa (by rw [hL];simp;omega) ?_;conv=>whnf
    refine zvd j (show L=(P++U)++V++Q from hL) hjV (by simp;omega) ?_;conv=>whnf
    refine zaa (by rw [hL];simp;omega) ?_;conv=>whnf
    refine zvd k (show L=P++U++(V++Q) by rw [hL];simp) hkU (by omega) ?_;conv=>whnf
    (refine cZ ?_;refine dL (hg V[j] U[k]) ?_)
    refine sD ?_
    by_cases c3:ck V[j] < ck U[k]
    . have hc:decide (cmp V[j] U[k] < 0)=true:=decide_eq_true (zio.2 c3)
      refine zab (by rw [hc];rfl) ?_;conv=>whnf
      try (refine hcut.go ?_;conv=>whnf)
      exact ⟨⟨(s,k),g1,by dsimp only;omega,by dsimp only;omega,g4,.inr ⟨k,j,hkU,hjV,rfl,hj,c3⟩⟩,(hle_P [(1000,some 1000)]),by dsimp only;omega⟩
    . have hc:decide (cmp V[j] U[k] < 0)=false:=decide_eq_false fun h=>c3 (zio.1 h)
      refine zac (by rw [hc];rfl) ?_;conv=>whnf
      try (refine hcut.go ?_;conv=>whnf)
      refine sF ?_
      exact ⟨⟨(k+1,r),by dsimp only;omega,by dsimp only;omega,g3,.inr ⟨k,j,hkU,hjV,rfl,by dsimp only;omega,by omega⟩,g5⟩,(hle_Y [(1000,some 1000)] (by repeat' (first | exact z0 | refine z1 ?_ | refine ⟨?_,?_⟩ | ((exact zaw om)) | exact z2))),by dsimp only;omega⟩
  . obtain rfl:s=r:=by omega
    have hp:=ytw sU sV g1 g3 k2 k3 k4 k5 k6 g4 g5
    have hmg:=hp.merge
    obtain ⟨q1,q2,q3,-,-⟩:=hp
    have sU1:=ylt sU s
    have sU2:=ylu sU s
    have sV1:=ylt sV (h - s)
    have sV2:=ylu sV (h - s)
    have lU1:(U.take s).length=s:=by simp;omega
    have lU2:(U.drop s).length=U.length - s:=by simp
    have lV1:(V.take (h - s)).length=h - s:=by simp;omega
    have lV2:(V.drop (h - s)).length=V.length - (h - s):=by simp
    have eU:U=U.take s++U.drop s:=by simp
    have eV:V=V.take (h - s)++V.drop (h - s):=by simp
    generalize U.take s=U1 at *
    generalize U.drop s=U2 at *
    generalize V.take (h - s)=V1 at *
    generalize V.drop (h - s)=V2 at *
    refine sN ?_
    refine sFm ?_
    have hlL:∀ A:List Piece,A.length=U.length+V.length -> (P++A++Q).length < 2 ^ 40:=fun A hA=>by simp;omega
    refine hcut.meet Unit (fun _=>hsP [1000] 220 [(0,.own 1000),(1,i64 a),(3,i64 b),(4,.clo g []),(18,i64 (P.length+h:Nat)),(20,i64 (P.length+s:Nat)),(24,i64 (P.length+U.length+(h - s):Nat))] (H1 (P++U1++V1++U2++V2++Q))) ?_ fun _=>?_
    . by_cases d1:s < U.length
      . refine sTm ?_
        by_cases d2:0 < h - s
        . refine zac (by simp;omega) ?_;conv=>whnf
          (refine zae [] [(1000,1000)] [] ?_;(conv=>whnf);refine dGm (zrs (L:=L) (L':=P++U1++V1++U2++V2++Q) (P++U1) (V2++Q) U2 V1 (by rw [hL,eU,eV];simp) (by simp) (List.length_pos_iff.1 (by omega)) (List.length_pos_iff.1 (by omega)) (by omega) _ _ _ (by simp;omega) (by simp;omega) (by simp;omega)) ?_ ⟨rfl,rfl,rfl,⟨⟨rfl,_,rfl,.inl ⟨rfl,rfl⟩⟩,trivial⟩,trivial,rfl,rfl,rfl⟩)
          exact ⟨(),(hle_Y [(1000,some 1000)] (by repeat' (first | exact z0 | refine z1 ?_ | refine ⟨?_,?_⟩ | ((exact zaw om)) | exact z2)))⟩
        . have:V1=[]:=List.eq_nil_of_length_eq_zero (by omega)
          refine zab (by simp;omega) ?_;conv=>whnf
          exact yy109
      . have:U2=[]:=List.eq_nil_of_length_eq_zero (by omega)
        refine sNm ?_
        exact yy109
    conv=>whnf
    refine hcut.meet Unit (fun _=>hsP [1000] 220 [(0,.own 1000),(3,i64 b),(4,.clo g []),(18,i64 (P.length+h:Nat)),(24,i64 (P.length+U.length+(h - s):Nat))] (H1 (P++mrg ck U1 V1++U2++V2++Q))) ?_ fun _=>?_
    . by_cases d1:0 < s
      . refine sTm ?_
        by_cases d2:s < h
        . refine zac (by simp;omega) ?_;conv=>whnf
          (refine zae [] [(1000,1000)] [] ?_;(conv=>whnf);refine dGm (ih P U1 V1 (U2++V2++Q) (P++U1++V1++U2++V2++Q) (P++mrg ck U1 V1++U2++V2++Q) (by simp) (by simp) (by omega) (List.length_pos_iff.1 (by omega)) (List.length_pos_iff.1 (by omega)) sU1 sV1 (by simp;omega) _ _ _ (by omega) (by simp;omega) (by simp;omega)) ?_ ⟨rfl,rfl,rfl,⟨⟨rfl,_,rfl,.inl ⟨rfl,rfl⟩⟩,trivial⟩,trivial,rfl,rfl,rfl⟩)
          exact ⟨(),(hle_P [(1000,some 1000)])⟩
        . have:V1=[]:=List.eq_nil_of_length_eq_zero (by omega)
          refine zab (by simp;omega) ?_;conv=>whnf
          exact ⟨(),(hle_Y [(1000,some 1000)] (by repeat' (first | exact z0 | refine z1 ?_ | refine ⟨?_,?_⟩ | ((exact zan (by rw [yfl (.inr this)];simp))) | exact z2)))⟩
      . have:U1=[]:=List.eq_nil_of_length_eq_zero (by omega)
        refine sNm ?_
        exact ⟨(),(hle_Y [(1000,some 1000)] (by repeat' (first | exact z0 | refine z1 ?_ | refine ⟨?_,?_⟩ | ((exact zan (by rw [yfl (.inl this)];simp))) | exact z2)))⟩
    conv=>whnf
    have hm1:=ych U1 V1
    have hout:L'=P++mrg ck U1 V1++mrg ck U2 V2++Q:=by rw [hL',hmg];simp
    by_cases d1:s < U.length
    . refine sT ?_
      by_cases d2:h - s < V.length
      . refine zac (by simp;omega) ?_;conv=>whnf
        (refine zae [] [(1000,1000)] [] ?_;(conv=>whnf);refine dG (ih (P++mrg ck U1 V1) U2 V2 Q (P++mrg ck U1 V1++U2++V2++Q) L' (by simp) hout (by omega) (List.length_pos_iff.1 (by omega)) (List.length_pos_iff.1 (by omega)) sU2 sV2 (by simp;omega) _ _ _ (by simp;omega) (by simp;omega) (by simp;omega)) ?_ ⟨rfl,rfl,rfl,⟨⟨rfl,_,rfl,.inl ⟨rfl,rfl⟩⟩,trivial⟩,trivial,rfl,rfl,rfl⟩)
        exact yy72
      . have:V2=[]:=List.eq_nil_of_length_eq_zero (by omega)
        refine zab (by simp;omega) ?_;conv=>whnf
        refine zak [(1000,some 1000)] rfl rfl ⟨rfl,trivial⟩ rfl rfl ⟨⟨rfl,.inl ⟨1000,rfl,?_⟩⟩,trivial⟩
        exact zan (by rw [hout,yfl (.inr this)];simp)
    . have:U2=[]:=List.eq_nil_of_length_eq_zero (by omega)
      refine sN ?_
      refine zak [(1000,some 1000)] rfl rfl ⟨rfl,trivial⟩ rfl rfl ⟨⟨rfl,.inl ⟨1000,rfl,?_⟩⟩,trivial⟩
      exact zan (by rw [hout,yfl (.inl this)];simp)
end Srt
namespace Srt
def BS (s:Nat) (l:List Piece):Prop:=∀ k,Sd ck ((l.drop (k * s)).take s)
theorem ysi (s:Nat):BS s []:=fun k=>by simp [Sd]
theorem zpy {s k:Nat} {l blk:List Piece} (h:BS s l) (hl:l.length=k * s) (hb:blk.length <= s) (hd:Sd ck blk):BS s (l++blk):=by
 intro j
 rcases Nat.lt_trichotomy j k with hj | rfl | hj
 . have:j * s+s <= l.length:=by rw [hl];have:=Nat.mul_le_mul_right s (show j+1 <= k by omega);rw [Nat.add_mul] at this;omega
   rw [List.drop_append_of_le_length (by omega),List.take_append_of_le_length (by simp;omega)]
   exact h j
 . rw [<- hl,List.drop_left,List.take_of_length_le hb];exact hd
 . have:l.length+blk.length <= j * s:=by rw [hl];have:=Nat.mul_le_mul_right s (show k+1 <= j by omega);rw [Nat.add_mul] at this;omega
   rw [List.drop_eq_nil_of_le (by simp;omega)];simp [Sd]
theorem ytx {s:Nat} {l:List Piece} (h:BS s l) (n:Nat):BS s (l.drop (n * s)):=fun k=>by
 have:=h (n+k);rwa [List.drop_drop,<- Nat.add_mul]
theorem ysj {s:Nat} {l:List Piece} (h:BS s l) (hl:l.length <= s):Sd ck l:=by
 have:=h 0;rwa [Nat.zero_mul,List.drop_zero,List.take_of_length_le hl] at this
theorem zle {A B B' C:List Piece} (h:srt ck B=srt ck B'):srt ck (A++B++C)=srt ck (A++B'++C):=by
 rw [<- zkk C (A++B),<- zkk C (A++B'),<- zkk B A,<- zkk B' A,h]
theorem yfm (l:List Piece):srt ck (srt ck l)=srt ck l:=zha znl
theorem ylv {U V:List Piece} (hU:Sd ck U) (hV:Sd ck V):srt ck (mrg ck U V)=srt ck (U++V):=by
 rw [zha (ylr U V hU hV),<- zkk,zha hU,zha hV]
theorem zlf {g:FuncId} (hg:CmpOK g) (P X Q L L':List Piece) (h1:L=P++X++Q) (h2:L'=P++srt ck X++Q) (hb:L.length < 2 ^ 40) (a b:Int) (ha:a=P.length) (hb':b=(P++X).length) :
 FunOK Tryz.prog 217 [.own 1000,i64 a,i64 b,.clo g []] (lk .free (H1 L)) (.tup []) (lk .free (H1 L')):=by
 subst h1 h2;exact yig hg P X Q hb a b ha hb'
theorem yci {g:FuncId} (hg:CmpOK g) (l:List Piece) (hb:l.length < 2 ^ 39) (n:Int) (hn:n=l.length) :
 FunOK Tryz.prog 213 [.own 1000,i64 n,.clo g []] (lk .free (H1 l)) (.tup []) (lk .free (H1 (srt ck l))):=by
 refine zal mixed Tryz.func213 (by decide) [1000] zba ?_
 conv=>whnf
 refine ⟨{ x:(List Piece × List Piece) × Nat // x.1.1.length=x.2 * 20 /\ x.1.1.length+x.1.2.length=l.length /\ BS 20 x.1.1 /\ srt ck (x.1.1++x.1.2)=srt ck l },fun | ⟨((D,R),k),_⟩=>hsP [1000] 63 [(0,.own 1000),(1,i64 n),(2,.clo g []),(6,i64 20),(7,i64 D.length),(8,i64 (D.length+20:Nat))] (H1 (D++R)),fun x=>x.1.1.2.length,⟨(([],l),0),by simp,by simp,ysi _,rfl⟩,?_,?_⟩
 . exact (hle_P [(1000,some 1000)])
 rintro ⟨⟨⟨D,R⟩,k⟩,h1,h2,h3,h4⟩
 dsimp only at h1 h2 h3 h4
 conv=>whnf
 by_cases c:20 <= R.length
 . obtain ⟨X,R,rfl,hX⟩:∃ X R',R=X++R' /\ X.length=20:=⟨R.take 20,R.drop 20,by simp,by simp;omega⟩
   simp only [List.length_append] at h2 c
   have hsX:=zgz (key:=ck) X
   refine sT ?_
   (refine zae [] [(1000,1000)] [] ?_;(conv=>whnf);refine dG (zlf hg D X R (D++(X++R)) (D++srt ck X++R) (by simp) rfl (by simp;omega) _ _ rfl (by simp;omega)) ?_ ⟨rfl,rfl,rfl,⟨⟨rfl,_,rfl,.inl ⟨rfl,rfl⟩⟩,trivial⟩,trivial,rfl,rfl,rfl⟩)
   refine sF ?_
   exact ⟨⟨((D++srt ck X,R),k+1),by simp;omega,by simp;omega,zpy h3 h1 (by omega) znl,by dsimp only;rw [zle (yfm X),List.append_assoc];exact h4⟩,(hle_Y [(1000,some 1000)] (by repeat' (first | exact z0 | refine z1 ?_ | refine ⟨?_,?_⟩ | ((exact zaw om)) | exact z2))),by simp;omega⟩
 . have hsR:=zgz (key:=ck) R
   refine sN ?_
   (refine zae [] [(1000,1000)] [] ?_;(conv=>whnf);refine dG (zlf hg D R [] (D++R) (D++srt ck R) (by simp) (by simp) (by simp;omega) _ _ rfl (by simp;omega)) ?_ ⟨rfl,rfl,rfl,⟨⟨rfl,_,rfl,.inl ⟨rfl,rfl⟩⟩,trivial⟩,trivial,rfl,rfl,rfl⟩)
   have hBS:BS 20 (D++srt ck R):=zpy h3 h1 (by omega) znl
   have hsr:srt ck (D++srt ck R)=srt ck l:=by
    have:=zle (A:=D) (C:=[]) (yfm R)
    rw [List.append_nil,List.append_nil] at this;rw [this];exact h4
   have hlen:(D++srt ck R).length=l.length:=by simp;omega
   obtain ⟨L,hL⟩:∃ L,L=D++srt ck R:=⟨_,rfl⟩
   rw [<- hL] at hBS hsr hlen
   refine ⟨{ x:List Piece × Nat // BS x.2 x.1 /\ srt ck x.1=srt ck l /\ x.1.length=l.length /\ 0 < x.2 /\ x.2 < 2 ^ 41 },fun | ⟨(L,s),_⟩=>hsP [1000] 63 [(0,.own 1000),(1,i64 n),(2,.clo g []),(6,i64 s)] (H1 L),fun x=>2 ^ 41 - x.1.2,⟨(L,20),hBS,hsr,hlen,by omega,by omega⟩,?_,?_⟩
   . exact (hle_Y [(1000,some 1000)] (by repeat' (first | exact z0 | refine z1 ?_ | refine ⟨?_,?_⟩ | ((exact zan (by rw [hL]))) | exact z2)))
   clear h1 h2 h3 h4 c hsR hBS hsr hlen hL
   rintro ⟨⟨L,s⟩,h1,h2,h3,h4,h5⟩
   dsimp only at h1 h2 h3 h4 h5
   conv=>whnf
   by_cases c:s < l.length
   . refine sT ?_
     refine sF ?_
     refine ⟨{ x:(List Piece × List Piece) × Nat // x.1.1.length=x.2 * (2 * s) /\ x.1.1.length+x.1.2.length=l.length /\ BS (2 * s) x.1.1 /\ BS s x.1.2 /\ srt ck (x.1.1++x.1.2)=srt ck l },fun | ⟨((D,R),k),_⟩=>hsP [1000] 63 [(0,.own 1000),(1,i64 n),(2,.clo g []),(6,i64 s),(7,i64 D.length),(8,i64 (D.length+2 * s:Nat))] (H1 (D++R)),fun x=>x.1.1.2.length,⟨(([],L),0),by simp,by simpa using h3,ysi _,h1,h2⟩,?_,?_⟩
     . exact (hle_Y [(1000,some 1000)] (by repeat' (first | exact z0 | refine z1 ?_ | refine ⟨?_,?_⟩ | ((exact zaw om)) | exact z2)))
     rintro ⟨⟨⟨D,R⟩,k⟩,h1,h2,h3,h6,h7⟩
     dsimp only at h1 h2 h3 h6 h7
     conv=>whnf
     by_cases c2:2 * s <= R.length
     . obtain ⟨U,V,R,rfl,hU,hV⟩:∃ U V R',R=U++V++R' /\ U.length=s /\ V.length=s:=⟨R.take s,(R.drop s).take s,R.drop (2 * s),by
        rw [show 2 * s=s+s by omega,<- List.drop_drop,List.append_assoc,List.take_append_drop,List.take_append_drop],by simp;omega,by simp;omega⟩
       have sU:Sd ck U:=by have:=h6 0;rwa [Nat.zero_mul,List.drop_zero,List.append_assoc,List.take_append_of_le_length (by omega),List.take_of_length_le (by omega)] at this
       have sV:Sd ck V:=by have:=h6 1;rwa [Nat.one_mul,List.append_assoc,<- hU,List.drop_left,hU,List.take_append_of_le_length (by omega),List.take_of_length_le (by omega)] at this
       have hR:BS s R:=by
        have:=ytx h6 2
        rwa [List.drop_left' (by simp;omega)] at this
       have hm:=ych U V
       simp only [List.length_append] at h2 c2
       refine sT ?_
       refine sF ?_
       (refine zae [] [(1000,1000)] [] ?_;(conv=>whnf);refine dG (zve hg (2 * s) D U V R (D++(U++V++R)) (D++mrg ck U V++R) (by simp) rfl (by omega) (List.length_pos_iff.1 (by omega)) (List.length_pos_iff.1 (by omega)) sU sV (by simp;omega) _ _ _ rfl (by simp;omega) (by simp;omega)) ?_ ⟨rfl,rfl,rfl,⟨⟨rfl,_,rfl,.inl ⟨rfl,rfl⟩⟩,trivial⟩,trivial,rfl,rfl,rfl⟩)
       refine sF ?_
       refine sF ?_
       exact ⟨⟨((D++mrg ck U V,R),k+1),by rw [Nat.add_mul];simp;omega,by simp;omega,zpy h3 h1 (by omega) (ylr U V sU sV),hR,by dsimp only;rw [zle (ylv sU sV),List.append_assoc,List.append_assoc,<- List.append_assoc U];exact h7⟩,(hle_Y [(1000,some 1000)] (by repeat' (first | exact z0 | refine z1 ?_ | refine ⟨?_,?_⟩ | ((exact zaw om)) | exact z2))),by simp;omega⟩
     . refine sN ?_
       refine sF ?_
       by_cases c3:s < R.length
       . obtain ⟨U,V,rfl,hU⟩:∃ U V,R=U++V /\ U.length=s:=⟨R.take s,R.drop s,by simp,by simp;omega⟩
         have sU:Sd ck U:=by have:=h6 0;rwa [Nat.zero_mul,List.drop_zero,List.take_append_of_le_length (by omega),List.take_of_length_le (by omega)] at this
         simp only [List.length_append] at h2 c2 c3
         have sV:Sd ck V:=by have:=h6 1;rwa [Nat.one_mul,<- hU,List.drop_left,hU,List.take_of_length_le (by omega)] at this
         have hm:=ych U V
         refine zac (by simp;omega) ?_;conv=>whnf
         try (refine hcut.go ?_;conv=>whnf)
         (refine zae [] [(1000,1000)] [] ?_;(conv=>whnf);refine dG (zve hg (2 * s) D U V [] (D++(U++V)) (D++mrg ck U V) (by simp) (by simp) (by omega) (List.length_pos_iff.1 (by omega)) (List.length_pos_iff.1 (by omega)) sU sV (by simp;omega) _ _ _ rfl (by simp;omega) (by simp;omega)) ?_ ⟨rfl,rfl,rfl,⟨⟨rfl,_,rfl,.inl ⟨rfl,rfl⟩⟩,trivial⟩,trivial,rfl,rfl,rfl⟩)
         refine sF ?_
         have e1:=zle (A:=D) (C:=[]) (ylv sU sV)
         rw [List.append_nil,List.append_nil] at e1
         exact ⟨⟨(D++mrg ck U V,2 * s),zpy h3 h1 (by omega) (ylr U V sU sV),by dsimp only;rw [e1];exact h7,by simp;omega,by dsimp only;omega,by dsimp only;omega⟩,(hle_Y [(1000,some 1000)] (by repeat' (first | exact z0 | refine z1 ?_ | refine ⟨?_,?_⟩ | ((exact zaw om)) | exact z2))),by dsimp only;omega⟩
       . refine zab (by simp;omega) ?_;conv=>whnf
         try (refine hcut.go ?_;conv=>whnf)
         refine sF ?_
         exact ⟨⟨(D++R,2 * s),zpy h3 h1 (by omega) (ysj h6 (by omega)),h7,by simp;omega,by dsimp only;omega,by dsimp only;omega⟩,(hle_Y [(1000,some 1000)] (by repeat' (first | exact z0 | refine z1 ?_ | refine ⟨?_,?_⟩ | ((exact zaw om)) | exact z2))),by dsimp only;omega⟩
   . have hsd:=ysj h1 (by omega)
     rw [zha hsd] at h2
     refine sN ?_
     refine zak [(1000,some 1000)] rfl rfl ⟨rfl,trivial⟩ rfl rfl ⟨⟨rfl,.inl ⟨1000,rfl,?_⟩⟩,trivial⟩
     exact zan (by rw [h2])
theorem ylw {g:FuncId} (hg:CmpOK g) (l:List Piece) (hb:l.length < 2 ^ 39) :
 FunOK Tryz.prog 207 [.own 1000,.clo g []] (lk .free (H1 l)) (.tup []) (lk .free (H1 (srt ck l))):=by
 refine zal mixed Tryz.func207 (by decide) [1000] zba ?_
 conv=>whnf
 (refine zae [] [(1000,1000)] [] ?_;(conv=>whnf);refine dG (yci hg l hb _ (by simp)) ?_ ⟨rfl,rfl,rfl,⟨⟨rfl,_,rfl,.inl ⟨rfl,rfl⟩⟩,trivial⟩,trivial,rfl,rfl,rfl⟩)
 exact yy72
end Srt
namespace Cl
theorem zyu {α:Type} {p:α -> Bool} (A B:List α) (x:α) (hA:∀ y ∈ A,p y=false) (hx:p x=true):zbl p 0 (A++x :: B)=(A.length:Int):=by
 have gen:∀ (A:List α) (k:Nat),(∀ y ∈ A,p y=false) -> zbl p k (A++x :: B)=((k+A.length:Nat):Int):=by
  intro A
  induction A with
  | nil=>intro k _;simp [zbl,hx]
  | cons a A ih=>intro k h;rw [List.cons_append,zbl,if_neg (by rw [h a (by simp)];decide),ih (k+1) fun y hy=>h y (by simp [hy])];simp;omega
 rw [gen A 0 hA];simp
theorem zyv {α:Type} (p:α -> Bool) (l:List α):(zbl p 0 l=-1 /\ ∀ y ∈ l,p y=false) \/ ∃ A x B,l=A++x :: B /\ (∀ y ∈ A,p y=false) /\ p x=true:=by
 have gen:∀ (l:List α) (k:Nat),(zbl p k l=-1 /\ ∀ y ∈ l,p y=false) \/ ∃ A x B,l=A++x :: B /\ (∀ y ∈ A,p y=false) /\ p x=true:=by
  intro l
  induction l with
  | nil=>intro k;exact .inl ⟨rfl,by simp⟩
  | cons a l ih =>
   intro k
   cases h:p a with
   | true=>exact .inr ⟨[],a,l,rfl,by simp,h⟩
   | false =>
    rcases ih (k+1) with ⟨h1,h2⟩ | ⟨A,x,B,rfl,h2,h3⟩
    . exact .inl ⟨by rw [zbl,if_neg (by rw [h];decide),h1],fun y hy=>by rcases List.mem_cons.1 hy with rfl | hy;exact h;exact h2 y hy⟩
    . exact .inr ⟨a :: A,x,B,rfl,fun y hy=>by rcases List.mem_cons.1 hy with rfl | hy;exact h;exact h2 y hy,h3⟩
 exact gen l 0
theorem yfn {α:Type} {t n:Nat} {f:α -> List PV} {l A B:List α} {x y:α} {i:Nat} {r:List PV} (h:l=A++x :: B) (hi:i=A.length) (hr:f y=r):HSlot.live (.row t n ((l.map f).set i r))=HSlot.live (.row t n ((A++y :: B).map f)):=by
 subst h hr
 rw [<- List.map_set,Srt.zpx hi]
theorem zcf (l:List UInt8) (hb:l.length < 2 ^ 40):FunOK Tryz.prog 70 [.p (.sl 1 (l.map bRow))] zad (.own 0) (lk .free [(0,.live (.row 5 1 (l.map bRow)))]):=by
 refine zal mixed Tryz.func70 (by decide) [] (fun _=>.inl rfl) ?_
 conv=>whnf
 intro b hn
 conv=>whnf
 refine zaf (fun c=>?_) (fun c=>?_)
 . conv=>whnf
   exact yy35
 . conv=>whnf
   refine zaa (c:=(([]:List (List PV)).length+(l.map bRow).length) * 1 <= 140737488355328) (by simp;omega) ?_
   exact yy25
theorem zmp (l:List Int) (hb:l.length < 2 ^ 40):FunOK Tryz.prog 74 [.p (.sl 1 (l.map (fun n=>[pi n])))] zad (.own 0) (lk .free [(0,.live (.row 3 1 (l.map (fun n=>[pi n]))))]):=by
 refine zal mixed Tryz.func74 (by decide) [] (fun _=>.inl rfl) ?_
 conv=>whnf
 intro b hn
 conv=>whnf
 refine zaf (fun c=>?_) (fun c=>?_)
 . conv=>whnf
   exact yy35
 . conv=>whnf
   refine zaa (c:=(([]:List (List PV)).length+(l.map (fun n=>[pi n])).length) * 8 <= 140737488355328) (by simp;omega) ?_
   exact yy25
theorem zdu (l:List Span) (hb:l.length < 2 ^ 40):FunOK Tryz.prog 150 [.p (.sl 2 (l.map Span.row))] zad (.own 0) (lk .free [(0,.live (.row 199 2 (l.map Span.row)))]):=by
 refine zal mixed Tryz.func150 (by decide) [] (fun _=>.inl rfl) ?_
 conv=>whnf
 intro b hn
 conv=>whnf
 refine zaf (fun c=>?_) (fun c=>?_)
 . conv=>whnf
   exact yy35
 . conv=>whnf
   refine zaa (c:=(([]:List (List PV)).length+(l.map Span.row).length) * 16 <= 140737488355328) (by simp;omega) ?_
   exact yy25
theorem ycj (l:List Path) (hb:l.length < 2 ^ 40):FunOK Tryz.prog 73 [.p (.sl 7 (l.map Path.row))] zad (.own 0) (lk .free [(0,.live (.row 86 7 (l.map Path.row)))]):=by
 refine zal mixed Tryz.func73 (by decide) [] (fun _=>.inl rfl) ?_
 conv=>whnf
 intro b hn
 conv=>whnf
 refine zaf (fun c=>?_) (fun c=>?_)
 . conv=>whnf
   exact yy35
 . conv=>whnf
   refine zaa (c:=(([]:List (List PV)).length+(l.map Path.row).length) * 56 <= 140737488355328) (by simp;omega) ?_
   exact yy25
theorem zjx {g:FuncId} {c1 c2 c3:List PV} {p:Piece -> Bool} (hg:∀ m:Piece,FunOK Tryz.prog g [m.hv,.rp c1,.rp c2,.rp c3] zad (hbool (p m)) zad) (q:List Piece) (hb:q.length < 2 ^ 62) :
 FunOK Tryz.prog 215 [.p (.sl 12 (q.map Piece.row)),.clo g [.rp c1,.rp c2,.rp c3]] zad (i64 (zbl p 0 q)) zad:=by
 refine zai mixed Tryz.func215 (by decide) ?_
 conv=>whnf
 refine ⟨{ k:Nat // k <= q.length /\ zbl p k (q.drop k)=zbl p 0 q },fun | ⟨k,_⟩=>hs 19 [(0,.p (.sl 12 (q.map Piece.row))),(1,.clo g [.rp c1,.rp c2,.rp c3]),(7,i64 (q.map Piece.row).length),(8,i64 k)] [],fun k=>q.length - k.1,⟨0,by simp⟩,?_,?_⟩
 . exact (hle_Q [])
 . rintro ⟨k,hk,hi⟩
   exact yy5
theorem zyw {g:FuncId} {c1 c2 c3:List PV} {p:Piece -> Bool} (hg:∀ m:Piece,FunOK Tryz.prog g [m.hv,.rp c1,.rp c2,.rp c3] zad (hbool (p m)) zad) (A0 B0:List Piece) (x:Piece) (hA:∀ y ∈ A0,p y=false) (hx:p x=true) (hb:(A0++x :: B0).length < 2 ^ 38) :
 FunOK Tryz.prog 210 [.own 1000,.clo g [.rp c1,.rp c2,.rp c3]] (lk .free [(1000,.live (.row 162 12 ((A0++x :: B0).map Piece.row)))])
  (.osl 1000 12 0 ((A0++x :: B0).filter fun y=>!p y).length) (lk .free [(1000,.live (.row 162 12 ((((A0++x :: B0).filter fun y=>!p y).map Piece.row)++List.replicate ((A0++x :: B0).length - ((A0++x :: B0).filter fun y=>!p y).length) ([pi 0,pi 0,pi 0,pi 0,pi 0,pi 0,pb false,pb false,.v (.slice none 0 0),.v (.slice none 0 0),pi 0,.v (.slice none 0 0)]))))]):=by
 refine zal mixed Tryz.func210 (by decide) [1000] zba ?_
 have hfA:A0.filter (fun y=>!p y)=A0:=List.filter_eq_self.2 fun y hy=>by rw [hA y hy];rfl
 have hlen:(A0++x :: B0).length=A0.length+1+B0.length:=by simp;omega
 conv=>whnf
 (refine cL ?_;refine dL (zjx hg (A0++x :: B0) (by omega)) ?_)
 rw [zyu A0 B0 x hA hx]
 conv=>whnf
 try (refine hcut.go ?_;conv=>whnf)
 refine sF ?_
 refine ⟨{ y:(List Piece × List Piece) × List Piece × List Piece // A0++x :: B0=y.1.1++y.1.2 /\ y.2.1=y.1.1.filter (fun z=>!p z) /\ 0 < y.2.2.length /\ y.2.1.length+y.2.2.length=y.1.1.length },fun | ⟨((A,B),K,G),_⟩=>hsP [1000] 42 [(0,.own 1000),(1,.clo g [.rp c1,.rp c2,.rp c3]),(5,i64 K.length),(6,i64 A.length)] [(1000,.live (.row 162 12 ((K++G++B).map Piece.row)))],fun y=>y.1.1.2.length,⟨((A0++[x],B0),A0,[x]),by simp,by simp [hfA,hx],by simp,by simp⟩,?_,?_⟩
 . exact (hle_Y [(1000,some 1000)] (by repeat' (first | exact z0 | refine z1 ?_ | refine ⟨?_,?_⟩ | ((exact zaw om)) | ((exact zan (by simp))) | exact z2)))
 rintro ⟨⟨⟨A,B⟩,K,G⟩,h,hK,hG,hl⟩
 dsimp only at h hK hG hl
 have hAB:(A0++x :: B0).length=A.length+B.length:=by rw [h];simp
 conv=>whnf
 cases B with
 | nil =>
  rw [List.length_nil] at hAB
  rw [List.append_nil] at h
  have hF:(A0++x :: B0).filter (fun z=>!p z)=K:=by rw [h,hK]
  refine zab (by simp;omega) ?_;conv=>whnf
  try (refine hcut.go ?_;conv=>whnf)
  refine sOm ?_
  refine sOm ?_
  refine zaa (by simp [splice];omega) ?_;conv=>whnf
  refine zak [(1000,some 1000)] rfl rfl ⟨rfl,trivial⟩ rfl ?_ ⟨⟨rfl,.inl ⟨1000,rfl,?_⟩⟩,trivial⟩
  . show HV.osl 1000 12 0 _=HV.osl 1000 12 0 _
    rw [hF];rfl
  . refine zan ?_
    exact yy117
 | cons v B =>
  rw [List.length_cons] at hAB
  have e1:K++G++v :: B=(K++G)++v :: B:=rfl
  refine zac (by simp;omega) ?_;conv=>whnf
  try (refine hcut.go ?_;conv=>whnf)
  refine sO ?_
  refine zah e1 (by simp;omega) ?_;conv=>whnf
  (refine cZ ?_;refine dL (hg v) ?_)
  cases hv:p v with
  | true =>
   exact yy71
  | false =>
   obtain ⟨g0,G,rfl⟩:∃ g0 G',G=g0 :: G':=by cases G with
    | nil=>simp at hG
    | cons a b=>exact ⟨a,b,rfl⟩
   have e2:K++(g0 :: G)++v :: B=K++g0 :: (G++v :: B):=by simp
   rw [List.length_cons] at hl
   conv=>whnf
   try (refine hcut.go ?_;conv=>whnf)
   refine sO ?_
   refine zah e2 (by simp) ?_;conv=>whnf
   refine sF ?_
   refine sF ?_
   refine ⟨⟨((A++[v],B),K++[v],G++[v]),by rw [h];simp,by rw [List.filter_append,<- hK];simp [hv],by simp,by simp;omega⟩,(hle_Y [(1000,some 1000)] (by repeat' (first | exact z0 | refine z1 ?_ | refine ⟨?_,?_⟩ | ((exact zaw om)) | ((exact (zcw (f:=Piece.row) (a:=K) (b:=G++v :: B) (x:=g0) (y:=v) (by simp) rfl).symm.trans (zan (by simp)))) | ((refine (yfn e2 ?_ rfl).trans (zan (by simp));simp)) | exact z2))),by simp⟩
theorem yij {g:FuncId} {c1 c2 c3:List PV} {p:Piece -> Bool} (hg:∀ m:Piece,FunOK Tryz.prog g [m.hv,.rp c1,.rp c2,.rp c3] zad (hbool (p m)) zad) (l:List Piece) (hb:l.length < 2 ^ 38) :
 FunOK Tryz.prog 210 [.own 1000,.clo g [.rp c1,.rp c2,.rp c3]] (lk .free [(1000,.live (.row 162 12 (l.map Piece.row)))])
  (.own 0) (lk .free [(1000,.dead),(0,.live (.row 162 12 ((l.filter fun y=>!p y).map Piece.row)))]):=by
 rcases zyv p l with ⟨h1,h2⟩ | ⟨A,x,B,rfl,hA,hx⟩
 . refine zal mixed Tryz.func210 (by decide) [1000] zba ?_
   rw [List.filter_eq_self.2 fun y hy=>by rw [h2 y hy];rfl]
   conv=>whnf
   (refine cL ?_;refine dL (zjx hg l (by omega)) ?_)
   exact yy110
 . have h:=zgx (d:=0) (L:=[]) (rows:=(((A++x :: B).filter fun y=>!p y).map Piece.row)++List.replicate ((A++x :: B).length - ((A++x :: B).filter fun y=>!p y).length) ([pi 0,pi 0,pi 0,pi 0,pi 0,pi 0,pb false,pb false,.v (.slice none 0 0),.v (.slice none 0 0),pi 0,.v (.slice none 0 0)])) (zyw hg A B x hA hx hb) (.inl rfl) (by simp) rfl (by decide)
   rwa [List.take_left' (by simp)] at h
end Cl
namespace Paths
def new (part:Int):Path:=⟨W (2 * part),W (32 * part),0,0,0,0,3⟩
def acked (p:Path) (bytes part:Int) (moved:Bool):Path :=
 match moved with
 | false=>p
 | true =>
  if bytes=0 then { p with errors:=0,wait:=3,alarm:=0 } else
  if p.window <= p.slow then { p with errors:=0,wait:=3,alarm:=0,window:=W (p.window+min bytes part) } else
  if W (p.gathered+bytes) >= p.window then { p with errors:=0,wait:=3,alarm:=0,gathered:=W (W (p.gathered+bytes) - p.window),window:=W (p.window+part) } else
  { p with errors:=0,wait:=3,alarm:=0,gathered:=W (p.gathered+bytes) }
def halved (p:Path) (part:Int):Path :=
 { p with slow:=max (W (p.window.tdiv 2)) (W (4 * part)),window:=min p.window (max (W (p.window.tdiv 2)) (W (4 * part))),gathered:=0 }
def late (p:Path) (part:Int):Path :=
 { p with slow:=max (W (p.window.tdiv 2)) (W (4 * part)),window:=part,gathered:=0,flight:=0,errors:=W (p.errors+1),wait:=min (W (2 * p.wait)) 24,alarm:=0 }
def zcr (k:Nat):List Path -> Int
 | []=>0
 | p :: r=>if p.errors <= 3 then k else zcr (k+1) r
theorem zsr (a b:Int):(if b < a then b else a)=min a b:=by omega
theorem zss (a b:Int):(if b > a then b else a)=max a b:=by omega
theorem yik (p:Path) (bytes part:Int) (moved:Bool):FunOK Tryz.prog 77 [p.hv,i64 bytes,i64 part,hbool moved] zad (acked p bytes part moved).hv zad:=by
 cases moved
 all_goals refine zai mixed Tryz.func77 (by decide) ?_
 all_goals conv=>whnf
 all_goals (repeat' (first | (refine zbp ?_;conv=>whnf) | (refine zaa ?_ ?_;(first | kernel_rfl | decide);conv=>whnf) | (refine zap ?_ ?_;kernel_rfl;conv=>whnf) | (refine hcut.go ?_;conv=>whnf) | (refine zar ?_;(conv=>whnf);refine ⟨_,zew ⟨_,_,_,_,_,_,_⟩ _,rfl,?_⟩;conv=>whnf) | (refine zaf (fun h=>?_) (fun h=>?_) <;> conv=>whnf)))
 all_goals try simp only [List.length_map,Bool.not_eq_true',Bool.not_eq_false',beq_iff_eq,beq_eq_false_iff_ne,decide_eq_true_eq,decide_eq_false_iff_not] at *
 all_goals simp only [acked,W]
 all_goals (repeat' split)
 all_goals first | rfl | omega | (simp only [Path.hv,zsr,zss,HV.agg.injEq,List.cons.injEq,HV.p.injEq,PV.v.injEq,Value.int.injEq,true_and,and_true] <;> first | omega | (congr 1;omega))
theorem yck (p:Path) (bytes part:Int) (moved:Bool):FunOK Tryz.prog 85 [p.hv,i64 bytes,i64 part,hbool moved] zad (acked p bytes part moved).hv zad:=by
 cases moved
 all_goals refine zai mixed Tryz.func85 (by decide) ?_
 all_goals conv=>whnf
 all_goals (repeat' (first | (refine zbp ?_;conv=>whnf) | (refine zaa ?_ ?_;(first | kernel_rfl | decide);conv=>whnf) | (refine zap ?_ ?_;kernel_rfl;conv=>whnf) | (refine hcut.go ?_;conv=>whnf) | (refine zar ?_;(conv=>whnf);refine ⟨_,zew ⟨_,_,_,_,_,_,_⟩ _,rfl,?_⟩;conv=>whnf) | (refine zaf (fun h=>?_) (fun h=>?_) <;> conv=>whnf)))
 all_goals try simp only [List.length_map,Bool.not_eq_true',Bool.not_eq_false',beq_iff_eq,beq_eq_false_iff_ne,decide_eq_true_eq,decide_eq_false_iff_not] at *
 all_goals simp only [acked,W]
 all_goals (repeat' split)
 all_goals first | rfl | omega | (simp only [Path.hv,zsr,zss,HV.agg.injEq,List.cons.injEq,HV.p.injEq,PV.v.injEq,Value.int.injEq,true_and,and_true] <;> first | omega | (congr 1;omega))
theorem zew (p:Path) (part:Int):FunOK Tryz.prog 80 [p.hv,i64 part] zad (halved p part).hv zad:=by
 refine zai mixed Tryz.func80 (by decide) ?_
 conv=>whnf
 (repeat' (first | (refine zbp ?_;conv=>whnf) | (refine zaa ?_ ?_;(first | kernel_rfl | decide);conv=>whnf) | (refine zap ?_ ?_;kernel_rfl;conv=>whnf) | (refine hcut.go ?_;conv=>whnf) | (refine zar ?_;(conv=>whnf);refine ⟨_,zew ⟨_,_,_,_,_,_,_⟩ _,rfl,?_⟩;conv=>whnf) | (refine zaf (fun h=>?_) (fun h=>?_) <;> conv=>whnf)))
 all_goals try simp only [List.length_map,Bool.not_eq_true',Bool.not_eq_false',beq_iff_eq,beq_eq_false_iff_ne,decide_eq_true_eq,decide_eq_false_iff_not] at *
 all_goals simp only [halved,W]
 all_goals (repeat' split)
 all_goals first | rfl | omega | (simp only [Path.hv,zsr,zss,HV.agg.injEq,List.cons.injEq,HV.p.injEq,PV.v.injEq,Value.int.injEq,true_and,and_true] <;> first | omega | (congr 1;omega))
theorem zno (p:Path) (part:Int):FunOK Tryz.prog 88 [p.hv,i64 part] zad (halved p part).hv zad:=by
 refine zai mixed Tryz.func88 (by decide) ?_
 conv=>whnf
 (repeat' (first | (refine zbp ?_;conv=>whnf) | (refine zaa ?_ ?_;(first | kernel_rfl | decide);conv=>whnf) | (refine zap ?_ ?_;kernel_rfl;conv=>whnf) | (refine hcut.go ?_;conv=>whnf) | (refine zar ?_;(conv=>whnf);refine ⟨_,zew ⟨_,_,_,_,_,_,_⟩ _,rfl,?_⟩;conv=>whnf) | (refine zaf (fun h=>?_) (fun h=>?_) <;> conv=>whnf)))
 all_goals try simp only [List.length_map,Bool.not_eq_true',Bool.not_eq_false',beq_iff_eq,beq_eq_false_iff_ne,decide_eq_true_eq,decide_eq_false_iff_not] at *
 all_goals simp only [halved,W]
 all_goals (repeat' split)
 all_goals first | rfl | omega | (simp only [Path.hv,zsr,zss,HV.agg.injEq,List.cons.injEq,HV.p.injEq,PV.v.injEq,Value.int.injEq,true_and,and_true] <;> first | omega | (congr 1;omega))
theorem zpz (p:Path) (part:Int):FunOK Tryz.prog 91 [p.hv,i64 part] zad (late p part).hv zad:=by
 refine zai mixed Tryz.func91 (by decide) ?_
 conv=>whnf
 (repeat' (first | (refine zbp ?_;conv=>whnf) | (refine zaa ?_ ?_;(first | kernel_rfl | decide);conv=>whnf) | (refine zap ?_ ?_;kernel_rfl;conv=>whnf) | (refine hcut.go ?_;conv=>whnf) | (refine zar ?_;(conv=>whnf);refine ⟨_,zew ⟨_,_,_,_,_,_,_⟩ _,rfl,?_⟩;conv=>whnf) | (refine zaf (fun h=>?_) (fun h=>?_) <;> conv=>whnf)))
 all_goals try simp only [List.length_map,Bool.not_eq_true',Bool.not_eq_false',beq_iff_eq,beq_eq_false_iff_ne,decide_eq_true_eq,decide_eq_false_iff_not] at *
 all_goals simp only [late,W]
 all_goals (repeat' split)
 all_goals first | rfl | omega | (simp only [Path.hv,zsr,zss,HV.agg.injEq,List.cons.injEq,HV.p.injEq,PV.v.injEq,Value.int.injEq,true_and,and_true] <;> first | omega | (congr 1;omega))
theorem yil (p:Path) (part:Int):FunOK Tryz.prog 92 [p.hv,i64 part] zad (late p part).hv zad:=by
 refine zai mixed Tryz.func92 (by decide) ?_
 conv=>whnf
 (repeat' (first | (refine zbp ?_;conv=>whnf) | (refine zaa ?_ ?_;(first | kernel_rfl | decide);conv=>whnf) | (refine zap ?_ ?_;kernel_rfl;conv=>whnf) | (refine hcut.go ?_;conv=>whnf) | (refine zar ?_;(conv=>whnf);refine ⟨_,zno ⟨_,_,_,_,_,_,_⟩ _,rfl,?_⟩;conv=>whnf) | (refine zaf (fun h=>?_) (fun h=>?_) <;> conv=>whnf)))
 all_goals try simp only [List.length_map,Bool.not_eq_true',Bool.not_eq_false',beq_iff_eq,beq_eq_false_iff_ne,decide_eq_true_eq,decide_eq_false_iff_not] at *
 all_goals simp only [late,halved,W]
 all_goals (repeat' split)
 all_goals first | rfl | omega | (simp only [Path.hv,zsr,zss,HV.agg.injEq,List.cons.injEq,HV.p.injEq,PV.v.injEq,Value.int.injEq,true_and,and_true] <;> first | omega | (congr 1;omega))
theorem zhb (p:Path):FunOK Tryz.prog 133 [p.hv] zad (hbool (decide (p.flight < p.window))) zad:=by
 refine zai mixed Tryz.func133 (by decide) ?_
 conv=>whnf
theorem zdd (ps:List Path) (hb:ps.length < 2 ^ 62):FunOK Tryz.prog 79 [.p (.sl 7 (ps.map Path.row))] zad (i64 (zcr 0 ps)) zad:=by
 refine zai mixed Tryz.func79 (by decide) ?_
 exact yy18
theorem zgl (ps:List Path) (hb:ps.length < 2 ^ 62):FunOK Tryz.prog 87 [.p (.sl 7 (ps.map Path.row))] zad (i64 (zcr 0 ps)) zad:=by
 refine zai mixed Tryz.func87 (by decide) ?_
 exact yy18
end Paths
namespace Sch
abbrev qs (q:List Queued):HV:=.p (.sl 10 (q.map Queued.row))
def first (q:List Queued) (stream:Int):Int:=zbl (fun m:Queued=>m.message.stream == stream) 0 q
def after (q:List Queued) (last streams:Int):Nat -> Nat -> Int
 | _,0=>-1
 | k,n+1=>if first q ((W (W (last+1)+k)).tmod streams) >= 0 then first q ((W (W (last+1)+k)).tmod streams) else after q last streams (k+1) n
theorem ycl (m:Queued) (stream:Int):FunOK Tryz.prog 186 [m.hv,.rp [pi stream]] zad (hbool (m.message.stream == stream)) zad:=by
 refine zai mixed Tryz.func186 (by decide) ?_
 conv=>whnf
theorem zmq (m:Queued) (s:Sched):FunOK Tryz.prog 163 [m.hv,.rp s.row] zad (hbool (m.id == s.hand)) zad:=by
 refine zai mixed Tryz.func163 (by decide) ?_
 conv=>whnf
theorem yfo {g:FuncId} {cs:List PV} {p:Queued -> Bool} (hg:∀ m:Queued,FunOK Tryz.prog g [m.hv,.rp cs] zad (hbool (p m)) zad) (q:List Queued) (hb:q.length < 2 ^ 62) :
 FunOK Tryz.prog 158 [qs q,.clo g [.rp cs]] zad (i64 (zbl p 0 q)) zad:=by
 refine zai mixed Tryz.func158 (by decide) ?_
 conv=>whnf
 refine ⟨{ k:Nat // k <= q.length /\ zbl p k (q.drop k)=zbl p 0 q },fun | ⟨k,_⟩=>hs 19 [(0,qs q),(1,.clo g [.rp cs]),(7,i64 (q.map Queued.row).length),(8,i64 k)] [],fun k=>q.length - k.1,⟨0,by simp⟩,?_,?_⟩
 . exact zbm [] rfl rfl rfl rfl ⟨⟨rfl,rfl⟩,⟨rfl,rfl⟩,⟨rfl,rfl⟩,⟨rfl,rfl⟩,trivial⟩ trivial
 . rintro ⟨k,hk,hi⟩
   conv=>whnf
   refine zaf (fun h=>?_) (fun h=>?_)
   . have hlt:k < q.length:=by simpa using h
     conv=>whnf
     refine zbi (r:=(q[k]).row) (by simp) (by simp [hlt]) ?_
     conv=>whnf
     refine zed ?_;conv=>whnf
     refine ⟨_,hg q[k],rfl,?_⟩;conv=>whnf
     rw [List.drop_eq_getElem_cons hlt] at hi
     simp only [zbl] at hi
     refine zaf (fun h=>?_) (fun h=>?_)
     . conv=>whnf
       rw [if_pos h] at hi
       rw [<- hi]
     . conv=>whnf
       rw [if_neg (by rw [h];decide)] at hi
       refine zam (W_fit (by omega) (by omega)) ?_
       conv=>whnf
       exact ⟨⟨k+1,hlt,hi⟩,zbm [] rfl rfl rfl rfl ⟨⟨rfl,rfl⟩,⟨rfl,rfl⟩,⟨rfl,rfl⟩,⟨rfl,by simp;rfl⟩,trivial⟩ trivial,by dsimp only;omega⟩
   . conv=>whnf
     have hge:q.length <= k:=by simpa using h
     rw [List.drop_eq_nil_of_le hge] at hi
     rw [<- hi];rfl
theorem zjj (q:List Queued) (stream:Int) (hb:q.length < 2 ^ 62):FunOK Tryz.prog 165 [qs q,i64 stream] zad (i64 (first q stream)) zad:=by
 refine zai mixed Tryz.func165 (by decide) ?_
 conv=>whnf
 refine zar ?_;conv=>whnf
 refine ⟨_,yfo (fun m=>ycl m stream) q hb,rfl,?_⟩
 conv=>whnf
 rfl
theorem yim (q:List Queued) (last streams:Int) (h0:0 < streams) (h9:streams < 2 ^ 62) (hb:q.length < 2 ^ 62):FunOK Tryz.prog 164 [qs q,i64 last,i64 streams] zad (i64 (after q last streams 0 streams.toNat)) zad:=by
 refine zai mixed Tryz.func164 (by decide) ?_
 conv=>whnf
 refine ⟨{ k:Nat // (k:Int) <= streams /\ after q last streams k (streams.toNat - k)=after q last streams 0 streams.toNat },fun | ⟨k,_⟩=>hs 25 [(0,qs q),(1,i64 last),(2,i64 streams),(9,i64 streams),(10,i64 k)] [],fun k=>streams.toNat - k.1,⟨0,by omega,rfl⟩,?_,?_⟩
 . exact zbm [] rfl rfl rfl rfl ⟨⟨rfl,rfl⟩,⟨rfl,rfl⟩,⟨rfl,rfl⟩,⟨rfl,rfl⟩,⟨rfl,rfl⟩,trivial⟩ trivial
 . rintro ⟨k,hk,hi⟩
   conv=>whnf
   refine zaf (fun h=>?_) (fun h=>?_)
   . have hlt:(k:Int) < streams:=by simpa using h
     conv=>whnf
     refine zbp ?_;conv=>whnf
     refine zbp ?_;conv=>whnf
     refine zaa (by omega) ?_;conv=>whnf
     refine zar ?_;conv=>whnf
     refine ⟨_,zjj q _ hb,rfl,?_⟩;conv=>whnf
     obtain ⟨j,hj⟩:∃ j,streams.toNat - k=j+1:=⟨streams.toNat - k - 1,by omega⟩
     rw [hj] at hi
     simp only [after] at hi
     refine zaf (fun h=>?_) (fun h=>?_)
     . conv=>whnf
       rw [if_pos (of_decide_eq_true h)] at hi
       rw [<- hi]
     . conv=>whnf
       rw [if_neg (of_decide_eq_false h)] at hi
       refine zam (W_fit (by omega) (by omega)) ?_
       conv=>whnf
       exact ⟨⟨k+1,by omega,by rw [show streams.toNat - (k+1)=j by omega];exact hi⟩,zbm [] rfl rfl rfl rfl ⟨⟨rfl,rfl⟩,⟨rfl,rfl⟩,⟨rfl,rfl⟩,⟨rfl,rfl⟩,⟨rfl,by simp;rfl⟩,trivial⟩ trivial,by dsimp only;omega⟩
   . conv=>whnf
     have hge:¬ (k:Int) < streams:=by simpa using h
     rw [show streams.toNat - k=0 by omega] at hi
     rw [<- hi];rfl
def zdc (q:List Queued) (had:List Int) (best:Int) (k:Nat):List Int -> Int
 | []=>best
 | n :: r=>if first q k >= 0 /\ (best < 0 \/ n < had[best.toNat]?.getD 0) then zdc q had k (k+1) r else zdc q had best (k+1) r
def least (s:Sched) (q:List Queued):Int:=if zdc q s.had (-1) 0 s.had < 0 then -1 else first q (zdc q s.had (-1) 0 s.had)
theorem yin (s:Sched) (q:List Queued) (h9:s.had.length < 2 ^ 62) (hb:q.length < 2 ^ 62):FunOK Tryz.prog 166 [s.hv,qs q] zad (i64 (least s q)) zad:=by
 refine zai mixed Tryz.func166 (by decide) ?_
 conv=>whnf
 refine ⟨{ x:Nat × Int // x.1 <= s.had.length /\ x.2 < s.had.length /\ zdc q s.had x.2 x.1 (s.had.drop x.1)=zdc q s.had (-1) 0 s.had },fun | ⟨(k,best),_⟩=>hs 40 [(1,qs q),(2,.ptr 2 0),(5,i64 best),(9,ints s.had),(10,i64 (s.had.map fun n=>[pi n]).length),(11,i64 k)] [(2,.live (.cells 28 s.cells))],fun x=>s.had.length - x.1.1,⟨(0,-1),by simp,by dsimp only;omega,rfl⟩,?_,?_⟩
 . exact zbm [(2,some 2)] rfl rfl rfl rfl ⟨⟨rfl,rfl⟩,⟨rfl,rfl⟩,⟨rfl,rfl⟩,⟨rfl,rfl⟩,⟨rfl,rfl⟩,⟨rfl,rfl⟩,trivial⟩ ⟨⟨rfl,.inl ⟨2,rfl,rfl⟩⟩,trivial⟩
 . rintro ⟨⟨k,best⟩,hk,hlt2,hi⟩
   dsimp only at hk hlt2 hi
   conv=>whnf
   refine zaf (fun h=>?_) (fun h=>?_)
   . have hlt:k < s.had.length:=by simpa using h
     have hW:W ((k:Int)+1)=((k+1:Nat):Int):=W_nat hlt h9
     rw [List.drop_eq_getElem_cons hlt] at hi
     simp only [zdc] at hi
     have fin:∀ {b':Int} {s':HS},b' < s.had.length -> zdc q s.had b' (k+1) (s.had.drop (k+1))=zdc q s.had (-1) 0 s.had -> s'.n=40 -> s'.pins=[] -> s'.slot 1=qs q -> s'.slot 2=.ptr 2 0 -> s'.slot 5=i64 b' -> s'.slot 9=ints s.had -> s'.slot 10=i64 (s.had.map fun n=>[pi n]).length -> s'.slot 11=i64 (W (k+1)) ->
      s'.heap 2=.live (.cells 28 s.cells) -> ∃ x':{ x:Nat × Int // x.1 <= s.had.length /\ x.2 < s.had.length /\ zdc q s.had x.2 x.1 (s.had.drop x.1)=zdc q s.had (-1) 0 s.had },HLe s' (match x' with | ⟨(k,best),_⟩=>hs 40 [(1,qs q),(2,.ptr 2 0),(5,i64 best),(9,ints s.had),(10,i64 (s.had.map fun n=>[pi n]).length),(11,i64 k)] [(2,.live (.cells 28 s.cells))]) /\ s.had.length - x'.1.1 < s.had.length - k:=by
      intro b' s' a1 a2 a3 a4 a5 a6 a7 a8 a9 a10 a11
      rw [hW] at a10
      exact ⟨⟨(k+1,b'),hlt,a1,a2⟩,zbm [(2,some 2)] a3.symm a4.symm rfl rfl ⟨⟨rfl,a5.symm⟩,⟨rfl,a6.symm⟩,⟨rfl,a7.symm⟩,⟨rfl,a8.symm⟩,⟨rfl,a9.symm⟩,⟨rfl,a10.symm⟩,trivial⟩ ⟨⟨rfl,.inl ⟨2,rfl,a11⟩⟩,trivial⟩,by dsimp only;omega⟩
     conv=>whnf
     refine hcut.go ?_;conv=>whnf
     refine zbi (r:=[pi s.had[k]]) (by omega) (by simp [hlt]) ?_
     conv=>whnf
     refine zar ?_;conv=>whnf
     refine ⟨_,zjj q k hb,rfl,?_⟩;conv=>whnf
     refine zaf (fun c1=>?_) (fun c1=>?_)
     . conv=>whnf
       refine zaf (fun c2=>?_) (fun c2=>?_)
       . conv=>whnf
         refine zbp ?_;conv=>whnf
         rw [if_pos ⟨of_decide_eq_true c1,.inl (of_decide_eq_true c2)⟩] at hi
         exact fin (by omega) hi rfl rfl rfl rfl rfl rfl rfl rfl rfl
       . conv=>whnf
         have hb0:¬ best < 0:=of_decide_eq_false c2
         refine zbi (r:=[pi s.had[best.toNat]]) (by omega) (by simp [show best.toNat < s.had.length by omega]) ?_
         conv=>whnf
         refine zaf (fun c3=>?_) (fun c3=>?_)
         . conv=>whnf
           refine zbp ?_;conv=>whnf
           rw [if_pos ⟨of_decide_eq_true c1,.inr (by simpa [show best.toNat < s.had.length by omega] using c3)⟩] at hi
           exact fin (by omega) hi rfl rfl rfl rfl rfl rfl rfl rfl rfl
         . conv=>whnf
           refine zbp ?_;conv=>whnf
           rw [if_neg (by rintro ⟨_,h | h⟩;exact hb0 h;have:=of_decide_eq_false c3;simp [show best.toNat < s.had.length by omega] at h;omega)] at hi
           exact fin (by omega) hi rfl rfl rfl rfl rfl rfl rfl rfl rfl
     . conv=>whnf
       refine zbp ?_;conv=>whnf
       rw [if_neg (by rintro ⟨h,_⟩;exact of_decide_eq_false c1 h)] at hi
       exact fin (by omega) hi rfl rfl rfl rfl rfl rfl rfl rfl rfl
   . have hge:s.had.length <= k:=by simpa using h
     rw [List.drop_eq_nil_of_le hge] at hi
     simp only [zdc] at hi
     conv=>whnf
     refine zaf (fun c1=>?_) (fun c1=>?_)
     . conv=>whnf
       rw [least,<- hi,if_pos (of_decide_eq_true c1)]
     . conv=>whnf
       refine zar ?_;conv=>whnf
       refine ⟨_,zjj q best hb,rfl,?_⟩;conv=>whnf
       rw [least,<- hi,if_neg (of_decide_eq_false c1)]
def zem (q:List Queued) (k:Nat):Nat -> Int
 | 0=>-1
 | n+1=>if first q k >= 0 then first q k else zem q (k+1) n
def zlg (s:Sched) (q:List Queued):Int:=zbl (fun m:Queued=>m.id == s.hand) 0 q
def next (turns:Int) (s:Sched) (q:List Queued):Int :=
 if (q.length:Int)=0 then -1 else if (s.had.length:Int)=0 then -1 else
 if turns=2 then (if zlg s q >= 0 then zlg s q else after q s.last s.had.length 0 s.had.length) else
 if turns=3 then after q s.last s.had.length 0 s.had.length else
 if turns=4 then zem q 0 s.had.length else
 if turns=5 then least s q else 0
theorem zqa (turns:Int) (s:Sched) (q:List Queued) (h9:s.had.length < 2 ^ 62) (hb:q.length < 2 ^ 62):FunOK Tryz.prog 135 [i64 turns,s.hv,qs q] zad (i64 (next turns s q)) zad:=by
 refine zai mixed Tryz.func135 (by decide) ?_
 have hl:(s.had.map fun n=>[pi n]).length=s.had.length:=by simp
 have hl2:(q.map Queued.row).length=q.length:=by simp
 have haft:0 < s.had.length -> FunOK Tryz.prog 164 [qs q,i64 s.last,i64 (s.had.map fun n=>[pi n]).length] zad (i64 (after q s.last s.had.length 0 s.had.length)) zad:=by
  intro h0
  have:=yim q s.last s.had.length (by omega) (by omega) hb
  rw [hl]
  simpa using this
 conv=>whnf
 refine zaf (fun c1=>?_) (fun c1=>?_)
 . have c1:(q.length:Int)=0:=by simpa using c1
   conv=>whnf
   rw [next,if_pos c1]
 have c1:¬ (q.length:Int)=0:=by simpa using c1
 rw [next,if_neg c1]
 conv=>whnf
 refine zaf (fun c2=>?_) (fun c2=>?_)
 . have c2:(s.had.length:Int)=0:=by simpa using c2
   conv=>whnf
   rw [if_pos c2]
 have c2:¬ (s.had.length:Int)=0:=by simpa using c2
 rw [if_neg c2]
 conv=>whnf
 refine zaf (fun c3=>?_) (fun c3=>?_)
 . have c3:turns=2:=by simpa using c3
   rw [if_pos c3]
   conv=>whnf
   refine zar ?_;conv=>whnf
   refine ⟨_,yfo (fun m=>zmq m s) q hb,rfl,?_⟩
   show _
   conv=>whnf
   refine zaf (fun c4=>?_) (fun c4=>?_)
   . have c4:zlg s q >= 0:=of_decide_eq_true c4
     rw [if_pos c4]
     conv=>whnf
     rfl
   . have c4:¬ zlg s q >= 0:=of_decide_eq_false c4
     rw [if_neg c4]
     conv=>whnf
     refine zar ?_;conv=>whnf
     refine ⟨_,haft (by omega),rfl,?_⟩
     conv=>whnf
 have c3:¬ turns=2:=by simpa using c3
 rw [if_neg c3]
 conv=>whnf
 refine zaf (fun c4=>?_) (fun c4=>?_)
 . have c4:turns=3:=by simpa using c4
   rw [if_pos c4]
   conv=>whnf
   refine zar ?_;conv=>whnf
   refine ⟨_,haft (by omega),rfl,?_⟩
   conv=>whnf
 have c4:¬ turns=3:=by simpa using c4
 rw [if_neg c4]
 conv=>whnf
 refine zaf (fun c5=>?_) (fun c5=>?_)
 . have c5:turns=4:=by simpa using c5
   rw [if_pos c5]
   conv=>whnf
   refine ⟨{ k:Nat // k <= s.had.length /\ zem q k (s.had.length - k)=zem q 0 s.had.length },fun | ⟨k,_⟩=>hs 64 [(2,qs q),(47,i64 s.had.length),(48,i64 k)] [],fun k=>s.had.length - k.1,⟨0,by omega,rfl⟩,?_,?_⟩
   . exact zbm [] rfl rfl rfl rfl ⟨⟨rfl,rfl⟩,⟨rfl,by rw [<- hl];rfl⟩,⟨rfl,rfl⟩,trivial⟩ trivial
   . rintro ⟨k,hk,hi⟩
     conv=>whnf
     refine zaf (fun h=>?_) (fun h=>?_)
     . have hlt:k < s.had.length:=by simpa using h
       conv=>whnf
       refine zar ?_;conv=>whnf
       refine ⟨_,zjj q k hb,rfl,?_⟩;conv=>whnf
       obtain ⟨j,hj⟩:∃ j,s.had.length - k=j+1:=⟨s.had.length - k - 1,by omega⟩
       rw [hj] at hi
       simp only [zem] at hi
       refine zaf (fun h=>?_) (fun h=>?_)
       . conv=>whnf
         rw [if_pos (of_decide_eq_true h)] at hi
         rw [<- hi]
       . conv=>whnf
         rw [if_neg (of_decide_eq_false h)] at hi
         refine zam (W_fit (by omega) (by omega)) ?_
         conv=>whnf
         exact ⟨⟨k+1,by omega,by rw [show s.had.length - (k+1)=j by omega];exact hi⟩,zbm [] rfl rfl rfl rfl ⟨⟨rfl,rfl⟩,⟨rfl,rfl⟩,⟨rfl,by simp;rfl⟩,trivial⟩ trivial,by dsimp only;omega⟩
     . conv=>whnf
       have hge:s.had.length <= k:=by simpa using h
       rw [show s.had.length - k=0 by omega] at hi
       rw [<- hi];rfl
 have c5:¬ turns=4:=by simpa using c5
 rw [if_neg c5]
 conv=>whnf
 refine zaf (fun c6=>?_) (fun c6=>?_)
 . have c6:turns=5:=by simpa using c6
   rw [if_pos c6]
   conv=>whnf
   refine zar ?_;conv=>whnf
   refine ⟨_,yin s q h9 hb,rfl,?_⟩
   conv=>whnf
 have c6:¬ turns=5:=by simpa using c6
 rw [if_neg c6]
 conv=>whnf
theorem yio (l:List Int) (hb:l.length < 2 ^ 40):FunOK Tryz.prog 74 [ints l] zad (.own 0) (lk .free [(0,.live (.row 3 1 (l.map fun n=>[pi n])))]):=by
 refine zal mixed Tryz.func74 (by decide) [] (fun _=>.inl rfl) ?_
 conv=>whnf
 intro b hn
 conv=>whnf
 refine zaf (fun c=>?_) (fun c=>?_)
 . conv=>whnf
   exact yy35
 . conv=>whnf
   refine zaa (c:=(([]:List (List PV)).length+(l.map fun n=>[pi n]).length) * 8 <= 140737488355328) (by simp;omega) ?_
   exact yy25
theorem zci (s:Sched) (hb:s.had.length < 2 ^ 40):FunOK Tryz.prog 71 [s.hv] zad (.agg [i64 s.last,i64 s.hand,.own 0]) (lk .free [(0,.live (.row 3 1 (s.had.map fun n=>[pi n])))]):=by
 refine zal mixed Tryz.func71 (by decide) [] (fun _=>.inl rfl) ?_
 conv=>whnf
 refine zao [(0,5)] ?_;conv=>whnf
 refine ⟨_,_,yio s.had hb,⟨⟨⟨rfl,rfl⟩,trivial⟩,rfl,rfl,rfl⟩,?_⟩
 conv=>whnf
 exact zak [(0,some 5)] rfl rfl trivial rfl rfl ⟨⟨rfl,.inl ⟨5,rfl,rfl⟩⟩,trivial⟩
def had (s:Sched) (m:Queued) (bytes:Int) (over:Bool):Sched :=
 ⟨m.message.stream,if over then -1 else m.id,if 0 <= m.message.stream /\ m.message.stream < s.had.length then s.had.set m.message.stream.toNat (W (s.had[m.message.stream.toNat]?.getD 0+bytes)) else s.had⟩
def new (n:Int):Sched:=⟨W (n - 1),-1,List.replicate (max n 0).toNat 0⟩
end Sch
namespace Ser
abbrev spans (l:List Span):HV:=.p (.sl 2 (l.map Span.row))
def tag (n:Int):Int:=n % 65536
def near (a t:Int):Int:=W (a+(if tag (W (t - a)) > 32768 then tag (W (t - a)) - 65536 else tag (W (t - a))))
theorem ylx (n:Int):0 <= tag n /\ tag n < 65536:=by unfold tag;omega
theorem W_tag (z:Int):tag (W z)=tag z:=by
 unfold tag W IntKind.wrap
 simp [IntKind.bits,IntKind.signed]
 omega
theorem zfy {a t:Int} (h1:-(2 ^ 61) <= a) (h2:a <= 2 ^ 61):a - 32767 <= near a t /\ near a t <= a+32768 /\ tag (near a t)=tag t:=by
 have h3:=ylx (W (t - a))
 have h4:=W_tag (t - a)
 unfold near
 split
 . rw [W_fit (by omega) (by omega)];refine ⟨by omega,by omega,?_⟩;rw [h4];unfold tag;omega
 . rw [W_fit (by omega) (by omega)];refine ⟨by omega,by omega,?_⟩;rw [h4];unfold tag;omega
theorem yfp {a t:Int} {d:Nat} (h1:-(2 ^ 41) <= a) (h2:a <= 2 ^ 41) (hd:d <= 32768) (h:tag (a+d)=tag t):near a t=a+d:=by
 have h4:=W_tag (t - a)
 have h5:tag (t - a)=d:=by unfold tag at h ⊢;omega
 unfold near
 rw [h4,h5,if_neg (by omega),W_fit (by omega) (by omega)]
theorem yly {a t:Int} {d:Nat} (h1:-(2 ^ 41) <= a) (h2:a <= 2 ^ 41) (hd:d < 32768) (h0:tag (a+d) ≠ tag t) (h:tag (a - d)=tag t):near a t=a - d:=by
 have h4:=W_tag (t - a)
 have h5:tag (t - a)=65536 - d:=by unfold tag at h h0 ⊢;omega
 unfold near
 rw [h4,h5,if_pos (by omega),W_fit (by omega) (by omega)];omega
theorem yqp {a t:Int} (h:∀ j:Nat,j < 32768 -> tag (a+j) ≠ tag t /\ tag (a - j) ≠ tag t):tag (a+(32768:Nat))=tag t:=by
 have h5:=ylx (t - a)
 by_cases c:tag (t - a) < 32768
 . exact absurd (by unfold tag at c h5 ⊢;omega) (h (tag (t - a)).toNat (by omega)).1
 . by_cases c2:tag (t - a)=32768
   . unfold tag at c2 ⊢;omega
   . exact absurd (by unfold tag at c c2 h5 ⊢;omega) (h (65536 - tag (t - a)).toNat (by omega)).2
def has (l:List Span) (n:Int):Bool:=l.any fun s=>decide (s.lo <= n) && decide (n <= s.hi)
theorem zcg (n:Int):FunOK Tryz.prog 121 [i64 n] zad (i64 (tag n)) zad:=by
 refine zai mixed Tryz.func121 (by decide) ?_
 conv=>whnf
 show i64 (bits .and .i64 n 65535)=_
 rw [ytu];rfl
theorem yqq (n:Int):(n.tmod 65536+65536).tmod 65536=tag n:=by
 have h1:=Int.tmod_lt_of_pos n (show (0:Int) < 65536 by decide)
 have h2:-65536 < n.tmod 65536:=by
  have:=Int.lt_tmod_of_pos n (show (0:Int) < 65536 by decide);omega
 have h3:=Int.mul_tdiv_add_tmod n 65536
 rw [Int.tmod_eq_emod_of_nonneg (by omega)]
 unfold tag
 generalize n.tmod 65536=x at *
 generalize n.tdiv 65536=y at *
 omega
theorem zbv (n:Int):FunOK Tryz.prog 100 [i64 n] zad (i64 (tag n)) zad:=by
 refine zai mixed Tryz.func100 (by decide) ?_
 have h1:=Int.tmod_lt_of_pos n (show (0:Int) < 65536 by decide)
 have h2:-65536 < n.tmod 65536:=by
  have:=Int.lt_tmod_of_pos n (show (0:Int) < 65536 by decide);omega
 conv=>whnf
 refine zaa (by decide) ?_;conv=>whnf
 refine sFm ?_
 refine zaa (by decide) ?_;conv=>whnf
 show i64 ((n.tmod 65536+65536).tmod 65536)=_
 rw [yqq]
theorem zhc (a t:Int):FunOK Tryz.prog 76 [i64 a,i64 t] zad (i64 (near a t)) zad:=by
 refine zai mixed Tryz.func76 (by decide) ?_
 have h3:=ylx (W (t - a))
 conv=>whnf
 refine sR ?_
 (refine cL ?_;refine dL (zcg _) ?_)
 (try (refine hcut.go ?_;conv=>whnf))
 refine zaf (fun c=>?_) (fun c=>?_)
 . have c:tag (W (t - a)) > 32768:=by simpa using c
   conv=>whnf
   refine zam (z:=tag (W (t - a)) - 65536) (W_fit (by omega) (by omega)) ?_;conv=>whnf
   refine sR ?_
   rw [near,if_pos c]
 . have c:¬ tag (W (t - a)) > 32768:=by simpa using c
   conv=>whnf
   refine sR ?_
   rw [near,if_neg c]
structure RN (a t:Int) (d:Int):Prop where
 lo:0 <= d
 le:d <= 32768
 no:∀ j:Nat,j < d -> tag (a+j) ≠ tag t /\ tag (a - j) ≠ tag t
theorem zhd (a t:Int) (h1:-(2 ^ 40) <= a) (h2:a <= 2 ^ 40):FunOK Tryz.prog 83 [i64 a,i64 t] zad (i64 (near a t)) zad:=by
 refine zai mixed Tryz.func83 (by decide) ?_
 conv=>whnf
 refine ⟨{ d:Int // RN a t d },fun | ⟨d,_⟩=>hs 41 [(0,i64 a),(1,i64 t),(5,i64 d)] [],fun x=>(32768 - x.1).toNat,⟨0,by omega,by omega,fun j hj=>absurd hj (by omega)⟩,?_,?_⟩
 . exact (hle_Q [])
 rintro ⟨d,hdn⟩
 have hd0:=hdn.lo
 have hd:=hdn.le
 have hno:=hdn.no
 conv=>whnf
 refine zaf (fun c1=>?_) (fun c1=>?_)
 . have c1:d < 32768:=of_decide_eq_true c1
   obtain ⟨n,hn⟩:∃ n:Nat,d=n:=⟨d.toNat,by omega⟩
   conv=>whnf
   refine sFm ?_
   (refine cL ?_;refine dL (zbv _) ?_)
   (refine cL ?_;refine dL (zbv _) ?_)
   refine zaf (fun c2=>?_) (fun c2=>?_)
   . have c2:tag (a+d) ≠ tag t:=by simpa using c2
     conv=>whnf
     refine sFm ?_
     (refine cL ?_;refine dL (zbv _) ?_)
     (refine cL ?_;refine dL (zbv _) ?_)
     refine zaf (fun c3=>?_) (fun c3=>?_)
     . have c3:tag (a - d) ≠ tag t:=by simpa using c3
       conv=>whnf
       refine sFm ?_
       refine ⟨⟨d+1,by omega,by omega,fun j hj=>?_⟩,(hle_Q []),by dsimp only;omega⟩
       by_cases hjd:(j:Int)=d
       . rw [hjd];exact ⟨c2,c3⟩
       . exact hno j (by omega)
     . have c3:tag (a - d)=tag t:=by simpa using c3
       conv=>whnf
       refine sFm ?_
       (refine cL ?_;refine dL (zbv _) ?_)
       (refine cL ?_;refine dL (zbv _) ?_)
       refine zab (by simpa using c2) ?_
       conv=>whnf
       refine sFm ?_
       rw [hn] at c1 c2 c3 ⊢;rw [yly (by omega) (by omega) (by omega) c2 c3]
   . have c2:tag (a+d)=tag t:=by simpa using c2
     conv=>whnf
     refine sFm ?_
     (refine cL ?_;refine dL (zbv _) ?_)
     (refine cL ?_;refine dL (zbv _) ?_)
     refine zac (by simpa using c2) ?_
     conv=>whnf
     refine sFm ?_
     rw [hn] at c2 ⊢;rw [yfp (by omega) (by omega) (by omega) c2]
 . have c1:d=32768:=by have:=of_decide_eq_false c1;omega
   subst c1
   have c2:tag (a+32768)=tag t:=yqp fun j hj=>hno j (by omega)
   conv=>whnf
   refine sFm ?_
   (refine cL ?_;refine dL (zbv _) ?_)
   (refine cL ?_;refine dL (zbv _) ?_)
   refine zac (by simpa using c2) ?_
   conv=>whnf
   refine sFm ?_
   rw [yfp (d:=32768) (by omega) (by omega) (Nat.le_refl _) c2];rfl
theorem yqr {g:FuncId} {cs:List PV} {p:Span -> Bool} (hg:∀ m:Span,FunOK Tryz.prog g [m.hv,.rp cs] zad (hbool (p m)) zad) (q:List Span) (hb:q.length < 2 ^ 62) :
 FunOK Tryz.prog 185 [.p (.sl 2 (q.map Span.row)),.clo g [.rp cs]] zad (i64 (zbl p 0 q)) zad:=by
 refine zai mixed Tryz.func185 (by decide) ?_
 conv=>whnf
 refine ⟨{ k:Nat // k <= q.length /\ zbl p k (q.drop k)=zbl p 0 q },fun | ⟨k,_⟩=>hs 19 [(0,.p (.sl 2 (q.map Span.row))),(1,.clo g [.rp cs]),(7,i64 (q.map Span.row).length),(8,i64 k)] [],fun k=>q.length - k.1,⟨0,by simp⟩,?_,?_⟩
 . exact (hle_Q [])
 . rintro ⟨k,hk,hi⟩
   exact yy5
theorem ylz (s:Span) (n:Int):FunOK Tryz.prog 156 [s.hv,.rp [pi n]] zad (hbool (decide (s.lo <= n) && decide (n <= s.hi))) zad:=by
 refine zai mixed Tryz.func156 (by decide) ?_
 conv=>whnf
 refine zaf (fun c=>?_) (fun c=>?_) <;> conv=>whnf
 . show hbool (decide (n <= s.hi))=_;rw [show decide (s.lo <= n)=true from c,Bool.true_and]
 . rw [show decide (s.lo <= n)=false from c,Bool.false_and]
theorem zvf {α:Type} {p:α -> Bool}:∀ (l:List α) (k:Nat),decide (zbl p k l >= 0)=l.any p
 | [],k=>rfl
 | x :: r,k=>by
  simp only [zbl,List.any_cons]
  split
  . rename_i h;rw [h];simp
  . rename_i h;rw [zvf r];simp [h]
theorem zvg {g:FuncId} {cs:List PV} {p:Span -> Bool} (hg:∀ m:Span,FunOK Tryz.prog g [m.hv,.rp cs] zad (hbool (p m)) zad) (q:List Span) (hb:q.length < 2 ^ 62) :
 FunOK Tryz.prog 155 [spans q,.clo g [.rp cs]] zad (hbool (q.any p)) zad:=by
 refine zai mixed Tryz.func155 (by decide) ?_
 conv=>whnf
 (refine cZ ?_;refine dL (yqr hg q hb) ?_)
 show hbool (decide (zbl p 0 q >= 0))=_
 rw [zvf]
theorem yfq (l:List Span) (n:Int) (hb:l.length < 2 ^ 62):FunOK Tryz.prog 120 [spans l,i64 n] zad (hbool (has l n)) zad:=by
 refine zai mixed Tryz.func120 (by decide) ?_
 conv=>whnf
 (refine cL ?_;refine dL (zvg (fun m=>ylz m n) l hb) ?_)
 rfl
theorem ycm (l:List Span) (n:Int) (hb:l.length < 2 ^ 62):FunOK Tryz.prog 128 [spans l,i64 n] zad (hbool (has l n)) zad:=by
 refine zai mixed Tryz.func128 (by decide) ?_
 conv=>whnf
 refine ⟨{ k:Nat // k <= l.length /\ has (l.drop k) n=has l n },fun | ⟨k,_⟩=>hs 24 [(1,i64 n),(7,spans l),(8,i64 l.length),(9,i64 k)] [],fun x=>l.length - x.1,⟨0,by simp⟩,?_,?_⟩
 . exact (hle_Q [])
 rintro ⟨k,hk,hi⟩
 conv=>whnf
 refine zaf (fun c=>?_) (fun c=>?_)
 . have hlt:k < l.length:=by simpa using c
   rw [List.drop_eq_getElem_cons hlt,has,List.any_cons] at hi
   conv=>whnf
   refine zbe k rfl hlt ?_;conv=>whnf
   generalize l[k]=s at hi ⊢
   refine zaf (fun c1=>?_) (fun c1=>?_)
   . have c1:s.lo <= n:=of_decide_eq_true c1
     conv=>whnf
     refine zaf (fun c2=>?_) (fun c2=>?_)
     . have c2:n <= s.hi:=of_decide_eq_true c2
       conv=>whnf
       rw [<- hi,decide_eq_true c1,decide_eq_true c2];rfl
     . have c2:¬ n <= s.hi:=of_decide_eq_false c2
       conv=>whnf
       refine sFm ?_
       exact ⟨⟨k+1,hlt,by rw [<- hi,decide_eq_false c2];simp [has]⟩,(hle_Q []),by dsimp only;omega⟩
   . have c1:¬ s.lo <= n:=of_decide_eq_false c1
     conv=>whnf
     refine sFm ?_
     exact ⟨⟨k+1,hlt,by rw [<- hi,decide_eq_false c1];simp [has]⟩,(hle_Q []),by dsimp only;omega⟩
 . have hge:l.length <= k:=by simpa using c
   rw [List.drop_eq_nil_of_le hge] at hi
   conv=>whnf
   rw [<- hi];rfl
end Ser
namespace Sco
open Ser
abbrev sents (l:List Sent):HV:=.p (.sl 20 (l.map Sent.row))
abbrev skips (l:List Skip):HV:=.p (.sl 3 (l.map Skip.row))
abbrev sentB (l:List Sent):HSlot:=.live (.row 134 20 (l.map Sent.row))
abbrev skipB (l:List Skip):HSlot:=.live (.row 180 3 (l.map Skip.row))
abbrev intB (l:List Int):HSlot:=.live (.row 3 1 (l.map fun n=>[pi n]))
def total (l:List Sent):Nat:=(l.map fun s=>s.chunk.data.length).sum
theorem zfi (a b:List Sent):total (a++b)=total a+total b:=by simp [total]
theorem zej (s:Sent) (b:List Sent):total (s :: b)=s.chunk.data.length+total b:=by simp [total]
structure Sized (l:List Sent):Prop where
 len:l.length < 2 ^ 38
 bytes:total l < 2 ^ 38
theorem zcf (l:List UInt8) (hb:l.length < 2 ^ 40):FunOK Tryz.prog 70 [.p (.sl 1 (l.map bRow))] zad (.own 0) (lk .free [(0,.live (.row 5 1 (l.map bRow)))]):=by
 refine zal mixed Tryz.func70 (by decide) [] (fun _=>.inl rfl) ?_
 conv=>whnf
 intro b hn
 conv=>whnf
 refine zaf (fun c=>?_) (fun c=>?_)
 . conv=>whnf
   exact yy35
 . conv=>whnf
   refine zaa (c:=(([]:List (List PV)).length+(l.map bRow).length) * 1 <= 140737488355328) (by simp;omega) ?_
   exact yy25
theorem ycn (l:List Skip) (hb:l.length < 2 ^ 40):FunOK Tryz.prog 157 [.p (.sl 3 (l.map Skip.row))] zad (.own 0) (lk .free [(0,.live (.row 180 3 (l.map Skip.row)))]):=by
 refine zal mixed Tryz.func157 (by decide) [] (fun _=>.inl rfl) ?_
 conv=>whnf
 intro b hn
 conv=>whnf
 refine zaf (fun c=>?_) (fun c=>?_)
 . conv=>whnf
   exact yy35
 . conv=>whnf
   refine zaa (c:=(([]:List (List PV)).length+(l.map Skip.row).length) * 24 <= 140737488355328) (by simp;omega) ?_
   exact yy25
theorem zci (l:List Sent) (hl:Sized l):FunOK Tryz.prog 72 [sents l] zad (.own 0) (lk .free [(0,sentB l)]):=by
 obtain ⟨hl1,hl2⟩:=hl
 refine zal mixed Tryz.func72 (by decide) [] (fun _=>.inl rfl) ?_
 conv=>whnf
 refine ⟨{ x:List Sent × List Sent // l=x.1++x.2 },fun | ⟨(a,b),_⟩=>hs 24 [(3,.own 900),(6,sents l),(7,i64 l.length),(8,i64 a.length)] [(900,sentB a)],fun x=>x.1.2.length,⟨([],l),rfl⟩,?_,?_⟩
 . exact (hle_Q [(900,none)])
 rintro ⟨⟨a,b⟩,h⟩
 dsimp only at h
 cases b with
 | nil =>
  have hz:=zaz h
  conv=>whnf
  refine sN ?_
  refine zak [(0,some 900)] rfl rfl trivial rfl rfl ⟨⟨rfl,.inl ⟨900,rfl,?_⟩⟩,trivial⟩
  show sentB a=sentB l
  rw [h,List.append_nil]
 | cons s b =>
  have hz:=zat h
  rw [h,zfi,zej] at hl2
  conv=>whnf
  refine sT ?_
  refine zah h rfl ?_;conv=>whnf
  (refine zao [(0,15)]  ?_;(conv=>whnf);refine dO (zcf s.chunk.data (by omega)) ?_)
  refine zaa (c:=((a.map Sent.row).length+1) * 200 <= 140737488355328) om ?_
  conv=>whnf
  refine sF ?_
  exact ⟨⟨(a++[s],b),zag h⟩,(hle_X [(900,some 21)] (by repeat' (first | exact z0 | refine z1 ?_ | refine ⟨?_,?_⟩ | (exact zda rfl) | exact z2))),by simp⟩
def fl (path:Int) (l:List Sent):Nat:=(l.map fun s=>if s.state=1 /\ s.path=path then s.chunk.data.length else 0).sum
theorem yfr (p:Int) (a b:List Sent):fl p (a++b)=fl p a+fl p b:=by simp [fl]
theorem zqb (p:Int) (s:Sent):fl p [s]=if s.state=1 /\ s.path=p then s.chunk.data.length else 0:=by simp [fl]
theorem fl_le (p:Int):∀ l:List Sent,fl p l <= total l
 | []=>by simp [fl,total]
 | s :: r=>by
  have:=fl_le p r
  simp only [fl,total,List.map_cons,List.sum_cons] at this ⊢
  split <;> omega
theorem zkl (l:List Sent) (path:Int) (hl:Sized l):FunOK Tryz.prog 122 [sents l,i64 path] zad (i64 (fl path l)) zad:=by
 obtain ⟨hl1,hl2⟩:=hl
 refine zai mixed Tryz.func122 (by decide) ?_
 conv=>whnf
 refine ⟨{ x:List Sent × List Sent // l=x.1++x.2 },fun | ⟨(a,b),_⟩=>hs 31 [(1,i64 path),(5,i64 (fl path a)),(8,sents l),(9,i64 l.length),(10,i64 a.length)] [],fun x=>x.1.2.length,⟨([],l),rfl⟩,?_,?_⟩
 . exact (hle_Q [])
 rintro ⟨⟨a,b⟩,h⟩
 dsimp only at h
 cases b with
 | nil =>
  have hz:=zaz h
  conv=>whnf
  refine sN ?_
  rw [h,List.append_nil]
 | cons s b =>
  have hz:=zat h
  have hf:=fl_le path a
  rw [h,zfi,zej] at hl2
  have e1:=yfr path a [s]
  rw [zqb] at e1
  conv=>whnf
  refine sT ?_
  (try (refine hcut.go ?_;conv=>whnf))
  refine zah h rfl ?_;conv=>whnf
  refine zaf (fun c1=>?_) (fun c1=>?_)
  . conv=>whnf
    refine zaf (fun c2=>?_) (fun c2=>?_)
    . conv=>whnf
      rw [if_pos ⟨by simpa using c1,by simpa using c2⟩] at e1
      refine sF ?_
      exact yy24
    . conv=>whnf
      rw [if_neg (by rintro ⟨h1,h2⟩;simp [h2] at c2)] at e1
      exact yy24
  . conv=>whnf
    rw [if_neg (by rintro ⟨h1,h2⟩;simp [h1] at c1)] at e1
    exact yy24
def give (id:Int) (s:Sent):Sent:=if s.id=id /\ s.state ≠ 2 then { s with state:=4 } else s
def late (path:Int) (s:Sent):Sent:=if s.state=1 /\ s.path=path then { s with state:=3 } else s
theorem zlh (l:List Sent) (id:Int) (hl:Sized l):FunOK Tryz.prog 162 [sents l,i64 id] zad (.own 0) (lk .free [(0,sentB (l.map (give id)))]):=by
 have hl1:=hl.len
 refine zal mixed Tryz.func162 (by decide) [] (fun _=>.inl rfl) ?_
 conv=>whnf
 (refine zao [(0,8)]  ?_;(conv=>whnf);refine dO (zci l hl) ?_)
 refine ⟨{ x:List Sent × List Sent // l=x.1++x.2 },fun | ⟨(a,b),_⟩=>hs 35 [(1,i64 id),(5,.own 900),(10,i64 l.length),(11,i64 a.length)] [(900,sentB (a.map (give id)++b))],fun x=>x.1.2.length,⟨([],l),rfl⟩,?_,?_⟩
 . exact (hle_Q [(900,some 8)])
 rintro ⟨⟨a,b⟩,h⟩
 dsimp only at h
 cases b with
 | nil =>
  have hz:=zaz h
  conv=>whnf
  refine sN ?_
  refine zak [(0,some 900)] rfl rfl trivial rfl rfl ⟨⟨rfl,.inl ⟨900,rfl,?_⟩⟩,trivial⟩
  show sentB (a.map (give id)++[])=sentB (l.map (give id))
  rw [h,List.append_nil,List.append_nil]
 | cons s b =>
  have hz:=zat h
  have hm:a.length=(a.map (give id)).length:=by simp
  have e0:(a++[s]).map (give id)++b=a.map (give id)++give id s :: b:=by simp
  conv=>whnf
  refine sT ?_
  (try (refine hcut.go ?_;conv=>whnf))
  refine sO ?_
  refine zah (a:=a.map (give id)) (b:=b) (s:=s) rfl (by simp) ?_;conv=>whnf
  refine zaf (fun c1=>?_) (fun c1=>?_)
  . conv=>whnf
    refine sO ?_
    refine zah (a:=a.map (give id)) (b:=b) (s:=s) rfl (by simp) ?_;conv=>whnf
    refine zaf (fun c2=>?_) (fun c2=>?_)
    . have e1:give id s={ s with state:=4 }:=if_pos ⟨by simpa using c1,by simpa using c2⟩
      conv=>whnf
      refine sO ?_
      refine zah (a:=a.map (give id)) (b:=b) (s:=s) rfl (by simp) ?_;conv=>whnf
      exact yy100
    . have e1:give id s=s:=if_neg (by rintro ⟨_,h2⟩;exact h2 (by simpa using c2))
      exact yy43
  . have e1:give id s=s:=if_neg (by rintro ⟨h2,_⟩;simp [h2] at c1)
    exact yy43
theorem zpz (l:List Sent) (path:Int) (hl:Sized l):FunOK Tryz.prog 90 [sents l,i64 path] zad (.own 0) (lk .free [(0,sentB (l.map (late path)))]):=by
 have hl1:=hl.len
 refine zal mixed Tryz.func90 (by decide) [] (fun _=>.inl rfl) ?_
 conv=>whnf
 (refine zao [(0,8)]  ?_;(conv=>whnf);refine dO (zci l hl) ?_)
 refine ⟨{ x:List Sent × List Sent // l=x.1++x.2 },fun | ⟨(a,b),_⟩=>hs 35 [(1,i64 path),(5,.own 900),(10,i64 l.length),(11,i64 a.length)] [(900,sentB (a.map (late path)++b))],fun x=>x.1.2.length,⟨([],l),rfl⟩,?_,?_⟩
 . exact (hle_Q [(900,some 8)])
 rintro ⟨⟨a,b⟩,h⟩
 dsimp only at h
 cases b with
 | nil =>
  have hz:=zaz h
  conv=>whnf
  refine sN ?_
  refine zak [(0,some 900)] rfl rfl trivial rfl rfl ⟨⟨rfl,.inl ⟨900,rfl,?_⟩⟩,trivial⟩
  show sentB (a.map (late path)++[])=sentB (l.map (late path))
  rw [h,List.append_nil,List.append_nil]
 | cons s b =>
  have hz:=zat h
  have hm:a.length=(a.map (late path)).length:=by simp
  have e0:(a++[s]).map (late path)++b=a.map (late path)++late path s :: b:=by simp
  conv=>whnf
  refine sT ?_
  (try (refine hcut.go ?_;conv=>whnf))
  refine sO ?_
  refine zah (a:=a.map (late path)) (b:=b) (s:=s) rfl (by simp) ?_;conv=>whnf
  refine zaf (fun c1=>?_) (fun c1=>?_)
  . conv=>whnf
    refine sO ?_
    refine zah (a:=a.map (late path)) (b:=b) (s:=s) rfl (by simp) ?_;conv=>whnf
    refine zaf (fun c2=>?_) (fun c2=>?_)
    . have e1:late path s={ s with state:=3 }:=if_pos ⟨by simpa using c1,by simpa using c2⟩
      conv=>whnf
      refine sO ?_
      refine zah (a:=a.map (late path)) (b:=b) (s:=s) rfl (by simp) ?_;conv=>whnf
      exact yy100
    . have e1:late path s=s:=if_neg (by rintro ⟨_,h2⟩;simp [h2] at c2)
      exact yy43
  . have e1:late path s=s:=if_neg (by rintro ⟨h2,_⟩;simp [h2] at c1)
    exact yy43
def zcc (c:Chunk) (s:Skip):Bool:=s.stream == c.stream && s.ordered == c.ordered && (c.ordered || s.mid == c.mid)
def skip (c:Chunk):List Skip -> List Skip
 | []=>[⟨c.stream,c.mid,c.ordered⟩]
 | s :: r=>if zcc c s then ⟨s.stream,c.mid,s.ordered⟩ :: r else s :: skip c r
theorem zir {c:Chunk}:∀ {a:List Skip},(∀ s ∈ a,zcc c s=false) -> ∀ b,skip c (a++b)=a++skip c b
 | [],_,b=>rfl
 | s :: r,h,b=>by
  rw [List.cons_append,skip,if_neg (by rw [h s (by simp)];decide),zir fun x hx=>h x (by simp [hx])];rfl
theorem zqc (l:List Skip) (c:Chunk) (hl:l.length < 2 ^ 38):FunOK Tryz.prog 123 [skips l,c.hv] zad (.own 0) (lk .free [(0,skipB (skip c l))]):=by
 refine zal mixed Tryz.func123 (by decide) [] (fun _=>.inl rfl) ?_
 conv=>whnf
 (refine zao [(0,9)]  ?_;(conv=>whnf);refine dO (ycn l (by omega)) ?_)
 refine ⟨{ x:List Skip × List Skip // l=x.1++x.2 /\ ∀ s ∈ x.1,zcc c s=false },fun | ⟨(a,b),_⟩=>hs 58 [(3,.ptr 3 0),(5,.own 900),(10,.own 900),(11,i64 l.length),(12,i64 a.length)] [(3,.live (.cells 61 c.cells)),(900,skipB l)],fun x=>x.1.2.length,⟨([],l),rfl,by simp⟩,?_,?_⟩
 . exact (hle_Q [(3,some 3),(900,some 9)])
 rintro ⟨⟨a,b⟩,h,hno⟩
 dsimp only at h hno
 cases b with
 | nil =>
  have hz:=zaz h
  conv=>whnf
  refine sN ?_
  refine zaa (c:=((l.map Skip.row).length+1) * 24 <= 140737488355328) om ?_;conv=>whnf
  refine zak [(0,some 57)] rfl rfl trivial rfl rfl ⟨⟨rfl,.inl ⟨57,rfl,?_⟩⟩,trivial⟩
  have e1:=zir hno []
  rw [<- h] at e1
  exact (zda (f:=Skip.row) (a:=l) (x:=⟨c.stream,c.mid,c.ordered⟩) (by rw [e1,h,List.append_nil];rfl)).symm
 | cons s b =>
  have hz:=zat h
  have yes:zcc c s=true -> skip c l=a++⟨s.stream,c.mid,s.ordered⟩ :: b:=by
   intro hm
   rw [h,zir hno,skip,if_pos hm]
  have nxt:zcc c s=false -> ∀ x ∈ a++[s],zcc c x=false:=by
   intro hm x hx
   rcases List.mem_append.1 hx with hx | hx
   . exact hno x hx
   . rw [List.mem_singleton.1 hx];exact hm
  conv=>whnf
  refine sT ?_
  refine sO ?_
  refine zah h rfl ?_;conv=>whnf
  have hy:zcc c s=true -> HSlot.live (HBlk.row 180 3 (((l.map Skip.row).set a.length [pi s.stream,pi c.mid,pb s.ordered])))=skipB (skip c l):=by
   intro hm
   rw [yes hm,h]
   exact (zcw (f:=Skip.row) (a:=a) (b:=b) (x:=s) (y:=⟨s.stream,c.mid,s.ordered⟩) rfl rfl).symm
  simp only [zcc] at hy nxt
  refine zaf (fun c1=>?_) (fun c1=>?_)
  . conv=>whnf
    refine zaf (fun c2=>?_) (fun c2=>?_)
    . conv=>whnf
      refine zaf (fun c3=>?_) (fun c3=>?_)
      . conv=>whnf
        refine sO ?_
        refine zah h rfl ?_;conv=>whnf
        refine zak [(0,some 900)] rfl rfl trivial rfl rfl ⟨⟨rfl,.inl ⟨900,rfl,?_⟩⟩,trivial⟩
        exact hy (by rw [c1,c2,c3];rfl)
      . conv=>whnf
        refine zaf (fun c4=>?_) (fun c4=>?_)
        . conv=>whnf
          refine sO ?_
          refine zah h rfl ?_;conv=>whnf
          refine zak [(0,some 900)] rfl rfl trivial rfl rfl ⟨⟨rfl,.inl ⟨900,rfl,?_⟩⟩,trivial⟩
          exact hy (by rw [c1,c2,c3,c4];rfl)
        . conv=>whnf
          refine sF ?_
          exact ⟨⟨(a++[s],b),zag h,nxt (by simp only [c3,c4];simp)⟩,(hle_Q [(3,some 3),(900,some 900)]),by simp⟩
    . conv=>whnf
      refine sF ?_
      exact ⟨⟨(a++[s],b),zag h,nxt (by simp only [c2];simp)⟩,(hle_Q [(3,some 3),(900,some 900)]),by simp⟩
  . conv=>whnf
    refine sF ?_
    exact ⟨⟨(a++[s],b),zag h,nxt (by simp only [c1];simp)⟩,(hle_Q [(3,some 3),(900,some 900)]),by simp⟩
theorem zvh (c:Chunk):∀ l:List Skip,(skip c l).length <= l.length+1
 | []=>by simp [skip]
 | s :: r=>by
  have:=zvh c r
  simp only [skip];split <;> simp <;> omega
def zdg (cum:Int) (sk:List Skip):List Sent -> Int × List Skip
 | []=>(cum,sk)
 | s :: r=>if s.number ≠ W (cum+1) \/ (s.state ≠ 4 /\ s.state ≠ 2) then (cum,sk) else
  if s.state=4 then (if (skip s.chunk sk).length > 8 then (cum,sk) else zdg s.number (skip s.chunk sk) r) else zdg s.number sk r
def point (l:List Sent) (cum:Int):Int × List Skip:=zdg cum [] l
end Sco
namespace Sco
open Ser
def here (c:Chunk) (n:Int) (s:Sent):Bool:=decide (s.number <= n) || has c.spans (W (s.number - n))
def comes (c:Chunk) (n:Int) (s:Sent):Bool:=here c n s && (s.state == 1 || s.state == 3)
def turn (c:Chunk) (n:Int) (s:Sent):Sent:=if comes c n s then { s with state:=2 } else s
def left (c:Chunk) (n:Int) (l:List Sent):List Sent:=(l.filter fun s=>decide (s.number > n)).map (turn c n)
def addAt (come:List Int) (p x:Int):List Int:=come.set p.toNat (W (come[p.toNat]?.getD 0+x))
def come1 (c:Chunk) (n:Int) (come:List Int) (s:Sent):List Int:=if comes c n s then addAt come s.path s.chunk.data.length else come
def zqd (c:Chunk) (n:Int) (paths:Nat) (l:List Sent):List Int:=l.foldl (come1 c n) (List.replicate paths 0)
def high1 (c:Chunk) (n:Int) (h:Int) (s:Sent):Int:=if comes c n s then s.number else h
def znp (c:Chunk) (n:Int) (l:List Sent):Int:=l.foldl (high1 c n) 0
def age (h:Int) (s:Sent):Sent:=if s.state=1 /\ s.number < h then (if W (s.missed+1) >= 3 then { s with missed:=W (s.missed+1),state:=3 } else { s with missed:=W (s.missed+1) }) else s
def lost (h:Int) (l:List Sent):List Int:=(l.filter fun s=>decide (s.state=1 /\ s.number < h /\ W (s.missed+1) >= 3)).map Sent.number
def sack (l:List Sent) (cum:Int) (c:Chunk) (paths:Int):List Sent × Int × List Int × List Int :=
 if near cum c.tag < cum \/ near cum c.tag > cum+l.length then (l,cum,List.replicate paths.toNat 0,[]) else
  ((left c (near cum c.tag) l).map (age (znp c (near cum c.tag) l)),near cum c.tag,zqd c (near cum c.tag) paths.toNat l,lost (znp c (near cum c.tag) l) (left c (near cum c.tag) l))
structure Right (l:List Sent) (cum paths:Int):Prop where
 path:∀ s ∈ l,0 <= s.path /\ s.path < paths
 p0:1 <= paths
 p1:paths <= 2
 c0:-1 <= cum
 c1:cum < 2 ^ 39
 rise:∀ (i:Nat) s,l[i]?=some s -> s.number=cum+1+i
theorem Right.at {l:List Sent} {cum paths:Int} (h:Right l cum paths) {a b:List Sent} {s:Sent} (e:l=a++s :: b):s.number=cum+1+a.length /\ 0 <= s.path /\ s.path < paths :=
 ⟨h.rise a.length s (by rw [e];simp),h.path s (zef e)⟩
theorem yma (come:List Int) (p x:Int):(addAt come p x).length=come.length:=by simp [addAt]
theorem zjk (c:Chunk) (n:Int) (paths:Nat) (l:List Sent):(zqd c n paths l).length=paths:=by
 have gen:∀ (l:List Sent) (z:List Int),(l.foldl (come1 c n) z).length=z.length:=by
  intro l
  induction l with
  | nil=>intro z;rfl
  | cons s r ih=>intro z;rw [List.foldl_cons,ih,come1];split;exact yma _ _ _;rfl
 rw [zqd,gen];simp
structure SI (l:List Sent) (c:Chunk) (n:Int) (paths:Nat) (cum:Int) (x:List Sent × List Sent × List Sent × List Int × Int):Prop where
 split:l=x.1++x.2.1
 out:x.2.2.1=left c n x.1
 come:x.2.2.2.1=zqd c n paths x.1
 high:x.2.2.2.2=znp c n x.1
 h0:0 <= x.2.2.2.2
 h1:x.2.2.2.2 <= cum+1+x.1.length
theorem ymb (c:Chunk) (n:Int) (a:List Sent) (s:Sent):left c n (a++[s])=left c n a++if s.number > n then [turn c n s] else []:=by
 simp only [left,List.filter_append,List.map_append]
 congr 1
 by_cases h:s.number > n <;> simp [h]
theorem yco (c:Chunk) (n:Int) (p:Nat) (a:List Sent) (s:Sent):zqd c n p (a++[s])=come1 c n (zqd c n p a) s:=by simp [zqd]
theorem ycp (c:Chunk) (n:Int) (a:List Sent) (s:Sent):znp c n (a++[s])=high1 c n (znp c n a) s:=by simp [znp]
section
variable {l a b out:List Sent} {c:Chunk} {n cum high:Int} {paths:Nat} {come:List Int} {s:Sent}
theorem SI.next (h:SI l c n paths cum (a,s :: b,out,come,high)) (hs:s.number=cum+1+a.length) (hc:-1 <= cum) :
 SI l c n paths cum (a++[s],b,out++(if s.number > n then [turn c n s] else []),come1 c n come s,high1 c n high s):=by
 obtain ⟨h1,h2,h3,h4,h5,h6⟩:=h
 dsimp only at h1 h2 h3 h4 h5 h6
 refine ⟨zag h1,?_,?_,?_,?_,?_⟩ <;> dsimp only
 . rw [ymb,h2]
 . rw [yco,h3]
 . rw [ycp,h4]
 . rw [high1];split <;> omega
 . rw [high1];simp only [List.length_append,List.length_cons,List.length_nil];split <;> push_cast <;> omega
end
end Sco
namespace Chk
abbrev zvi (l:List Span):HV:=.p (.sl 2 (l.map Span.row))
abbrev zvj (l:List Skip):HV:=.p (.sl 3 (l.map Skip.row))
def small (n:Int):Bool:=decide (0 <= n /\ n < 65536)
def zcs (last:Int):List Span -> Int
 | []=>0
 | s :: r=>if s.lo <= last \/ s.hi < s.lo \/ ¬ (0 <= s.hi /\ s.hi < 65536) then 3 else zcs (s.hi+1) r
def zct:List Skip -> Int
 | []=>0
 | s :: r=>if s.stream < 0 \/ s.stream >= 4 \/ ¬ (0 <= s.mid /\ s.mid < 65536) then 3 else zct r
def wrong (c:Chunk):Int :=
 if c.kind < 1 \/ c.kind > 3 then 1 else
 if ¬ (0 <= c.tag /\ c.tag < 65536) then 3 else
 if c.kind=1 then
  if c.stream < 0 \/ c.stream >= 4 \/ ¬ (0 <= c.mid /\ c.mid < 65536) \/ c.part < 0 \/ c.part > 255 then 3 else
  if c.data.length < 1 \/ c.data.length > 16 then 4 else 0
 else if c.kind=2 then
  if ¬ (0 <= c.room /\ c.room < 65536) then 3 else
  if c.spans.length > 6 then 5 else zcs 1 c.spans
 else if c.skips.length > 8 then 5 else zct c.skips
theorem zmr (n:Int):FunOK Tryz.prog 202 [i64 n] zad (hbool (small n)) zad:=by
 refine zai mixed Tryz.func202 (by decide) ?_
 conv=>whnf
 refine zaf (fun h=>?_) (fun h=>?_) <;> conv=>whnf
 . have h:=of_decide_eq_true h
   rw [show decide (n < 65536)=small n from by simp only [small];congr 1;simp;omega]
 . have h:=of_decide_eq_false h
   rw [show small n=false from decide_eq_false (by omega)]
theorem zms (n:Int):FunOK Tryz.prog 190 [i64 n] zad (hbool (small n)) zad:=by
 refine zai mixed Tryz.func190 (by decide) ?_
 conv=>whnf
 refine zaf (fun h=>?_) (fun h=>?_) <;> conv=>whnf
 . have h:=of_decide_eq_true h
   rw [show decide (n <= 65535)=small n from by simp only [small];congr 1;simp;omega]
 . have h:=of_decide_eq_false h
   rw [show small n=false from decide_eq_false (by omega)]
theorem zst (c:Chunk) (h9:c.spans.length < 2 ^ 40) (h8:c.skips.length < 2 ^ 40):FunOK Tryz.prog 187 [c.hv] zad (i64 (wrong c)) zad:=by
 refine zai mixed Tryz.func187 (by decide) ?_
 conv=>whnf
 (repeat' (first | (refine zbp ?_;conv=>whnf) | (refine zaa ?_ ?_;(first | kernel_rfl | decide);conv=>whnf) | (refine zap ?_ ?_;kernel_rfl;conv=>whnf) | (refine hcut.go ?_;conv=>whnf) | (refine zar ?_;(conv=>whnf);refine ⟨_,zmr _,rfl,?_⟩;conv=>whnf) | (refine zaf (fun h=>?_) (fun h=>?_) <;> conv=>whnf)))
 all_goals try simp only [Bool.not_eq_true',Bool.not_eq_false',beq_iff_eq,beq_eq_false_iff_ne,decide_eq_true_eq,decide_eq_false_iff_not,small,List.length_map] at *
 all_goals first | (simp only [wrong];(repeat' split) <;> first | rfl | omega) | skip
 . have hw:wrong c=zcs 1 c.spans:=by simp only [wrong];(repeat' split) <;> first | rfl | omega
   rw [hw]
   refine ⟨{ x:Nat × Int // x.1 <= c.spans.length /\ zcs x.2 (c.spans.drop x.1)=zcs 1 c.spans /\ x.2 < 70000 /\ 0 < x.2 },fun | ⟨(k,last),_⟩=>hs 128 [(3,.clo 202 []),(4,i64 last),(100,zvi c.spans),(101,i64 c.spans.length),(102,i64 k)] [],fun x=>c.spans.length - x.1.1,⟨(0,1),by simp,rfl,by decide,by decide⟩,?_,?_⟩
   . exact zbm [] rfl rfl rfl rfl ⟨⟨rfl,rfl⟩,⟨rfl,rfl⟩,⟨rfl,rfl⟩,⟨rfl,by simp;rfl⟩,⟨rfl,rfl⟩,trivial⟩ trivial
   . rintro ⟨⟨k,last⟩,hk,hi,hlast,hlast0⟩
     dsimp only at hk hi hlast
     conv=>whnf
     refine zaf (fun h=>?_) (fun h=>?_)
     . have hlt:k < c.spans.length:=by simpa using h
       conv=>whnf
       refine zbi (r:=(c.spans[k]).row) (by omega) (by rw [Int.toNat_natCast,List.getElem?_map,List.getElem?_eq_getElem hlt];rfl) ?_
       rw [List.drop_eq_getElem_cons hlt] at hi
       simp only [zcs] at hi
       generalize c.spans[k]=s at hi ⊢
       conv=>whnf
       (repeat' (first | (refine zbp ?_;conv=>whnf) | (refine zaa ?_ ?_;(first | kernel_rfl | decide);conv=>whnf) | (refine zap ?_ ?_;kernel_rfl;conv=>whnf) | (refine hcut.go ?_;conv=>whnf) | (refine zar ?_;(conv=>whnf);refine ⟨_,zmr _,rfl,?_⟩;conv=>whnf) | (refine zaf (fun h=>?_) (fun h=>?_) <;> conv=>whnf)))
       all_goals try simp only [Bool.not_eq_true',Bool.not_eq_false',beq_iff_eq,beq_eq_false_iff_ne,decide_eq_true_eq,decide_eq_false_iff_not,small,List.length_map] at *
       all_goals first | (rw [if_pos (by omega)] at hi;rw [<- hi]) | skip
       rw [if_neg (by omega)] at hi
       have e2:W ((k:Int)+1)=((k+1:Nat):Int):=W_nat hlt (by omega)
       have e1:W (s.hi+1)=s.hi+1:=W_fit (by omega) (by omega)
       exact ⟨⟨(k+1,s.hi+1),hlt,hi,by dsimp only;omega,by dsimp only;omega⟩,zbm [] rfl rfl rfl rfl ⟨⟨rfl,rfl⟩,⟨rfl,congrArg i64 e1.symm⟩,⟨rfl,rfl⟩,⟨rfl,rfl⟩,⟨rfl,congrArg i64 e2.symm⟩,trivial⟩ trivial,by dsimp only;omega⟩
     . have hge:c.spans.length <= k:=by simpa using h
       rw [List.drop_eq_nil_of_le hge] at hi
       conv=>whnf
       rw [<- hi];rfl
 . have hw:wrong c=zct c.skips:=by simp only [wrong];(repeat' split) <;> first | rfl | omega
   rw [hw]
   refine ⟨{ k:Nat // k <= c.skips.length /\ zct (c.skips.drop k)=zct c.skips },fun | ⟨k,_⟩=>hs 128 [(3,.clo 202 []),(29,zvj c.skips),(30,i64 c.skips.length),(31,i64 k)] [],fun x=>c.skips.length - x.1,⟨0,by simp,rfl⟩,?_,?_⟩
   . exact zbm [] rfl rfl rfl rfl ⟨⟨rfl,rfl⟩,⟨rfl,rfl⟩,⟨rfl,by simp;rfl⟩,⟨rfl,rfl⟩,trivial⟩ trivial
   . rintro ⟨k,hk,hi⟩
     conv=>whnf
     refine zaf (fun h=>?_) (fun h=>?_)
     . have hlt:k < c.skips.length:=by simpa using h
       conv=>whnf
       refine zbi (r:=(c.skips[k]).row) (by omega) (by rw [Int.toNat_natCast,List.getElem?_map,List.getElem?_eq_getElem hlt];rfl) ?_
       rw [List.drop_eq_getElem_cons hlt] at hi
       simp only [zct] at hi
       generalize c.skips[k]=s at hi ⊢
       conv=>whnf
       (repeat' (first | (refine zbp ?_;conv=>whnf) | (refine zaa ?_ ?_;(first | kernel_rfl | decide);conv=>whnf) | (refine zap ?_ ?_;kernel_rfl;conv=>whnf) | (refine hcut.go ?_;conv=>whnf) | (refine zar ?_;(conv=>whnf);refine ⟨_,zmr _,rfl,?_⟩;conv=>whnf) | (refine zaf (fun h=>?_) (fun h=>?_) <;> conv=>whnf)))
       all_goals try simp only [Bool.not_eq_true',Bool.not_eq_false',beq_iff_eq,beq_eq_false_iff_ne,decide_eq_true_eq,decide_eq_false_iff_not,small,List.length_map] at *
       all_goals first | (rw [if_pos (by omega)] at hi;rw [<- hi]) | skip
       rw [if_neg (by omega)] at hi
       have e2:W ((k:Int)+1)=((k+1:Nat):Int):=W_nat hlt (by omega)
       exact ⟨⟨k+1,hlt,hi⟩,zbm [] rfl rfl rfl rfl ⟨⟨rfl,rfl⟩,⟨rfl,rfl⟩,⟨rfl,rfl⟩,⟨rfl,congrArg i64 e2.symm⟩,trivial⟩ trivial,by dsimp only;omega⟩
     . have hge:c.skips.length <= k:=by simpa using h
       rw [List.drop_eq_nil_of_le hge] at hi
       conv=>whnf
       rw [<- hi];rfl
theorem zex (c:Chunk) (h9:c.spans.length < 2 ^ 40) (h8:c.skips.length < 2 ^ 40):FunOK Tryz.prog 169 [c.hv] zad (i64 (wrong c)) zad:=by
 refine zai mixed Tryz.func169 (by decide) ?_
 conv=>whnf
 (repeat' (first | (refine zbp ?_;conv=>whnf) | (refine zaa ?_ ?_;(first | kernel_rfl | decide);conv=>whnf) | (refine zap ?_ ?_;kernel_rfl;conv=>whnf) | (refine hcut.go ?_;conv=>whnf) | (refine zar ?_;(conv=>whnf);refine ⟨_,zms _,rfl,?_⟩;conv=>whnf) | (refine zaf (fun h=>?_) (fun h=>?_) <;> conv=>whnf)))
 all_goals try simp only [Bool.not_eq_true',Bool.not_eq_false',beq_iff_eq,beq_eq_false_iff_ne,decide_eq_true_eq,decide_eq_false_iff_not,small,List.length_map] at *
 all_goals first | (simp only [wrong];(repeat' split) <;> first | rfl | omega) | skip
 . have hw:wrong c=zcs 1 c.spans:=by simp only [wrong];(repeat' split) <;> first | rfl | omega
   rw [hw]
   refine ⟨{ x:Nat × Int // x.1 <= c.spans.length /\ zcs x.2 (c.spans.drop x.1)=zcs 1 c.spans /\ x.2 < 70000 /\ 0 < x.2 },fun | ⟨(k,last),_⟩=>hs 121 [(3,i64 (last+1)),(69,zvi c.spans),(70,i64 c.spans.length),(71,i64 k)] [],fun x=>c.spans.length - x.1.1,⟨(0,1),by simp,rfl,by decide,by decide⟩,?_,?_⟩
   . exact zbm [] rfl rfl rfl rfl ⟨⟨rfl,rfl⟩,⟨rfl,rfl⟩,⟨rfl,by simp;rfl⟩,⟨rfl,rfl⟩,trivial⟩ trivial
   . rintro ⟨⟨k,last⟩,hk,hi,hlast,hlast0⟩
     dsimp only at hk hi hlast
     conv=>whnf
     refine zaf (fun h=>?_) (fun h=>?_)
     . have hlt:k < c.spans.length:=by simpa using h
       conv=>whnf
       refine zbi (r:=(c.spans[k]).row) (by omega) (by rw [Int.toNat_natCast,List.getElem?_map,List.getElem?_eq_getElem hlt];rfl) ?_
       rw [List.drop_eq_getElem_cons hlt] at hi
       simp only [zcs] at hi
       generalize c.spans[k]=s at hi ⊢
       conv=>whnf
       (repeat' (first | (refine zbp ?_;conv=>whnf) | (refine zaa ?_ ?_;(first | kernel_rfl | decide);conv=>whnf) | (refine zap ?_ ?_;kernel_rfl;conv=>whnf) | (refine hcut.go ?_;conv=>whnf) | (refine zar ?_;(conv=>whnf);refine ⟨_,zms _,rfl,?_⟩;conv=>whnf) | (refine zaf (fun h=>?_) (fun h=>?_) <;> conv=>whnf)))
       all_goals try simp only [Bool.not_eq_true',Bool.not_eq_false',beq_iff_eq,beq_eq_false_iff_ne,decide_eq_true_eq,decide_eq_false_iff_not,small,List.length_map] at *
       all_goals first | (rw [if_pos (by omega)] at hi;rw [<- hi]) | skip
       rw [if_neg (by omega)] at hi
       have e2:W ((k:Int)+1)=((k+1:Nat):Int):=W_nat hlt (by omega)
       have e1:W (s.hi+2)=s.hi+2:=W_fit (by omega) (by omega)
       exact ⟨⟨(k+1,s.hi+1),hlt,hi,by dsimp only;omega,by dsimp only;omega⟩,zbm [] rfl rfl rfl rfl ⟨⟨rfl,congrArg i64 (show W (s.hi+2)=s.hi+1+1 by rw [e1];omega).symm⟩,⟨rfl,rfl⟩,⟨rfl,rfl⟩,⟨rfl,congrArg i64 e2.symm⟩,trivial⟩ trivial,by dsimp only;omega⟩
     . have hge:c.spans.length <= k:=by simpa using h
       rw [List.drop_eq_nil_of_le hge] at hi
       conv=>whnf
       rw [<- hi];rfl
 . have hw:wrong c=zct c.skips:=by simp only [wrong];(repeat' split) <;> first | rfl | omega
   rw [hw]
   refine ⟨{ k:Nat // k <= c.skips.length /\ zct (c.skips.drop k)=zct c.skips },fun | ⟨k,_⟩=>hs 121 [(100,zvj c.skips),(101,i64 c.skips.length),(102,i64 k)] [],fun x=>c.skips.length - x.1,⟨0,by simp,rfl⟩,?_,?_⟩
   . exact zbm [] rfl rfl rfl rfl ⟨⟨rfl,rfl⟩,⟨rfl,by simp;rfl⟩,⟨rfl,rfl⟩,trivial⟩ trivial
   . rintro ⟨k,hk,hi⟩
     conv=>whnf
     refine zaf (fun h=>?_) (fun h=>?_)
     . have hlt:k < c.skips.length:=by simpa using h
       conv=>whnf
       refine zbi (r:=(c.skips[k]).row) (by omega) (by rw [Int.toNat_natCast,List.getElem?_map,List.getElem?_eq_getElem hlt];rfl) ?_
       rw [List.drop_eq_getElem_cons hlt] at hi
       simp only [zct] at hi
       generalize c.skips[k]=s at hi ⊢
       conv=>whnf
       (repeat' (first | (refine zbp ?_;conv=>whnf) | (refine zaa ?_ ?_;(first | kernel_rfl | decide);conv=>whnf) | (refine zap ?_ ?_;kernel_rfl;conv=>whnf) | (refine hcut.go ?_;conv=>whnf) | (refine zar ?_;(conv=>whnf);refine ⟨_,zms _,rfl,?_⟩;conv=>whnf) | (refine zaf (fun h=>?_) (fun h=>?_) <;> conv=>whnf)))
       all_goals try simp only [Bool.not_eq_true',Bool.not_eq_false',beq_iff_eq,beq_eq_false_iff_ne,decide_eq_true_eq,decide_eq_false_iff_not,small,List.length_map] at *
       all_goals first | (rw [if_pos (by omega)] at hi;rw [<- hi]) | skip
       rw [if_neg (by omega)] at hi
       have e2:W ((k:Int)+1)=((k+1:Nat):Int):=W_nat hlt (by omega)
       exact ⟨⟨k+1,hlt,hi⟩,zbm [] rfl rfl rfl rfl ⟨⟨rfl,rfl⟩,⟨rfl,rfl⟩,⟨rfl,congrArg i64 e2.symm⟩,trivial⟩ trivial,by dsimp only;omega⟩
     . have hge:c.skips.length <= k:=by simpa using h
       rw [List.drop_eq_nil_of_le hge] at hi
       conv=>whnf
       rw [<- hi];rfl
def row8 (l:List UInt8):HSlot:=.live (.row 5 1 (l.map bRow))
theorem ymc (n:Int):FunOK Tryz.prog 188 [hnil,i64 n] zad (.own 0) (lk .free [(0,row8 (enc16 n))]):=by
 refine zal mixed Tryz.func188 (by decide) [] (fun _=>.inl rfl) ?_
 conv=>whnf
 refine zaa (by decide) ?_;conv=>whnf
 refine zcj ?_;conv=>whnf
 refine zcj ?_;conv=>whnf
 refine zaa (c:=2 * 1 <= 140737488355328) (by decide) ?_;conv=>whnf
 exact zak [(0,some 12)] rfl rfl trivial rfl rfl ⟨⟨rfl,.inl ⟨12,rfl,rfl⟩⟩,trivial⟩
theorem zli (l:List UInt8) (n:Int) (hb:l.length < 2 ^ 40):FunOK Tryz.prog 188 [.own 1000,i64 n] (lk .free [(1000,row8 l)]) (.own 0) (lk .free [(1000,.dead),(0,row8 (l++enc16 n))]):=by
 refine zal mixed Tryz.func188 (by decide) [1000] (fun i=>zba i) ?_
 conv=>whnf
 refine zaa (by decide) ?_;conv=>whnf
 refine zcj ?_;conv=>whnf
 refine zcj ?_;conv=>whnf
 refine zaa (c:=((l.map bRow).length+2) * 1 <= 140737488355328) (by simp;omega) ?_;conv=>whnf
 refine zak [(1000,some 1000),(0,some 12)] rfl rfl ⟨rfl,trivial⟩ rfl rfl ⟨rfl,⟨rfl,.inl ⟨12,rfl,?_⟩⟩,trivial⟩
 show HSlot.live (.row _ 1 _)=HSlot.live (.row _ 1 ((l++enc16 n).map bRow))
 rw [List.map_append]
 rfl
theorem zvk (b:Bool) (n:Int):FunOK Tryz.prog 189 [hbool b,hint .u8 n] zad (hint .u8 (if b then n else 0)) zad:=by
 refine zai mixed Tryz.func189 (by decide) ?_
 cases b <;> (conv=>whnf) <;> rfl
theorem zhe (n:Int) (h:0 <= n /\ n < 65536):FunOK Tryz.prog 170 [i64 n] zad (.own 0) (lk .free [(0,row8 (enc16 n))]):=by
 obtain ⟨h0,h1⟩:=h
 refine zal mixed Tryz.func170 (by decide) [] (fun _=>.inl rfl) ?_
 conv=>whnf
 refine zaa (by decide) ?_;conv=>whnf
 have e1:n.tdiv 256=n / 256:=Int.tdiv_eq_ediv_of_nonneg h0
 have e2:by8 (n.tmod 256)=by8 n:=by
  rw [Int.tmod_eq_emod_of_nonneg h0]
  apply UInt8.toNat_inj.1
  have h1:=zgw (n % 256)
  have h2:=zgw n
  omega
 refine sFm ?_
 refine zcj ?_;conv=>whnf
 refine zaa (by decide) ?_;conv=>whnf
 refine zcj ?_;conv=>whnf
 refine zak [(0,some 9)] rfl rfl trivial rfl rfl ⟨⟨rfl,.inl ⟨9,rfl,?_⟩⟩,trivial⟩
 show row8 [by8 (n.tdiv 256),by8 (n.tmod 256)]=row8 (enc16 n)
 rw [e1,e2]
 rfl
theorem zmt (b:Bool) (n:Int):FunOK Tryz.prog 171 [hbool b,i64 n] zad (i64 (if b then n else 0)) zad:=by
 refine zai mixed Tryz.func171 (by decide) ?_
 cases b <;> (conv=>whnf) <;> rfl
def flags (c:Chunk):Int:=(if c.last then 1 else 0)+(if c.ordered then 2 else 0)
def zbq (l:List Span):List UInt8:=l.flatMap fun s=>enc16 s.lo++enc16 s.hi
def skipBytes (l:List Skip):List UInt8:=l.flatMap fun s=>[by8 s.stream,by8 (if s.ordered then 1 else 0)]++enc16 s.mid
def body (c:Chunk):List UInt8 :=
 if c.kind=1 then enc16 c.tag++[by8 c.stream,by8 (flags c)]++enc16 c.mid++[by8 c.part]++c.data
 else if c.kind=2 then enc16 c.tag++enc16 c.room++zbq c.spans
 else enc16 c.tag++skipBytes c.skips
def bytes (c:Chunk):List UInt8:=if wrong c=0 then by8 c.kind :: by8 (body c).length :: body c else []
theorem zhr (l:List Span):(zbq l).length=4 * l.length:=by
 induction l with
 | nil=>rfl
 | cons x l ih=>simp only [zbq,List.flatMap_cons,List.length_append,List.length_cons] at ih ⊢;simp [enc16] at ih ⊢;omega
theorem zhs (l:List Skip):(skipBytes l).length=4 * l.length:=by
 induction l with
 | nil=>rfl
 | cons x l ih=>simp only [skipBytes,List.flatMap_cons,List.length_append,List.length_cons] at ih ⊢;simp [enc16] at ih ⊢;omega
theorem zsu {c:Chunk} (h:wrong c=0) (k:c.kind=1):1 <= c.data.length /\ c.data.length <= 16:=by
 exact yy129
theorem zqe {c:Chunk} (h:wrong c=0) (k:c.kind=2):c.spans.length <= 6:=by
 exact yy129
theorem zqf {c:Chunk} (h:wrong c=0) (k1:¬ c.kind=1) (k:¬ c.kind=2):c.skips.length <= 8:=by
 exact yy129
theorem zvl {c:Chunk} (h:wrong c=0):(body c).length <= 34:=by
 have h1:=zsu h
 have h2:=zqe h
 have h3:=zqf h
 unfold body
 split
 . have:=h1 ‹_›;simp [enc16];omega
 . split
   . have:=h2 ‹_›;simp [enc16,zhr];omega
   . have:=h3 ‹_› ‹_›;simp [enc16,zhs];omega
theorem zsv (c:Chunk) (h9:c.spans.length < 2 ^ 40) (h8:c.skips.length < 2 ^ 40):FunOK Tryz.prog 167 [c.hv] zad (.tup [byts (bytes c),i64 (wrong c)]) zad:=by
 refine zai mixed Tryz.func167 (by decide) ?_
 conv=>whnf
 refine zar ?_;conv=>whnf
 refine ⟨_,zst c h9 h8,rfl,?_⟩;conv=>whnf
 refine zaf (fun h=>?_) (fun h=>?_)
 . conv=>whnf
   have h:¬ wrong c=0:=by simpa using h
   rw [bytes,if_neg h]
   rfl
 have h:wrong c=0:=by simpa using h
 rw [bytes,if_pos h]
 conv=>whnf
 refine yid [(0,17)] ?_;conv=>whnf
 refine ⟨_,_,ymc c.tag,⟨⟨⟨rfl,rfl⟩,trivial⟩,rfl,rfl,rfl⟩,?_⟩;conv=>whnf
 refine hcut.meet PUnit (fun _=>hs 97 [(1,.ptr 1 0),(5,.own 900)] [(1,.live (.cells 61 c.cells)),(900,row8 (body c))]) ?_ ?_
 . have h1:wrong c=0:=h
   conv=>whnf
   refine zaf (fun k1=>?_) (fun k1=>?_)
   . conv=>whnf
     refine zcj ?_;conv=>whnf
     refine zar ?_;conv=>whnf
     refine ⟨_,zvk _ _,rfl,?_⟩;conv=>whnf
     refine zar ?_;conv=>whnf
     refine ⟨_,zvk _ _,rfl,?_⟩;conv=>whnf
     have hbits:bits .or .u8 (if c.last then 1 else 0) (if c.ordered then 2 else 0)=((by8 (flags c)).toNat:Int):=by
      unfold flags
      cases c.last <;> cases c.ordered <;> kernel_rfl
     have hd:=(zsu h (by simpa using k1)).2
     refine zaa (c:=(((enc16 c.tag).map bRow).length+2) * 1 <= 140737488355328) (by simp [enc16]) ?_;conv=>whnf
     refine zae [] [(1000,54)] [(0,57)] ?_;conv=>whnf
     refine ⟨_,_,_,_,zli (enc16 c.tag++[by8 c.stream,by8 (flags c)]) c.mid (by simp [enc16]),⟨rfl,rfl,rfl,⟨⟨rfl,_,rfl,.inl ⟨rfl,?_⟩⟩,trivial⟩,⟨⟨rfl,rfl⟩,trivial⟩,rfl,rfl,rfl⟩,?_⟩
     . show HSlot.live (.row _ 1 ((enc16 c.tag).map bRow++[bRow (by8 c.stream),[.v (.int .u8 (bits .or .u8 (if c.last then 1 else 0) (if c.ordered then 2 else 0)))]]))=_
       rw [hbits]
       rfl
     conv=>whnf
     refine zap ?_ ?_
     . kernel_rfl
     conv=>whnf
     refine zcj ?_;conv=>whnf
     refine zaa (c:=(((enc16 c.tag++[by8 c.stream,by8 (flags c)]++enc16 c.mid).map bRow).length+1) * 1 <= 140737488355328) (by simp [enc16]) ?_;conv=>whnf
     refine zaa (c:=(((enc16 c.tag++[by8 c.stream,by8 (flags c)]++enc16 c.mid++[by8 c.part]).map bRow).length+(c.data.map bRow).length) * 1 <= 140737488355328) (by simp [enc16];omega) ?_;conv=>whnf
     refine zap ?_ ?_
     . kernel_rfl
     conv=>whnf
     refine ⟨⟨⟩,zbm [(1,some 1),(900,some 66)] rfl rfl rfl rfl ⟨⟨rfl,rfl⟩,⟨rfl,rfl⟩,trivial⟩ ⟨⟨rfl,.inl ⟨1,rfl,rfl⟩⟩,⟨rfl,.inl ⟨66,rfl,?_⟩⟩,trivial⟩⟩
     show HSlot.live (.row _ 1 ((enc16 c.tag++[by8 c.stream,by8 (flags c)]++enc16 c.mid++[by8 c.part]).map bRow++c.data.map bRow))=HSlot.live (.row _ 1 ((body c).map bRow))
     have k1:c.kind=1:=by simpa using k1
     rw [body,if_pos k1,List.map_append (l₂:=c.data)]
   . conv=>whnf
     refine zaf (fun k2=>?_) (fun k2=>?_)
     . conv=>whnf
       refine zae [] [(1000,17)] [(0,72)] ?_;conv=>whnf
       refine ⟨_,_,_,_,zli (enc16 c.tag) c.room (by simp [enc16]),⟨rfl,rfl,rfl,⟨⟨rfl,_,rfl,.inl ⟨rfl,rfl⟩⟩,trivial⟩,⟨⟨rfl,rfl⟩,trivial⟩,rfl,rfl,rfl⟩,?_⟩
       conv=>whnf
       have k1:¬ c.kind=1:=by simpa using k1
       have k2:c.kind=2:=by simpa using k2
       have hsp:=zqe h k2
       refine ⟨{ k:Nat // k <= c.spans.length },fun | ⟨k,_⟩=>hs 97 [(1,.ptr 1 0),(5,.own 900),(74,zvi c.spans),(75,i64 c.spans.length),(76,i64 k)] [(1,.live (.cells 61 c.cells)),(900,row8 (enc16 c.tag++enc16 c.room++zbq (c.spans.take k)))],fun k=>c.spans.length - k.1,⟨0,by omega⟩,?_,?_⟩
       . refine zbm [(1,some 1),(900,some 72)] rfl rfl rfl rfl ⟨⟨rfl,rfl⟩,⟨rfl,rfl⟩,⟨rfl,rfl⟩,⟨rfl,by simp;rfl⟩,⟨rfl,rfl⟩,trivial⟩ ⟨⟨rfl,.inl ⟨1,rfl,rfl⟩⟩,⟨rfl,.inl ⟨72,rfl,?_⟩⟩,trivial⟩
         rfl
       rintro ⟨k,hk⟩
       conv=>whnf
       refine zaf (fun c1=>?_) (fun c1=>?_)
       . have hlt:k < c.spans.length:=by simpa using c1
         conv=>whnf
         refine zbi (r:=(c.spans[k]).row) (by omega) (by rw [Int.toNat_natCast,List.getElem?_map,List.getElem?_eq_getElem hlt];rfl) ?_
         have ht:zbq (c.spans.take (k+1))=zbq (c.spans.take k)++(enc16 (c.spans[k]).lo++enc16 (c.spans[k]).hi):=by
          rw [<- List.take_append_getElem hlt,zbq,List.flatMap_append];simp [zbq]
         have hlen:(zbq (c.spans.take k)).length <= 24:=by
          rw [zhr];simp;omega
         generalize c.spans[k]=s at ht ⊢
         conv=>whnf
         refine zae [] [(1000,900)] [(0,83)] ?_;conv=>whnf
         refine ⟨_,_,_,_,zli (enc16 c.tag++enc16 c.room++zbq (c.spans.take k)) s.lo (by simp [enc16];omega),⟨rfl,rfl,rfl,⟨⟨rfl,_,rfl,.inl ⟨rfl,rfl⟩⟩,trivial⟩,⟨⟨rfl,rfl⟩,trivial⟩,rfl,rfl,rfl⟩,?_⟩
         conv=>whnf
         refine zae [] [(1000,83)] [(0,86)] ?_;conv=>whnf
         refine ⟨_,_,_,_,zli (enc16 c.tag++enc16 c.room++zbq (c.spans.take k)++enc16 s.lo) s.hi (by simp [enc16];omega),⟨rfl,rfl,rfl,⟨⟨rfl,_,rfl,.inl ⟨rfl,rfl⟩⟩,trivial⟩,⟨⟨rfl,rfl⟩,trivial⟩,rfl,rfl,rfl⟩,?_⟩
         conv=>whnf
         refine zap ?_ ?_
         . kernel_rfl
         conv=>whnf
         refine sFm ?_
         refine ⟨⟨k+1,hlt⟩,zbm [(1,some 1),(900,some 86)] rfl rfl rfl rfl ⟨⟨rfl,rfl⟩,⟨rfl,rfl⟩,⟨rfl,rfl⟩,⟨rfl,rfl⟩,⟨rfl,by simp;rfl⟩,trivial⟩ ⟨⟨rfl,.inl ⟨1,rfl,rfl⟩⟩,⟨rfl,.inl ⟨86,rfl,?_⟩⟩,trivial⟩,by dsimp only;omega⟩
         show row8 (enc16 c.tag++enc16 c.room++zbq (c.spans.take k)++enc16 s.lo++enc16 s.hi)=row8 (enc16 c.tag++enc16 c.room++zbq (c.spans.take (k+1)))
         rw [ht];simp only [List.append_assoc]
       . conv=>whnf
         exact yy64
     . conv=>whnf
       have k1:¬ c.kind=1:=by simpa using k1
       have k2:¬ c.kind=2:=by simpa using k2
       have hsk:=zqf h k1 k2
       refine ⟨{ k:Nat // k <= c.skips.length },fun | ⟨k,_⟩=>hs 97 [(1,.ptr 1 0),(5,.own 900),(21,zvj c.skips),(22,i64 c.skips.length),(23,i64 k)] [(1,.live (.cells 61 c.cells)),(900,row8 (enc16 c.tag++skipBytes (c.skips.take k)))],fun k=>c.skips.length - k.1,⟨0,by omega⟩,?_,?_⟩
       . refine zbm [(1,some 1),(900,some 17)] rfl rfl rfl rfl ⟨⟨rfl,rfl⟩,⟨rfl,rfl⟩,⟨rfl,rfl⟩,⟨rfl,by simp;rfl⟩,⟨rfl,rfl⟩,trivial⟩ ⟨⟨rfl,.inl ⟨1,rfl,rfl⟩⟩,⟨rfl,.inl ⟨17,rfl,?_⟩⟩,trivial⟩
         rfl
       rintro ⟨k,hk⟩
       conv=>whnf
       refine zaf (fun c1=>?_) (fun c1=>?_)
       . have hlt:k < c.skips.length:=by simpa using c1
         conv=>whnf
         refine zbi (r:=(c.skips[k]).row) (by omega) (by rw [Int.toNat_natCast,List.getElem?_map,List.getElem?_eq_getElem hlt];rfl) ?_
         have ht:skipBytes (c.skips.take (k+1))=skipBytes (c.skips.take k)++([by8 (c.skips[k]).stream,by8 (if (c.skips[k]).ordered then 1 else 0)]++enc16 (c.skips[k]).mid):=by
          rw [<- List.take_append_getElem hlt,skipBytes,List.flatMap_append];simp [skipBytes]
         have hlen:(skipBytes (c.skips.take k)).length <= 32:=by
          rw [zhs];simp;omega
         generalize c.skips[k]=s at ht ⊢
         conv=>whnf
         refine zcj ?_;conv=>whnf
         refine zar ?_;conv=>whnf
         refine ⟨_,zvk _ _,rfl,?_⟩;conv=>whnf
         refine zaa (c:=(((enc16 c.tag++skipBytes (c.skips.take k)).map bRow).length+2) * 1 <= 140737488355328) (by simp [enc16];omega) ?_;conv=>whnf
         refine zae [] [(1000,35)] [(0,38)] ?_;conv=>whnf
         refine ⟨_,_,_,_,zli (enc16 c.tag++skipBytes (c.skips.take k)++[by8 s.stream,by8 (if s.ordered then 1 else 0)]) s.mid (by simp [enc16];omega),⟨rfl,rfl,rfl,⟨⟨rfl,_,rfl,.inl ⟨rfl,?_⟩⟩,trivial⟩,⟨⟨rfl,rfl⟩,trivial⟩,rfl,rfl,rfl⟩,?_⟩
         . show HSlot.live (.row _ 1 ((enc16 c.tag++skipBytes (c.skips.take k)).map bRow++[bRow (by8 s.stream),[.v (.int .u8 (if s.ordered then 1 else 0))]]))=row8 _
           simp only [row8,List.map_append]
           cases s.ordered <;> rfl
         conv=>whnf
         refine zap ?_ ?_
         . kernel_rfl
         conv=>whnf
         refine sFm ?_
         refine ⟨⟨k+1,hlt⟩,zbm [(1,some 1),(900,some 38)] rfl rfl rfl rfl ⟨⟨rfl,rfl⟩,⟨rfl,rfl⟩,⟨rfl,rfl⟩,⟨rfl,rfl⟩,⟨rfl,by simp;rfl⟩,trivial⟩ ⟨⟨rfl,.inl ⟨1,rfl,rfl⟩⟩,⟨rfl,.inl ⟨38,rfl,?_⟩⟩,trivial⟩,by dsimp only;omega⟩
         show row8 (enc16 c.tag++skipBytes (c.skips.take k)++[by8 s.stream,by8 (if s.ordered then 1 else 0)]++enc16 s.mid)=row8 (enc16 c.tag++skipBytes (c.skips.take (k+1)))
         rw [ht];simp only [List.append_assoc]
       . conv=>whnf
         exact yy69
 . rintro ⟨⟩
   exact yy76
theorem yfs:∀ {l:List Span} {last:Int},zcs last l=0 -> 0 <= last -> ∀ s ∈ l,(0 <= s.lo /\ s.lo < 65536) /\ (0 <= s.hi /\ s.hi < 65536)
 | [],_,_,_,s,hs=>by cases hs
 | x :: r,last,h,h0,s,hs=>by
  simp only [zcs] at h
  split at h
  . omega
  . rename_i hn
    rcases List.mem_cons.1 hs with rfl | hs
    . omega
    . exact yfs h (by omega) s hs
theorem yft:∀ {l:List Skip},zct l=0 -> ∀ s ∈ l,(0 <= s.stream /\ s.stream < 4) /\ (0 <= s.mid /\ s.mid < 65536)
 | [],_,s,hs=>by cases hs
 | x :: r,h,s,hs=>by
  simp only [zct] at h
  split at h
  . omega
  . rename_i hn
    rcases List.mem_cons.1 hs with rfl | hs
    . omega
    . exact yft h s hs
structure Fine (c:Chunk):Prop where
 kind:1 <= c.kind /\ c.kind <= 3
 tag:0 <= c.tag /\ c.tag < 65536
 data:c.kind=1 -> (0 <= c.stream /\ c.stream < 4) /\ (0 <= c.mid /\ c.mid < 65536) /\ (0 <= c.part /\ c.part <= 255) /\ 1 <= c.data.length /\ c.data.length <= 16
 room:c.kind=2 -> (0 <= c.room /\ c.room < 65536) /\ c.spans.length <= 6 /\ zcs 1 c.spans=0
 skips:¬ c.kind=1 -> ¬ c.kind=2 -> c.skips.length <= 8 /\ zct c.skips=0
theorem fine {c:Chunk} (h:wrong c=0):Fine c:=by
 simp only [wrong] at h
 (repeat' split at h) <;> first | omega | (constructor <;> first | omega | (intros;omega) | skip)
theorem ycq (c:Chunk) (h9:c.spans.length < 2 ^ 40) (h8:c.skips.length < 2 ^ 40):FunOK Tryz.prog 144 [c.hv] zad (.tup [byts (bytes c),i64 (wrong c)]) zad:=by
 refine zai mixed Tryz.func144 (by decide) ?_
 conv=>whnf
 refine zar ?_;conv=>whnf
 refine ⟨_,zex c h9 h8,rfl,?_⟩;conv=>whnf
 refine zaf (fun h=>?_) (fun h=>?_)
 . conv=>whnf
   have h:¬ wrong c=0:=by simpa using h
   rw [bytes,if_neg h]
   rfl
 have h:wrong c=0:=by simpa using h
 rw [bytes,if_pos h]
 have hf:=fine h
 conv=>whnf
 refine zao [(0,18)] ?_;conv=>whnf
 refine ⟨_,_,zhe c.tag hf.tag,⟨⟨⟨rfl,rfl⟩,trivial⟩,rfl,rfl,rfl⟩,?_⟩;conv=>whnf
 refine hcut.meet PUnit (fun _=>hs 110 [(1,.ptr 1 0),(5,.own 900)] [(1,.live (.cells 61 c.cells)),(900,row8 (body c))]) ?_ ?_
 . conv=>whnf
   refine zaf (fun k1=>?_) (fun k1=>?_)
   . have k1:c.kind=1:=by simpa using k1
     obtain ⟨d1,d2,d3,d4,d5⟩:=hf.data k1
     conv=>whnf
     refine zcj ?_;conv=>whnf
     refine zar ?_;conv=>whnf
     refine ⟨_,zmt _ _,rfl,?_⟩;conv=>whnf
     refine zar ?_;conv=>whnf
     refine ⟨_,zmt _ _,rfl,?_⟩;conv=>whnf
     refine zam (W_fit (by split <;> split <;> omega) (by split <;> split <;> omega)) ?_;conv=>whnf
     refine zcj ?_;conv=>whnf
     refine zaa (c:=(((enc16 c.tag).map bRow).length+2) * 1 <= 140737488355328) (by simp [enc16]) ?_;conv=>whnf
     refine zap ?_ ?_
     . kernel_rfl
     conv=>whnf
     refine zao [(0,65)] ?_;conv=>whnf
     refine ⟨_,_,zhe c.mid d2,⟨⟨⟨rfl,rfl⟩,trivial⟩,rfl,rfl,rfl⟩,?_⟩;conv=>whnf
     refine zaa (c:=(((enc16 c.tag++[by8 c.stream,by8 (flags c)]).map bRow).length+((enc16 c.mid).map bRow).length) * 1 <= 140737488355328) (by simp [enc16]) ?_;conv=>whnf
     refine zcj ?_;conv=>whnf
     refine zaa (c:=(((enc16 c.tag++[by8 c.stream,by8 (flags c)]++enc16 c.mid).map bRow).length+1) * 1 <= 140737488355328) (by simp [enc16]) ?_;conv=>whnf
     refine zaa (c:=(((enc16 c.tag++[by8 c.stream,by8 (flags c)]++enc16 c.mid++[by8 c.part]).map bRow).length+(c.data.map bRow).length) * 1 <= 140737488355328) (by simp [enc16];omega) ?_;conv=>whnf
     refine ⟨⟨⟩,zbm [(1,some 1),(900,some 76)] rfl rfl rfl rfl ⟨⟨rfl,rfl⟩,⟨rfl,rfl⟩,trivial⟩ ⟨⟨rfl,.inl ⟨1,rfl,rfl⟩⟩,⟨rfl,.inl ⟨76,rfl,?_⟩⟩,trivial⟩⟩
     show HSlot.live (.row _ 1 ((enc16 c.tag++[by8 c.stream,by8 (flags c)]++enc16 c.mid++[by8 c.part]).map bRow++c.data.map bRow))=HSlot.live (.row _ 1 ((body c).map bRow))
     rw [body,if_pos k1,List.map_append (l₂:=c.data)]
   . conv=>whnf
     have k1:¬ c.kind=1:=by simpa using k1
     refine zaf (fun k2=>?_) (fun k2=>?_)
     . conv=>whnf
       have k2:c.kind=2:=by simpa using k2
       obtain ⟨d1,hsp,d3⟩:=hf.room k2
       have hok:=yfs d3 (by decide)
       refine zao [(0,82)] ?_;conv=>whnf
       refine ⟨_,_,zhe c.room d1,⟨⟨⟨rfl,rfl⟩,trivial⟩,rfl,rfl,rfl⟩,?_⟩;conv=>whnf
       refine zaa (c:=(((enc16 c.tag).map bRow).length+((enc16 c.room).map bRow).length) * 1 <= 140737488355328) (by simp [enc16]) ?_;conv=>whnf
       refine ⟨{ k:Nat // k <= c.spans.length },fun | ⟨k,_⟩=>hs 110 [(1,.ptr 1 0),(5,.own 900),(85,zvi c.spans),(86,i64 c.spans.length),(87,i64 k)] [(1,.live (.cells 61 c.cells)),(900,row8 (enc16 c.tag++enc16 c.room++zbq (c.spans.take k)))],fun k=>c.spans.length - k.1,⟨0,by omega⟩,?_,?_⟩
       . refine zbm [(1,some 1),(900,some 83)] rfl rfl rfl rfl ⟨⟨rfl,rfl⟩,⟨rfl,rfl⟩,⟨rfl,rfl⟩,⟨rfl,by simp;rfl⟩,⟨rfl,rfl⟩,trivial⟩ ⟨⟨rfl,.inl ⟨1,rfl,rfl⟩⟩,⟨rfl,.inl ⟨83,rfl,?_⟩⟩,trivial⟩
         rfl
       rintro ⟨k,hk⟩
       conv=>whnf
       refine zaf (fun c1=>?_) (fun c1=>?_)
       . have hlt:k < c.spans.length:=by simpa using c1
         conv=>whnf
         refine zbi (r:=(c.spans[k]).row) (by omega) (by rw [Int.toNat_natCast,List.getElem?_map,List.getElem?_eq_getElem hlt];rfl) ?_
         have ht:zbq (c.spans.take (k+1))=zbq (c.spans.take k)++(enc16 (c.spans[k]).lo++enc16 (c.spans[k]).hi):=by
          rw [<- List.take_append_getElem hlt,zbq,List.flatMap_append];simp [zbq]
         have hlen:(zbq (c.spans.take k)).length <= 24:=by
          rw [zhr];simp;omega
         obtain ⟨g1,g2⟩:=hok _ (List.getElem_mem hlt)
         generalize c.spans[k]=s at ht g1 g2 ⊢
         conv=>whnf
         refine zao [(0,94)] ?_;conv=>whnf
         refine ⟨_,_,zhe s.lo g1,⟨⟨⟨rfl,rfl⟩,trivial⟩,rfl,rfl,rfl⟩,?_⟩;conv=>whnf
         refine zaa (c:=(((enc16 c.tag++enc16 c.room++zbq (c.spans.take k)).map bRow).length+((enc16 s.lo).map bRow).length) * 1 <= 140737488355328) (by simp [enc16];omega) ?_;conv=>whnf
         refine zao [(0,98)] ?_;conv=>whnf
         refine ⟨_,_,zhe s.hi g2,⟨⟨⟨rfl,rfl⟩,trivial⟩,rfl,rfl,rfl⟩,?_⟩;conv=>whnf
         refine zaa (c:=(((enc16 c.tag++enc16 c.room++zbq (c.spans.take k)).map bRow++(enc16 s.lo).map bRow).length+((enc16 s.hi).map bRow).length) * 1 <= 140737488355328) (by simp [enc16];omega) ?_;conv=>whnf
         refine zap ?_ ?_
         . kernel_rfl
         conv=>whnf
         refine sFm ?_
         refine ⟨⟨k+1,hlt⟩,zbm [(1,some 1),(900,some 99)] rfl rfl rfl rfl ⟨⟨rfl,rfl⟩,⟨rfl,rfl⟩,⟨rfl,rfl⟩,⟨rfl,rfl⟩,⟨rfl,by simp;rfl⟩,trivial⟩ ⟨⟨rfl,.inl ⟨1,rfl,rfl⟩⟩,⟨rfl,.inl ⟨99,rfl,?_⟩⟩,trivial⟩,by dsimp only;omega⟩
         show HSlot.live (.row _ 1 ((enc16 c.tag++enc16 c.room++zbq (c.spans.take k)).map bRow++(enc16 s.lo).map bRow++(enc16 s.hi).map bRow))=row8 (enc16 c.tag++enc16 c.room++zbq (c.spans.take (k+1)))
         rw [ht];simp only [row8,List.map_append,List.append_assoc]
       . conv=>whnf
         exact yy64
     . conv=>whnf
       have k2:¬ c.kind=2:=by simpa using k2
       obtain ⟨hsk,d3⟩:=hf.skips k1 k2
       have hok:=yft d3
       refine ⟨{ k:Nat // k <= c.skips.length },fun | ⟨k,_⟩=>hs 110 [(1,.ptr 1 0),(5,.own 900),(6,.clo 171 []),(22,zvj c.skips),(23,i64 c.skips.length),(24,i64 k)] [(1,.live (.cells 61 c.cells)),(900,row8 (enc16 c.tag++skipBytes (c.skips.take k)))],fun k=>c.skips.length - k.1,⟨0,by omega⟩,?_,?_⟩
       . refine zbm [(1,some 1),(900,some 18)] rfl rfl rfl rfl ⟨⟨rfl,rfl⟩,⟨rfl,rfl⟩,⟨rfl,rfl⟩,⟨rfl,rfl⟩,⟨rfl,by simp;rfl⟩,⟨rfl,rfl⟩,trivial⟩ ⟨⟨rfl,.inl ⟨1,rfl,rfl⟩⟩,⟨rfl,.inl ⟨18,rfl,?_⟩⟩,trivial⟩
         rfl
       rintro ⟨k,hk⟩
       conv=>whnf
       refine zaf (fun c1=>?_) (fun c1=>?_)
       . have hlt:k < c.skips.length:=by simpa using c1
         conv=>whnf
         refine zbi (r:=(c.skips[k]).row) (by omega) (by rw [Int.toNat_natCast,List.getElem?_map,List.getElem?_eq_getElem hlt];rfl) ?_
         have ht:skipBytes (c.skips.take (k+1))=skipBytes (c.skips.take k)++([by8 (c.skips[k]).stream,by8 (if (c.skips[k]).ordered then 1 else 0)]++enc16 (c.skips[k]).mid):=by
          rw [<- List.take_append_getElem hlt,skipBytes,List.flatMap_append];simp [skipBytes]
         have hlen:(skipBytes (c.skips.take k)).length <= 32:=by
          rw [zhs];simp;omega
         obtain ⟨g1,g2⟩:=hok _ (List.getElem_mem hlt)
         generalize c.skips[k]=s at ht g1 g2 ⊢
         conv=>whnf
         refine zcj ?_;conv=>whnf
         refine zar ?_;conv=>whnf
         refine ⟨_,zmt _ _,rfl,?_⟩;conv=>whnf
         refine zcj ?_;conv=>whnf
         refine zaa (c:=(((enc16 c.tag++skipBytes (c.skips.take k)).map bRow).length+2) * 1 <= 140737488355328) (by simp [enc16];omega) ?_;conv=>whnf
         refine zao [(0,41)] ?_;conv=>whnf
         refine ⟨_,_,zhe s.mid g2,⟨⟨⟨rfl,rfl⟩,trivial⟩,rfl,rfl,rfl⟩,?_⟩;conv=>whnf
         refine zaa (c:=(((enc16 c.tag++skipBytes (c.skips.take k)).map bRow++[bRow (by8 s.stream),bRow (by8 (if s.ordered then 1 else 0))]).length+((enc16 s.mid).map bRow).length) * 1 <= 140737488355328) (by simp [enc16];omega) ?_;conv=>whnf
         refine zap ?_ ?_
         . kernel_rfl
         conv=>whnf
         refine sFm ?_
         refine ⟨⟨k+1,hlt⟩,zbm [(1,some 1),(900,some 42)] rfl rfl rfl rfl ⟨⟨rfl,rfl⟩,⟨rfl,rfl⟩,⟨rfl,rfl⟩,⟨rfl,rfl⟩,⟨rfl,rfl⟩,⟨rfl,by simp;rfl⟩,trivial⟩ ⟨⟨rfl,.inl ⟨1,rfl,rfl⟩⟩,⟨rfl,.inl ⟨42,rfl,?_⟩⟩,trivial⟩,by dsimp only;omega⟩
         show HSlot.live (.row _ 1 ((enc16 c.tag++skipBytes (c.skips.take k)).map bRow++[bRow (by8 s.stream),bRow (by8 (if s.ordered then 1 else 0))]++(enc16 s.mid).map bRow))=row8 (enc16 c.tag++skipBytes (c.skips.take (k+1)))
         rw [ht];simp only [row8,List.map_append,List.append_assoc];rfl
       . conv=>whnf
         exact yy69
 . rintro ⟨⟩
   exact yy76
end Chk
namespace Chk
def at16 (b:List UInt8) (i:Nat):Int:=dec16 (b[i]?.getD 0) (b[i+1]?.getD 0)
def no:Chunk:=⟨0,0,0,0,0,false,false,[],[],0,[]⟩
def zcx:List UInt8 -> List Span
 | a :: b :: c :: d :: r=>⟨dec16 a b,dec16 c d⟩ :: zcx r
 | _=>[]
def zbr:List UInt8 -> List Skip × Bool
 | s :: f :: m :: n :: r=>if f.toNat > 1 then ([],false) else (⟨s.toNat,dec16 m n,f.toNat == 1⟩ :: (zbr r).1,(zbr r).2)
 | _=>([],true)
def zcb (kind:Int) (b:List UInt8):Chunk × Bool :=
 if b.length < 2 then ({ no with kind:=kind },false) else
 if kind=1 then
  if b.length < 7 \/ (b[3]?.getD 0).toNat > 3 then ({ no with kind:=kind,tag:=at16 b 0 },false)
  else ({ no with kind:=kind,tag:=at16 b 0,stream:=(b[2]?.getD 0).toNat,last:=(b[3]?.getD 0).toNat % 2 != 0,ordered:=(b[3]?.getD 0).toNat / 2 * 2 != 0,mid:=at16 b 4,part:=(b[6]?.getD 0).toNat,data:=b.drop 7 },true)
 else if kind=2 then
  if b.length < 4 \/ b.length % 4 ≠ 0 then ({ no with kind:=kind,tag:=at16 b 0 },false)
  else ({ no with kind:=kind,tag:=at16 b 0,room:=at16 b 2,spans:=zcx (b.drop 4) },true)
 else if b.length % 4 ≠ 2 then ({ no with kind:=kind,tag:=at16 b 0 },false)
  else ({ no with kind:=kind,tag:=at16 b 0,skips:=(zbr (b.drop 2)).1 },(zbr (b.drop 2)).2)
def yfu:List HV:=[i64 0,i64 0,i64 0,i64 0,i64 0,hbool false,hbool false,hnil,hnil,i64 0,hnil]
theorem zqg (b:List UInt8) (j i:Nat):at16 (b.drop j) i=at16 b (j+i):=by
 unfold at16
 rw [List.getElem?_drop,List.getElem?_drop,Nat.add_assoc]
theorem zht:∀ l:List UInt8,(zcx l).length=l.length / 4
 | a :: b :: c :: d :: r=>by simp only [zcx,List.length_cons,zht r];omega
 | []=>by simp [zcx]
 | [_]=>by simp [zcx]
 | [_,_]=>by simp [zcx]
 | [_,_,_]=>by simp [zcx]
theorem drop4 {b:List UInt8} {j:Nat} (h:j+4 <= b.length):b.drop j=b[j]?.getD 0 :: b[j+1]?.getD 0 :: b[j+2]?.getD 0 :: b[j+3]?.getD 0 :: b.drop (j+4):=by
 rw [List.drop_eq_getElem_cons (by omega),List.drop_eq_getElem_cons (by omega),List.drop_eq_getElem_cons (by omega),List.drop_eq_getElem_cons (by omega)]
 rw [List.getElem?_eq_getElem (by omega),List.getElem?_eq_getElem (by omega),List.getElem?_eq_getElem (by omega),List.getElem?_eq_getElem (by omega)]
 rfl
theorem ymd {b:List UInt8} {j:Nat} (h:j+4 <= b.length):zbr (b.drop j) =
 if (b[j+1]?.getD 0).toNat > 1 then ([],false) else (⟨(b[j]?.getD 0).toNat,at16 b (j+2),(b[j+1]?.getD 0).toNat == 1⟩ :: (zbr (b.drop (j+4))).1,(zbr (b.drop (j+4))).2):=by
 rw [drop4 h,zbr];rfl
theorem znq:∀ {k:Nat} {l:List UInt8},4 * k+4 <= l.length -> (zcx l).take (k+1)=(zcx l).take k++[⟨at16 l (4 * k),at16 l (4 * k+2)⟩]
 | k,[],h=>by simp at h
 | k,[_],h=>by simp at h
 | k,[_,_],h=>by simp at h
 | k,[_,_,_],h=>by simp at h
 | 0,a :: b :: c :: d :: r,h=>by simp [zcx,at16]
 | k+1,a :: b :: c :: d :: r,h=>by
  have:=znq (k:=k) (l:=r) (by simp at h;omega)
  simp only [zcx,List.take_succ_cons,this,List.cons_append]
  have e:∀ i,at16 (a :: b :: c :: d :: r) (4 * (k+1)+i)=at16 r (4 * k+i):=by
   intro i
   have:=zqg (a :: b :: c :: d :: r) 4 (4 * k+i)
   rw [show 4 * (k+1)+i=4+(4 * k+i) by omega,<- this]
   rfl
  rw [e 2]
  have:=e 0
  simp only [Nat.add_zero] at this
  rw [this]
theorem bget {b:List UInt8} {i:Nat} (h:i < b.length):(b.map bRow)[i]?=some (bRow (b[i]?.getD 0)):=by
 rw [List.getElem?_map,List.getElem?_eq_getElem h];rfl
theorem zie (b:UInt8):W (b.toNat:Int)=b.toNat:=by have:=b.toNat_lt;exact W_fit (by omega) (by omega)
theorem zjl (b:List UInt8) (i:Nat) (h:i+1 < b.length) (hb:b.length < 2 ^ 40):FunOK Tryz.prog 203 [byts b,i64 i] zad (i64 (at16 b i)) zad:=by
 refine zai mixed Tryz.func203 (by decide) ?_
 have e1:W ((i:Int)+1)=((i+1:Nat):Int):=by rw [W_fit (by omega) (by omega)];push_cast;rfl
 conv=>whnf
 refine zbi (r:=bRow (b[i]?.getD 0)) (by omega) (by rw [Int.toNat_natCast];exact bget (by omega)) ?_
 conv=>whnf
 refine zam (zie _) ?_;conv=>whnf
 refine zaa (by decide) ?_;conv=>whnf
 refine zam (W_fit (z:=((b[i]?.getD 0).toNat:Int) * 256) (by have:=(b[i]?.getD 0).toNat_lt;omega) (by have:=(b[i]?.getD 0).toNat_lt;omega)) ?_;conv=>whnf
 refine zam e1 ?_;conv=>whnf
 refine zfx (i+1) (by push_cast;rfl) h ?_
 conv=>whnf
 refine zam (zie _) ?_;conv=>whnf
 refine zap ?_ ?_
 . kernel_rfl
 conv=>whnf
 show i64 (bits .or .i64 (((b[i]?.getD 0).toNat:Int) * 256) ((b[i+1]?.getD 0).toNat:Int))=i64 (at16 b i)
 rw [yqj _ _ (b[i]?.getD 0).toNat_lt (b[i+1]?.getD 0).toNat_lt]
 rfl
theorem yme (kind:Int) (b:List UInt8) (hb:b.length < 2 ^ 40):FunOK Tryz.prog 194 [i64 kind,byts b] zad (.tup [(zcb kind b).1.hv,hbool (zcb kind b).2]) zad:=by
 refine zai mixed Tryz.func194 (by decide) ?_
 have hl:(b.map bRow).length=b.length:=by simp
 conv=>whnf
 refine zaf (fun c1=>?_) (fun c1=>?_)
 . have c1:(b.length:Int) < 2:=by simpa using c1
   rw [zcb,if_pos (by omega)]
   conv=>whnf
   rfl
 have c1:¬ (b.length:Int) < 2:=by simpa using c1
 rw [zcb,if_neg (by omega)]
 conv=>whnf
 refine zar ?_;conv=>whnf
 refine ⟨_,zjl b 0 (by omega) hb,rfl,?_⟩;conv=>whnf
 refine hcut.go ?_;conv=>whnf
 refine zaf (fun k1=>?_) (fun k1=>?_)
 . have k1:kind=1:=by simpa using k1
   rw [if_pos k1]
   conv=>whnf
   refine zaf (fun c2=>?_) (fun c2=>?_)
   . have c2:(b.length:Int) < 7:=by simpa using c2
     rw [if_pos (.inl (by omega))]
     conv=>whnf
     rfl
   have c2:¬ (b.length:Int) < 7:=by simpa using c2
   conv=>whnf
   refine zbi (r:=bRow (b[3]?.getD 0)) (by omega) (bget (by omega)) ?_
   conv=>whnf
   refine zaf (fun c3=>?_) (fun c3=>?_)
   . have c3:((b[3]?.getD 0).toNat:Int) > 3:=of_decide_eq_true c3
     rw [if_pos (.inr (by omega))]
     conv=>whnf
     rfl
   have c3:¬ ((b[3]?.getD 0).toNat:Int) > 3:=of_decide_eq_false c3
   rw [if_neg (by omega)]
   conv=>whnf
   refine zbi (r:=bRow (b[2]?.getD 0)) (by omega) (bget (by omega)) ?_
   conv=>whnf
   refine zam (zie _) ?_;conv=>whnf
   refine zbi (r:=bRow (b[3]?.getD 0)) (by omega) (bget (by omega)) ?_
   conv=>whnf
   refine zbi (r:=bRow (b[3]?.getD 0)) (by omega) (bget (by omega)) ?_
   conv=>whnf
   refine zap ?_ ?_
   . kernel_rfl
   conv=>whnf
   refine zar ?_;conv=>whnf
   refine ⟨_,zjl b 4 (by omega) hb,rfl,?_⟩;conv=>whnf
   refine zbi (r:=bRow (b[6]?.getD 0)) (by omega) (bget (by omega)) ?_
   conv=>whnf
   refine zam (zie _) ?_;conv=>whnf
   refine zaa (by omega) ?_;conv=>whnf
   refine zdq (l:=b) (by simp;omega) ?_
   conv=>whnf
   refine zaa (c:=((b.drop 7).map bRow).length * 1 <= 140737488355328) (by simp;omega) ?_;conv=>whnf
   refine zap ?_ ?_
   . kernel_rfl
   conv=>whnf
   have e1:=yts (b[3]?.getD 0)
   have e2:=ytt (b[3]?.getD 0) (by omega)
   have key:∀ (n m:Int) (k:Nat),n=k -> (n != 0)=(k != 0):=by
    intro n m k h;subst h
    cases k <;> rfl
   rw [key _ 0 _ e1,key _ 0 _ e2]
   rfl
 have k1:¬ kind=1:=by simpa using k1
 rw [if_neg k1]
 conv=>whnf
 refine zaf (fun k2=>?_) (fun k2=>?_)
 . have k2:kind=2:=by simpa using k2
   rw [if_pos k2]
   conv=>whnf
   refine zaf (fun c2=>?_) (fun c2=>?_)
   . have c2:(b.length:Int) < 4:=by simpa using c2
     rw [if_pos (.inl (by omega))]
     conv=>whnf
     rfl
   have c2:¬ (b.length:Int) < 4:=by simpa using c2
   conv=>whnf
   refine zaa (by decide) ?_;conv=>whnf
   refine zaf (fun c3=>?_) (fun c3=>?_)
   . have c3:¬ ((b.length:Int).tmod 4=0):=by simpa using c3
     rw [if_pos (.inr (by rw [Int.tmod_eq_emod_of_nonneg (by omega)] at c3;omega))]
     conv=>whnf
     rfl
   have c3:(b.length:Int).tmod 4=0:=by simpa using c3
   have c4:b.length % 4=0:=by rw [Int.tmod_eq_emod_of_nonneg (by omega)] at c3;omega
   rw [if_neg (by omega)]
   conv=>whnf
   refine zar ?_;conv=>whnf
   refine ⟨_,zjl b 2 (by omega) hb,rfl,?_⟩;conv=>whnf
   refine ⟨{ k:Nat // 4+4 * k <= b.length },fun | ⟨k,_⟩=>hs 134 [(1,byts b),(4,.ptr 4 0),(6,.ptr 6 0),(7,i64 (4+4 * k:Nat))] [(4,.live (.cells 61 yfu)),(6,.live (.cells 61 [i64 kind,i64 (at16 b 0),i64 0,i64 0,i64 0,hbool false,hbool false,hnil,.own 900,i64 (at16 b 2),hnil])),(900,.live (.row 199 2 (((zcx (b.drop 4)).take k).map Span.row)))],fun x=>b.length - 4 * x.1,⟨0,by omega⟩,?_,?_⟩
   . exact zbm [(4,some 4),(6,some 6),(900,none)] rfl rfl rfl rfl ⟨⟨rfl,rfl⟩,⟨rfl,rfl⟩,⟨rfl,rfl⟩,⟨rfl,rfl⟩,trivial⟩ ⟨⟨rfl,.inl ⟨4,rfl,rfl⟩⟩,⟨rfl,.inl ⟨6,rfl,rfl⟩⟩,⟨rfl,.inr ⟨rfl,rfl⟩⟩,trivial⟩
   rintro ⟨k,hk⟩
   conv=>whnf
   refine zaf (fun c=>?_) (fun c=>?_)
   . have hlt:4+4 * k < b.length:=by
      have:=of_decide_eq_true c;rw [List.length_map] at this;omega
     conv=>whnf
     refine zar ?_;conv=>whnf
     refine ⟨_,zjl b (4+4 * k) (by omega) hb,rfl,?_⟩;conv=>whnf
     refine zam (z:=((4+4 * k:Nat):Int)+2) (W_fit (by omega) (by omega)) ?_;conv=>whnf
     refine zar ?_;conv=>whnf
     refine ⟨_,zjl b (4+4 * k+2) (by omega) hb,rfl,?_⟩;conv=>whnf
     refine zaa (c:=(((((zcx (b.drop 4)).take k).map Span.row).length)+1) * 16 <= 140737488355328) (by simp;omega) ?_;conv=>whnf
     refine zap ?_ ?_
     . kernel_rfl
     conv=>whnf
     refine zam (z:=((4+4 * k:Nat):Int)+4) (W_fit (by omega) (by omega)) ?_;conv=>whnf
     have ht:=znq (l:=b.drop 4) (k:=k) (by simp;omega)
     refine ⟨⟨k+1,by omega⟩,zbm [(4,some 4),(6,some 6),(900,some 131)] rfl rfl rfl rfl ⟨⟨rfl,rfl⟩,⟨rfl,rfl⟩,⟨rfl,rfl⟩,⟨rfl,rfl⟩,trivial⟩ ⟨⟨rfl,.inl ⟨4,rfl,rfl⟩⟩,⟨rfl,.inl ⟨6,rfl,rfl⟩⟩,⟨rfl,.inl ⟨131,rfl,?_⟩⟩,trivial⟩,by dsimp only;omega⟩
     show HSlot.live (.row _ 2 (((zcx (b.drop 4)).take k).map Span.row++[Span.row ⟨at16 b (4+4 * k),at16 b (4+4 * k+2)⟩]))=HSlot.live (.row _ 2 (((zcx (b.drop 4)).take (k+1)).map Span.row))
     rw [ht,List.map_append,zqg,zqg]
     rfl
   . have hge:¬ 4+4 * k < b.length:=by
      have:=of_decide_eq_false c;rw [List.length_map] at this;omega
     conv=>whnf
     rw [List.take_of_length_le (by rw [zht];simp;omega)]
     rfl
 have k2:¬ kind=2:=by simpa using k2
 rw [if_neg k2]
 conv=>whnf
 refine zaa (by decide) ?_;conv=>whnf
 refine zaf (fun c3=>?_) (fun c3=>?_)
 . have c3:¬ ((b.length:Int).tmod 4=2):=by simpa using c3
   rw [if_pos (by rw [Int.tmod_eq_emod_of_nonneg (by omega)] at c3;omega)]
   conv=>whnf
   rfl
 have c3:(b.length:Int).tmod 4=2:=by simpa using c3
 have c4:b.length % 4=2:=by rw [Int.tmod_eq_emod_of_nonneg (by omega)] at c3;omega
 rw [if_neg (by omega)]
 conv=>whnf
 refine ⟨{ x:Nat × List Skip // 2+4 * x.1 <= b.length /\ x.2.length=x.1 /\ zbr (b.drop 2)=(x.2++(zbr (b.drop (2+4 * x.1))).1,(zbr (b.drop (2+4 * x.1))).2) },fun | ⟨(k,acc),_⟩=>hs 134 [(1,byts b),(4,.ptr 4 0),(6,.ptr 6 0),(8,i64 (2+4 * k:Nat))] [(4,.live (.cells 61 yfu)),(6,.live (.cells 61 [i64 kind,i64 (at16 b 0),i64 0,i64 0,i64 0,hbool false,hbool false,hnil,hnil,i64 0,.own 900])),(900,.live (.row 180 3 (acc.map Skip.row)))],fun x=>b.length - 4 * x.1.1,⟨(0,[]),by dsimp only;omega,rfl,by simp⟩,?_,?_⟩
 . exact zbm [(4,some 4),(6,some 6),(900,none)] rfl rfl rfl rfl ⟨⟨rfl,rfl⟩,⟨rfl,rfl⟩,⟨rfl,rfl⟩,⟨rfl,rfl⟩,trivial⟩ ⟨⟨rfl,.inl ⟨4,rfl,rfl⟩⟩,⟨rfl,.inl ⟨6,rfl,rfl⟩⟩,⟨rfl,.inr ⟨rfl,rfl⟩⟩,trivial⟩
 rintro ⟨⟨k,acc⟩,hk,hlen,hrun⟩
 dsimp only at hk hlen hrun
 conv=>whnf
 refine zaf (fun c=>?_) (fun c=>?_)
 . have hlt:2+4 * k < b.length:=by
    have:=of_decide_eq_true c;rw [List.length_map] at this;omega
   rw [ymd (j:=2+4 * k) (by omega)] at hrun
   conv=>whnf
   refine zam (z:=((2+4 * k:Nat):Int)+1) (W_fit (by omega) (by omega)) ?_;conv=>whnf
   refine zfx (2+4 * k+1) (by push_cast;rfl) (by omega) ?_
   conv=>whnf
   refine zaf (fun c5=>?_) (fun c5=>?_)
   . have c5:=of_decide_eq_true c5
     rw [if_pos (by omega)] at hrun
     conv=>whnf
     rw [hrun,List.append_nil]
     rfl
   have c5:=of_decide_eq_false c5
   rw [if_neg (by omega)] at hrun
   conv=>whnf
   refine zfx (2+4 * k) rfl (by omega) ?_
   conv=>whnf
   refine zam (zie _) ?_;conv=>whnf
   refine zam (z:=((2+4 * k:Nat):Int)+1) (W_fit (by omega) (by omega)) ?_;conv=>whnf
   refine zfx (2+4 * k+1) (by push_cast;rfl) (by omega) ?_
   conv=>whnf
   refine zam (z:=((2+4 * k:Nat):Int)+2) (W_fit (by omega) (by omega)) ?_;conv=>whnf
   refine zar ?_;conv=>whnf
   refine ⟨_,zjl b (2+4 * k+2) (by omega) hb,rfl,?_⟩;conv=>whnf
   refine zaa (c:=((acc.map Skip.row).length+1) * 24 <= 140737488355328) (by simp;omega) ?_;conv=>whnf
   refine zap ?_ ?_
   . kernel_rfl
   conv=>whnf
   refine zam (z:=((2+4 * k:Nat):Int)+4) (W_fit (by omega) (by omega)) ?_;conv=>whnf
   refine ⟨⟨(k+1,acc++[⟨(b[2+4 * k]?.getD 0).toNat,at16 b (2+4 * k+2),(b[2+4 * k+1]?.getD 0).toNat == 1⟩]),by dsimp only;omega,by simp [hlen],by
    dsimp only
    rw [hrun,show 2+4 * k+4=2+4 * (k+1) by omega]
    simp⟩,zbm [(4,some 4),(6,some 6),(900,some 56)] rfl rfl rfl rfl ⟨⟨rfl,rfl⟩,⟨rfl,rfl⟩,⟨rfl,rfl⟩,⟨rfl,rfl⟩,trivial⟩ ⟨⟨rfl,.inl ⟨4,rfl,rfl⟩⟩,⟨rfl,.inl ⟨6,rfl,rfl⟩⟩,⟨rfl,.inl ⟨56,rfl,?_⟩⟩,trivial⟩,by dsimp only;omega⟩
   have hbeq:∀ n:Nat,((n:Int) == 1)=(n == 1):=by
    intro n
    rcases Nat.decEq n 1 with h | h
    . rw [show ((n:Int) == 1)=false from by simpa using (by omega:¬ (n:Int)=1),show (n == 1)=false from by simpa using h]
    . subst h;rfl
   show HSlot.live (.row _ 3 (acc.map Skip.row++[[pi (b[2+4 * k]?.getD 0).toNat,pi (at16 b (2+4 * k+2)),pb (((b[2+4 * k+1]?.getD 0).toNat:Int) == 1)]]))=_
   rw [hbeq,List.map_append]
   rfl
 . have hge:¬ 2+4 * k < b.length:=by
    have:=of_decide_eq_false c;rw [List.length_map] at this;omega
   rw [List.drop_eq_nil_of_le (show b.length <= 2+4 * k by omega)] at hrun
   simp only [zbr,List.append_nil] at hrun
   conv=>whnf
   rw [hrun]
   rfl
end Chk
namespace Chk
theorem zis:∀ l:List UInt8,(zbr l).1.length <= l.length
 | a :: b :: c :: d :: r=>by
  have:=zis r
  simp only [zbr]
  split <;> simp <;> omega
 | []=>by simp [zbr]
 | [_]=>by simp [zbr]
 | [_,_]=>by simp [zbr]
 | [_,_,_]=>by simp [zbr]
theorem zsw (kind:Int) (b:List UInt8):(zcb kind b).1.spans.length <= b.length /\ (zcb kind b).1.skips.length <= b.length:=by
 have h1:=zis (b.drop 2)
 have h2:=zht (b.drop 4)
 have h3:(b.drop 2).length <= b.length:=by simp
 have h4:(b.drop 4).length <= b.length:=by simp
 unfold zcb
 (repeat' split) <;> constructor <;> first | (simp [no];done) | (dsimp only [no];omega)
def parse (b:List UInt8):Chunk × Int × Int :=
 if b.length < 2 \/ b.length < 2+(b[1]?.getD 0).toNat then (no,0,8) else
 if (b[0]?.getD 0).toNat < 1 \/ (b[0]?.getD 0).toNat > 3 then (no,0,1) else
 if (zcb (b[0]?.getD 0).toNat ((b.drop 2).take (b[1]?.getD 0).toNat)).2=false then (no,0,2) else
 if wrong (zcb (b[0]?.getD 0).toNat ((b.drop 2).take (b[1]?.getD 0).toNat)).1 ≠ 0 then (no,0,wrong (zcb (b[0]?.getD 0).toNat ((b.drop 2).take (b[1]?.getD 0).toNat)).1) else
 ((zcb (b[0]?.getD 0).toNat ((b.drop 2).take (b[1]?.getD 0).toNat)).1,2+(b[1]?.getD 0).toNat,0)
theorem zev {rows:List (List PV)} {o n o' n':Nat} {K:List (List PV) -> Prop} (ho:o=o') (hn:n=n') (h:hsub rows o' n' K):hsub rows o n K:=by subst ho;subst hn;exact h
theorem yip (b:List UInt8) (hb:b.length < 2 ^ 39):FunOK Tryz.prog 178 [byts b] zad (.tup [(parse b).1.hv,i64 (parse b).2.1,i64 (parse b).2.2]) zad:=by
 refine zai mixed Tryz.func178 (by decide) ?_
 have hl:(b.map bRow).length=b.length:=by simp
 have hb1:=(b[1]?.getD 0).toNat_lt
 conv=>whnf
 refine zaf (fun c1=>?_) (fun c1=>?_)
 . have c1:(b.length:Int) < 2:=by simpa using c1
   rw [parse,if_pos (.inl (by omega))]
   conv=>whnf
   rfl
 have c1:¬ (b.length:Int) < 2:=by simpa using c1
 conv=>whnf
 refine zam (z:=((b.map bRow).length:Int) - 2) (W_fit (by omega) (by omega)) ?_;conv=>whnf
 refine zfx 1 rfl (by omega) ?_;conv=>whnf
 refine zam (zie _) ?_;conv=>whnf
 refine zaf (fun c2=>?_) (fun c2=>?_)
 . have c2:((b.map bRow).length:Int) - 2 < (b[1]?.getD 0).toNat:=of_decide_eq_true c2
   rw [parse,if_pos (.inr (by omega))]
   conv=>whnf
   rfl
 have c2:¬ ((b.map bRow).length:Int) - 2 < (b[1]?.getD 0).toNat:=of_decide_eq_false c2
 rw [parse,if_neg (by omega)]
 conv=>whnf
 refine zfx 0 rfl (by omega) ?_;conv=>whnf
 refine zaf (fun c3=>?_) (fun c3=>?_)
 . have c3:((b[0]?.getD 0).toNat:Int) < 1:=of_decide_eq_true c3
   rw [if_pos (.inl (by omega))]
   conv=>whnf
   rfl
 have c3:¬ ((b[0]?.getD 0).toNat:Int) < 1:=of_decide_eq_false c3
 conv=>whnf
 refine zfx 0 rfl (by omega) ?_;conv=>whnf
 refine zaf (fun c4=>?_) (fun c4=>?_)
 . have c4:((b[0]?.getD 0).toNat:Int) > 3:=of_decide_eq_true c4
   rw [if_pos (.inr (by omega))]
   conv=>whnf
   rfl
 have c4:¬ ((b[0]?.getD 0).toNat:Int) > 3:=of_decide_eq_false c4
 rw [if_neg (by omega)]
 conv=>whnf
 refine zfx 1 rfl (by omega) ?_;conv=>whnf
 refine zam (zie _) ?_;conv=>whnf
 refine zam (z:=2+((b[1]?.getD 0).toNat:Int)) (W_fit (by omega) (by omega)) ?_;conv=>whnf
 refine zfx 0 rfl (by omega) ?_;conv=>whnf
 refine zam (zie _) ?_;conv=>whnf
 refine zaa (by omega) ?_;conv=>whnf
 refine zev (o':=2) (n':=(b[1]?.getD 0).toNat) rfl (by omega) ?_
 refine zee (l:=b) (by omega) ?_
 have hlen:((b.drop 2).take (b[1]?.getD 0).toNat).length <= 256:=by simp;omega
 obtain ⟨l1,l2⟩:=zsw (b[0]?.getD 0).toNat ((b.drop 2).take (b[1]?.getD 0).toNat)
 generalize hs:(b.drop 2).take (b[1]?.getD 0).toNat=s at hlen l1 l2 ⊢
 conv=>whnf
 refine zbw ?_;conv=>whnf
 refine ⟨_,yme (b[0]?.getD 0).toNat s (by omega),rfl,?_⟩
 generalize zcb (b[0]?.getD 0).toNat s=p at l1 l2 ⊢
 obtain ⟨c,ok⟩:=p
 dsimp only at l1 l2
 conv=>whnf
 refine zap ?_ ?_
 . kernel_rfl
 conv=>whnf
 cases ok with
 | false =>
  conv=>whnf
  rfl
 | true =>
  rw [if_neg (by simp)]
  conv=>whnf
  refine zar ?_;conv=>whnf
  refine ⟨_,zst c (by omega) (by omega),rfl,?_⟩;conv=>whnf
  refine zaf (fun c5=>?_) (fun c5=>?_)
  . have c5:¬ wrong c=0:=by simpa using c5
    rw [if_pos c5]
    conv=>whnf
    rfl
  . have c5:wrong c=0:=by simpa using c5
    rw [if_neg (fun h=>h c5)]
    conv=>whnf
    rfl
def one (l:List UInt8) (ok:Bool):Int × List UInt8 × Bool:=match l with
 | []=>(0,[],false)
 | x :: r=>(x.toNat,r,ok)
def two (l:List UInt8) (ok:Bool):Int × List UInt8 × Bool:=match l with
 | x :: y :: r=>(dec16 x y,r,ok)
 | [x]=>(x.toNat * 256,[],false)
 | []=>(0,[],false)
def rd (l:List UInt8) (ok:Bool):HSlot:=.live (.cells 233 [byts l,hbool ok])
theorem zjm (l:List UInt8) (ok:Bool):FunOK Tryz.prog 192 [.ptr 1000 0] (lk .free [(1000,rd l ok)]) (i64 (one l ok).1) (lk .free [(1000,rd (one l ok).2.1 (one l ok).2.2)]):=by
 refine zal mixed Tryz.func192 (by decide) [1000] (fun i=>zba i) ?_
 cases l with
 | nil =>
  conv=>whnf
  exact yy99
 | cons x r =>
  simp only [one]
  conv=>whnf
  refine zfx (b:=x :: r) 0 rfl (by simp) ?_;conv=>whnf
  refine zam (zie x) ?_;conv=>whnf
  refine sOm ?_
  refine zdq (l:=x :: r) (by simp;omega) ?_
  conv=>whnf
  exact yy99
theorem zhu (l:List UInt8) (ok:Bool):FunOK Tryz.prog 191 [.ptr 1000 0] (lk .free [(1000,rd l ok)]) (i64 (two l ok).1) (lk .free [(1000,rd (two l ok).2.1 (two l ok).2.2)]):=by
 refine zal mixed Tryz.func191 (by decide) [1000] (fun i=>zba i) ?_
 have h1:∀ x y:UInt8,(x.toNat:Int) * 256+y.toNat <= 70000 /\ 0 <= (x.toNat:Int) * 256+y.toNat:=by
  intro x y;have:=x.toNat_lt;have:=y.toNat_lt;omega
 conv=>whnf
 refine zae [] [(1000,1000)] [] ?_;conv=>whnf
 refine ⟨_,_,_,_,zjm l ok,⟨rfl,rfl,rfl,⟨⟨rfl,_,rfl,.inl ⟨rfl,rfl⟩⟩,trivial⟩,trivial,rfl,rfl,rfl⟩,?_⟩
 conv=>whnf
 have e1:W ((one l ok).1 * 256)=(one l ok).1 * 256:=by
  cases l with
  | nil=>rfl
  | cons x r=>have:=h1 x 0;exact W_fit (by simp only [one];omega) (by simp only [one];omega)
 have e1':W (256 * (one l ok).1)=256 * (one l ok).1:=by rw [Int.mul_comm];exact e1
 refine zam e1' ?_;conv=>whnf
 refine zae [] [(1000,1000)] [] ?_;conv=>whnf
 refine ⟨_,_,_,_,zjm (one l ok).2.1 (one l ok).2.2,⟨rfl,rfl,rfl,⟨⟨rfl,_,rfl,.inl ⟨rfl,rfl⟩⟩,trivial⟩,trivial,rfl,rfl,rfl⟩,?_⟩
 conv=>whnf
 have e2:256 * (one l ok).1+(one (one l ok).2.1 (one l ok).2.2).1=(two l ok).1:=by
  cases l with
  | nil=>rfl
  | cons x r=>cases r with
   | nil=>simp only [one,two];omega
   | cons y r=>simp only [one,two,dec16];omega
 have e3:W (two l ok).1=(two l ok).1:=by
  cases l with
  | nil=>rfl
  | cons x r=>cases r with
   | nil=>have:=h1 x 0;exact W_fit (by simp only [two];omega) (by simp only [two];omega)
   | cons y r=>have:=h1 x y;exact W_fit (by simp only [two,dec16];omega) (by simp only [two,dec16];omega)
 have e4:(one (one l ok).2.1 (one l ok).2.2).2=(two l ok).2:=by
  cases l with
  | nil=>rfl
  | cons x r=>cases r <;> rfl
 refine zam (z:=256 * (one l ok).1+(one (one l ok).2.1 (one l ok).2.2).1) (by rw [e2];exact e3) ?_;conv=>whnf
 rw [<- e4,<- e2]
 exact yy99
end Chk
end Go.HL
