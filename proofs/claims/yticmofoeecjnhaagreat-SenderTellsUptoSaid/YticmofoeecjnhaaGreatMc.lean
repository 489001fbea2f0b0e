/- Walks, contracts and laws of the law's functions: part 3. No condition. -/
import Derived.Test.YticmofoeecjnhaaGreatMb
import Derived.Test.YticmofoeecjnhaaGreatRows
import Derived.Test.YticmofoeecjnhaaGreatProg
set_option linter.unusedSimpArgs false
namespace Go.HL
abbrev i64 (n:Int):HV:=.p (.v (.int .i64 n))
abbrev W (z:Int):Int:=IntKind.i64.wrap z
theorem zaf {b:Bool} {A B:Prop} (h1:b=true -> A) (h2:b=false -> B):hif b A B:=by cases b <;> simp_all [hif]
theorem zad {b:Bool} {A B:Prop} (h:b=true) (ha:A):hif b A B:=by subst h;exact ha
theorem zab {b:Bool} {A B:Prop} (h:b=false) (hb:B):hif b A B:=by subst h;exact hb
theorem zbc {k:IntKind} {z:Int} {K:Int -> Prop} (h:K (k.wrap z)):hwrap k z K:=⟨_,rfl,h⟩
theorem zan {k:IntKind} {z:Int} {K:Int -> Prop} (hz:k.wrap z=z) (h:K z):hwrap k z K:=⟨z,hz.symm,h⟩
theorem zaa {c k:Prop} (h:c) (hk:k):hobl c k:=⟨h,hk⟩
theorem zas {P:Program} {s0:HS} {all:Array Oper} {labs:List Lab} {k:Prop} (h:zfv all labs=true) (hk:k):hdraw P s0 all labs k:=⟨.inl h,hk⟩
theorem zga (ex:List Nat) {P:Program} {s0:HS} {all:Array Oper} {labs:List Lab} {k:Prop} (h:zgj ex all labs=true) (h2:allB (stable P s0 all.toList labs) ex) (hk:k):hdraw P s0 all labs k:=⟨.inr ⟨ex,h,h2⟩,hk⟩
theorem zbq {rows:List (List PV)} {i:Int} {K:List PV -> Prop} {r:List PV} (h0:0 <= i) (h:rows[i.toNat]?=some r) (hk:K r):hrow rows i K:=⟨r,h0,h,hk⟩
theorem zgb {rows:List (List PV)} {K:List UInt8 -> Prop} {bs:List UInt8} (h:rows=bs.map bRow) (hk:K bs):hbytes rows K:=⟨bs,h,hk⟩
theorem W_fit {z:Int} (h1:-9223372036854775808 <= z) (h2:z <= 9223372036854775807):W z=z:=by
 unfold W IntKind.wrap
 simp [IntKind.bits,IntKind.signed]
 omega
section
variable {P:Program}
theorem zav {f:FuncId} {args:List HV} {d:Nat} {H:Nat -> HSlot} {K:Res -> Prop} (h:zed H args fun a us=>zgh (normArgs P (zsg P f) a) fun a=>∃ r,FunOK P f a zac r zac /\ scal r=true /\ K ⟨r,[],us.map (·.1)⟩) :
 hcall (CR P) f args d H K:=by
 obtain ⟨a,us,h,hv⟩:=zcs _ h
 rw [zea] at h
 obtain ⟨r,h1,h2,h3⟩:=h
 replace h1:=h1.args fun _ _ _ _ hx=>hx.normArgs _
 exact ⟨_,.lend ⟨hv.loc H (fun _ _=>rfl) _ ⟨rfl,rfl⟩,h1,h2,rfl,rfl⟩,h3⟩
theorem zsk {H:Nat -> HSlot}:∀ {xs:List HV} {K:List HV -> List (Nat × HSlot) -> Prop},zed H xs K -> mixKL H (xs.map fun _=>true) xs K
 | [],K,h=>by simpa only [List.map_nil,mixKL,zed] using h
 | x :: xs,K,h=>by
  simp only [List.map_cons,mixKL]
  simp only [zed] at h
  obtain ⟨y,u,h1,hv⟩:=zgm x h
  exact hv.loc H (fun _ _=>rfl) _ (zsk h1)
theorem zcf {f:FuncId} {args:List HV} {d:Nat} {H:Nat -> HSlot} {K:Res -> Prop} (h:zed H args fun a us=>zgh (normArgs P (zsg P f) a) fun a=>∃ r,FunOK P f a zac r zac /\ rnOk noIds r=true /\ K ⟨r,us,[]⟩) :
 hcall (CR P) f args d H K:=by
 obtain ⟨a,us,h,hv⟩:=zcs _ h
 rw [zea] at h
 obtain ⟨r,h1,h2,h3⟩:=h
 replace h1:=h1.args fun _ _ _ _ hx=>hx.normArgs _
 have hre:ren []=noIds:=by funext i;rfl
 refine ⟨_,.give (B:=[]) (F:=[]) (us:=us) (ms:=args.map fun _=>true) (args1:=a) (args':=a) (H':=zac) (r':=r) (H'':=zac)
  ⟨zsk (hv.loc H (fun _ _=>rfl) _ ⟨rfl,rfl⟩),h1,by rw [hre];exact hv.noid,by rw [hre];exact zfz a hv.noid,fun _=>.inl rfl,by simp,by simp,by simp,by simp,by simp,by simp,by simp,by
   show rnOk (ren []) r=true;rw [hre];exact h2,by show r=rn (ren []) r;rw [hre];exact (zsi r h2).symm,by simp⟩,h3⟩
end
def slOK (σ:Ren) (s:HS):List (Nat × HV) -> Prop
 | []=>True
 | (i,x) :: r=>(rnOk σ x=true /\ rn σ x=s.slot i) /\ slOK σ s r
def hpOK (σ:Ren) (s:HS):List (Nat × HSlot) -> Prop
 | []=>True
 | (id,b) :: r=>(match b with
  | .free=>False
  | .dead=>(σ id).isSome=true
  | .live b=>rnOkB σ b=true /\ ((∃ j,σ id=some (some j) /\ s.heap j=.live (rnB σ b)) \/ (σ id=some none /\ nilB b))
  | .ro b=>rnOkB σ b=true /\ ∃ j,σ id=some (some j) /\ (s.heap j=.live (rnB σ b) \/ s.heap j=.ro (rnB σ b))) /\ hpOK σ s r
def pinOK (σ:Ren):List Nat -> Prop
 | []=>True
 | i :: r=>σ i=some (some i) /\ pinOK σ r
def tgts:List (Nat × Option Nat) -> List Nat
 | []=>[]
 | (_,some j) :: r=>j :: tgts r
 | (_,none) :: r=>tgts r
def zdg:List Nat -> Bool
 | []=>true
 | x :: r=>!(r.any (Nat.beq x)) && zdg r
def zfe (L:List (Nat × HSlot)):List (Nat × Option Nat) -> Bool
 | []=>true
 | (i,_) :: r=>L.any (fun p=>Nat.beq i p.1) && zfe L r
theorem zsl {α:Type} {d:α}:∀ {l:List (Nat × α)} {i:Nat},lk d l i=d \/ ∃ x,(i,x) ∈ l /\ lk d l i=x
 | [],i=>.inl rfl
 | (j,x) :: r,i=>by
  simp only [lk]
  cases hb:Nat.beq i j with
  | true=>have:=Nat.eq_of_beq_eq_true hb;subst this;exact .inr ⟨x,by simp,rfl⟩
  | false =>
   rcases zsl (d:=d) (l:=r) (i:=i) with h | ⟨y,h1,h2⟩
   . exact .inl h
   . exact .inr ⟨y,by simp [h1],h2⟩
theorem yba {σ:Ren} {s:HS}:∀ {l:List (Nat × HV)} {i:Nat} {x:HV},slOK σ s l -> (i,x) ∈ l -> rnOk σ x=true /\ rn σ x=s.slot i
 | (j,y) :: r,i,x,h,hm=>by
  simp only [slOK] at h
  cases hm with
  | head=>exact h.1
  | tail _ hm=>exact yba h.2 hm
theorem zoc {l:List (Nat × Option Nat)} {i:Nat} {o:Option Nat} (h:lkN l i=some o):(i,o) ∈ l:=by
 induction l with
 | nil=>cases h
 | cons p l ih =>
  obtain ⟨a,b⟩:=p
  simp only [lkN] at h
  cases hb:Nat.beq i a with
  | true=>rw [hb] at h;cases h;have:=Nat.eq_of_beq_eq_true hb;subst this;simp
  | false=>rw [hb] at h;simp [ih h]
theorem zqd {L:List (Nat × HSlot)}:∀ {l:List (Nat × Option Nat)} {i:Nat} {o:Option Nat},zfe L l=true -> (i,o) ∈ l -> ∃ b,(i,b) ∈ L
 | (j,y) :: r,i,o,h,hm=>by
  simp only [zfe,Bool.and_eq_true] at h
  cases hm with
  | head =>
   obtain ⟨p,hp,hb⟩:=List.any_eq_true.1 h.1
   have:=Nat.eq_of_beq_eq_true hb
   subst this
   exact ⟨p.2,hp⟩
  | tail _ hm=>exact zqd h.2 hm
theorem ygo {α:Type} {d:α}:∀ {l:List (Nat × α)} {i:Nat},(∀ x,(i,x) ∉ l) -> lk d l i=d
 | [],i,_=>rfl
 | (j,x) :: r,i,h=>by
  simp only [lk]
  cases hb:Nat.beq i j with
  | true=>have:=Nat.eq_of_beq_eq_true hb;subst this;exact absurd (by simp) (h x)
  | false=>exact ygo fun y hy=>h y (by simp [hy])
theorem ybb {σ:Ren} {s:HS}:∀ {l:List (Nat × HSlot)} {i:Nat} {x:HSlot},hpOK σ s l -> (i,x) ∈ l -> hpOK σ s [(i,x)]
 | (j,y) :: r,i,x,h,hm=>by
  simp only [hpOK] at h
  cases hm with
  | head=>exact ⟨h.1,trivial⟩
  | tail _ hm=>exact ybb h.2 hm
theorem zsm:∀ {l:List (Nat × Option Nat)},zdg (tgts l)=true -> ∀ {i i' j:Nat},(i,some j) ∈ l -> (i',some j) ∈ l -> i=i'
 | [],_,i,i',j,h,_=>by cases h
 | (a,none) :: r,hn,i,i',j,h,h'=>by
  cases h with
  | tail _ h=>cases h' with
   | tail _ h'=>exact zsm (l:=r) hn h h'
 | (a,some b) :: r,hn,i,i',j,h,h'=>by
  simp only [tgts,zdg,Bool.and_eq_true,Bool.not_eq_true'] at hn
  have hin:∀ {r:List (Nat × Option Nat)} {i j:Nat},(i,some j) ∈ r -> j ∈ tgts r:=by
   intro r
   induction r with
   | nil=>intro i j h;cases h
   | cons p r ih =>
    intro i j h
    obtain ⟨a,o⟩:=p
    cases h with
    | head=>simp [tgts]
    | tail _ h=>cases o <;> simp [tgts,ih h]
  have hno:∀ {i:Nat},(i,some b) ∉ r:=by
   intro i hi
   have:=List.any_eq_false.1 hn.1 b (hin hi)
   simp at this
  cases h with
  | head=>cases h' with
   | head=>rfl
   | tail _ h'=>exact absurd h' hno
  | tail _ h=>cases h' with
   | head=>exact absurd h hno
   | tail _ h'=>exact zsm hn.2 h h'
theorem ybc {s:HS} {heap:List (Nat × HSlot)} {pins:List Nat} (l:List (Nat × Option Nat)) (h1:zfe heap l=true) (_:pinOK (lkN l) pins) (h5:hpOK (lkN l) s heap):∀ id,match lk HSlot.free heap id with
 | .free=>lkN l id=none
 | .dead=>True
 | .live b=>rnOkB (lkN l) b=true /\ ((∃ j,lkN l id=some (some j) /\ s.heap j=.live (rnB (lkN l) b)) \/ (lkN l id=some none /\ nilB b))
 | .ro b=>rnOkB (lkN l) b=true /\ ∃ j,lkN l id=some (some j) /\ (s.heap j=.live (rnB (lkN l) b) \/ s.heap j=.ro (rnB (lkN l) b)):=by
 intro id
 by_cases hm:∃ x,(id,x) ∈ heap
 . rcases zsl (d:=HSlot.free) (l:=heap) (i:=id) with h | ⟨x,hx,h⟩
   . exfalso
     obtain ⟨x,hx⟩:=hm
     have gen:∀ {l:List (Nat × HSlot)} {σ:Ren},hpOK σ s l -> (∃ x,(id,x) ∈ l) -> lk .free l id ≠ .free:=by
      intro l
      induction l with
      | nil=>intro σ _ ⟨x,hx⟩;cases hx
      | cons p l ih =>
       obtain ⟨a,y⟩:=p
       intro σ h ⟨x,hx⟩
       simp only [lk]
       cases hb:Nat.beq id a with
       | true =>
        show y ≠ .free
        intro hy
        subst hy
        exact h.1
       | false =>
        refine ih h.2 ?_
        cases hx with
        | head=>simp at hb
        | tail _ hx=>exact ⟨x,hx⟩
     exact gen h5 ⟨x,hx⟩ h
   . rw [h]
     have:=(ybb h5 hx).1
     cases x <;> simp only at this ⊢
     . exact this
     . exact this
 . rw [ygo fun x hx=>hm ⟨x,hx⟩]
   show lkN l id=none
   cases ho:lkN l id with
   | none=>rfl
   | some o=>exact absurd (zqd h1 (zoc ho)) hm
theorem ybd {pins:List Nat} (l:List (Nat × Option Nat)) (h3:pinOK (lkN l) pins):∀ id ∈ pins,lkN l id=some (some id):=by
 intro id hid
 have gen:∀ {r:List Nat},pinOK (lkN l) r -> id ∈ r -> lkN l id=some (some id):=by
  intro r
  induction r with
  | nil=>intro _ h;cases h
  | cons a r ih =>
   intro h hm
   simp only [pinOK] at h
   cases hm with
   | head=>exact h.1
   | tail _ hm=>exact ih h.2 hm
 exact gen h3 hid
def zvh (heap:List (Nat × HSlot)) (i:Nat):Bool:=match lk .free heap i with
 | .dead=>true
 | _=>false
def tgtsA (heap:List (Nat × HSlot)):List (Nat × Option Nat) -> List Nat
 | []=>[]
 | (i,some j) :: r=>bif zvh heap i then tgtsA heap r else j :: tgtsA heap r
 | (_,none) :: r=>tgtsA heap r
theorem ybe {heap:List (Nat × HSlot)}:∀ (l:List (Nat × Option Nat)),tgtsA heap l=tgts (l.filter fun p=>!zvh heap p.1)
 | []=>rfl
 | (i,o) :: r=>by
  cases hd:zvh heap i <;> cases o <;> simp [tgtsA,tgts,List.filter_cons,hd,ybe r]
theorem zvi {heap:List (Nat × HSlot)} {l:List (Nat × Option Nat)} (h:zdg (tgtsA heap l)=true) {i i' j:Nat} (h1:(i,some j) ∈ l) (h2:(i',some j) ∈ l) (d1:lk .free heap i ≠ .dead) (d2:lk .free heap i' ≠ .dead):i=i':=by
 rw [ybe] at h
 have hd:∀ k,lk .free heap k ≠ .dead -> zvh heap k=false:=by
  intro k hk
  unfold zvh
  split
  . rename_i he;exact absurd he hk
  . rfl
 exact zsm h (List.mem_filter.2 ⟨h1,by simp [hd i d1]⟩) (List.mem_filter.2 ⟨h2,by simp [hd i' d2]⟩)
theorem ygp {s:HS} {pins:List Nat} {n:Nat} {slots:List (Nat × HV)} {heap:List (Nat × HSlot)} (l:List (Nat × Option Nat)) (hn:n=s.n) (hp:pins=s.pins) (h1:zfe heap l=true) (h2:zdg (tgtsA heap l)=true)
 (h3:pinOK (lkN l) pins) (h4:slOK (lkN l) s slots) (h5:hpOK (lkN l) s heap):HLe0 s (hsP pins n slots heap):=by
 refine ⟨hn,hp,lkN l,fun i=>?_,ybc l h1 h3 h5,fun id id' b j hb hd hj hj'=>zvi h2 (zoc hj) (zoc hj') (by intro he;have hb:lk HSlot.free heap id=_:=hb;rw [he] at hb;cases hb) hd,fun id hid=>ybd l h3 id (hp ▸ hid)⟩
 rcases zsl (d:=HV.any) (l:=slots) (i:=i) with h | ⟨x,hx,h⟩
 . exact .inl h
 . right
   show rnOk (lkN l) (lk .any slots i)=true /\ rn (lkN l) (lk .any slots i)=s.slot i
   rw [h]
   exact yba h4 hx
theorem ygq {s:HS} {pins:List Nat} {n:Nat} {slots:List (Nat × HV)} {heap:List (Nat × HSlot)} (l:List (Nat × Option Nat)) (hn:n=s.n) (hp:pins=s.pins) (h1:zfe heap l=true) (h2:zdg (tgtsA heap l)=true)
 (h3:pinOK (lkN l) pins) (h4:slOK (lkN l) s slots) (h5:hpOK (lkN l) s heap):HLe s (hsP pins n slots heap):=⟨[],by rw [ygk];exact ygp l hn hp h1 h2 h3 h4 h5⟩
theorem zbo {s:HS} {n:Nat} {slots:List (Nat × HV)} {heap:List (Nat × HSlot)} (l:List (Nat × Option Nat)) (hn:n=s.n) (hp:[]=s.pins) (h1:zfe heap l=true) (h2:zdg (tgtsA heap l)=true)
 (h4:slOK (lkN l) s slots) (h5:hpOK (lkN l) s heap):HLe s (hs n slots heap):=ygq l hn hp h1 h2 trivial h4 h5
end Go.HL
namespace Go.HL
section
variable {P:Program}
def freOK (H:Nat -> HSlot):List (Nat × Nat) -> Prop
 | []=>True
 | p :: r=>(Nat.blt p.1 pin=true /\ H p.2=.free) /\ freOK H r
def hasOK (σ:Ren) (H' H:Nat -> HSlot):List (Nat × Nat) -> Prop
 | []=>True
 | p :: r=>(Nat.ble pin p.1=true /\ ∃ b,rnOkB σ b=true /\ ((H' p.1=.live b /\ H p.2=.live (rnB σ b)) \/ (H' p.1=.ro b /\ H p.2=.ro (rnB σ b)))) /\ hasOK σ H' H r
def aftOK (σ:Ren) (H'':Nat -> HSlot):List (Nat × Nat) -> Bool
 | []=>true
 | p :: r=>rnOkS σ (H'' p.1) && aftOK σ H'' r
def upsL (σ:Ren) (H'':Nat -> HSlot):List (Nat × Nat) -> List (Nat × HSlot)
 | []=>[]
 | p :: r=>(p.2,rnS σ (H'' p.1)) :: upsL σ H'' r
def keysB (B:List (Nat × Nat)):List (Nat × HSlot) -> Bool
 | []=>true
 | p :: r=>B.any (fun q=>Nat.beq q.1 p.1) && keysB B r
theorem zsn {σ:Ren} {H'':Nat -> HSlot}:∀ {L:List (Nat × Nat)},upsL σ H'' L=L.map fun p=>(p.2,rnS σ (H'' p.1))
 | []=>rfl
 | p :: r=>by simp only [upsL,List.map_cons,zsn]
theorem zjs {H:Nat -> HSlot}:∀ {L:List (Nat × Nat)},freOK H L -> ∀ p ∈ L,p.1 < pin /\ H p.2=.free
 | q :: r,h,p,hp=>by
  rcases List.mem_cons.1 hp with rfl | hp
  . exact ⟨by have:=h.1.1;simp only [Nat.blt,Nat.ble_eq] at this;exact this,h.1.2⟩
  . exact zjs h.2 p hp
theorem zvj {σ:Ren} {H' H:Nat -> HSlot}:∀ {L:List (Nat × Nat)},hasOK σ H' H L -> ∀ p ∈ L,pin <= p.1 /\ ∃ b,rnOkB σ b=true /\ ((H' p.1=.live b /\ H p.2=.live (rnB σ b)) \/ (H' p.1=.ro b /\ H p.2=.ro (rnB σ b)))
 | q :: r,h,p,hp=>by
  rcases List.mem_cons.1 hp with rfl | hp
  . exact ⟨Nat.le_of_ble_eq_true h.1.1,h.1.2⟩
  . exact zvj h.2 p hp
theorem zjt {σ:Ren} {H'':Nat -> HSlot}:∀ {L:List (Nat × Nat)},aftOK σ H'' L=true -> ∀ p ∈ L,rnOkS σ (H'' p.1)=true
 | q :: r,h,p,hp=>by
  simp only [aftOK,Bool.and_eq_true] at h
  rcases List.mem_cons.1 hp with rfl | hp
  . exact h.1
  . exact zjt h.2 p hp
theorem zdh:∀ {l:List Nat},zdg l=true -> l.Nodup
 | [],_=>by simp
 | x :: r,h=>by
  simp only [zdg,Bool.and_eq_true,Bool.not_eq_true'] at h
  refine List.nodup_cons.2 ⟨fun hm=>?_,zdh h.2⟩
  have:=List.any_eq_false.1 h.1 x hm
  simp at this
theorem zqe {B:List (Nat × Nat)}:∀ {L:List (Nat × HSlot)},keysB B L=true -> ∀ i,lk .free L i=.free \/ ∃ p ∈ B,p.1=i
 | [],_,i=>.inl rfl
 | q :: r,h,i=>by
  simp only [keysB,Bool.and_eq_true] at h
  obtain ⟨a,b⟩:=q
  simp only [lk]
  cases hb:Nat.beq i a with
  | true =>
   have:=Nat.eq_of_beq_eq_true hb
   subst this
   obtain ⟨p,hp,he⟩:=List.any_eq_true.1 h.1
   exact .inr ⟨p,hp,Nat.eq_of_beq_eq_true he⟩
  | false=>exact zqe h.2 i
def giveK (P:Program) (f:FuncId) (H:Nat -> HSlot) (B F:List (Nat × Nat)) (a1:List HV) (us:List (Nat × HSlot)) (K:Res -> Prop):Prop :=
 ∃ args' L' r' L'',FunOK P f args' (lk .free L') r' (lk .free L'') /\ (rnOkL (ren B) args'=true /\ rnL (ren B) args'=a1 /\ keysB B L'=true /\ hasOK (ren B) (lk .free L') (updL H us) B /\ freOK H F /\
  (zdg (B.map (·.1)) && zdg (B.map (·.2)) && zdg (F.map (·.1)) && zdg (F.map (·.2)))=true /\ aftOK (ren (B++F)) (lk .free L'') (B++F)=true /\ rnOk (ren (B++F)) r'=true) /\
  K ⟨rn (ren (B++F)) r',us++upsL (ren (B++F)) (lk .free L'') (B++F),[]⟩
theorem zag (ms:List Bool) (B F:List (Nat × Nat)) {f:FuncId} {args:List HV} {d:Nat} {H:Nat -> HSlot} {K:Res -> Prop} (h:mixKL H ms args fun a us=>zgh a fun a=>giveK P f H B F a us K) :
 hcall (CR P) f args d H K:=by
 have h:=zfj _ _ h
 obtain ⟨a,us,hg,hv⟩:=h
 rw [zea] at hg
 obtain ⟨args',L',r',L'',h1,⟨h2,h3,h4,h5,h6,h7,h8,h9⟩,h10⟩:=hg
 simp only [Bool.and_eq_true] at h7
 refine ⟨_,.give (us:=us) (ms:=ms) (args1:=a) (B:=B) (F:=F) (args':=args') (H':=lk .free L') (r':=r') (H'':=lk .free L'')
  ⟨hv.loc H (fun _ _=>rfl) _ ⟨rfl,rfl⟩,h1,h2,h3,zqe h4,zvj h5,zdh h7.1.1.1,zdh h7.1.1.2,zjs h6,zdh h7.1.2,zdh h7.2,zjt h8,h9,rfl,by rw [zsn]⟩,h10⟩
theorem zap (F:List (Nat × Nat)) {f:FuncId} {args:List HV} {d:Nat} {H:Nat -> HSlot} {K:Res -> Prop}
 (h:zed H args fun a us=>zgh (normArgs P (zsg P f) a) fun a=>∃ r' L'',FunOK P f a zac r' (lk .free L'') /\
  (freOK H F /\ (zdg (F.map (·.1)) && zdg (F.map (·.2)))=true /\ aftOK (ren F) (lk .free L'') F=true /\ rnOk (ren F) r'=true) /\ K ⟨rn (ren F) r',us++upsL (ren F) (lk .free L'') F,[]⟩) :
 hcall (CR P) f args d H K:=by
 obtain ⟨a,us,h,hv⟩:=zcs _ h
 rw [zea] at h
 obtain ⟨r',L'',h1,⟨h6,h7,h8,h9⟩,h10⟩:=h
 simp only [Bool.and_eq_true] at h7
 replace h1:=h1.args fun _ _ _ _ hx=>hx.normArgs _
 have hre:ren []=noIds:=by funext i;rfl
 refine ⟨_,.give (B:=[]) (F:=F) (us:=us) (ms:=args.map fun _=>true) (args1:=a) (args':=a) (H':=zac) (r':=r') (H'':=lk .free L'')
  ⟨zsk (hv.loc H (fun _ _=>rfl) _ ⟨rfl,rfl⟩),h1,by rw [hre];exact hv.noid,by rw [hre];exact zfz a hv.noid,fun _=>.inl rfl,by simp,by simp,by simp,zjs h6,zdh h7.1,zdh h7.2,zjt h8,h9,rfl,by rw [zsn];rfl⟩,h10⟩
theorem yoj (fz:List Nat) {pins:List Nat} {v r:HV} {H2:Nat -> HSlot} {heap:List (Nat × HSlot)} (l:List (Nat × Option Nat)) (h1:zfe heap l=true) (h2:zdg (tgtsA heap l)=true) (h3:pinOK (lkN l) pins)
 (h4:rnOk (lkN l) r=true) (h5:rn (lkN l) r=fzV fz H2 v) (h6:hpOK (lkN l) (fzS fz (hinit [v] 1 H2 pins)) heap):HFin pins v H2 r (lk .free heap):=by
 refine ⟨fz,rfl,rfl,lkN l,fun i=>?_,?_,?_,?_⟩
 . cases i with
   | zero=>exact .inr ⟨h4,h5⟩
   | succ i =>
    refine .inr ⟨?_,?_⟩
    . show rnOk (lkN l) ((nth [r] (i+1)).getD .und)=true
      simp [nth,rnOk]
    . show rn (lkN l) ((nth [r] (i+1)).getD .und)=fzV fz H2 ((nth [v] (i+1)).getD .und)
      simp [nth,rn,fzV]
 . exact ybc l h1 h3 h6
 . intro id id' b j hb hd hj hj'
   exact zvi h2 (zoc hj) (zoc hj') (by intro he;have hb:lk HSlot.free heap id=_:=hb;rw [he] at hb;cases hb) hd
 . exact ybd l h3
theorem zau {pins:List Nat} {v r:HV} {H2:Nat -> HSlot} {heap:List (Nat × HSlot)} (l:List (Nat × Option Nat)) (h1:zfe heap l=true) (h2:zdg (tgtsA heap l)=true) (h3:pinOK (lkN l) pins)
 (h4:rnOk (lkN l) r=true) (h5:rn (lkN l) r=v) (h6:hpOK (lkN l) (hinit [v] 1 H2 pins) heap):HFin pins v H2 r (lk .free heap) :=
 yoj [] l h1 h2 h3 h4 (by rw [zyj];exact h5) (by rw [ygk];exact h6)
end
end Go.HL
namespace Go.HL
section
variable {P:Program}
theorem zeo {f:FuncId} {args:List HV} {d:Nat} {H:Nat -> HSlot} {K:Res -> Prop} (h:zed H args fun a us=>∃ r,FunOK P f a zac r zac /\ scal r=true /\ K ⟨r,[],us.map (·.1)⟩) :
 hcall (CR P) f args d H K:=by
 obtain ⟨a,us,⟨r,h1,h2,h3⟩,hv⟩:=zcs _ h
 exact ⟨_,.lend ⟨hv.loc H (fun _ _=>rfl) _ ⟨rfl,rfl⟩,h1,h2,rfl,rfl⟩,h3⟩
def zbm {α:Type} (p:α -> Bool) (k:Nat):List α -> Int
 | []=>-1
 | x :: r=>if p x then k else zbm p (k+1) r
theorem W_nat {k n:Nat} (h:k < n) (hn:n < 2 ^ 62):W ((k:Int)+1)=((k+1:Nat):Int):=by rw [W_fit (by omega) (by omega)];push_cast;rfl
end
end Go.HL
namespace Go.HL
section
variable {P:Program}
theorem yeb (F:List (Nat × Nat)) {f:FuncId} {args:List HV} {d:Nat} {H:Nat -> HSlot} {K:Res -> Prop}
 (h:zed H args fun a us=>∃ r' L'',FunOK P f a zac r' (lk .free L'') /\
  (freOK H F /\ (zdg (F.map (·.1)) && zdg (F.map (·.2)))=true /\ aftOK (ren F) (lk .free L'') F=true /\ rnOk (ren F) r'=true) /\ K ⟨rn (ren F) r',us++upsL (ren F) (lk .free L'') F,[]⟩) :
 hcall (CR P) f args d H K:=by
 obtain ⟨a,us,h,hv⟩:=zcs _ h
 obtain ⟨r',L'',h1,⟨h6,h7,h8,h9⟩,h10⟩:=h
 simp only [Bool.and_eq_true] at h7
 have hre:ren []=noIds:=by funext i;rfl
 refine ⟨_,.give (B:=[]) (F:=F) (us:=us) (ms:=args.map fun _=>true) (args1:=a) (args':=a) (H':=zac) (r':=r') (H'':=lk .free L'')
  ⟨zsk (hv.loc H (fun _ _=>rfl) _ ⟨rfl,rfl⟩),h1,by rw [hre];exact hv.noid,by rw [hre];exact zfz a hv.noid,fun _=>.inl rfl,by simp,by simp,by simp,zjs h6,zdh h7.1,zdh h7.2,zjt h8,h9,rfl,by rw [zsn];rfl⟩,h10⟩
end
end Go.HL
namespace Go.HL
theorem zbn:∀ {L:List (Nat × HSlot)} (i:Nat),lk .free L i=.free \/ i ∈ L.map (·.1)
 | [],i=>.inl rfl
 | (a,b) :: r,i=>by
  simp only [lk,List.map_cons,List.mem_cons]
  cases hb:Nat.beq i a with
  | true=>exact .inr (.inl (Nat.eq_of_beq_eq_true hb))
  | false =>
   rcases zbn (L:=r) i with h | h
   . exact .inl h
   . exact .inr (.inr h)
end Go.HL
namespace Go.HL
open Go.RowKit
mutual
def PV.bulk:PV -> Nat
 | .v (.string s)=>s.size+1
 | .v _=>1
 | .sl _ rows=>bulkR rows+1
def bulkL:List PV -> Nat
 | []=>0
 | x :: r=>x.bulk+bulkL r
def bulkR:List (List PV) -> Nat
 | []=>0
 | r :: rs=>bulkL r+bulkR rs
end
mutual
def dwb {H:Type}:DataW H -> Nat
 | .lit (.string bytes)=>bytes.length+1
 | .lit _=>1
 | .nil=>1
 | .ptr d=>dwb d+1
 | .slice elems spare=>dwbL elems+dwbL spare+1
 | .agg parts=>dwbL parts+1
 | .iface _ d=>dwb d+1
 | .map entries=>dwbE entries+1
 | .held _=>1
def dwbL {H:Type}:List (DataW H) -> Nat
 | []=>0
 | d :: r=>dwb d+dwbL r
def dwbE {H:Type}:List (Lit × DataW H) -> Nat
 | []=>0
 | x :: r=>dwbE1 x+dwbE r
def dwbE1 {H:Type}:Lit × DataW H -> Nat
 | (.string bytes,d)=>bytes.length+dwb d+1
 | (_,d)=>dwb d+1
end
def suppF (P:Program) (S:TypeId -> Bool):Nat -> Nat -> List Field -> Bool
 | off,tot,[]=>Nat.beq off tot
 | off,tot,f :: fs=>Nat.beq f.offset off && S f.type && suppF P S (off+P.cellsOf f.type) tot fs
def supp (P:Program):Nat -> TypeId -> Bool
 | 0,_=>false
 | n+1,t=>match P.underlying t with
  | some .bool=>true
  | some (.int _)=>true
  | some .string=>true
  | some (.slice e)=>supp P n e && Nat.blt 0 (P.cellsOf e)
  | some (.struct fs)=>suppF P (supp P n) 0 (P.cellsOf t) fs.toList
  | _=>false
def shpF (P:Program) (S:TypeId -> List PV -> Prop):List Field -> List PV -> Prop
 | [],pvs=>pvs=[]
 | f :: fs,pvs=>∃ a b,pvs=a++b /\ a.length=P.cellsOf f.type /\ S f.type a /\ shpF P S fs b
def shp (P:Program):Nat -> TypeId -> List PV -> Prop
 | 0,_,_=>False
 | n+1,t,pvs=>match P.underlying t with
  | some .bool=>∃ b,pvs=[.v (.bool b)]
  | some (.int k)=>∃ z,pvs=[.v (.int k z)] /\ (Lit.int k z).wf=true
  | some .string=>∃ s,pvs=[.v (.string s)] /\ s.size <= maxLen
  | some (.slice e)=>∃ rows,pvs=[.sl (P.cellsOf e) rows] /\ ∀ r ∈ rows,shp P n e r
  | some (.struct fs)=>shpF P (shp P n) fs.toList pvs
  | _=>False
section
variable {H:Type} {enc:TypeId × Value -> H} {P:Program} {W:World} {base:Nat} {sp:Nat -> Bool} {held:Bool}
abbrev RW (W:World):Nat -> Prop:=fun b=>b < W.heap.size
theorem zqf {a:Addr} {n:Nat} {cs:List Value} (h:W.cells? base a n=some cs):cs.length=n /\ (∀ k v,cs[k]?=some v -> W.cell? (a.add k)=some v):=by
 unfold World.cells? at h
 split at h
 . have hl:=mapM_some_length h
   refine ⟨by simpa using hl,fun k v hv=>?_⟩
   have hk:k < n:=by
    have:=(List.getElem?_eq_some_iff.1 hv).1
    simpa [hl] using this
   have:=mapM_some_get h k k (by rw [List.getElem?_range hk])
   rw [this];exact hv
 . cases h
theorem yok {b o:Nat} {v:Value} (h:W.cell? ⟨b,o,none⟩=some v):b < W.heap.size:=by
 unfold World.cell? at h
 cases hb:W.heap[b]? with
 | none=>simp only [hb] at h;cases h
 | some x=>exact (Array.getElem?_eq_some_iff.1 hb).1
theorem zlx:∀ (a b:List PV),bulkL (a++b)=bulkL a+bulkL b
 | [],b=>by simp [bulkL]
 | x :: a,b=>by simp [bulkL,zlx a b];omega
theorem zvk {fuel:Nat} {S:TypeId -> Bool} {Sh:TypeId -> List PV -> Prop} {cs:List Value}
 (ih:∀ t cs d ps,S t=true -> DataW.trod enc P W base sp held fuel t cs=some (d,ps) -> ∃ pvs,PRepL W (RW W) pvs cs /\ Sh t pvs /\ bulkL pvs <= dwb d) :
 ∀ (fs:List Field) (off:Nat) (xs:List (DataW H × List MemPlace)),suppF P S off cs.length fs=true -> off <= cs.length ->
  (∀ f ∈ fs,f.offset+P.cellsOf f.type <= cs.length) ->
  fs.mapM (fun f=>DataW.trod enc P W base sp held fuel f.type ((cs.drop f.offset).take (P.cellsOf f.type)))=some xs ->
  ∃ pvs,PRepL W (RW W) pvs (cs.drop off) /\ shpF P Sh fs pvs /\ bulkL pvs <= dwbL (xs.map (·.1))
 | [],off,xs,hs,hle,_,h=>by
  simp only [suppF] at hs
  have:=Nat.eq_of_beq_eq_true hs
  subst this
  simp only [List.mapM_nil,Option.pure_def,Option.some.injEq] at h
  subst h
  exact ⟨[],by rw [List.drop_eq_nil_of_le (Nat.le_refl _)];exact .nil,rfl,by simp [bulkL,dwbL]⟩
 | f :: fs,off,xs,hs,hle,hb,h=>by
  simp only [suppF,Bool.and_eq_true] at hs
  obtain ⟨⟨h1,h2⟩,h3⟩:=hs
  have h1:=Nat.eq_of_beq_eq_true h1
  subst h1
  simp only [List.mapM_cons,Option.bind_eq_bind,Option.pure_def] at h
  cases hx:DataW.trod enc P W base sp held fuel f.type ((cs.drop f.offset).take (P.cellsOf f.type)) with
  | none=>rw [hx] at h;simp at h
  | some x =>
   obtain ⟨d,ps⟩:=x
   rw [hx] at h
   simp only [Option.bind_some] at h
   cases hr:fs.mapM (fun f=>DataW.trod enc P W base sp held fuel f.type ((cs.drop f.offset).take (P.cellsOf f.type))) with
   | none=>rw [hr] at h;simp at h
   | some r =>
    rw [hr] at h
    simp only [Option.bind_some,Option.some.injEq] at h
    subst h
    obtain ⟨pa,ha1,ha2,ha3⟩:=ih _ _ _ _ h2 hx
    have hbf:=hb f (by simp)
    obtain ⟨pb,hb1,hb2,hb3⟩:=zvk ih fs (f.offset+P.cellsOf f.type) r h3 hbf (fun g hg=>hb g (by simp [hg])) hr
    have hl:=ha1.length
    have htl:((cs.drop f.offset).take (P.cellsOf f.type)).length=P.cellsOf f.type:=by simp;omega
    refine ⟨pa++pb,?_,⟨pa,pb,rfl,by omega,ha2,hb2⟩,by rw [zlx];simp only [List.map_cons,dwbL];omega⟩
    have:=ha1.append hb1
    rw [<- List.drop_drop,List.take_append_drop] at this
    exact this
theorem ybf {S:TypeId -> Bool} {tot:Nat}:∀ {fs:List Field} {off:Nat},suppF P S off tot fs=true -> off <= tot /\ ∀ f ∈ fs,f.offset+P.cellsOf f.type <= tot
 | [],off,h=>by simp only [suppF] at h;have:=Nat.eq_of_beq_eq_true h;exact ⟨by omega,by simp⟩
 | f :: fs,off,h=>by
  simp only [suppF,Bool.and_eq_true] at h
  obtain ⟨⟨h1,h2⟩,h3⟩:=h
  have h1:=Nat.eq_of_beq_eq_true h1
  obtain ⟨h4,h5⟩:=ybf h3
  refine ⟨by omega,fun g hg=>?_⟩
  rcases List.mem_cons.1 hg with rfl | hg
  . omega
  . exact h5 g hg
theorem zso:∀ (n fuel:Nat) (t:TypeId) (cs:List Value) (d:DataW H) (ps:List MemPlace),supp P n t=true -> DataW.trod enc P W base sp held fuel t cs=some (d,ps) ->
 ∃ pvs,PRepL W (RW W) pvs cs /\ shp P n t pvs /\ bulkL pvs <= dwb d
 | 0,fuel,t,cs,d,ps,hs,h=>by cases hs
 | n+1,0,t,cs,d,ps,hs,h=>by simp [DataW.trod] at h
 | n+1,fuel+1,t,cs,d,ps,hs,h=>by
  simp only [supp] at hs
  simp only [shp]
  unfold DataW.trod at h
  cases hu:P.underlying t with
  | none=>rw [hu] at hs;cases hs
  | some u =>
   rw [hu] at hs h
   cases u with
   | bool =>
    rcases cs with _ | ⟨c,_ | ⟨c2,cs⟩⟩
    . cases h
    . cases c <;> try cases h
      rename_i b
      exact ⟨[.v (.bool b)],.cons (.v _ rfl) .nil,⟨b,rfl⟩,by simp [bulkL,PV.bulk,dwb]⟩
    . cases c <;> first | cases h | simp at h
   | int k =>
    rcases cs with _ | ⟨c,_ | ⟨c2,cs⟩⟩
    . cases h
    . cases c <;> try cases h
      rename_i k' z
      simp only at h
      split at h
      . rename_i hw
        obtain ⟨rfl,hw⟩:=hw
        cases h
        exact ⟨[.v (.int k' z)],.cons (.v _ rfl) .nil,⟨z,rfl,hw⟩,by simp [bulkL,PV.bulk,dwb]⟩
      . cases h
    . cases c <;> first | cases h | simp at h
   | string =>
    rcases cs with _ | ⟨c,_ | ⟨c2,cs⟩⟩
    . cases h
    . cases c <;> try cases h
      rename_i s
      simp only at h
      split at h
      . rename_i hw
        cases h
        exact ⟨[.v (.string s)],.cons (.v _ rfl) .nil,⟨s,rfl,hw⟩,by simp only [bulkL,PV.bulk,dwb,Array.length_toList,Nat.add_zero];exact Nat.le_refl _⟩
      . cases h
    . cases c <;> first | cases h | simp at h
   | slice e =>
    simp only [Bool.and_eq_true] at hs
    obtain ⟨hs,hpos⟩:=hs
    have hpos:0 < P.cellsOf e:=Nat.le_of_ble_eq_true hpos
    rcases cs with _ | ⟨c,_ | ⟨c2,cs⟩⟩
    . cases h
    . cases c <;> try cases h
      rename_i a len cap
      cases a with
      | none =>
       cases len with
       | zero=>cases cap with
        | zero =>
         cases h
         exact ⟨[.sl (P.cellsOf e) []],.cons (.sl0 _ _ _ (Nat.zero_le _)) .nil,⟨[],rfl,by simp⟩,by simp [bulkL,PV.bulk,bulkR,dwb]⟩
        | succ cap=>cases h
       | succ len=>cases h
      | some a =>
       simp only at h
       split at h
       . rename_i hb
         obtain ⟨hb,hlc,hcm⟩:=hb
         cases he:(List.range len).mapM (fun i=>(W.cells? base (a.add (i * P.cellsOf e)) (P.cellsOf e)).bind (DataW.trod enc P W base sp held fuel e)) with
         | none=>rw [he] at h;simp at h
         | some elems =>
          rw [he] at h
          simp only [Option.bind_some] at h
          have hle:=mapM_some_length he
          simp only [List.length_range] at hle
          have hd:dwbL (elems.map (·.1))+1 <= dwb d:=by
           obtain ⟨rest,hr,hx⟩:=Option.map_eq_some_iff.1 h
           cases hx
           simp only [dwb]
           omega
          -- each element
          have hat:∀ i,i < len -> ∃ cs x,W.cells? base (a.add (i * P.cellsOf e)) (P.cellsOf e)=some cs /\ elems[i]?=some x /\ DataW.trod enc P W base sp held fuel e cs=some x:=by
           intro i hi
           have hg:=mapM_some_get he i i (by rw [List.getElem?_range hi])
           obtain ⟨x,hx⟩:∃ x,elems[i]?=some x:=⟨_,List.getElem?_eq_getElem (by omega)⟩
           rw [hx] at hg
           cases hc:W.cells? base (a.add (i * P.cellsOf e)) (P.cellsOf e) with
           | none=>rw [hc] at hg;simp at hg
           | some cs=>rw [hc] at hg;exact ⟨cs,x,rfl,hx,by simpa using hg⟩
          cases len with
          | zero =>
           have:elems=[]:=List.eq_nil_of_length_eq_zero hle
           subst this
           refine ⟨[.sl (P.cellsOf e) []],.cons (.sl0 _ _ _ hcm) .nil,⟨[],rfl,by simp⟩,?_⟩
           simp [bulkL,PV.bulk,bulkR] at hd ⊢
           omega
          | succ len =>
           have hspot:a=⟨a.block,a.off,none⟩:=by
            obtain ⟨cs0,x0,h1,_,_⟩:=hat 0 (by omega)
            obtain ⟨hl0,hc0⟩:=zqf h1
            have h2:=hc0 0 (cs0[0]'(by omega)) (List.getElem?_eq_getElem (by omega))
            simp only [Nat.zero_mul,Addr.add,if_true] at h2
            obtain ⟨blk,off,spot⟩:=a
            unfold World.cell? at h2
            split at h2
            . split at h2
              . cases h2
              . rename_i hsn
                cases spot with
                | none=>rfl
                | some x=>simp at hsn
            . cases h2
           obtain ⟨blk,off,spot⟩:=a
           simp only [Addr.mk.injEq,true_and] at hspot
           subst hspot
           have hadd:∀ off j,(⟨blk,off,none⟩:Addr).add j=⟨blk,off+j,none⟩:=by
            intro off j;unfold Addr.add;split
            . rename_i h0;subst h0;rfl
            . rfl
           have hrow:∀ i,i < len+1 -> ∃ r:List PV,r.length=P.cellsOf e /\ shp P n e r /\ (∃ x,elems[i]?=some x /\ bulkL r <= dwb x.1) /\ ∀ (k:Nat) y,r[k]?=some y -> ∃ cv,W.cell? ⟨blk,off+(i * P.cellsOf e+k),none⟩=some cv /\ PRep W (RW W) y cv:=by
            intro i hi
            obtain ⟨cs,x,h1,h2,h3⟩:=hat i hi
            obtain ⟨r,h4,h5,h6⟩:=zso n fuel e cs x.1 x.2 hs h3
            obtain ⟨h7,h8⟩:=zqf h1
            refine ⟨r,by rw [<- h7];exact h4.length.symm,h5,⟨x,h2,h6⟩,fun k y hk=>?_⟩
            obtain ⟨v,hv,hp⟩:=h4.get k y hk
            have h9:=h8 k v hv
            rw [hadd,hadd] at h9
            exact ⟨v,by rw [<- h9,Nat.add_assoc],hp⟩
           let row:Nat -> List PV:=fun i=>if hi:i < len+1 then Classical.choose (hrow i hi) else []
           have hrowi:∀ i (hi:i < len+1),(row i).length=P.cellsOf e /\ shp P n e (row i) /\ (∃ x,elems[i]?=some x /\ bulkL (row i) <= dwb x.1) /\ ∀ (k:Nat) y,(row i)[k]?=some y -> ∃ cv,W.cell? ⟨blk,off+(i * P.cellsOf e+k),none⟩=some cv /\ PRep W (RW W) y cv:=by
            intro i hi
            have:=Classical.choose_spec (hrow i hi)
            simp only [row,dif_pos hi]
            exact this
           let rows:=(List.range (len+1)).map row
           have hrl:rows.length=len+1:=by simp [rows]
           have hmem:∀ r ∈ rows,∃ i,i < len+1 /\ r=row i:=by
            intro r hr
            obtain ⟨i,hi,rfl⟩:=List.mem_map.1 hr
            exact ⟨i,List.mem_range.1 hi,rfl⟩
           have hlens:∀ r ∈ rows,r.length=P.cellsOf e:=by
            intro r hr
            obtain ⟨i,hi,rfl⟩:=hmem r hr
            exact (hrowi i hi).1
           have hcell:∀ k y,rows.flatten[k]?=some y -> ∃ cv,W.cell? ⟨blk,off+k,none⟩=some cv /\ PRep W (RW W) y cv:=by
            intro k y hk
            obtain ⟨i,j,r,e1,hj,hr,hy⟩:=zdr hlens hk
            have hi:i < len+1:=by
             have:=(List.getElem?_eq_some_iff.1 hr).1
             rw [hrl] at this;exact this
            have hre:r=row i:=by
             simp only [rows,List.getElem?_map,List.getElem?_range hi,Option.map_some,Option.some.injEq] at hr
             exact hr.symm
            subst hre
            obtain ⟨cv,h1,h2⟩:=(hrowi i hi).2.2.2 j y hy
            exact ⟨cv,by rw [e1];exact h1,h2⟩
           have hblk:blk < W.heap.size:=by
            obtain ⟨hl0,_,_,hc0⟩:=hrowi 0 (by omega)
            obtain ⟨cv,h1,_⟩:=hc0 0 ((row 0)[0]'(by omega)) (List.getElem?_eq_getElem (by omega))
            exact yok h1
           have hprep:PRep W (RW W) (.sl (P.cellsOf e) rows) (.slice (some ⟨blk,off,none⟩) (len+1) cap):=by
            have:=PRep.sl (w:=W) (R:=RW W) (P.cellsOf e) rows blk off cap (fun k=>(W.cell? ⟨blk,off+k,none⟩).getD undef) (by omega) hcm hlens hblk
             (fun k y hk=>by obtain ⟨cv,h1,_⟩:=hcell k y hk;simp only [h1];rfl) (fun k y hk=>by obtain ⟨cv,h1,h2⟩:=hcell k y hk;simp only [h1];exact h2)
            rw [hrl] at this
            exact this
           refine ⟨[.sl (P.cellsOf e) rows],.cons hprep .nil,⟨rows,rfl,fun r hr=>?_⟩,?_⟩
           . obtain ⟨i,hi,rfl⟩:=hmem r hr
             exact (hrowi i hi).2.1
           . have hbr:∀ (es:List (DataW H × List MemPlace)) (g:Nat -> List PV) (m:Nat),es.length=m -> (∀ i,i < m -> ∃ x,es[i]?=some x /\ bulkL (g i) <= dwb x.1) -> bulkR ((List.range m).map g) <= dwbL (es.map (·.1)):=by
              intro es
              induction es with
              | nil=>intro g m hm _;simp at hm;subst hm;simp [bulkR,dwbL]
              | cons x es ih =>
               intro g m hm hg
               simp at hm
               subst hm
               rw [List.range_succ_eq_map]
               simp only [List.map_cons,List.map_map,bulkR,dwbL]
               obtain ⟨x0,h1,h2⟩:=hg 0 (by omega)
               simp at h1
               subst h1
               have:=ih (g ∘ Nat.succ) es.length rfl fun i hi=>by
                obtain ⟨y,h3,h4⟩:=hg (i+1) (by omega)
                exact ⟨y,by simpa using h3,h4⟩
               omega
             have:bulkR rows <= dwbL (elems.map (·.1)):=hbr elems row (len+1) hle fun i hi=>(hrowi i hi).2.2.1
             simp only [bulkL,PV.bulk]
             show bulkR rows+1+0 <= dwb d
             omega
       . cases h
    . cases c <;> first | cases h | simp at h
   | struct fs =>
    simp only at h
    split at h
    . rename_i hl
      obtain ⟨xs,hx,hx2⟩:=Option.map_eq_some_iff.1 h
      cases hx2
      rw [<- hl] at hs
      obtain ⟨h1,h2⟩:=ybf hs
      obtain ⟨pvs,h3,h4,h5⟩:=zvk (S:=supp P n) (Sh:=shp P n) (fun t cs d ps=>zso n fuel t cs d ps) fs.toList 0 xs hs h1 h2 hx
      exact ⟨pvs,by simpa using h3,h4,by simp only [dwb];omega⟩
    . cases h
   | _=>cases hs
def argHV (P:Program) (t:TypeId) (pvs:List PV):HV:=match P.underlying t with
 | some (.struct _)=>.agg (pvs.map .p)
 | _=>match pvs with | [x]=>.p x | _=>.any
theorem ygr {m:LMap} {R:Nat -> Prop} {pvs:List PV} {vs:List Value} (h:PRepL W R pvs vs):HRepL m W R (pvs.map .p) vs:=by
 induction h with
 | nil=>simp only [List.map_nil,HRepL]
 | cons h _ ih=>simp only [List.map_cons,HRepL];exact ⟨_,_,rfl,by simp only [HRep];exact h,ih⟩
theorem yol {n:Nat} {t:TypeId} {v:Value} {d:DataW H} {ps:List MemPlace} {r:Reach} {b0:Nat} {m:LMap} (hs:supp P n t=true) (hok:Value.okWide P W r b0 t v) (h:DataW.Trod enc P W base sp held t v d ps) :
 ∃ pvs,shp P n t pvs /\ bulkL pvs <= dwb d /\ HRep m W (RW W) (argHV P t pvs) v:=by
 obtain ⟨fuel,h⟩:=h
 obtain ⟨pvs,h1,h2,h3⟩:=zso n fuel t _ d ps hs h
 refine ⟨pvs,h2,h3,?_⟩
 cases n with
 | zero=>cases hs
 | succ n =>
  have one:∀ {x:PV},pvs=[x] -> v.cells=#[v] -> HRep m W (RW W) (.p x) v:=by
   intro x hx hv
   subst hx
   rw [hv] at h1
   cases h1 with
   | cons h _=>simp only [HRep];exact h
  simp only [supp] at hs
  simp only [shp] at h2
  simp only [Value.okWide] at hok
  unfold argHV
  cases hu:P.underlying t with
  | none=>rw [hu] at hs;cases hs
  | some u =>
   rw [hu] at hs h2 hok
   cases u with
   | bool =>
    simp only [Cell.okWide,Cell.ok,hu] at hok
    obtain ⟨b,rfl⟩:=h2
    cases v <;> try exact hok.elim
    exact one rfl rfl
   | int k =>
    simp only [Cell.okWide,Cell.ok,hu] at hok
    obtain ⟨b,rfl,_⟩:=h2
    cases v <;> try exact hok.elim
    exact one rfl rfl
   | string =>
    simp only [Cell.okWide,Cell.ok,hu] at hok
    obtain ⟨b,rfl,_⟩:=h2
    cases v <;> try exact hok.elim
    exact one rfl rfl
   | slice e =>
    simp only [Cell.okWide,Cell.ok,hu] at hok
    obtain ⟨b,rfl,_⟩:=h2
    cases v <;> try exact hok.elim
    exact one rfl rfl
   | struct fs =>
    obtain ⟨cs,rfl,_,_⟩:=hok
    simp only [HRep]
    exact ⟨cs,rfl,ygr h1⟩
   | _=>cases hs
def shpL (P:Program) (n:Nat):List TypeId -> List (List PV) -> Prop
 | [],[]=>True
 | t :: ts,x :: xs=>shp P n t x /\ shpL P n ts xs
 | _,_=>False
def zod (P:Program):List TypeId -> List (List PV) -> List HV
 | t :: ts,x :: xs=>argHV P t x :: zod P ts xs
 | _,_=>[]
theorem ybg {n:Nat} {r:Reach} {b0:Nat} {m:LMap}:∀ {ts:List TypeId} {vs:List Value} {ds:List (DataW H)} {ps:List MemPlace},(∀ t ∈ ts,supp P n t=true) -> (∀ (j:Nat) t v,ts[j]?=some t -> vs[j]?=some v -> Value.okWide P W r b0 t v) ->
 DataW.TrodAll enc P W base sp held ts vs ds ps -> ∃ L,shpL P n ts L /\ bulkR L <= dwbL ds /\ HRepL m W (RW W) (zod P ts L) vs /\ ds.length=ts.length
 | [],[],[],ps,_,_,_=>⟨[],trivial,by simp [bulkR,dwbL],by simp only [zod,HRepL],rfl⟩
 | t :: ts,v :: vs,d :: ds,ps,hs,hok,h=>by
  obtain ⟨p,q,h1,h2,rfl⟩:=h
  obtain ⟨x,h3,h4,h5⟩:=yol (m:=m) (hs t (by simp)) (hok 0 t v rfl rfl) h1
  obtain ⟨L,h6,h7,h8,h9⟩:=ybg (fun t ht=>hs t (by simp [ht])) (fun j t v hj hv=>hok (j+1) t v (by simpa using hj) (by simpa using hv)) h2
  exact ⟨x :: L,⟨h3,h6⟩,by simp only [bulkR,dwbL];omega,by simp only [zod,HRepL];exact ⟨v,vs,rfl,h5,h8⟩,by simp [h9]⟩
 | [],[],_ :: _,_,_,_,h=>h.elim
 | [],_ :: _,_,_,_,_,h=>h.elim
 | _ :: _,[],_,_,_,_,h=>h.elim
 | _ :: _,_ :: _,[],_,_,_,h=>h.elim
theorem zju (hl:laidOutB P=true) {W':World} (hb:Below W.heap.size W W'):∀ {ts:List TypeId} {vs:List Value} {ds:List (DataW H)} {ps:List MemPlace},(∀ t ∈ ts,P.readableRec t=true /\ t < P.types.size) ->
 DataW.TrodAll enc P W 0 (fun _=>true) true ts vs ds ps -> (∀ x ∈ ps,x.block < W.heap.size) -> DataW.TrodAll enc P W' 0 (fun b=>decide (b < W.heap.size)) true ts vs ds ps
 | [],[],[],ps,_,h,_=>h
 | t :: ts,v :: vs,d :: ds,ps,hr,h,hlt=>by
  obtain ⟨p,q,h1,h2,rfl⟩:=h
  exact ⟨p,q,Below.trod hl (hr t (by simp)).1 (hr t (by simp)).2 h1 hb fun x hx=>hlt x (by simp [hx]),zju hl hb (fun t ht=>hr t (by simp [ht])) h2 fun x hx=>hlt x (by simp [hx]),rfl⟩
 | [],[],_ :: _,_,_,h,_=>h.elim
 | [],_ :: _,_,_,_,h,_=>h.elim
 | _ :: _,[],_,_,_,h,_=>h.elim
 | _ :: _,_ :: _,[],_,_,h,_=>h.elim
theorem zvl {f:FuncId} {fn:Func} {s:ChangeSpec} {args:Array Value} {ds gs:List (DataW H)} {before:List MemPlace} {b0:Nat} {tb:TypeId} (n:Nat) (hl:laidOutB P=true)
 (hsupp:fn.params.toList.all (supp P n)=true) (hread:fn.params.toList.all (fun t=>P.readableRec t && decide (t < P.types.size))=true)
 (hrt:fn.resultTypes=#[tb]) (htb:P.underlying tb=some .bool) (hvars:s.vars=[]) (hfn:∀ ds:List (DataW H),ds.length=fn.params.toList.length -> (s.fn H ds).results=[.lit (.bool true)] /\ (s.fn H ds).args=ds /\ (s.fn H ds).vars=[])
 (hval:∀ (j:Nat) t v,fn.params[j]?=some t -> args[j]?=some v -> Value.okWide P W .any b0 t v)
 (hW:DataW.Whole enc P fn.params.toList s.vars false W args.toList ds gs before)
 (hspec:∀ L,shpL P n fn.params.toList L -> bulkR L <= dwbL ds -> FunOK P f (zod P fn.params.toList L) zac (hbool true) zac) :
 Calls P f args W fun e W'=>∃ v,e=.returned v /\ s.post enc P fn false true false false W args v W':=by
 have hW':=hW
 obtain ⟨p,q,hA,hV,rfl,hfz,hnd⟩:=hW
 have hVe:gs=[] /\ q=[]:=by
  rw [hvars] at hV
  cases gs with
  | nil=>exact ⟨rfl,hV⟩
  | cons=>exact hV.elim
 obtain ⟨rfl,rfl⟩:=hVe
 obtain ⟨L,h1,h2,h3,h4⟩:=ybg (m:=fun _=>none) (n:=n) (fun t ht=>List.all_eq_true.1 hsupp t ht) (fun j t v hj hv=>hval j t v (by simpa using hj) (by simpa using hv)) hA
 let Γ:Ctx:=⟨fun _=>True,W,fun _=>False,fun _=>none⟩
 have hok:zaw Γ (fun _=>none) zac W:=⟨Nat.le_refl _,rfl,rfl,rfl,fun _ _ _=>rfl,fun _ _=>rfl,(fun id b hb=>by cases hb),(fun id b hb=>by cases hb),(fun id id' b b' l l' hb=>by cases hb),fun b hb=>hb.elim⟩
 have hrep:HRepL (fun _=>none) W (RR Γ (fun _=>none) zac W) (zod P fn.params.toList L) args.toList:=HRepL.mono (.refl _) (fun b hb=>⟨rfl,.inl trivial,hb,zsj⟩) _ _ h3
 obtain ⟨-,hcalls⟩:=hspec L h1 h2 Γ _ W args.toList hok hrep rfl
 have hat:args.toList.toArray=args:=by simp
 rw [hat] at hcalls
 refine hcalls.mono fun e W1 he=>?_
 obtain ⟨v,m',rfl,hok',hv,_⟩:=he
 have hvb:=zfi hv
 subst hvb
 have hb:Below W.heap.size W W1:=⟨hok'.os,hok'.tape,hok'.output,hok'.size,fun k hk=>hok'.frame k hk fun h=>h⟩
 obtain ⟨hf1,hf2,hf3⟩:=hfn (ds++[]) (by simp [h4])
 refine ⟨_,rfl,ds,[],p++[],[],p,[],hW',?_,?_,?_,hb.frame _,fun h=>by cases h⟩
 . rw [hf1,hrt]
   have:(Value.bool true).resultList (#[tb]:Array TypeId).size=[.bool true]:=by simp [Value.resultList]
   rw [this]
   exact ⟨[],[],⟨1,by simp [DataW.trod,htb,Value.cells]⟩,rfl,rfl⟩
 . rw [hf2]
   have hlt:∀ x ∈ p,x.block < W.heap.size:=fun x hx=>by simpa using hW'.lt x (by simpa using hx)
   have:=zju hl hb (fun t ht=>by
    have:=List.all_eq_true.1 hread t ht
    simp only [Bool.and_eq_true,decide_eq_true_eq] at this
    exact this) hA hlt
   simpa using this
 . rw [hvars,hf3]
   rfl
end
end Go.HL
namespace Go.HL
section
variable {P:Program} {n:Nat} {t e:TypeId} {pvs:List PV}
theorem zct {k:IntKind} (hu:P.underlying t=some (.int k)) (h:shp P n t pvs):∃ z,pvs=[.v (.int k z)] /\ (Lit.int k z).wf=true:=by
 cases n with
 | zero=>exact h.elim
 | succ n=>simpa only [shp,hu] using h
theorem zmv (hu:P.underlying t=some .bool) (h:shp P n t pvs):∃ b,pvs=[.v (.bool b)]:=by
 cases n with
 | zero=>exact h.elim
 | succ n=>simpa only [shp,hu] using h
theorem ygs (hu:P.underlying t=some (.slice e)) (h:shp P n t pvs):∃ rows,pvs=[.sl (P.cellsOf e) rows] /\ ∀ r ∈ rows,shp P (n - 1) e r:=by
 cases n with
 | zero=>exact h.elim
 | succ n=>simpa only [shp,hu,Nat.add_sub_cancel] using h
theorem zfk {fs:Array Field} (hu:P.underlying t=some (.struct fs)) (h:shp P n t pvs):shpF P (shp P (n - 1)) fs.toList pvs:=by
 cases n with
 | zero=>exact h.elim
 | succ n=>simpa only [shp,hu,Nat.add_sub_cancel] using h
theorem zbd {S:TypeId -> List PV -> Prop} {f:Field} {fs:List Field} (h:shpF P S (f :: fs) pvs):∃ a b,pvs=a++b /\ S f.type a /\ shpF P S fs b:=by
 obtain ⟨a,b,h1,_,h2,h3⟩:=h
 exact ⟨a,b,h1,h2,h3⟩
theorem ygt {β:Type} {row:β -> List PV} {Q:β -> Prop}:∀ {rows:List (List PV)},(∀ r ∈ rows,∃ x,r=row x /\ Q x) -> ∃ xs:List β,rows=xs.map row /\ ∀ x ∈ xs,Q x
 | [],_=>⟨[],rfl,by simp⟩
 | r :: rows,h=>by
  obtain ⟨x,rfl,hx⟩:=h r (by simp)
  obtain ⟨xs,rfl,hxs⟩:=ygt (rows:=rows) fun r hr=>h r (by simp [hr])
  exact ⟨x :: xs,rfl,by intro y hy;rcases List.mem_cons.1 hy with rfl | hy;exact hx;exact hxs y hy⟩
theorem ybh:∀ {rows:List (List PV)},(∀ r ∈ rows,1 <= bulkL r) -> rows.length <= bulkR rows
 | [],_=>by simp [bulkR]
 | r :: rows,h=>by
  have h1:=h r (by simp)
  have h2:=ybh (rows:=rows) fun r hr=>h r (by simp [hr])
  simp only [bulkR,List.length_cons];omega
theorem wf_i64 {z:Int} (h:(Lit.int .i64 z).wf=true):-9223372036854775808 <= z /\ z <= 9223372036854775807:=by
 simpa [Lit.wf,IntKind.min,IntKind.max,IntKind.signed,IntKind.bits] using h
theorem zjv {ts:List TypeId} {L:List (List PV)} (h:shpL P n (t :: ts) L):∃ x xs,L=x :: xs /\ shp P n t x /\ shpL P n ts xs:=by
 cases L with
 | nil=>exact h.elim
 | cons x xs=>exact ⟨x,xs,rfl,h.1,h.2⟩
theorem ylj {L:List (List PV)} (h:shpL P n [] L):L=[]:=by
 cases L with
 | nil=>rfl
 | cons x xs=>exact h.elim
end
end Go.HL
namespace Go.HL
abbrev pi (n:Int):PV:=.v (.int .i64 n)
abbrev pb (b:Bool):PV:=.v (.bool b)
abbrev ints (l:List Int):HV:=.p (.sl 1 (l.map fun n=>[pi n]))
def inI (z:Int):Prop:=-9223372036854775808 <= z /\ z <= 9223372036854775807
section
variable {P:Program} {n c:Nat} {t e:TypeId} {pvs:List PV}
theorem zdt {z:Int} (h:(Lit.int .i64 z).wf=true):inI z:=wf_i64 h
theorem zmw {α:Type} {row:α -> List PV} {Q:α -> Prop} (hu:P.underlying t=some (.slice e)) (hc:P.cellsOf e=c) (he:∀ r,shp P (n - 1) e r -> ∃ x,r=row x /\ Q x) (h:shp P n t pvs) :
 ∃ l:List α,pvs=[.sl c (l.map row)] /\ ∀ y ∈ l,Q y:=by
 obtain ⟨rows,h1,h2⟩:=ygs hu h
 obtain ⟨l,h3,h4⟩:=ygt (row:=row) (Q:=Q) fun r hr=>he r (h2 r hr)
 exact ⟨l,by rw [h1,h3,hc],h4⟩
theorem zvm (hu:P.underlying t=some (.slice e)) (hi:P.underlying e=some (.int .u8)) (hc:P.cellsOf e=1) (h:shp P n t pvs):∃ l:List UInt8,pvs=[.sl 1 (l.map bRow)]:=by
 obtain ⟨l,h1,-⟩:=zmw (row:=bRow) (Q:=fun _=>True) hu hc (fun r hr=>by
  obtain ⟨z,h1,h2⟩:=zct hi hr
  have h3:0 <= z /\ z <= 255:=by simpa [Lit.wf,IntKind.min,IntKind.max,IntKind.signed,IntKind.bits] using h2
  refine ⟨UInt8.ofNat z.toNat,?_,trivial⟩
  rw [h1]
  have:((UInt8.ofNat z.toNat).toNat:Int)=z:=by
   rw [UInt8.toNat_ofNat'];omega
  simp only [bRow,this]) h
 exact ⟨l,h1⟩
theorem ygu {rows:List (List PV)} {k:Nat} (hu:P.underlying t=some (.slice e)):argHV P t [.sl k rows]=.p (.sl k rows):=by unfold argHV;rw [hu]
end
end Go.HL
namespace Go.HL
theorem zbj {α:Type} {f:α -> List PV} {l:List α} {z:Int} {K:List PV -> Prop} (k:Nat) (hz:z=k) (h:k < l.length) (hk:K (f l[k])):hrow (l.map f) z K :=
 ⟨_,by omega,by rw [hz,Int.toNat_natCast,List.getElem?_map,List.getElem?_eq_getElem h];rfl,hk⟩
theorem zqg {b:List UInt8} {z:Int} {K:List PV -> Prop} (k:Nat) (hz:z=k) (h:k < b.length) (hk:K (bRow (b[k]?.getD 0))):hrow (b.map bRow) z K :=
 ⟨_,by omega,by rw [hz,Int.toNat_natCast,List.getElem?_map,List.getElem?_eq_getElem h];rfl,hk⟩
theorem zee {α:Type} {f:α -> List PV} {l:List α} {o n:Nat} {K:List (List PV) -> Prop} (h:o+n <= l.length) (hk:K (((l.drop o).take n).map f)):hsub (l.map f) o n K :=
 ⟨_,rfl,by rw [List.length_map];exact h,by rw [<- List.map_drop,<- List.map_take];exact hk⟩
theorem zez {α:Type} {f:α -> List PV} {l:List α} {o n:Nat} {K:List (List PV) -> Prop} (h:o+n=l.length) (hk:K ((l.drop o).map f)):hsub (l.map f) o n K:=by
 refine zee (by omega) ?_
 rw [List.take_of_length_le (by rw [List.length_drop];omega)]
 exact hk
end Go.HL
namespace Go.HL
def by8 (z:Int):UInt8:=UInt8.ofNat (z % 256).toNat
theorem zhn (z:Int):((by8 z).toNat:Int)=z % 256:=by
 unfold by8
 rw [UInt8.toNat_ofNat'];omega
theorem wrap8 (z:Int):IntKind.u8.wrap z=((by8 z).toNat:Int):=by
 rw [zhn]
 unfold IntKind.wrap
 simp [IntKind.bits,IntKind.signed]
theorem zca {z:Int} {K:Int -> Prop} (h:K ((by8 z).toNat:Int)):hwrap .u8 z K:=⟨_,(wrap8 z).symm,h⟩
abbrev byts (l:List UInt8):HV:=.p (.sl 1 (l.map bRow))
def enc16 (n:Int):List UInt8:=[by8 (n / 256),by8 n]
def dec16 (a b:UInt8):Int:=a.toNat * 256+b.toNat
theorem zqh (b:UInt8):by8 (b.toNat:Int)=b:=by
 apply UInt8.toNat_inj.1
 have h1:=zhn (b.toNat:Int)
 have h2:=b.toNat_lt
 have:(b.toNat:Int) % 256=b.toNat:=by omega
 omega
theorem zho (a b:UInt8):enc16 (dec16 a b)=[a,b]:=by
 have ha:=a.toNat_lt
 have hb:=b.toNat_lt
 unfold enc16 dec16
 have e1:((a.toNat:Int) * 256+b.toNat) / 256=a.toNat:=by omega
 rw [e1,zqh]
 have e2:by8 ((a.toNat:Int) * 256+b.toNat)=b:=by
  apply UInt8.toNat_inj.1
  have h1:=zhn ((a.toNat:Int) * 256+b.toNat)
  have:((a.toNat:Int) * 256+b.toNat) % 256=b.toNat:=by omega
  omega
 rw [e2]
end Go.HL
namespace Go.HL
theorem yom (n:Int):bits .and .i64 n 65535=n % 65536:=by
 have h127:(BitVec.ofInt 64 65535).toNat=2 ^ 16 - 1:=by decide
 have key:(BitVec.ofInt 64 n &&& BitVec.ofInt 64 65535).toNat=(n % ((2 ^ 64:Nat):Int)).toNat % 2 ^ 16:=by
  rw [BitVec.toNat_and,BitVec.toNat_ofInt,h127,Nat.and_two_pow_sub_one_eq_mod]
 show IntKind.i64.wrap ((BitVec.ofInt 64 n &&& BitVec.ofInt 64 65535).toNat:Nat)=n % 65536
 rw [key]
 rw [show IntKind.i64.wrap (((n % ((2 ^ 64:Nat):Int)).toNat % 2 ^ 16:Nat):Int)=W (((n % ((2 ^ 64:Nat):Int)).toNat % 2 ^ 16:Nat):Int) from rfl,W_fit (by omega) (by omega)]
 omega
end Go.HL
namespace Go.HL
theorem zld {α:Type} {d:α} {i:Nat} {x:α} {L:List (Nat × α)}:lk d ((i,x) :: L)=upd (lk d L) i x:=by
 funext j;simp only [lk,upd]
theorem yon {α:Type} (f:Nat -> α) (i:Nat) (x y:α):upd (upd f i x) i y=upd f i y:=by
 funext j
 by_cases h:j=i
 . subst h;rw [zaq,zaq]
 . rw [zax _ _ h,zax _ _ h,zax _ _ h]
section
variable {P:Program}
theorem ygv {f:FuncId} {id:Nat} {t:TypeId} {n:Nat} {rows:List (List PV)} {rest:List HV} {L:List (Nat × HSlot)} {r:HV} {H':Nat -> HSlot}
 (h:FunOK P f (.osl id n 0 rows.length :: rest) (lk .free ((id,.live (.row t n rows)) :: L)) r H'):FunOK P f (.own id :: rest) (lk .free ((id,.live (.row t n rows)) :: L)) r H':=by
 intro Γ m w vals hok hx h0
 have hH:lk .free ((id,HSlot.live (.row t n rows)) :: L) id=.live (.row t n rows):=by rw [zld,zaq]
 obtain ⟨l,hl,hbr,_⟩:=hok.live id _ hH
 obtain ⟨h1,h2,h3⟩:=hbr
 refine h Γ m w vals hok ?_ h0
 simp only [HRepL] at hx ⊢
 obtain ⟨v,vs,rfl,hv,hvs⟩:=hx
 refine ⟨v,vs,rfl,?_,hvs⟩
 simp only [HRep] at hv ⊢
 obtain ⟨l',hl',rfl⟩:=hv
 rw [hl] at hl';cases hl'
 rcases h3 with ⟨hn,h3⟩ | ⟨hn,h4,h5,_⟩
 . subst h3
   exact ⟨l,none,hl,by simp,by simp [Loc.room,hn],by simp [hdr,hn,Loc.room],fun _=>by simp [Loc.at,hn]⟩
 . exact ⟨l,some ⟨l.blk,0,none⟩,hl,by simp [Loc.room,hn];exact h4,by simp [Loc.room,hn];exact h5,by simp [hdr,hn,h1,Loc.room],fun _=>by simp [Loc.at,hn]⟩
theorem zvn {f:FuncId} {args:List HV} {H:Nat -> HSlot} {id d:Nat} {b:HBlk} {t:TypeId} {n k:Nat} {rows:List (List PV)} {L:List (Nat × HSlot)}
 (h:FunOK P f args H (.osl id n 0 k) (lk .free ((id,.live b) :: L))) (hb:b=.row t n rows \/ ∃ c,b=.buf t n rows c) (hk:k <= rows.length) (hd:lk .free L d=.free) (hid:d ≠ id) :
 FunOK P f args H (.own d) (lk .free ((id,.dead) :: (d,.live (.row t n (rows.take k))) :: L)):=by
 intro Γ m w vals hok hx h0
 obtain ⟨hcf,hcalls⟩:=h Γ m w vals hok hx h0
 refine ⟨hcf,hcalls.mono fun e w' he=>?_⟩
 obtain ⟨v,m',rfl,hok',hv,hpin⟩:=he
 have hH:lk .free ((id,HSlot.live b) :: L) id=.live b:=by rw [zld,zaq]
 have hdf:lk .free ((id,HSlot.live b) :: L) d=.free:=by rw [zld,zax _ _ hid];exact hd
 obtain ⟨l,hl,hbr,_⟩:=hok'.live id _ hH
 have heq:∀ y:HSlot,upd (upd (lk .free ((id,HSlot.live b) :: L)) id .dead) d y=lk .free ((id,.dead) :: (d,y) :: L):=by
  intro y
  rw [zld,zld,zld,yon,zsa _ _ _ (Ne.symm hid)]
 simp only [HRep] at hv
 obtain ⟨l',a,hl',g1,g2,rfl,g5⟩:=hv
 rw [hl] at hl';cases hl'
 have g5:=g5 (.inr trivial)
 have hlt:((rows.take k)).length=k:=by simp;omega
 have hlens:(∀ r ∈ rows,r.length=n) /\ (l.nil=true -> rows=[]) /\ (l.nil=false -> rows.length <= l.cap /\ l.cap <= maxLen /\ ∃ arr:Array Value,w'.heap[l.blk]?=some (.cells arr t (0,0)) /\ arr.size=l.cap * n /\ ∀ (k:Nat) x,rows.flatten[k]?=some x -> ∃ cv,arr[k]?=some cv /\ PRep w' (RR Γ m' (lk .free ((id,HSlot.live b) :: L)) w') x cv):=by
  rcases hb with rfl | ⟨c,rfl⟩
  . obtain ⟨q1,q2,q3⟩:=hbr
    refine ⟨q2,fun hn=>?_,fun hn=>?_⟩
    . rcases q3 with ⟨_,q3⟩ | ⟨q3,_⟩
      . exact q3
      . rw [hn] at q3;cases q3
    . rcases q3 with ⟨q3,_⟩ | ⟨_,q4,q5,q6⟩
      . rw [hn] at q3;cases q3
      . exact ⟨q4,q5,q6⟩
  . obtain ⟨q1,q2,q3,q4,q5,q6⟩:=hbr
    exact ⟨q3,(fun hn=>by rw [hn] at q1;cases q1),fun _=>⟨q4,q5,q6⟩⟩
 obtain ⟨c1,c2,c3⟩:=hlens
 cases hn:l.nil with
 | true =>
  have hr0:=c2 hn
  subst hr0
  have hk0:k=0:=by simpa using hk
  subst hk0
  have hdrop:=WS.drop hok' hH
  have hf2:upd (lk .free ((id,HSlot.live b) :: L)) id .dead d=.free:=(zax _ _ hid).trans hdf
  obtain ⟨m2,hws,hm2⟩:=WS.newNil hdrop.ok hf2 t n
  rw [heq] at hws
  refine ⟨_,m2,rfl,hws.ok,?_,fun i l hp hi=>(hdrop.ext.trans hws.ext) _ _ (hpin i l hp hi)⟩
  simp only [HRep]
  refine ⟨_,hm2,?_⟩
  rw [g5]
  simp [hdr,Loc.at,Loc.room,hn]
 | false =>
  obtain ⟨c4,c5,arr,c6,c7,c8⟩:=c3 hn
  obtain ⟨m2,hws,hm2⟩:=WS.rename hok' hH hl hn hdf (b':=.row t n (rows.take k)) k (w':=w') rfl rfl rfl rfl (fun _ _=>rfl) fun m3 R' hext hkk =>
   ⟨by simp;omega,fun r hr=>c1 r (List.mem_of_mem_take hr),.inr ⟨rfl,by simp;omega,c5,arr,c6,c7,fun j x hj=>by
    have:rows.flatten=(rows.take k).flatten++(rows.drop k).flatten:=by rw [<- List.flatten_append,List.take_append_drop]
    have hj':rows.flatten[j]?=some x:=by rw [this,List.getElem?_append_left ((List.getElem?_eq_some_iff.1 hj).1)];exact hj
    obtain ⟨cv,q1,q2⟩:=c8 j x hj'
    exact ⟨cv,q1,q2.mono hkk⟩⟩⟩
  rw [heq] at hws
  refine ⟨_,m2,rfl,hws.ok,?_,fun i l hp hi=>hws.ext _ _ (hpin i l hp hi)⟩
  simp only [HRep]
  refine ⟨_,hm2,?_⟩
  rw [g5]
  simp [hdr,Loc.at,Loc.room,hn]
end
end Go.HL
namespace Go.HL
theorem hif_T {b:Bool} {A B:Prop} (ha:A) (h:b=true:=by first | rfl | assumption | omega | (simp only [gt_iff_lt,ge_iff_le,decide_eq_true_eq,decide_eq_false_iff_not,beq_iff_eq,bne_iff_ne,ne_eq,beq_eq_false_iff_ne,bne_eq_false_iff_eq,List.length_map,List.length_append,List.length_cons,List.length_nil,List.length_take,List.length_drop,Bool.not_eq_true',Bool.not_eq_false',Bool.not_eq_true,Bool.not_eq_false,Decidable.not_not,Nat.cast_ofNat,Int.natCast_add] <;> omega) | (simp <;> omega)):hif b A B:=zad h ha
theorem hif_F {b:Bool} {A B:Prop} (hb:B) (h:b=false:=by first | rfl | assumption | omega | (simp only [gt_iff_lt,ge_iff_le,decide_eq_true_eq,decide_eq_false_iff_not,beq_iff_eq,bne_iff_ne,ne_eq,beq_eq_false_iff_ne,bne_eq_false_iff_eq,List.length_map,List.length_append,List.length_cons,List.length_nil,List.length_take,List.length_drop,Bool.not_eq_true',Bool.not_eq_false',Bool.not_eq_true,Bool.not_eq_false,Decidable.not_not,Nat.cast_ofNat,Int.natCast_add] <;> omega) | (simp <;> omega)):hif b A B:=zab h hb
theorem hle_Q {s:HS} {n:Nat} {slots:List (Nat × HV)} {heap:List (Nat × HSlot)} (l:List (Nat × Option Nat))
 (h4:slOK (lkN l) s slots:=by repeat' (first | exact trivial | exact rfl | (refine ⟨⟨rfl,?_⟩,?_⟩) | (refine ⟨rfl,?_⟩) | (simp;done) | (simp;rfl)))
 (h5:hpOK (lkN l) s heap:=by repeat' (first | exact trivial | exact rfl | exact .inl rfl | exact .inr rfl | (refine ⟨⟨rfl,.inl ⟨_,rfl,?_⟩⟩,?_⟩) | (refine ⟨⟨rfl,_,rfl,?_⟩,?_⟩) | (refine ⟨⟨rfl,.inr ⟨rfl,?_⟩⟩,?_⟩) | (refine ⟨rfl,?_⟩) | (simp;done) | (simp;rfl)))
 (hn:n=s.n:=by rfl) (hp:[]=s.pins:=by rfl) (h1:zfe heap l=true:=by rfl) (h2:zdg (tgtsA heap l)=true:=by rfl):HLe s (hs n slots heap):=zbo l hn hp h1 h2 h4 h5
theorem hle_P {s:HS} {pins:List Nat} {n:Nat} {slots:List (Nat × HV)} {heap:List (Nat × HSlot)} (l:List (Nat × Option Nat))
 (h4:slOK (lkN l) s slots:=by repeat' (first | exact trivial | exact rfl | (refine ⟨⟨rfl,?_⟩,?_⟩) | (refine ⟨rfl,?_⟩) | (simp;done) | (simp;rfl)))
 (h5:hpOK (lkN l) s heap:=by repeat' (first | exact trivial | exact rfl | exact .inl rfl | exact .inr rfl | (refine ⟨⟨rfl,.inl ⟨_,rfl,?_⟩⟩,?_⟩) | (refine ⟨⟨rfl,_,rfl,?_⟩,?_⟩) | (refine ⟨⟨rfl,.inr ⟨rfl,?_⟩⟩,?_⟩) | (refine ⟨rfl,?_⟩) | (simp;done) | (simp;rfl)))
 (hn:n=s.n:=by rfl) (hp:pins=s.pins:=by rfl) (h1:zfe heap l=true:=by rfl) (h2:zdg (tgtsA heap l)=true:=by rfl) (h3:pinOK (lkN l) pins:=by repeat' (first | exact trivial | (refine ⟨rfl,?_⟩))):HLe s (hsP pins n slots heap):=ygq l hn hp h1 h2 h3 h4 h5
theorem zbw {pins:List Nat} {v r:HV} {H2:Nat -> HSlot} {heap:List (Nat × HSlot)} (l:List (Nat × Option Nat)) (h5:rn (lkN l) r=v:=by rfl)
 (h6:hpOK (lkN l) (hinit [v] 1 H2 pins) heap:=by repeat' (first | exact trivial | exact rfl | exact .inl rfl | exact .inr rfl | (refine ⟨⟨rfl,.inl ⟨_,rfl,?_⟩⟩,?_⟩) | (refine ⟨⟨rfl,_,rfl,?_⟩,?_⟩) | (refine ⟨⟨rfl,.inr ⟨rfl,?_⟩⟩,?_⟩) | (refine ⟨rfl,?_⟩) | (simp;done) | (simp;rfl)))
 (h1:zfe heap l=true:=by rfl) (h2:zdg (tgtsA heap l)=true:=by rfl) (h3:pinOK (lkN l) pins:=by repeat' (first | exact trivial | (refine ⟨rfl,?_⟩))) (h4:rnOk (lkN l) r=true:=by rfl):HFin pins v H2 r (lk .free heap):=zau l h1 h2 h3 h4 h5 h6
end Go.HL
namespace Go.HL
theorem om {P:Prop} (h:P:=by first | omega | (simp only [List.length_map,List.length_append,List.length_take,List.length_drop,List.length_cons,List.length_nil] <;> omega) | (simp <;> omega)):P:=h
theorem dc {P:Prop} (h:P:=by first | rfl | assumption | omega | (simp only [gt_iff_lt,ge_iff_le,decide_eq_true_eq,decide_eq_false_iff_not,beq_iff_eq,bne_iff_ne,ne_eq,beq_eq_false_iff_ne,bne_eq_false_iff_eq,List.length_map,List.length_append,List.length_cons,List.length_nil,List.length_take,List.length_drop,Bool.not_eq_true',Bool.not_eq_false',Bool.not_eq_true,Bool.not_eq_false,Decidable.not_not,Nat.cast_ofNat,Int.natCast_add] <;> omega) | (simp <;> omega)):P:=h
theorem sF {z:Int} {K:Int -> Prop} {Q:Prop} (q:Q) (h1:-9223372036854775808 <= z:=by exact om) (h2:z <= 9223372036854775807:=by exact om) (e:Q -> K z:=by (intro h;(conv=>whnf);(try (refine hcut.go ?_;conv=>whnf));exact h)):hwrap .i64 z K:=zan (W_fit h1 h2) (e q)
theorem sT {b:Bool} {A B Q:Prop} (q:Q) (h:b=true:=by exact dc) (e:Q -> A:=by (intro h;(conv=>whnf);(try (refine hcut.go ?_;conv=>whnf));exact h)):hif b A B:=zad h (e q)
theorem sN {b:Bool} {A B Q:Prop} (q:Q) (h:b=false:=by exact dc) (e:Q -> B:=by (intro h;(conv=>whnf);(try (refine hcut.go ?_;conv=>whnf));exact h)):hif b A B:=zab h (e q)
theorem sO {c k Q:Prop} (q:Q) (h:c:=by exact om) (e:Q -> k:=by (intro h;(conv=>whnf);(try (refine hcut.go ?_;conv=>whnf));exact h)):hobl c k:=zaa h (e q)
theorem sR {P Q:Prop} (q:Q) (e:Q -> P:=by (intro h;(first | refine ygz ?_ | refine zbc ?_);(conv=>whnf);(try (refine hcut.go ?_;conv=>whnf));exact h)):P:=e q
theorem sD {P:Program} {s:HS} {all:Array Oper} {l:List Lab} {k Q:Prop} (q:Q) (e:Q -> k:=by (intro h;(conv=>whnf);(try (refine hcut.go ?_;conv=>whnf));exact h)) (h:zfv all l=true:=by kernel_rfl):hdraw P s all l k:=zas h (e q)
theorem sFm {z:Int} {K:Int -> Prop} {Q:Prop} (q:Q) (h1:-9223372036854775808 <= z:=by exact om) (h2:z <= 9223372036854775807:=by exact om) (e:Q -> K z:=by (intro h;(conv=>whnf);exact h)):hwrap .i64 z K:=zan (W_fit h1 h2) (e q)
theorem sNm {b:Bool} {A B Q:Prop} (q:Q) (h:b=false:=by exact dc) (e:Q -> B:=by (intro h;(conv=>whnf);exact h)):hif b A B:=zab h (e q)
theorem sOm {c k Q:Prop} (q:Q) (h:c:=by exact om) (e:Q -> k:=by (intro h;(conv=>whnf);exact h)):hobl c k:=zaa h (e q)
theorem sRm {P Q:Prop} (q:Q) (e:Q -> P:=by (intro h;(first | refine ygz ?_ | refine zbc ?_);(conv=>whnf);exact h)):P:=e q
theorem sDm {P:Program} {s:HS} {all:Array Oper} {l:List Lab} {k Q:Prop} (q:Q) (e:Q -> k:=by (intro h;(conv=>whnf);exact h)) (h:zfv all l=true:=by kernel_rfl):hdraw P s all l k:=zas h (e q)
theorem cL {P Q:Prop} (q:Q) (e:Q -> P:=by (intro h;refine zav ?_;(conv=>whnf);exact h)):P:=e q
theorem cZ {P Q:Prop} (q:Q) (e:Q -> P:=by (intro h;refine zeo ?_;(conv=>whnf);exact h)):P:=e q
theorem cP {P Q:Prop} (q:Q) (e:Q -> P:=by (intro h;refine zcf ?_;(conv=>whnf);exact h)):P:=e q
theorem dL {α:Type} {A B K:α -> Prop} {r:α} {Q:Prop} (c:A r) (q:Q) (s:B r:=by exact rfl) (e:Q -> K r:=by (intro h;(conv=>whnf);(try (refine hcut.go ?_;conv=>whnf));exact h)):∃ r,A r /\ B r /\ K r:=⟨r,c,s,e q⟩
theorem dLm {α:Type} {A B K:α -> Prop} {r:α} {Q:Prop} (c:A r) (q:Q) (s:B r:=by exact rfl) (e:Q -> K r:=by (intro h;(conv=>whnf);exact h)):∃ r,A r /\ B r /\ K r:=⟨r,c,s,e q⟩
theorem dO {α β:Type} {A B K:α -> β -> Prop} {r:α} {t:β} {Q:Prop} (c:A r t) (q:Q) (s:B r t:=by exact ⟨(by repeat' (first | exact trivial | (refine ⟨⟨rfl,rfl⟩,?_⟩))),rfl,rfl,rfl⟩) (e:Q -> K r t:=by (intro h;(conv=>whnf);(try (refine hcut.go ?_;conv=>whnf));exact h)) :
 ∃ r t,A r t /\ B r t /\ K r t:=⟨r,t,c,s,e q⟩
theorem dOm {α β:Type} {A B K:α -> β -> Prop} {r:α} {t:β} {Q:Prop} (c:A r t) (q:Q) (s:B r t:=by exact ⟨(by repeat' (first | exact trivial | (refine ⟨⟨rfl,rfl⟩,?_⟩))),rfl,rfl,rfl⟩) (e:Q -> K r t:=by (intro h;(conv=>whnf);exact h)) :
 ∃ r t,A r t /\ B r t /\ K r t:=⟨r,t,c,s,e q⟩
theorem dG {α β γ δ:Type} {A B K:α -> β -> γ -> δ -> Prop} {a:α} {b:β} {r:γ} {t:δ} {Q:Prop} (c:A a b r t) (q:Q)
 (s:B a b r t:=by exact ⟨rfl,rfl,rfl,(by repeat' (first | exact trivial | (refine ⟨⟨rfl,_,rfl,.inl ⟨rfl,rfl⟩⟩,?_⟩))),(by repeat' (first | exact trivial | (refine ⟨⟨rfl,rfl⟩,?_⟩))),rfl,rfl,rfl⟩)
 (e:Q -> K a b r t:=by (intro h;(conv=>whnf);(try (refine hcut.go ?_;conv=>whnf));exact h)):∃ a b r t,A a b r t /\ B a b r t /\ K a b r t:=⟨a,b,r,t,c,s,e q⟩
theorem z0 {P:Prop} (h:P:=by first | exact trivial | exact rfl | exact .inl rfl | exact .inr rfl):P:=h
theorem z2 {P:Prop} (h:P:=by first | (simp;done) | (simp;rfl)):P:=h
theorem z1 {P Q:Prop} (q:Q) (e:Q -> P:=by first | exact fun h=>.inl ⟨_,rfl,h⟩ | exact fun h=>⟨_,rfl,h⟩ | exact fun h=>.inr ⟨rfl,h⟩):P:=e q
abbrev pK7 (l:List (Nat × Option Nat)):List (Nat × Option Nat):=(1000,some 1000) :: (1001,some 1001) :: (1002,some 1002) :: (1003,some 1003) :: (1004,some 1004) :: (1005,some 1005) :: (1006,some 1006) :: l
abbrev pK8 (l:List (Nat × Option Nat)):List (Nat × Option Nat):=(1000,some 1000) :: (1001,some 1001) :: (1002,some 1002) :: (1003,some 1003) :: (1004,some 1004) :: (1005,some 1005) :: (1006,some 1006) :: (1007,some 1007) :: l
abbrev pK9 (l:List (Nat × Option Nat)):List (Nat × Option Nat):=(1000,some 1000) :: (1001,some 1001) :: (1002,some 1002) :: (1003,some 1003) :: (1004,some 1004) :: (1005,some 1005) :: (1006,some 1006) :: (1007,some 1007) :: (1008,some 1008) :: l
abbrev pK10 (l:List (Nat × Option Nat)):List (Nat × Option Nat):=(1000,some 1000) :: (1001,some 1001) :: (1002,some 1002) :: (1003,some 1003) :: (1004,some 1004) :: (1005,some 1005) :: (1006,some 1006) :: (1007,some 1007) :: (1008,some 1008) :: (1009,some 1009) :: l
abbrev pJ3 (l:List (Nat × Option Nat)):List (Nat × Option Nat):=(900,some 900) :: (901,some 901) :: (902,some 902) :: l
abbrev pJ6 (l:List (Nat × Option Nat)):List (Nat × Option Nat):=(900,some 900) :: (901,some 901) :: (902,some 902) :: (903,some 903) :: (904,some 904) :: (905,some 905) :: l
abbrev pJ7 (l:List (Nat × Option Nat)):List (Nat × Option Nat):=(900,some 900) :: (901,some 901) :: (902,some 902) :: (903,some 903) :: (904,some 904) :: (905,some 905) :: (906,some 906) :: l
abbrev pJ8 (l:List (Nat × Option Nat)):List (Nat × Option Nat):=(900,some 900) :: (901,some 901) :: (902,some 902) :: (903,some 903) :: (904,some 904) :: (905,some 905) :: (906,some 906) :: (907,some 907) :: l
theorem hle_X {s:HS} {n:Nat} {slots:List (Nat × HV)} {heap:List (Nat × HSlot)} (l:List (Nat × Option Nat)) (h:slOK (lkN l) s slots /\ hpOK (lkN l) s heap)
 (hn:n=s.n:=by rfl) (hp:[]=s.pins:=by rfl) (h1:zfe heap l=true:=by rfl) (h2:zdg (tgtsA heap l)=true:=by rfl):HLe s (hs n slots heap):=zbo l hn hp h1 h2 h.1 h.2
theorem hle_Y {s:HS} {pins:List Nat} {n:Nat} {slots:List (Nat × HV)} {heap:List (Nat × HSlot)} (l:List (Nat × Option Nat)) (h:slOK (lkN l) s slots /\ hpOK (lkN l) s heap)
 (hn:n=s.n:=by rfl) (hp:pins=s.pins:=by rfl) (h1:zfe heap l=true:=by rfl) (h2:zdg (tgtsA heap l)=true:=by rfl) (h3:pinOK (lkN l) pins:=by repeat' (first | exact trivial | (refine ⟨rfl,?_⟩))):HLe s (hsP pins n slots heap):=ygq l hn hp h1 h2 h3 h.1 h.2
theorem zbz {pins:List Nat} {v r:HV} {H2:Nat -> HSlot} {heap:List (Nat × HSlot)} (l:List (Nat × Option Nat)) (h:rn (lkN l) r=v /\ hpOK (lkN l) (hinit [v] 1 H2 pins) heap)
 (h1:zfe heap l=true:=by rfl) (h2:zdg (tgtsA heap l)=true:=by rfl) (h3:pinOK (lkN l) pins:=by repeat' (first | exact trivial | (refine ⟨rfl,?_⟩))) (h4:rnOk (lkN l) r=true:=by rfl):HFin pins v H2 r (lk .free heap):=zau l h1 h2 h3 h4 h.1 h.2
end Go.HL
namespace Go.HL
theorem hle_Z (fz:List Nat) {s:HS} {pins:List Nat} {n:Nat} {slots:List (Nat × HV)} {heap:List (Nat × HSlot)} (l:List (Nat × Option Nat)) (h:slOK (lkN l) (fzS fz s) slots /\ hpOK (lkN l) (fzS fz s) heap)
 (hn:n=s.n:=by rfl) (hp:pins=s.pins:=by rfl) (h1:zfe heap l=true:=by rfl) (h2:zdg (tgtsA heap l)=true:=by rfl) (h3:pinOK (lkN l) pins:=by repeat' (first | exact trivial | (refine ⟨rfl,?_⟩))):HLe s (hsP pins n slots heap):=⟨fz,ygp l hn hp h1 h2 h3 h.1 h.2⟩
end Go.HL
namespace Go.Proofs.YticmofoeecjnhaaGreat
open Go.HL Go.ChangeShapes Go.WideShapes Go.ChangeAt Go.RowKit
set_option maxRecDepth 100000
theorem own:ownKnob Tryz.prog.godebug=none:=by kernel_rfl
mutual
theorem zsp {H:Type}:(d:DataW H) -> Rows.uptoBulk d=dwb d
 | .lit l=>by cases l <;> simp only [Rows.uptoBulk,dwb]
 | .nil=>by simp only [Rows.uptoBulk,dwb]
 | .ptr d=>by simp only [Rows.uptoBulk,dwb,zsp d]
 | .slice a b=>by simp only [Rows.uptoBulk,dwb,zgn a,zgn b]
 | .agg p=>by simp only [Rows.uptoBulk,dwb,zgn p]
 | .iface _ d=>by simp only [Rows.uptoBulk,dwb,zsp d]
 | .map e=>by simp only [Rows.uptoBulk,dwb,ybi e]
 | .held _=>by simp only [Rows.uptoBulk,dwb]
theorem zgn {H:Type}:(l:List (DataW H)) -> Rows.uptoBulkAll l=dwbL l
 | []=>by simp only [Rows.uptoBulkAll,dwbL]
 | d :: r=>by simp only [Rows.uptoBulkAll,dwbL,zsp d,zgn r]
theorem ybi {H:Type}:(l:List (Lit × DataW H)) -> Rows.uptoBulkEntries l=dwbE l
 | []=>by simp only [Rows.uptoBulkEntries,dwbE]
 | d :: r=>by simp only [Rows.uptoBulkEntries,dwbE,ygw d,ybi r]
theorem ygw {H:Type}:(x:Lit × DataW H) -> Rows.uptoBulkEntry x=dwbE1 x
 | (l,d)=>by cases l <;> simp only [Rows.uptoBulkEntry,dwbE1,zsp d]
end
theorem zyk {H:Type} (l r:List (DataW H)):dwbL (l++r)=dwbL l+dwbL r:=by
 induction l with
 | nil=>simp [dwbL]
 | cons x l ih=>simp only [List.cons_append,dwbL,ih];omega
theorem ypo {H:Type} {ds gs:List (DataW H)} (hk:Rows.uptoSmall H (ds++gs)=true):dwbL ds <= 1048576:=by
 have h:=of_decide_eq_true hk
 rw [zgn,zyk] at h
 omega
theorem ypp {a b:Bool} (ha:a=true) (hb:b=true):(a && b)=true:=by rw [ha,hb];rfl
end Go.Proofs.YticmofoeecjnhaaGreat
namespace Go.HL
open Go.Proofs
theorem mixed:Tryz.prog.follows .mixedOrders=true:=by kernel_rfl
structure Span where
 lo:Int
 hi:Int
def Span.row (x:Span):List PV:=[pi x.lo,pi x.hi]
def Span.hv (x:Span):HV:=.agg [.p (pi x.lo),.p (pi x.hi)]
structure Span.Wf (x:Span):Prop where
 lo:inI x.lo
 hi:inI x.hi
theorem ylk {n:Nat} {pvs:List PV} (h:shp Tryz.prog n 199 pvs):∃ x:Span,pvs=x.row /\ x.Wf:=by
 have t0:=zfk Tryz.underlying199 h
 obtain ⟨a1,b1,e1,h1,t1⟩:=zbd t0
 obtain ⟨a2,b2,e2,h2,t2⟩:=zbd t1
 obtain ⟨z1,i1,w1⟩:=zct Tryz.underlying3 h1
 obtain ⟨z2,i2,w2⟩:=zct Tryz.underlying3 h2
 have e3:b2=[]:=t2
 rw [e1,e2,e3,i1,i2]
 exact ⟨⟨z1,z2⟩,rfl,⟨zdt w1,zdt w2⟩⟩
structure Skip where
 stream:Int
 mid:Int
 ordered:Bool
def Skip.row (x:Skip):List PV:=[pi x.stream,pi x.mid,pb x.ordered]
structure Skip.Wf (x:Skip):Prop where
 stream:inI x.stream
 mid:inI x.mid
theorem yll {n:Nat} {pvs:List PV} (h:shp Tryz.prog n 180 pvs):∃ x:Skip,pvs=x.row /\ x.Wf:=by
 have t0:=zfk Tryz.underlying180 h
 obtain ⟨a1,b1,e1,h1,t1⟩:=zbd t0
 obtain ⟨a2,b2,e2,h2,t2⟩:=zbd t1
 obtain ⟨a3,b3,e3,h3,t3⟩:=zbd t2
 obtain ⟨z1,i1,w1⟩:=zct Tryz.underlying3 h1
 obtain ⟨z2,i2,w2⟩:=zct Tryz.underlying3 h2
 obtain ⟨z3,i3⟩:=zmv Tryz.underlying4 h3
 have e4:b3=[]:=t3
 rw [e1,e2,e3,e4,i1,i2,i3]
 exact ⟨⟨z1,z2,z3⟩,rfl,⟨zdt w1,zdt w2⟩⟩
structure Chunk where
 kind:Int
 tag:Int
 stream:Int
 mid:Int
 part:Int
 last:Bool
 ordered:Bool
 data:List UInt8
 spans:List Span
 room:Int
 skips:List Skip
def Chunk.row (x:Chunk):List PV:=[pi x.kind,pi x.tag,pi x.stream,pi x.mid,pi x.part,pb x.last,pb x.ordered,.sl 1 (x.data.map bRow),.sl 2 (x.spans.map Span.row),pi x.room,.sl 3 (x.skips.map Skip.row)]
def Chunk.cells (x:Chunk):List HV:=[.p (pi x.kind),.p (pi x.tag),.p (pi x.stream),.p (pi x.mid),.p (pi x.part),.p (pb x.last),.p (pb x.ordered),.p (.sl 1 (x.data.map bRow)),.p (.sl 2 (x.spans.map Span.row)),.p (pi x.room),.p (.sl 3 (x.skips.map Skip.row))]
def Chunk.hv (x:Chunk):HV:=.agg [.p (pi x.kind),.p (pi x.tag),.p (pi x.stream),.p (pi x.mid),.p (pi x.part),.p (pb x.last),.p (pb x.ordered),.p (.sl 1 (x.data.map bRow)),.p (.sl 2 (x.spans.map Span.row)),.p (pi x.room),.p (.sl 3 (x.skips.map Skip.row))]
structure Chunk.Wf (x:Chunk):Prop where
 kind:inI x.kind
 tag:inI x.tag
 stream:inI x.stream
 mid:inI x.mid
 part:inI x.part
 spans:∀ y ∈ x.spans,Span.Wf y
 room:inI x.room
 skips:∀ y ∈ x.skips,Skip.Wf y
theorem ygx {n:Nat} {pvs:List PV} (h:shp Tryz.prog n 61 pvs):∃ x:Chunk,pvs=x.row /\ x.Wf:=by
 have t0:=zfk Tryz.underlying61 h
 obtain ⟨a1,b1,e1,h1,t1⟩:=zbd t0
 obtain ⟨a2,b2,e2,h2,t2⟩:=zbd t1
 obtain ⟨a3,b3,e3,h3,t3⟩:=zbd t2
 obtain ⟨a4,b4,e4,h4,t4⟩:=zbd t3
 obtain ⟨a5,b5,e5,h5,t5⟩:=zbd t4
 obtain ⟨a6,b6,e6,h6,t6⟩:=zbd t5
 obtain ⟨a7,b7,e7,h7,t7⟩:=zbd t6
 obtain ⟨a8,b8,e8,h8,t8⟩:=zbd t7
 obtain ⟨a9,b9,e9,h9,t9⟩:=zbd t8
 obtain ⟨a10,b10,e10,h10,t10⟩:=zbd t9
 obtain ⟨a11,b11,e11,h11,t11⟩:=zbd t10
 obtain ⟨z1,i1,w1⟩:=zct Tryz.underlying3 h1
 obtain ⟨z2,i2,w2⟩:=zct Tryz.underlying3 h2
 obtain ⟨z3,i3,w3⟩:=zct Tryz.underlying3 h3
 obtain ⟨z4,i4,w4⟩:=zct Tryz.underlying3 h4
 obtain ⟨z5,i5,w5⟩:=zct Tryz.underlying3 h5
 obtain ⟨z6,i6⟩:=zmv Tryz.underlying4 h6
 obtain ⟨z7,i7⟩:=zmv Tryz.underlying4 h7
 obtain ⟨z8,i8⟩:=zvm Tryz.underlying46 Tryz.underlying5 (by kernel_rfl) h8
 obtain ⟨z9,i9,w9⟩:=zmw Tryz.underlying33 (c:=2) (by kernel_rfl) (fun r hr=>ylk hr) h9
 obtain ⟨z10,i10,w10⟩:=zct Tryz.underlying3 h10
 obtain ⟨z11,i11,w11⟩:=zmw Tryz.underlying59 (c:=3) (by kernel_rfl) (fun r hr=>yll hr) h11
 have e12:b11=[]:=t11
 rw [e1,e2,e3,e4,e5,e6,e7,e8,e9,e10,e11,e12,i1,i2,i3,i4,i5,i6,i7,i8,i9,i10,i11]
 exact ⟨⟨z1,z2,z3,z4,z5,z6,z7,z8,z9,z10,z11⟩,rfl,⟨zdt w1,zdt w2,zdt w3,zdt w4,zdt w5,w9,zdt w10,w11⟩⟩
theorem ygy (x:Chunk):argHV Tryz.prog 61 x.row=x.hv:=by
 unfold argHV
 rw [Tryz.underlying61]
 rfl
structure Config where
 streams:Int
 part:Int
 packet:Int
 paths:Int
 turns:Int
 waiting:Int
 first:Int
def Config.row (x:Config):List PV:=[pi x.streams,pi x.part,pi x.packet,pi x.paths,pi x.turns,pi x.waiting,pi x.first]
def Config.cells (x:Config):List HV:=[.p (pi x.streams),.p (pi x.part),.p (pi x.packet),.p (pi x.paths),.p (pi x.turns),.p (pi x.waiting),.p (pi x.first)]
def Config.hv (x:Config):HV:=.agg [.p (pi x.streams),.p (pi x.part),.p (pi x.packet),.p (pi x.paths),.p (pi x.turns),.p (pi x.waiting),.p (pi x.first)]
structure Config.Wf (x:Config):Prop where
 streams:inI x.streams
 part:inI x.part
 packet:inI x.packet
 paths:inI x.paths
 turns:inI x.turns
 waiting:inI x.waiting
 first:inI x.first
theorem yec {n:Nat} {pvs:List PV} (h:shp Tryz.prog n 24 pvs):∃ x:Config,pvs=x.row /\ x.Wf:=by
 have t0:=zfk Tryz.underlying24 h
 obtain ⟨a1,b1,e1,h1,t1⟩:=zbd t0
 obtain ⟨a2,b2,e2,h2,t2⟩:=zbd t1
 obtain ⟨a3,b3,e3,h3,t3⟩:=zbd t2
 obtain ⟨a4,b4,e4,h4,t4⟩:=zbd t3
 obtain ⟨a5,b5,e5,h5,t5⟩:=zbd t4
 obtain ⟨a6,b6,e6,h6,t6⟩:=zbd t5
 obtain ⟨a7,b7,e7,h7,t7⟩:=zbd t6
 obtain ⟨z1,i1,w1⟩:=zct Tryz.underlying3 h1
 obtain ⟨z2,i2,w2⟩:=zct Tryz.underlying3 h2
 obtain ⟨z3,i3,w3⟩:=zct Tryz.underlying3 h3
 obtain ⟨z4,i4,w4⟩:=zct Tryz.underlying3 h4
 obtain ⟨z5,i5,w5⟩:=zct Tryz.underlying3 h5
 obtain ⟨z6,i6,w6⟩:=zct Tryz.underlying3 h6
 obtain ⟨z7,i7,w7⟩:=zct Tryz.underlying3 h7
 have e8:b7=[]:=t7
 rw [e1,e2,e3,e4,e5,e6,e7,e8,i1,i2,i3,i4,i5,i6,i7]
 exact ⟨⟨z1,z2,z3,z4,z5,z6,z7⟩,rfl,⟨zdt w1,zdt w2,zdt w3,zdt w4,zdt w5,zdt w6,zdt w7⟩⟩
theorem yed (x:Config):argHV Tryz.prog 24 x.row=x.hv:=by
 unfold argHV
 rw [Tryz.underlying24]
 rfl
structure Message where
 stream:Int
 ordered:Bool
 life:Int
 tries:Int
 data:List UInt8
def Message.row (x:Message):List PV:=[pi x.stream,pb x.ordered,pi x.life,pi x.tries,.sl 1 (x.data.map bRow)]
def Message.hv (x:Message):HV:=.agg [.p (pi x.stream),.p (pb x.ordered),.p (pi x.life),.p (pi x.tries),.p (.sl 1 (x.data.map bRow))]
structure Message.Wf (x:Message):Prop where
 stream:inI x.stream
 life:inI x.life
 tries:inI x.tries
theorem zoe {n:Nat} {pvs:List PV} (h:shp Tryz.prog n 48 pvs):∃ x:Message,pvs=x.row /\ x.Wf:=by
 have t0:=zfk Tryz.underlying48 h
 obtain ⟨a1,b1,e1,h1,t1⟩:=zbd t0
 obtain ⟨a2,b2,e2,h2,t2⟩:=zbd t1
 obtain ⟨a3,b3,e3,h3,t3⟩:=zbd t2
 obtain ⟨a4,b4,e4,h4,t4⟩:=zbd t3
 obtain ⟨a5,b5,e5,h5,t5⟩:=zbd t4
 obtain ⟨z1,i1,w1⟩:=zct Tryz.underlying3 h1
 obtain ⟨z2,i2⟩:=zmv Tryz.underlying4 h2
 obtain ⟨z3,i3,w3⟩:=zct Tryz.underlying3 h3
 obtain ⟨z4,i4,w4⟩:=zct Tryz.underlying3 h4
 obtain ⟨z5,i5⟩:=zvm Tryz.underlying46 Tryz.underlying5 (by kernel_rfl) h5
 have e6:b5=[]:=t5
 rw [e1,e2,e3,e4,e5,e6,i1,i2,i3,i4,i5]
 exact ⟨⟨z1,z2,z3,z4,z5⟩,rfl,⟨zdt w1,zdt w3,zdt w4⟩⟩
theorem zyl (x:Message):argHV Tryz.prog 48 x.row=x.hv:=by
 unfold argHV
 rw [Tryz.underlying48]
 rfl
structure Queued where
 id:Int
 mid:Int
 came:Int
 sent:Int
 parts:Int
 message:Message
def Queued.row (x:Queued):List PV:=[pi x.id,pi x.mid,pi x.came,pi x.sent,pi x.parts,pi x.message.stream,pb x.message.ordered,pi x.message.life,pi x.message.tries,.sl 1 (x.message.data.map bRow)]
def Queued.cells (x:Queued):List HV:=[.p (pi x.id),.p (pi x.mid),.p (pi x.came),.p (pi x.sent),.p (pi x.parts),.p (pi x.message.stream),.p (pb x.message.ordered),.p (pi x.message.life),.p (pi x.message.tries),.p (.sl 1 (x.message.data.map bRow))]
def Queued.hv (x:Queued):HV:=.agg [.p (pi x.id),.p (pi x.mid),.p (pi x.came),.p (pi x.sent),.p (pi x.parts),.p (pi x.message.stream),.p (pb x.message.ordered),.p (pi x.message.life),.p (pi x.message.tries),.p (.sl 1 (x.message.data.map bRow))]
structure Sched where
 last:Int
 hand:Int
 had:List Int
def Sched.row (x:Sched):List PV:=[pi x.last,pi x.hand,.sl 1 (x.had.map (fun n=>[pi n]))]
def Sched.cells (x:Sched):List HV:=[.p (pi x.last),.p (pi x.hand),.p (.sl 1 (x.had.map (fun n=>[pi n])))]
def Sched.hv (x:Sched):HV:=.agg [.p (pi x.last),.p (pi x.hand),.p (.sl 1 (x.had.map (fun n=>[pi n])))]
structure Sent where
 number:Int
 id:Int
 state:Int
 path:Int
 missed:Int
 times:Int
 came:Int
 life:Int
 tries:Int
 chunk:Chunk
def Sent.row (x:Sent):List PV:=[pi x.number,pi x.id,pi x.state,pi x.path,pi x.missed,pi x.times,pi x.came,pi x.life,pi x.tries,pi x.chunk.kind,pi x.chunk.tag,pi x.chunk.stream,pi x.chunk.mid,pi x.chunk.part,pb x.chunk.last,pb x.chunk.ordered,.sl 1 (x.chunk.data.map bRow),.sl 2 (x.chunk.spans.map Span.row),pi x.chunk.room,.sl 3 (x.chunk.skips.map Skip.row)]
def Sent.hv (x:Sent):HV:=.agg [.p (pi x.number),.p (pi x.id),.p (pi x.state),.p (pi x.path),.p (pi x.missed),.p (pi x.times),.p (pi x.came),.p (pi x.life),.p (pi x.tries),.p (pi x.chunk.kind),.p (pi x.chunk.tag),.p (pi x.chunk.stream),.p (pi x.chunk.mid),.p (pi x.chunk.part),.p (pb x.chunk.last),.p (pb x.chunk.ordered),.p (.sl 1 (x.chunk.data.map bRow)),.p (.sl 2 (x.chunk.spans.map Span.row)),.p (pi x.chunk.room),.p (.sl 3 (x.chunk.skips.map Skip.row))]
structure Path where
 window:Int
 slow:Int
 gathered:Int
 flight:Int
 errors:Int
 alarm:Int
 wait:Int
def Path.row (x:Path):List PV:=[pi x.window,pi x.slow,pi x.gathered,pi x.flight,pi x.errors,pi x.alarm,pi x.wait]
def Path.cells (x:Path):List HV:=[.p (pi x.window),.p (pi x.slow),.p (pi x.gathered),.p (pi x.flight),.p (pi x.errors),.p (pi x.alarm),.p (pi x.wait)]
def Path.hv (x:Path):HV:=.agg [.p (pi x.window),.p (pi x.slow),.p (pi x.gathered),.p (pi x.flight),.p (pi x.errors),.p (pi x.alarm),.p (pi x.wait)]
structure Piece where
 number:Int
 chunk:Chunk
def Piece.row (x:Piece):List PV:=[pi x.number,pi x.chunk.kind,pi x.chunk.tag,pi x.chunk.stream,pi x.chunk.mid,pi x.chunk.part,pb x.chunk.last,pb x.chunk.ordered,.sl 1 (x.chunk.data.map bRow),.sl 2 (x.chunk.spans.map Span.row),pi x.chunk.room,.sl 3 (x.chunk.skips.map Skip.row)]
structure Arrival where
 stream:Int
 mid:Int
 ordered:Bool
 data:List UInt8
def Arrival.row (x:Arrival):List PV:=[pi x.stream,pi x.mid,pb x.ordered,.sl 1 (x.data.map bRow)]
structure Receiver where
 config:Config
 cum:Int
 spans:List Span
 pieces:List Piece
 turn:List Int
 log:List Arrival
def Receiver.hv (x:Receiver):HV:=.agg [.p (pi x.config.streams),.p (pi x.config.part),.p (pi x.config.packet),.p (pi x.config.paths),.p (pi x.config.turns),.p (pi x.config.waiting),.p (pi x.config.first),.p (pi x.cum),.p (.sl 2 (x.spans.map Span.row)),.p (.sl 12 (x.pieces.map Piece.row)),.p (.sl 1 (x.turn.map (fun n=>[pi n]))),.p (.sl 4 (x.log.map Arrival.row))]
structure Packet where
 path:Int
 back:Bool
 bytes:List UInt8
def Packet.row (x:Packet):List PV:=[pi x.path,pb x.back,.sl 1 (x.bytes.map bRow)]
def Packet.cells (x:Packet):List HV:=[.p (pi x.path),.p (pb x.back),.p (.sl 1 (x.bytes.map bRow))]
def Packet.hv (x:Packet):HV:=.agg [.p (pi x.path),.p (pb x.back),.p (.sl 1 (x.bytes.map bRow))]
structure Sender where
 config:Config
 clock:Int
 queue:List Queued
 sched:Sched
 out:List Sent
 paths:List Path
 cum:Int
 next:Int
 room:Int
 mids:List Int
 fates:List Int
 forward:Bool
 recover:Int
def Sender.row (x:Sender):List PV:=[pi x.config.streams,pi x.config.part,pi x.config.packet,pi x.config.paths,pi x.config.turns,pi x.config.waiting,pi x.config.first,pi x.clock,.sl 10 (x.queue.map Queued.row),pi x.sched.last,pi x.sched.hand,.sl 1 (x.sched.had.map (fun n=>[pi n])),.sl 20 (x.out.map Sent.row),.sl 7 (x.paths.map Path.row),pi x.cum,pi x.next,pi x.room,.sl 1 (x.mids.map (fun n=>[pi n])),.sl 1 (x.fates.map (fun n=>[pi n])),pb x.forward,pi x.recover]
def Sender.hv (x:Sender):HV:=.agg [.p (pi x.config.streams),.p (pi x.config.part),.p (pi x.config.packet),.p (pi x.config.paths),.p (pi x.config.turns),.p (pi x.config.waiting),.p (pi x.config.first),.p (pi x.clock),.p (.sl 10 (x.queue.map Queued.row)),.p (pi x.sched.last),.p (pi x.sched.hand),.p (.sl 1 (x.sched.had.map (fun n=>[pi n]))),.p (.sl 20 (x.out.map Sent.row)),.p (.sl 7 (x.paths.map Path.row)),.p (pi x.cum),.p (pi x.next),.p (pi x.room),.p (.sl 1 (x.mids.map (fun n=>[pi n]))),.p (.sl 1 (x.fates.map (fun n=>[pi n]))),.p (pb x.forward),.p (pi x.recover)]
structure Line where
 sender:Sender
 receiver:Receiver
 way:List Packet
def Line.cells (x:Line):List HV:=[.p (pi x.sender.config.streams),.p (pi x.sender.config.part),.p (pi x.sender.config.packet),.p (pi x.sender.config.paths),.p (pi x.sender.config.turns),.p (pi x.sender.config.waiting),.p (pi x.sender.config.first),.p (pi x.sender.clock),.p (.sl 10 (x.sender.queue.map Queued.row)),.p (pi x.sender.sched.last),.p (pi x.sender.sched.hand),.p (.sl 1 (x.sender.sched.had.map (fun n=>[pi n]))),.p (.sl 20 (x.sender.out.map Sent.row)),.p (.sl 7 (x.sender.paths.map Path.row)),.p (pi x.sender.cum),.p (pi x.sender.next),.p (pi x.sender.room),.p (.sl 1 (x.sender.mids.map (fun n=>[pi n]))),.p (.sl 1 (x.sender.fates.map (fun n=>[pi n]))),.p (pb x.sender.forward),.p (pi x.sender.recover),.p (pi x.receiver.config.streams),.p (pi x.receiver.config.part),.p (pi x.receiver.config.packet),.p (pi x.receiver.config.paths),.p (pi x.receiver.config.turns),.p (pi x.receiver.config.waiting),.p (pi x.receiver.config.first),.p (pi x.receiver.cum),.p (.sl 2 (x.receiver.spans.map Span.row)),.p (.sl 12 (x.receiver.pieces.map Piece.row)),.p (.sl 1 (x.receiver.turn.map (fun n=>[pi n]))),.p (.sl 4 (x.receiver.log.map Arrival.row)),.p (.sl 3 (x.way.map Packet.row))]
def Line.hv (x:Line):HV:=.agg [.p (pi x.sender.config.streams),.p (pi x.sender.config.part),.p (pi x.sender.config.packet),.p (pi x.sender.config.paths),.p (pi x.sender.config.turns),.p (pi x.sender.config.waiting),.p (pi x.sender.config.first),.p (pi x.sender.clock),.p (.sl 10 (x.sender.queue.map Queued.row)),.p (pi x.sender.sched.last),.p (pi x.sender.sched.hand),.p (.sl 1 (x.sender.sched.had.map (fun n=>[pi n]))),.p (.sl 20 (x.sender.out.map Sent.row)),.p (.sl 7 (x.sender.paths.map Path.row)),.p (pi x.sender.cum),.p (pi x.sender.next),.p (pi x.sender.room),.p (.sl 1 (x.sender.mids.map (fun n=>[pi n]))),.p (.sl 1 (x.sender.fates.map (fun n=>[pi n]))),.p (pb x.sender.forward),.p (pi x.sender.recover),.p (pi x.receiver.config.streams),.p (pi x.receiver.config.part),.p (pi x.receiver.config.packet),.p (pi x.receiver.config.paths),.p (pi x.receiver.config.turns),.p (pi x.receiver.config.waiting),.p (pi x.receiver.config.first),.p (pi x.receiver.cum),.p (.sl 2 (x.receiver.spans.map Span.row)),.p (.sl 12 (x.receiver.pieces.map Piece.row)),.p (.sl 1 (x.receiver.turn.map (fun n=>[pi n]))),.p (.sl 4 (x.receiver.log.map Arrival.row)),.p (.sl 3 (x.way.map Packet.row))]
structure Step where
 kind:Int
 n:Int
 message:Message
def Step.row (x:Step):List PV:=[pi x.kind,pi x.n,pi x.message.stream,pb x.message.ordered,pi x.message.life,pi x.message.tries,.sl 1 (x.message.data.map bRow)]
def Step.hv (x:Step):HV:=.agg [.p (pi x.kind),.p (pi x.n),.p (pi x.message.stream),.p (pb x.message.ordered),.p (pi x.message.life),.p (pi x.message.tries),.p (.sl 1 (x.message.data.map bRow))]
structure Step.Wf (x:Step):Prop where
 kind:inI x.kind
 n:inI x.n
 message:Message.Wf x.message
theorem ylm {n:Nat} {pvs:List PV} (h:shp Tryz.prog n 50 pvs):∃ x:Step,pvs=x.row /\ x.Wf:=by
 have t0:=zfk Tryz.underlying50 h
 obtain ⟨a1,b1,e1,h1,t1⟩:=zbd t0
 obtain ⟨a2,b2,e2,h2,t2⟩:=zbd t1
 obtain ⟨a3,b3,e3,h3,t3⟩:=zbd t2
 obtain ⟨z1,i1,w1⟩:=zct Tryz.underlying3 h1
 obtain ⟨z2,i2,w2⟩:=zct Tryz.underlying3 h2
 obtain ⟨z3,i3,w3⟩:=zoe h3
 have e4:b3=[]:=t3
 rw [e1,e2,e3,e4,i1,i2,i3]
 exact ⟨⟨z1,z2,z3⟩,rfl,⟨zdt w1,zdt w2,w3⟩⟩
structure Answer where
 err:Int
 n:Int
def Answer.row (x:Answer):List PV:=[pi x.err,pi x.n]
def Answer.hv (x:Answer):HV:=.agg [.p (pi x.err),.p (pi x.n)]
end Go.HL
namespace Go.HL
theorem zgi {rows:List (List PV)} {o n o' n':Nat} {K:List (List PV) -> Prop} (ho:o=o') (hn:n=n') (h:hsub rows o' n' K):hsub rows o n K:=by subst ho;subst hn;exact h
theorem zcx {k:IntKind} {z z':Int} {K:Int -> Prop} (h:k.wrap z=z') (hk:K z'):hwrap k z K:=⟨z',h.symm,hk⟩
theorem ygz {z:Int} {K:Int -> Prop} (h:K (W z)):hwrap .i64 z K:=⟨_,rfl,h⟩
theorem zcv {α:Type} {t n:Nat} {f:α -> List PV} {a b:List α} {x:α} (h:a++[x]=b):HSlot.live (.row t n (b.map f))=HSlot.live (.row t n (a.map f++[f x])):=by
 rw [<- h,List.map_append];rfl
theorem zat {α:Type} {t n:Nat} {f:α -> List PV} {a b:List α} {x:α} {r:List PV} (h:b=a++[x]) (hr:f x=r):HSlot.live (.row t n (a.map f++[r]))=HSlot.live (.row t n (b.map f)):=by
 rw [h,List.map_append,<- hr];rfl
theorem zaj {α:Type} {f:α -> List PV} {l a b:List α} {s:α} {z:Int} {K:List PV -> Prop} (h:l=a++s :: b) (hz:z=a.length) (hk:K (f s)):hrow (l.map f) z K:=by
 subst h
 exact ⟨_,by omega,by rw [hz,Int.toNat_natCast,List.getElem?_map,List.getElem?_append_right (Nat.le_refl _)];simp,hk⟩
theorem zdd {α:Type} {t n:Nat} {f:α -> List PV} {a b:List α} {x y:α} {k:Nat} {r:List PV} (hk:k=a.length) (hr:f y=r) :
 HSlot.live (.row t n ((a++y :: b).map f))=HSlot.live (.row t n (((a++x :: b).map f).set k r)):=by
 subst hk;subst hr
 have:((a++x :: b).map f).set a.length (f y)=(a++y :: b).map f:=by
  induction a with
  | nil=>rfl
  | cons z a ih=>simp only [List.cons_append,List.map_cons,List.length_cons,List.set_cons_succ];rw [ih]
 rw [this]
theorem zbe {rows:List (List PV)} {k:Nat} {r:List PV} {z:Int} {K:List PV -> Prop} (hz:z=k) (h:k < rows.length) (hk:K r):hrow (rows.set k r) z K :=
 ⟨r,by omega,by rw [hz,Int.toNat_natCast,List.getElem?_set_self h],hk⟩
theorem yln {α:Type} {t n:Nat} {f:α -> List PV} {a b:List α} {x y:α} {k:Nat} {r r':List PV} (hk:k=a.length) (hr:f y=r) :
 HSlot.live (.row t n ((a++y :: b).map f))=HSlot.live (.row t n ((((a++x :: b).map f).set k r').set k r)):=by
 rw [List.set_set];exact zdd hk hr
theorem zaz {α:Type} {l a:List α} (h:l=a++[]):l.length=a.length:=by rw [h];simp
theorem zar {α:Type} {l a b:List α} {s:α} (h:l=a++s :: b):l.length=a.length+b.length+1:=by rw [h];simp;omega
theorem zae {α:Type} {l a b:List α} {s:α} (h:l=a++s :: b):l=(a++[s])++b:=by rw [h];simp
theorem zfb {α:Type} {l a b:List α} {s:α} (h:l=a++s :: b):s ∈ l:=by rw [h];simp
theorem zih {α:Type} {f:α -> List PV} (hf:∀ x,1 <= bulkL (f x)) (l:List α):l.length <= bulkR (l.map f):=by
 have:=ybh (rows:=l.map f) (fun r hr=>by obtain ⟨p,_,rfl⟩:=List.mem_map.1 hr;exact hf p)
 rwa [List.length_map] at this
theorem ybj {α:Type} {f:α -> List PV}:∀ {l:List α} {x:α},x ∈ l -> bulkL (f x) <= bulkR (l.map f)
 | y :: l,x,h=>by
  simp only [List.map_cons,bulkR]
  rcases List.mem_cons.1 h with rfl | h
  . omega
  . have:=ybj (f:=f) h;omega
theorem zao {t n:Nat} {a b:List (List PV)} (h:a=b):HSlot.live (.row t n a)=HSlot.live (.row t n b):=by rw [h]
theorem zbg {a b:Int} (h:a=b):i64 a=i64 b:=by rw [h]
theorem zch {P:Program} {f:FuncId} {fn:Func} (_:P.funcs[f]?=some fn) {args:List HV} {r r':HV} {L:List (Nat × HSlot)} (h:FunOK P f args zac r (lk .free L))
 (hk:pureK (lk .free L) r fun y _=>znx (zjc P fn.resultTypes.toList y) fun y=>y=r'):FunOK P f args zac r' zac:=by
 intro Γ m w vals hok hargs h0
 obtain ⟨h1,h2⟩:=h Γ m w vals hok hargs h0
 refine ⟨h1,h2.mono fun e w' he=>?_⟩
 obtain ⟨v,m',rfl,hok',hv,hp⟩:=he
 obtain ⟨y,us,hy,hview⟩:=zgm _ hk
 rw [zny] at hy
 subst hy
 have hws:=WS.frz hok' hview.frz
 have hy:=hview.rep m' w' _ v (WS.kept hview.frz hws.ok) (hws.rep hv)
 have hRn:∀ b,RR Γ m' (updL (lk .free L) us) w' b -> RR Γ (fun _=>none) zac w' b:=fun b hb=>⟨hb.1,hb.2.1,zsj⟩
 refine ⟨v,fun _=>none,rfl,⟨hok'.size,hok'.os,hok'.tape,hok'.output,hok'.frame,fun _ _=>rfl,(fun id b hb=>by cases hb),(fun id b hb=>by cases hb),(fun id id' b b' l l' hb=>by cases hb),hok'.dom⟩,?_,fun id l _ hl=>?_⟩
 . refine HRep.zjc _ ?_
   refine yau (σ:=noIds) (m:=m') (R:=RR Γ m' (updL (lk .free L) us) w') (fun i j hj=>by cases hj) (fun i hj=>by cases hj) hRn _ v hview.noid ?_
   rw [zsi _ hview.noid]
   exact hy
 . rw [hok.free id rfl] at hl;cases hl
theorem zbk {X:HS -> (HX -> HS -> Prop) -> Prop} {s:HS} {Q:HX -> HS -> Prop} (h:∀ Q':HX -> HS -> Prop,(∀ e s',Q e s' -> Q' e s') -> X s Q'):X s Q:=h Q fun _ _ h=>h
end Go.HL
namespace Go.HL
namespace Srt
section
variable {α:Type} (key:α -> Int)
def ins (x:α):List α -> List α
 | []=>[x]
 | y :: r=>if key x <= key y then x :: y :: r else y :: ins x r
def srt:List α -> List α
 | []=>[]
 | x :: r=>ins key x (srt r)
def Sd:List α -> Prop
 | []=>True
 | x :: r=>(∀ y ∈ r,key x <= key y) /\ Sd r
variable {key}
theorem yha {x z:α}:∀ {l:List α},z ∈ ins key x l ↔ z=x \/ z ∈ l
 | []=>by simp [ins]
 | y :: r=>by
  rw [ins];split
  . simp
  . simp only [List.mem_cons,yha (l:=r)]
    constructor
    . rintro (h | h | h)
      . exact .inr (.inl h)
      . exact .inl h
      . exact .inr (.inr h)
    . rintro (h | h | h)
      . exact .inr (.inl h)
      . exact .inl h
      . exact .inr (.inr h)
theorem ybk {x:α}:∀ {l:List α},(ins key x l).Perm (x :: l)
 | []=>List.Perm.refl _
 | y :: r=>by
  rw [ins];split
  . exact List.Perm.refl _
  . exact ((ybk (l:=r)).cons y).trans (List.Perm.swap x y r)
theorem zmx:∀ {l:List α},(srt key l).Perm l
 | []=>List.Perm.refl _
 | x :: r=>ybk.trans ((zmx (l:=r)).cons x)
theorem yee (l:List α):(srt key l).length=l.length:=zmx.length_eq
theorem ync {x:α}:∀ {l:List α},Sd key l -> Sd key (ins key x l)
 | [],_=>by simp [ins,Sd]
 | y :: r,h=>by
  rw [ins];split
  . rename_i c
    refine ⟨fun z hz=>?_,h⟩
    rcases List.mem_cons.1 hz with rfl | hz
    . exact c
    . exact Int.le_trans c (h.1 z hz)
  . rename_i c
    refine ⟨fun z hz=>?_,ync h.2⟩
    rcases yha.1 hz with rfl | hz
    . omega
    . exact h.1 z hz
theorem ynd:∀ {l:List α},Sd key (srt key l)
 | []=>trivial
 | _ :: r=>ync (ynd (l:=r))
end
end Srt
end Go.HL
namespace Go.HL
open Go.Proofs
namespace Srt
set_option maxHeartbeats 2000000
set_option maxRecDepth 100000
set_option linter.unusedSimpArgs false
theorem zym {α:Type} {A B:List α} {x y:α} {i:Nat} (h:i=A.length):(A++x :: B).set i y=A++y :: B:=by
 subst h
 induction A with
 | nil=>rfl
 | cons a A ih=>simp only [List.cons_append,List.length_cons,List.set_cons_succ,ih]
abbrev ck (p:Piece):Int:=p.chunk.part
end Srt
end Go.HL
namespace Go.HL
open Go.Proofs
namespace Srt
set_option maxHeartbeats 2000000
set_option maxRecDepth 100000
set_option linter.unusedSimpArgs false
end Srt
end Go.HL
namespace Go.HL
open Go.Proofs
namespace Srt
set_option maxHeartbeats 2000000
set_option maxRecDepth 100000
set_option linter.unusedSimpArgs false
end Srt
end Go.HL
namespace Go.HL
open Go.Proofs
namespace Srt
set_option maxHeartbeats 2000000
set_option maxRecDepth 100000
set_option linter.unusedSimpArgs false
end Srt
end Go.HL
namespace Go.HL
open Go.Proofs
namespace Srt
set_option maxHeartbeats 2000000
set_option maxRecDepth 100000
set_option linter.unusedSimpArgs false
end Srt
end Go.HL
namespace Go.HL
open Go.Proofs
namespace Cl
set_option maxHeartbeats 2000000
set_option maxRecDepth 100000
set_option linter.unusedSimpArgs false
theorem yhb {α:Type} {p:α -> Bool} (A B:List α) (x:α) (hA:∀ y ∈ A,p y=false) (hx:p x=true):zbm p 0 (A++x :: B)=(A.length:Int):=by
 have gen:∀ (A:List α) (k:Nat),(∀ y ∈ A,p y=false) -> zbm p k (A++x :: B)=((k+A.length:Nat):Int):=by
  intro A
  induction A with
  | nil=>intro k _;simp [zbm,hx]
  | cons a A ih=>intro k h;rw [List.cons_append,zbm,if_neg (by rw [h a (by simp)];decide),ih (k+1) fun y hy=>h y (by simp [hy])];simp;omega
 rw [gen A 0 hA];simp
theorem yhc {α:Type} (p:α -> Bool) (l:List α):(zbm p 0 l=-1 /\ ∀ y ∈ l,p y=false) \/ ∃ A x B,l=A++x :: B /\ (∀ y ∈ A,p y=false) /\ p x=true:=by
 have gen:∀ (l:List α) (k:Nat),(zbm p k l=-1 /\ ∀ y ∈ l,p y=false) \/ ∃ A x B,l=A++x :: B /\ (∀ y ∈ A,p y=false) /\ p x=true:=by
  intro l
  induction l with
  | nil=>intro k;exact .inl ⟨rfl,by simp⟩
  | cons a l ih =>
   intro k
   cases h:p a with
   | true=>exact .inr ⟨[],a,l,rfl,by simp,h⟩
   | false =>
    rcases ih (k+1) with ⟨h1,h2⟩ | ⟨A,x,B,rfl,h2,h3⟩
    . exact .inl ⟨by rw [zbm,if_neg (by rw [h];decide),h1],fun y hy=>by rcases List.mem_cons.1 hy with rfl | hy;exact h;exact h2 y hy⟩
    . exact .inr ⟨a :: A,x,B,rfl,fun y hy=>by rcases List.mem_cons.1 hy with rfl | hy;exact h;exact h2 y hy,h3⟩
 exact gen l 0
theorem ylo {α:Type} {t n:Nat} {f:α -> List PV} {l A B:List α} {x y:α} {i:Nat} {r:List PV} (h:l=A++x :: B) (hi:i=A.length) (hr:f y=r):HSlot.live (.row t n ((l.map f).set i r))=HSlot.live (.row t n ((A++y :: B).map f)):=by
 subst h hr
 rw [<- List.map_set,Srt.zym hi]
theorem zcz (l:List UInt8) (hb:l.length < 2 ^ 40):FunOK Tryz.prog 70 [.p (.sl 1 (l.map bRow))] zac (.own 0) (lk .free [(0,.live (.row 5 1 (l.map bRow)))]):=by
 refine zal mixed Tryz.func70 (by decide) [] (fun _=>.inl rfl) ?_
 conv=>whnf
 intro b hn
 conv=>whnf
 refine zaf (fun c=>?_) (fun c=>?_)
 . conv=>whnf
   refine zau [(0,none)] rfl rfl trivial rfl rfl ⟨⟨rfl,.inr ⟨rfl,hn c⟩⟩,trivial⟩
 . conv=>whnf
   refine zaa (c:=(([]:List (List PV)).length+(l.map bRow).length) * 1 <= 140737488355328) (by simp;omega) ?_
   conv=>whnf
   refine zau [(0,some 7)] rfl rfl trivial rfl rfl ⟨⟨rfl,.inl ⟨7,rfl,?_⟩⟩,trivial⟩
   rfl
theorem zqi (l:List Int) (hb:l.length < 2 ^ 40):FunOK Tryz.prog 74 [.p (.sl 1 (l.map (fun n=>[pi n])))] zac (.own 0) (lk .free [(0,.live (.row 3 1 (l.map (fun n=>[pi n]))))]):=by
 refine zal mixed Tryz.func74 (by decide) [] (fun _=>.inl rfl) ?_
 conv=>whnf
 intro b hn
 conv=>whnf
 refine zaf (fun c=>?_) (fun c=>?_)
 . conv=>whnf
   refine zau [(0,none)] rfl rfl trivial rfl rfl ⟨⟨rfl,.inr ⟨rfl,hn c⟩⟩,trivial⟩
 . conv=>whnf
   refine zaa (c:=(([]:List (List PV)).length+(l.map (fun n=>[pi n])).length) * 8 <= 140737488355328) (by simp;omega) ?_
   conv=>whnf
   refine zau [(0,some 7)] rfl rfl trivial rfl rfl ⟨⟨rfl,.inl ⟨7,rfl,?_⟩⟩,trivial⟩
   rfl
theorem zyn (l:List Path) (hb:l.length < 2 ^ 40):FunOK Tryz.prog 73 [.p (.sl 7 (l.map Path.row))] zac (.own 0) (lk .free [(0,.live (.row 86 7 (l.map Path.row)))]):=by
 refine zal mixed Tryz.func73 (by decide) [] (fun _=>.inl rfl) ?_
 conv=>whnf
 intro b hn
 conv=>whnf
 refine zaf (fun c=>?_) (fun c=>?_)
 . conv=>whnf
   refine zau [(0,none)] rfl rfl trivial rfl rfl ⟨⟨rfl,.inr ⟨rfl,hn c⟩⟩,trivial⟩
 . conv=>whnf
   refine zaa (c:=(([]:List (List PV)).length+(l.map Path.row).length) * 56 <= 140737488355328) (by simp;omega) ?_
   conv=>whnf
   refine zau [(0,some 7)] rfl rfl trivial rfl rfl ⟨⟨rfl,.inl ⟨7,rfl,?_⟩⟩,trivial⟩
   rfl
end Cl
end Go.HL
namespace Go.HL
open Go.Proofs
namespace Paths
def new (part:Int):Path:=⟨W (2 * part),W (32 * part),0,0,0,0,3⟩
def acked (p:Path) (bytes part:Int) (moved:Bool):Path :=
 match moved with
 | false=>p
 | true =>
  if bytes=0 then { p with errors:=0,wait:=3,alarm:=0 } else
  if p.window <= p.slow then { p with errors:=0,wait:=3,alarm:=0,window:=W (p.window+min bytes part) } else
  if W (p.gathered+bytes) >= p.window then { p with errors:=0,wait:=3,alarm:=0,gathered:=W (W (p.gathered+bytes) - p.window),window:=W (p.window+part) } else
  { p with errors:=0,wait:=3,alarm:=0,gathered:=W (p.gathered+bytes) }
def halved (p:Path) (part:Int):Path :=
 { p with slow:=max (W (p.window.tdiv 2)) (W (4 * part)),window:=min p.window (max (W (p.window.tdiv 2)) (W (4 * part))),gathered:=0 }
def late (p:Path) (part:Int):Path :=
 { p with slow:=max (W (p.window.tdiv 2)) (W (4 * part)),window:=part,gathered:=0,flight:=0,errors:=W (p.errors+1),wait:=min (W (2 * p.wait)) 24,alarm:=0 }
def zco (k:Nat):List Path -> Int
 | []=>0
 | p :: r=>if p.errors <= 3 then k else zco (k+1) r
theorem zqj (a b:Int):(if b < a then b else a)=min a b:=by omega
theorem zqk (a b:Int):(if b > a then b else a)=max a b:=by omega
set_option maxHeartbeats 1000000
set_option maxRecDepth 100000
theorem zsq (part:Int):FunOK Tryz.prog 67 [i64 part] zac (new part).hv zac:=by
 refine zah mixed Tryz.func67 (by decide) ?_
 conv=>whnf
 repeat' (first | (refine zaf (fun h=>?_) (fun h=>?_) <;> conv=>whnf) | (refine zbc ?_;conv=>whnf))
 rfl
theorem yef (p:Path) (bytes part:Int) (moved:Bool):FunOK Tryz.prog 77 [p.hv,i64 bytes,i64 part,hbool moved] zac (acked p bytes part moved).hv zac:=by
 cases moved
 all_goals refine zah mixed Tryz.func77 (by decide) ?_
 all_goals conv=>whnf
 all_goals (repeat' (first | (refine zbc ?_;conv=>whnf) | (refine zaa ?_ ?_;(first | kernel_rfl | decide);conv=>whnf) | (refine zas ?_ ?_;kernel_rfl;conv=>whnf) | (refine hcut.go ?_;conv=>whnf) | (refine zav ?_;(conv=>whnf);refine ⟨_,zep ⟨_,_,_,_,_,_,_⟩ _,rfl,?_⟩;conv=>whnf) | (refine zaf (fun h=>?_) (fun h=>?_) <;> conv=>whnf)))
 all_goals try simp only [List.length_map,Bool.not_eq_true',Bool.not_eq_false',beq_iff_eq,beq_eq_false_iff_ne,decide_eq_true_eq,decide_eq_false_iff_not] at *
 all_goals simp only [acked,W]
 all_goals (repeat' split)
 all_goals first | rfl | omega | (simp only [Path.hv,zqj,zqk,HV.agg.injEq,List.cons.injEq,HV.p.injEq,PV.v.injEq,Value.int.injEq,true_and,and_true] <;> first | omega | (congr 1;omega))
theorem zyo (p:Path) (bytes part:Int) (moved:Bool):FunOK Tryz.prog 85 [p.hv,i64 bytes,i64 part,hbool moved] zac (acked p bytes part moved).hv zac:=by
 cases moved
 all_goals refine zah mixed Tryz.func85 (by decide) ?_
 all_goals conv=>whnf
 all_goals (repeat' (first | (refine zbc ?_;conv=>whnf) | (refine zaa ?_ ?_;(first | kernel_rfl | decide);conv=>whnf) | (refine zas ?_ ?_;kernel_rfl;conv=>whnf) | (refine hcut.go ?_;conv=>whnf) | (refine zav ?_;(conv=>whnf);refine ⟨_,zep ⟨_,_,_,_,_,_,_⟩ _,rfl,?_⟩;conv=>whnf) | (refine zaf (fun h=>?_) (fun h=>?_) <;> conv=>whnf)))
 all_goals try simp only [List.length_map,Bool.not_eq_true',Bool.not_eq_false',beq_iff_eq,beq_eq_false_iff_ne,decide_eq_true_eq,decide_eq_false_iff_not] at *
 all_goals simp only [acked,W]
 all_goals (repeat' split)
 all_goals first | rfl | omega | (simp only [Path.hv,zqj,zqk,HV.agg.injEq,List.cons.injEq,HV.p.injEq,PV.v.injEq,Value.int.injEq,true_and,and_true] <;> first | omega | (congr 1;omega))
theorem zep (p:Path) (part:Int):FunOK Tryz.prog 80 [p.hv,i64 part] zac (halved p part).hv zac:=by
 refine zah mixed Tryz.func80 (by decide) ?_
 conv=>whnf
 (repeat' (first | (refine zbc ?_;conv=>whnf) | (refine zaa ?_ ?_;(first | kernel_rfl | decide);conv=>whnf) | (refine zas ?_ ?_;kernel_rfl;conv=>whnf) | (refine hcut.go ?_;conv=>whnf) | (refine zav ?_;(conv=>whnf);refine ⟨_,zep ⟨_,_,_,_,_,_,_⟩ _,rfl,?_⟩;conv=>whnf) | (refine zaf (fun h=>?_) (fun h=>?_) <;> conv=>whnf)))
 all_goals try simp only [List.length_map,Bool.not_eq_true',Bool.not_eq_false',beq_iff_eq,beq_eq_false_iff_ne,decide_eq_true_eq,decide_eq_false_iff_not] at *
 all_goals simp only [halved,W]
 all_goals (repeat' split)
 all_goals first | rfl | omega | (simp only [Path.hv,zqj,zqk,HV.agg.injEq,List.cons.injEq,HV.p.injEq,PV.v.injEq,Value.int.injEq,true_and,and_true] <;> first | omega | (congr 1;omega))
theorem zly (p:Path) (part:Int):FunOK Tryz.prog 88 [p.hv,i64 part] zac (halved p part).hv zac:=by
 refine zah mixed Tryz.func88 (by decide) ?_
 conv=>whnf
 (repeat' (first | (refine zbc ?_;conv=>whnf) | (refine zaa ?_ ?_;(first | kernel_rfl | decide);conv=>whnf) | (refine zas ?_ ?_;kernel_rfl;conv=>whnf) | (refine hcut.go ?_;conv=>whnf) | (refine zav ?_;(conv=>whnf);refine ⟨_,zep ⟨_,_,_,_,_,_,_⟩ _,rfl,?_⟩;conv=>whnf) | (refine zaf (fun h=>?_) (fun h=>?_) <;> conv=>whnf)))
 all_goals try simp only [List.length_map,Bool.not_eq_true',Bool.not_eq_false',beq_iff_eq,beq_eq_false_iff_ne,decide_eq_true_eq,decide_eq_false_iff_not] at *
 all_goals simp only [halved,W]
 all_goals (repeat' split)
 all_goals first | rfl | omega | (simp only [Path.hv,zqj,zqk,HV.agg.injEq,List.cons.injEq,HV.p.injEq,PV.v.injEq,Value.int.injEq,true_and,and_true] <;> first | omega | (congr 1;omega))
theorem zof (p:Path) (part:Int):FunOK Tryz.prog 91 [p.hv,i64 part] zac (late p part).hv zac:=by
 refine zah mixed Tryz.func91 (by decide) ?_
 conv=>whnf
 (repeat' (first | (refine zbc ?_;conv=>whnf) | (refine zaa ?_ ?_;(first | kernel_rfl | decide);conv=>whnf) | (refine zas ?_ ?_;kernel_rfl;conv=>whnf) | (refine hcut.go ?_;conv=>whnf) | (refine zav ?_;(conv=>whnf);refine ⟨_,zep ⟨_,_,_,_,_,_,_⟩ _,rfl,?_⟩;conv=>whnf) | (refine zaf (fun h=>?_) (fun h=>?_) <;> conv=>whnf)))
 all_goals try simp only [List.length_map,Bool.not_eq_true',Bool.not_eq_false',beq_iff_eq,beq_eq_false_iff_ne,decide_eq_true_eq,decide_eq_false_iff_not] at *
 all_goals simp only [late,W]
 all_goals (repeat' split)
 all_goals first | rfl | omega | (simp only [Path.hv,zqj,zqk,HV.agg.injEq,List.cons.injEq,HV.p.injEq,PV.v.injEq,Value.int.injEq,true_and,and_true] <;> first | omega | (congr 1;omega))
theorem yeg (p:Path) (part:Int):FunOK Tryz.prog 92 [p.hv,i64 part] zac (late p part).hv zac:=by
 refine zah mixed Tryz.func92 (by decide) ?_
 conv=>whnf
 (repeat' (first | (refine zbc ?_;conv=>whnf) | (refine zaa ?_ ?_;(first | kernel_rfl | decide);conv=>whnf) | (refine zas ?_ ?_;kernel_rfl;conv=>whnf) | (refine hcut.go ?_;conv=>whnf) | (refine zav ?_;(conv=>whnf);refine ⟨_,zly ⟨_,_,_,_,_,_,_⟩ _,rfl,?_⟩;conv=>whnf) | (refine zaf (fun h=>?_) (fun h=>?_) <;> conv=>whnf)))
 all_goals try simp only [List.length_map,Bool.not_eq_true',Bool.not_eq_false',beq_iff_eq,beq_eq_false_iff_ne,decide_eq_true_eq,decide_eq_false_iff_not] at *
 all_goals simp only [late,halved,W]
 all_goals (repeat' split)
 all_goals first | rfl | omega | (simp only [Path.hv,zqj,zqk,HV.agg.injEq,List.cons.injEq,HV.p.injEq,PV.v.injEq,Value.int.injEq,true_and,and_true] <;> first | omega | (congr 1;omega))
theorem zgo (p:Path):FunOK Tryz.prog 133 [p.hv] zac (hbool (decide (p.flight < p.window))) zac:=by
 refine zah mixed Tryz.func133 (by decide) ?_
 conv=>whnf
theorem zda (ps:List Path) (hb:ps.length < 2 ^ 62):FunOK Tryz.prog 79 [.p (.sl 7 (ps.map Path.row))] zac (i64 (zco 0 ps)) zac:=by
 refine zah mixed Tryz.func79 (by decide) ?_
 conv=>whnf
 refine ⟨{ k:Nat // k <= ps.length /\ zco k (ps.drop k)=zco 0 ps },fun k=>hs 17 [(5,.p (.sl 7 (ps.map Path.row))),(6,i64 (ps.map Path.row).length),(7,i64 k.1)] [],fun k=>ps.length - k.1,⟨0,by simp⟩,?_,?_⟩
 . exact zbo [] rfl rfl rfl rfl ⟨⟨rfl,rfl⟩,⟨rfl,rfl⟩,⟨rfl,rfl⟩,trivial⟩ trivial
 . rintro ⟨k,hk,hi⟩
   conv=>whnf
   refine zaf (fun h=>?_) (fun h=>?_)
   . have hlt:k < ps.length:=by simpa using h
     conv=>whnf
     refine zbq (r:=(ps[k]).row) (by simp) (by simp [hlt]) ?_
     conv=>whnf
     rw [List.drop_eq_getElem_cons hlt] at hi
     simp only [zco] at hi
     refine zaf (fun h=>?_) (fun h=>?_)
     . conv=>whnf
       rw [if_pos (by simp only [decide_eq_true_eq] at h;omega)] at hi
       rw [hi]
     . conv=>whnf
       refine zan (W_fit (by simp;omega) (by simp;omega)) ?_
       conv=>whnf
       rw [if_neg (by simp only [decide_eq_false_iff_not] at h;omega)] at hi
       exact ⟨⟨k+1,hlt,hi⟩,zbo [] rfl rfl rfl rfl ⟨⟨rfl,rfl⟩,⟨rfl,rfl⟩,⟨rfl,by simp;rfl⟩,trivial⟩ trivial,by simp;omega⟩
   . conv=>whnf
     have hge:ps.length <= k:=by simpa using h
     rw [List.drop_eq_nil_of_le hge] at hi
     rw [<- hi];rfl
theorem zgc (ps:List Path) (hb:ps.length < 2 ^ 62):FunOK Tryz.prog 87 [.p (.sl 7 (ps.map Path.row))] zac (i64 (zco 0 ps)) zac:=by
 refine zah mixed Tryz.func87 (by decide) ?_
 conv=>whnf
 refine ⟨{ k:Nat // k <= ps.length /\ zco k (ps.drop k)=zco 0 ps },fun k=>hs 17 [(5,.p (.sl 7 (ps.map Path.row))),(6,i64 (ps.map Path.row).length),(7,i64 k.1)] [],fun k=>ps.length - k.1,⟨0,by simp⟩,?_,?_⟩
 . exact zbo [] rfl rfl rfl rfl ⟨⟨rfl,rfl⟩,⟨rfl,rfl⟩,⟨rfl,rfl⟩,trivial⟩ trivial
 . rintro ⟨k,hk,hi⟩
   conv=>whnf
   refine zaf (fun h=>?_) (fun h=>?_)
   . have hlt:k < ps.length:=by simpa using h
     conv=>whnf
     refine zbq (r:=(ps[k]).row) (by simp) (by simp [hlt]) ?_
     conv=>whnf
     rw [List.drop_eq_getElem_cons hlt] at hi
     simp only [zco] at hi
     refine zaf (fun h=>?_) (fun h=>?_)
     . conv=>whnf
       rw [if_pos (by simp only [decide_eq_true_eq] at h;omega)] at hi
       rw [hi]
     . conv=>whnf
       refine zan (W_fit (by simp;omega) (by simp;omega)) ?_
       conv=>whnf
       rw [if_neg (by simp only [decide_eq_false_iff_not] at h;omega)] at hi
       exact ⟨⟨k+1,hlt,hi⟩,zbo [] rfl rfl rfl rfl ⟨⟨rfl,rfl⟩,⟨rfl,rfl⟩,⟨rfl,by simp;rfl⟩,trivial⟩ trivial,by simp;omega⟩
   . conv=>whnf
     have hge:ps.length <= k:=by simpa using h
     rw [List.drop_eq_nil_of_le hge] at hi
     rw [<- hi];rfl
end Paths
end Go.HL
namespace Go.HL
open Go.Proofs
namespace Sch
set_option maxHeartbeats 1000000
set_option maxRecDepth 100000
abbrev qs (q:List Queued):HV:=.p (.sl 10 (q.map Queued.row))
def first (q:List Queued) (stream:Int):Int:=zbm (fun m:Queued=>m.message.stream == stream) 0 q
def after (q:List Queued) (last streams:Int):Nat -> Nat -> Int
 | _,0=>-1
 | k,n+1=>if first q ((W (W (last+1)+k)).tmod streams) >= 0 then first q ((W (W (last+1)+k)).tmod streams) else after q last streams (k+1) n
theorem zyp (m:Queued) (stream:Int):FunOK Tryz.prog 186 [m.hv,.rp [pi stream]] zac (hbool (m.message.stream == stream)) zac:=by
 refine zah mixed Tryz.func186 (by decide) ?_
 conv=>whnf
theorem zle (m:Queued) (s:Sched):FunOK Tryz.prog 163 [m.hv,.rp s.row] zac (hbool (m.id == s.hand)) zac:=by
 refine zah mixed Tryz.func163 (by decide) ?_
 conv=>whnf
theorem ybl {g:FuncId} {cs:List PV} {p:Queued -> Bool} (hg:∀ m:Queued,FunOK Tryz.prog g [m.hv,.rp cs] zac (hbool (p m)) zac) (q:List Queued) (hb:q.length < 2 ^ 62) :
 FunOK Tryz.prog 158 [qs q,.clo g [.rp cs]] zac (i64 (zbm p 0 q)) zac:=by
 refine zah mixed Tryz.func158 (by decide) ?_
 conv=>whnf
 refine ⟨{ k:Nat // k <= q.length /\ zbm p k (q.drop k)=zbm p 0 q },fun | ⟨k,_⟩=>hs 19 [(0,qs q),(1,.clo g [.rp cs]),(7,i64 (q.map Queued.row).length),(8,i64 k)] [],fun k=>q.length - k.1,⟨0,by simp⟩,?_,?_⟩
 . exact zbo [] rfl rfl rfl rfl ⟨⟨rfl,rfl⟩,⟨rfl,rfl⟩,⟨rfl,rfl⟩,⟨rfl,rfl⟩,trivial⟩ trivial
 . rintro ⟨k,hk,hi⟩
   conv=>whnf
   refine zaf (fun h=>?_) (fun h=>?_)
   . have hlt:k < q.length:=by simpa using h
     conv=>whnf
     refine zbq (r:=(q[k]).row) (by simp) (by simp [hlt]) ?_
     conv=>whnf
     refine zeo ?_;conv=>whnf
     refine ⟨_,hg q[k],rfl,?_⟩;conv=>whnf
     rw [List.drop_eq_getElem_cons hlt] at hi
     simp only [zbm] at hi
     refine zaf (fun h=>?_) (fun h=>?_)
     . conv=>whnf
       rw [if_pos h] at hi
       rw [<- hi]
     . conv=>whnf
       rw [if_neg (by rw [h];decide)] at hi
       refine zan (W_fit (by omega) (by omega)) ?_
       conv=>whnf
       exact ⟨⟨k+1,hlt,hi⟩,zbo [] rfl rfl rfl rfl ⟨⟨rfl,rfl⟩,⟨rfl,rfl⟩,⟨rfl,rfl⟩,⟨rfl,by simp;rfl⟩,trivial⟩ trivial,by dsimp only;omega⟩
   . conv=>whnf
     have hge:q.length <= k:=by simpa using h
     rw [List.drop_eq_nil_of_le hge] at hi
     rw [<- hi];rfl
theorem zii (q:List Queued) (stream:Int) (hb:q.length < 2 ^ 62):FunOK Tryz.prog 165 [qs q,i64 stream] zac (i64 (first q stream)) zac:=by
 refine zah mixed Tryz.func165 (by decide) ?_
 conv=>whnf
 refine zav ?_;conv=>whnf
 refine ⟨_,ybl (fun m=>zyp m stream) q hb,rfl,?_⟩
 conv=>whnf
 rfl
theorem yeh (q:List Queued) (last streams:Int) (h0:0 < streams) (h9:streams < 2 ^ 62) (hb:q.length < 2 ^ 62):FunOK Tryz.prog 164 [qs q,i64 last,i64 streams] zac (i64 (after q last streams 0 streams.toNat)) zac:=by
 refine zah mixed Tryz.func164 (by decide) ?_
 conv=>whnf
 refine ⟨{ k:Nat // (k:Int) <= streams /\ after q last streams k (streams.toNat - k)=after q last streams 0 streams.toNat },fun | ⟨k,_⟩=>hs 25 [(0,qs q),(1,i64 last),(2,i64 streams),(9,i64 streams),(10,i64 k)] [],fun k=>streams.toNat - k.1,⟨0,by omega,rfl⟩,?_,?_⟩
 . exact zbo [] rfl rfl rfl rfl ⟨⟨rfl,rfl⟩,⟨rfl,rfl⟩,⟨rfl,rfl⟩,⟨rfl,rfl⟩,⟨rfl,rfl⟩,trivial⟩ trivial
 . rintro ⟨k,hk,hi⟩
   conv=>whnf
   refine zaf (fun h=>?_) (fun h=>?_)
   . have hlt:(k:Int) < streams:=by simpa using h
     conv=>whnf
     refine zbc ?_;conv=>whnf
     refine zbc ?_;conv=>whnf
     refine zaa (by omega) ?_;conv=>whnf
     refine zav ?_;conv=>whnf
     refine ⟨_,zii q _ hb,rfl,?_⟩;conv=>whnf
     obtain ⟨j,hj⟩:∃ j,streams.toNat - k=j+1:=⟨streams.toNat - k - 1,by omega⟩
     rw [hj] at hi
     simp only [after] at hi
     refine zaf (fun h=>?_) (fun h=>?_)
     . conv=>whnf
       rw [if_pos (of_decide_eq_true h)] at hi
       rw [<- hi]
     . conv=>whnf
       rw [if_neg (of_decide_eq_false h)] at hi
       refine zan (W_fit (by omega) (by omega)) ?_
       conv=>whnf
       exact ⟨⟨k+1,by omega,by rw [show streams.toNat - (k+1)=j by omega];exact hi⟩,zbo [] rfl rfl rfl rfl ⟨⟨rfl,rfl⟩,⟨rfl,rfl⟩,⟨rfl,rfl⟩,⟨rfl,rfl⟩,⟨rfl,by simp;rfl⟩,trivial⟩ trivial,by dsimp only;omega⟩
   . conv=>whnf
     have hge:¬ (k:Int) < streams:=by simpa using h
     rw [show streams.toNat - k=0 by omega] at hi
     rw [<- hi];rfl
def zcy (q:List Queued) (had:List Int) (best:Int) (k:Nat):List Int -> Int
 | []=>best
 | n :: r=>if first q k >= 0 /\ (best < 0 \/ n < had[best.toNat]?.getD 0) then zcy q had k (k+1) r else zcy q had best (k+1) r
def least (s:Sched) (q:List Queued):Int:=if zcy q s.had (-1) 0 s.had < 0 then -1 else first q (zcy q s.had (-1) 0 s.had)
theorem yei (s:Sched) (q:List Queued) (h9:s.had.length < 2 ^ 62) (hb:q.length < 2 ^ 62):FunOK Tryz.prog 166 [s.hv,qs q] zac (i64 (least s q)) zac:=by
 refine zah mixed Tryz.func166 (by decide) ?_
 conv=>whnf
 refine ⟨{ x:Nat × Int // x.1 <= s.had.length /\ x.2 < s.had.length /\ zcy q s.had x.2 x.1 (s.had.drop x.1)=zcy q s.had (-1) 0 s.had },fun | ⟨(k,best),_⟩=>hs 40 [(1,qs q),(2,.ptr 2 0),(5,i64 best),(9,ints s.had),(10,i64 (s.had.map fun n=>[pi n]).length),(11,i64 k)] [(2,.live (.cells 28 s.cells))],fun x=>s.had.length - x.1.1,⟨(0,-1),by simp,by dsimp only;omega,rfl⟩,?_,?_⟩
 . exact zbo [(2,some 2)] rfl rfl rfl rfl ⟨⟨rfl,rfl⟩,⟨rfl,rfl⟩,⟨rfl,rfl⟩,⟨rfl,rfl⟩,⟨rfl,rfl⟩,⟨rfl,rfl⟩,trivial⟩ ⟨⟨rfl,.inl ⟨2,rfl,rfl⟩⟩,trivial⟩
 . rintro ⟨⟨k,best⟩,hk,hlt2,hi⟩
   dsimp only at hk hlt2 hi
   conv=>whnf
   refine zaf (fun h=>?_) (fun h=>?_)
   . have hlt:k < s.had.length:=by simpa using h
     have hW:W ((k:Int)+1)=((k+1:Nat):Int):=W_nat hlt h9
     rw [List.drop_eq_getElem_cons hlt] at hi
     simp only [zcy] at hi
     have fin:∀ {b':Int} {s':HS},b' < s.had.length -> zcy q s.had b' (k+1) (s.had.drop (k+1))=zcy q s.had (-1) 0 s.had -> s'.n=40 -> s'.pins=[] -> s'.slot 1=qs q -> s'.slot 2=.ptr 2 0 -> s'.slot 5=i64 b' -> s'.slot 9=ints s.had -> s'.slot 10=i64 (s.had.map fun n=>[pi n]).length -> s'.slot 11=i64 (W (k+1)) ->
      s'.heap 2=.live (.cells 28 s.cells) -> ∃ x':{ x:Nat × Int // x.1 <= s.had.length /\ x.2 < s.had.length /\ zcy q s.had x.2 x.1 (s.had.drop x.1)=zcy q s.had (-1) 0 s.had },HLe s' (match x' with | ⟨(k,best),_⟩=>hs 40 [(1,qs q),(2,.ptr 2 0),(5,i64 best),(9,ints s.had),(10,i64 (s.had.map fun n=>[pi n]).length),(11,i64 k)] [(2,.live (.cells 28 s.cells))]) /\ s.had.length - x'.1.1 < s.had.length - k:=by
      intro b' s' a1 a2 a3 a4 a5 a6 a7 a8 a9 a10 a11
      rw [hW] at a10
      exact ⟨⟨(k+1,b'),hlt,a1,a2⟩,zbo [(2,some 2)] a3.symm a4.symm rfl rfl ⟨⟨rfl,a5.symm⟩,⟨rfl,a6.symm⟩,⟨rfl,a7.symm⟩,⟨rfl,a8.symm⟩,⟨rfl,a9.symm⟩,⟨rfl,a10.symm⟩,trivial⟩ ⟨⟨rfl,.inl ⟨2,rfl,a11⟩⟩,trivial⟩,by dsimp only;omega⟩
     conv=>whnf
     refine hcut.go ?_;conv=>whnf
     refine zbq (r:=[pi s.had[k]]) (by omega) (by simp [hlt]) ?_
     conv=>whnf
     refine zav ?_;conv=>whnf
     refine ⟨_,zii q k hb,rfl,?_⟩;conv=>whnf
     refine zaf (fun c1=>?_) (fun c1=>?_)
     . conv=>whnf
       refine zaf (fun c2=>?_) (fun c2=>?_)
       . conv=>whnf
         refine zbc ?_;conv=>whnf
         rw [if_pos ⟨of_decide_eq_true c1,.inl (of_decide_eq_true c2)⟩] at hi
         exact fin (by omega) hi rfl rfl rfl rfl rfl rfl rfl rfl rfl
       . conv=>whnf
         have hb0:¬ best < 0:=of_decide_eq_false c2
         refine zbq (r:=[pi s.had[best.toNat]]) (by omega) (by simp [show best.toNat < s.had.length by omega]) ?_
         conv=>whnf
         refine zaf (fun c3=>?_) (fun c3=>?_)
         . conv=>whnf
           refine zbc ?_;conv=>whnf
           rw [if_pos ⟨of_decide_eq_true c1,.inr (by simpa [show best.toNat < s.had.length by omega] using c3)⟩] at hi
           exact fin (by omega) hi rfl rfl rfl rfl rfl rfl rfl rfl rfl
         . conv=>whnf
           refine zbc ?_;conv=>whnf
           rw [if_neg (by rintro ⟨_,h | h⟩;exact hb0 h;have:=of_decide_eq_false c3;simp [show best.toNat < s.had.length by omega] at h;omega)] at hi
           exact fin (by omega) hi rfl rfl rfl rfl rfl rfl rfl rfl rfl
     . conv=>whnf
       refine zbc ?_;conv=>whnf
       rw [if_neg (by rintro ⟨h,_⟩;exact of_decide_eq_false c1 h)] at hi
       exact fin (by omega) hi rfl rfl rfl rfl rfl rfl rfl rfl rfl
   . have hge:s.had.length <= k:=by simpa using h
     rw [List.drop_eq_nil_of_le hge] at hi
     simp only [zcy] at hi
     conv=>whnf
     refine zaf (fun c1=>?_) (fun c1=>?_)
     . conv=>whnf
       rw [least,<- hi,if_pos (of_decide_eq_true c1)]
     . conv=>whnf
       refine zav ?_;conv=>whnf
       refine ⟨_,zii q best hb,rfl,?_⟩;conv=>whnf
       rw [least,<- hi,if_neg (of_decide_eq_false c1)]
def zef (q:List Queued) (k:Nat):Nat -> Int
 | 0=>-1
 | n+1=>if first q k >= 0 then first q k else zef q (k+1) n
def zjw (s:Sched) (q:List Queued):Int:=zbm (fun m:Queued=>m.id == s.hand) 0 q
def next (turns:Int) (s:Sched) (q:List Queued):Int :=
 if (q.length:Int)=0 then -1 else if (s.had.length:Int)=0 then -1 else
 if turns=2 then (if zjw s q >= 0 then zjw s q else after q s.last s.had.length 0 s.had.length) else
 if turns=3 then after q s.last s.had.length 0 s.had.length else
 if turns=4 then zef q 0 s.had.length else
 if turns=5 then least s q else 0
theorem zog (turns:Int) (s:Sched) (q:List Queued) (h9:s.had.length < 2 ^ 62) (hb:q.length < 2 ^ 62):FunOK Tryz.prog 135 [i64 turns,s.hv,qs q] zac (i64 (next turns s q)) zac:=by
 refine zah mixed Tryz.func135 (by decide) ?_
 have hl:(s.had.map fun n=>[pi n]).length=s.had.length:=by simp
 have hl2:(q.map Queued.row).length=q.length:=by simp
 have haft:0 < s.had.length -> FunOK Tryz.prog 164 [qs q,i64 s.last,i64 (s.had.map fun n=>[pi n]).length] zac (i64 (after q s.last s.had.length 0 s.had.length)) zac:=by
  intro h0
  have:=yeh q s.last s.had.length (by omega) (by omega) hb
  rw [hl]
  simpa using this
 conv=>whnf
 refine zaf (fun c1=>?_) (fun c1=>?_)
 . have c1:(q.length:Int)=0:=by simpa using c1
   conv=>whnf
   rw [next,if_pos c1]
 have c1:¬ (q.length:Int)=0:=by simpa using c1
 rw [next,if_neg c1]
 conv=>whnf
 refine zaf (fun c2=>?_) (fun c2=>?_)
 . have c2:(s.had.length:Int)=0:=by simpa using c2
   conv=>whnf
   rw [if_pos c2]
 have c2:¬ (s.had.length:Int)=0:=by simpa using c2
 rw [if_neg c2]
 conv=>whnf
 refine zaf (fun c3=>?_) (fun c3=>?_)
 . have c3:turns=2:=by simpa using c3
   rw [if_pos c3]
   conv=>whnf
   refine zav ?_;conv=>whnf
   refine ⟨_,ybl (fun m=>zle m s) q hb,rfl,?_⟩
   show _
   conv=>whnf
   refine zaf (fun c4=>?_) (fun c4=>?_)
   . have c4:zjw s q >= 0:=of_decide_eq_true c4
     rw [if_pos c4]
     conv=>whnf
     rfl
   . have c4:¬ zjw s q >= 0:=of_decide_eq_false c4
     rw [if_neg c4]
     conv=>whnf
     refine zav ?_;conv=>whnf
     refine ⟨_,haft (by omega),rfl,?_⟩
     conv=>whnf
 have c3:¬ turns=2:=by simpa using c3
 rw [if_neg c3]
 conv=>whnf
 refine zaf (fun c4=>?_) (fun c4=>?_)
 . have c4:turns=3:=by simpa using c4
   rw [if_pos c4]
   conv=>whnf
   refine zav ?_;conv=>whnf
   refine ⟨_,haft (by omega),rfl,?_⟩
   conv=>whnf
 have c4:¬ turns=3:=by simpa using c4
 rw [if_neg c4]
 conv=>whnf
 refine zaf (fun c5=>?_) (fun c5=>?_)
 . have c5:turns=4:=by simpa using c5
   rw [if_pos c5]
   conv=>whnf
   refine ⟨{ k:Nat // k <= s.had.length /\ zef q k (s.had.length - k)=zef q 0 s.had.length },fun | ⟨k,_⟩=>hs 64 [(2,qs q),(47,i64 s.had.length),(48,i64 k)] [],fun k=>s.had.length - k.1,⟨0,by omega,rfl⟩,?_,?_⟩
   . exact zbo [] rfl rfl rfl rfl ⟨⟨rfl,rfl⟩,⟨rfl,by rw [<- hl];rfl⟩,⟨rfl,rfl⟩,trivial⟩ trivial
   . rintro ⟨k,hk,hi⟩
     conv=>whnf
     refine zaf (fun h=>?_) (fun h=>?_)
     . have hlt:k < s.had.length:=by simpa using h
       conv=>whnf
       refine zav ?_;conv=>whnf
       refine ⟨_,zii q k hb,rfl,?_⟩;conv=>whnf
       obtain ⟨j,hj⟩:∃ j,s.had.length - k=j+1:=⟨s.had.length - k - 1,by omega⟩
       rw [hj] at hi
       simp only [zef] at hi
       refine zaf (fun h=>?_) (fun h=>?_)
       . conv=>whnf
         rw [if_pos (of_decide_eq_true h)] at hi
         rw [<- hi]
       . conv=>whnf
         rw [if_neg (of_decide_eq_false h)] at hi
         refine zan (W_fit (by omega) (by omega)) ?_
         conv=>whnf
         exact ⟨⟨k+1,by omega,by rw [show s.had.length - (k+1)=j by omega];exact hi⟩,zbo [] rfl rfl rfl rfl ⟨⟨rfl,rfl⟩,⟨rfl,rfl⟩,⟨rfl,by simp;rfl⟩,trivial⟩ trivial,by dsimp only;omega⟩
     . conv=>whnf
       have hge:s.had.length <= k:=by simpa using h
       rw [show s.had.length - k=0 by omega] at hi
       rw [<- hi];rfl
 have c5:¬ turns=4:=by simpa using c5
 rw [if_neg c5]
 conv=>whnf
 refine zaf (fun c6=>?_) (fun c6=>?_)
 . have c6:turns=5:=by simpa using c6
   rw [if_pos c6]
   conv=>whnf
   refine zav ?_;conv=>whnf
   refine ⟨_,yei s q h9 hb,rfl,?_⟩
   conv=>whnf
 have c6:¬ turns=5:=by simpa using c6
 rw [if_neg c6]
 conv=>whnf
theorem yej (l:List Int) (hb:l.length < 2 ^ 40):FunOK Tryz.prog 74 [ints l] zac (.own 0) (lk .free [(0,.live (.row 3 1 (l.map fun n=>[pi n])))]):=by
 refine zal mixed Tryz.func74 (by decide) [] (fun _=>.inl rfl) ?_
 conv=>whnf
 intro b hn
 conv=>whnf
 refine zaf (fun c=>?_) (fun c=>?_)
 . conv=>whnf
   refine zau [(0,none)] rfl rfl trivial rfl rfl ⟨⟨rfl,.inr ⟨rfl,hn c⟩⟩,trivial⟩
 . conv=>whnf
   refine zaa (c:=(([]:List (List PV)).length+(l.map fun n=>[pi n]).length) * 8 <= 140737488355328) (by simp;omega) ?_
   conv=>whnf
   refine zau [(0,some 7)] rfl rfl trivial rfl rfl ⟨⟨rfl,.inl ⟨7,rfl,?_⟩⟩,trivial⟩
   rfl
theorem zdb (s:Sched) (hb:s.had.length < 2 ^ 40):FunOK Tryz.prog 71 [s.hv] zac (.agg [i64 s.last,i64 s.hand,.own 0]) (lk .free [(0,.live (.row 3 1 (s.had.map fun n=>[pi n])))]):=by
 refine zal mixed Tryz.func71 (by decide) [] (fun _=>.inl rfl) ?_
 conv=>whnf
 refine zap [(0,5)] ?_;conv=>whnf
 refine ⟨_,_,yej s.had hb,⟨⟨⟨rfl,rfl⟩,trivial⟩,rfl,rfl,rfl⟩,?_⟩
 conv=>whnf
 exact zau [(0,some 5)] rfl rfl trivial rfl rfl ⟨⟨rfl,.inl ⟨5,rfl,rfl⟩⟩,trivial⟩
def had (s:Sched) (m:Queued) (bytes:Int) (over:Bool):Sched :=
 ⟨m.message.stream,if over then -1 else m.id,if 0 <= m.message.stream /\ m.message.stream < s.had.length then s.had.set m.message.stream.toNat (W (s.had[m.message.stream.toNat]?.getD 0+bytes)) else s.had⟩
def new (n:Int):Sched:=⟨W (n - 1),-1,List.replicate (max n 0).toNat 0⟩
end Sch
end Go.HL
namespace Go.HL
open Go.Proofs
namespace Ser
set_option maxHeartbeats 1000000
set_option maxRecDepth 100000
set_option linter.unusedSimpArgs false
abbrev spans (l:List Span):HV:=.p (.sl 2 (l.map Span.row))
def tag (n:Int):Int:=n % 65536
def near (a t:Int):Int:=W (a+(if tag (W (t - a)) > 32768 then tag (W (t - a)) - 65536 else tag (W (t - a))))
theorem yhd (n:Int):0 <= tag n /\ tag n < 65536:=by unfold tag;omega
theorem W_tag (z:Int):tag (W z)=tag z:=by
 unfold tag W IntKind.wrap
 simp [IntKind.bits,IntKind.signed]
 omega
theorem zhp {a t:Int} (h1:-(2 ^ 61) <= a) (h2:a <= 2 ^ 61):a - 32767 <= near a t /\ near a t <= a+32768 /\ tag (near a t)=tag t:=by
 have h3:=yhd (W (t - a))
 have h4:=W_tag (t - a)
 unfold near
 split
 . rw [W_fit (by omega) (by omega)];refine ⟨by omega,by omega,?_⟩;rw [h4];unfold tag;omega
 . rw [W_fit (by omega) (by omega)];refine ⟨by omega,by omega,?_⟩;rw [h4];unfold tag;omega
theorem ybm {a t:Int} {d:Nat} (h1:-(2 ^ 41) <= a) (h2:a <= 2 ^ 41) (hd:d <= 32768) (h:tag (a+d)=tag t):near a t=a+d:=by
 have h4:=W_tag (t - a)
 have h5:tag (t - a)=d:=by unfold tag at h ⊢;omega
 unfold near
 rw [h4,h5,if_neg (by omega),W_fit (by omega) (by omega)]
theorem yhe {a t:Int} {d:Nat} (h1:-(2 ^ 41) <= a) (h2:a <= 2 ^ 41) (hd:d < 32768) (h0:tag (a+d) ≠ tag t) (h:tag (a - d)=tag t):near a t=a - d:=by
 have h4:=W_tag (t - a)
 have h5:tag (t - a)=65536 - d:=by unfold tag at h h0 ⊢;omega
 unfold near
 rw [h4,h5,if_pos (by omega),W_fit (by omega) (by omega)];omega
theorem ylp {a t:Int} (h:∀ j:Nat,j < 32768 -> tag (a+j) ≠ tag t /\ tag (a - j) ≠ tag t):tag (a+(32768:Nat))=tag t:=by
 have h5:=yhd (t - a)
 by_cases c:tag (t - a) < 32768
 . exact absurd (by unfold tag at c h5 ⊢;omega) (h (tag (t - a)).toNat (by omega)).1
 . by_cases c2:tag (t - a)=32768
   . unfold tag at c2 ⊢;omega
   . exact absurd (by unfold tag at c c2 h5 ⊢;omega) (h (65536 - tag (t - a)).toNat (by omega)).2
def has (l:List Span) (n:Int):Bool:=l.any fun s=>decide (s.lo <= n) && decide (n <= s.hi)
theorem zci (n:Int):FunOK Tryz.prog 121 [i64 n] zac (i64 (tag n)) zac:=by
 refine zah mixed Tryz.func121 (by decide) ?_
 conv=>whnf
 show i64 (bits .and .i64 n 65535)=_
 rw [yom];rfl
theorem ylq (n:Int):(n.tmod 65536+65536).tmod 65536=tag n:=by
 have h1:=Int.tmod_lt_of_pos n (show (0:Int) < 65536 by decide)
 have h2:-65536 < n.tmod 65536:=by
  have:=Int.lt_tmod_of_pos n (show (0:Int) < 65536 by decide);omega
 have h3:=Int.mul_tdiv_add_tmod n 65536
 rw [Int.tmod_eq_emod_of_nonneg (by omega)]
 unfold tag
 generalize n.tmod 65536=x at *
 generalize n.tdiv 65536=y at *
 omega
theorem zbr (n:Int):FunOK Tryz.prog 100 [i64 n] zac (i64 (tag n)) zac:=by
 refine zah mixed Tryz.func100 (by decide) ?_
 have h1:=Int.tmod_lt_of_pos n (show (0:Int) < 65536 by decide)
 have h2:-65536 < n.tmod 65536:=by
  have:=Int.lt_tmod_of_pos n (show (0:Int) < 65536 by decide);omega
 conv=>whnf
 refine zaa (by decide) ?_;conv=>whnf
 refine sFm ?_
 refine zaa (by decide) ?_;conv=>whnf
 show i64 ((n.tmod 65536+65536).tmod 65536)=_
 rw [ylq]
theorem zoh (a t:Int):FunOK Tryz.prog 76 [i64 a,i64 t] zac (i64 (near a t)) zac:=by
 refine zah mixed Tryz.func76 (by decide) ?_
 have h3:=yhd (W (t - a))
 conv=>whnf
 refine sR ?_
 (refine cL ?_;refine dL (zci _) ?_)
 (try (refine hcut.go ?_;conv=>whnf))
 refine zaf (fun c=>?_) (fun c=>?_)
 . have c:tag (W (t - a)) > 32768:=by simpa using c
   conv=>whnf
   refine zan (z:=tag (W (t - a)) - 65536) (W_fit (by omega) (by omega)) ?_;conv=>whnf
   refine sR ?_
   rw [near,if_pos c]
 . have c:¬ tag (W (t - a)) > 32768:=by simpa using c
   conv=>whnf
   refine sR ?_
   rw [near,if_neg c]
structure RN (a t:Int) (d:Int):Prop where
 lo:0 <= d
 le:d <= 32768
 no:∀ j:Nat,j < d -> tag (a+j) ≠ tag t /\ tag (a - j) ≠ tag t
theorem zgp (a t:Int) (h1:-(2 ^ 40) <= a) (h2:a <= 2 ^ 40):FunOK Tryz.prog 83 [i64 a,i64 t] zac (i64 (near a t)) zac:=by
 refine zah mixed Tryz.func83 (by decide) ?_
 conv=>whnf
 refine ⟨{ d:Int // RN a t d },fun | ⟨d,_⟩=>hs 41 [(0,i64 a),(1,i64 t),(5,i64 d)] [],fun x=>(32768 - x.1).toNat,⟨0,by omega,by omega,fun j hj=>absurd hj (by omega)⟩,?_,?_⟩
 . exact (hle_Q [])
 rintro ⟨d,hdn⟩
 have hd0:=hdn.lo
 have hd:=hdn.le
 have hno:=hdn.no
 conv=>whnf
 refine zaf (fun c1=>?_) (fun c1=>?_)
 . have c1:d < 32768:=of_decide_eq_true c1
   obtain ⟨n,hn⟩:∃ n:Nat,d=n:=⟨d.toNat,by omega⟩
   conv=>whnf
   refine sFm ?_
   (refine cL ?_;refine dL (zbr _) ?_)
   (refine cL ?_;refine dL (zbr _) ?_)
   refine zaf (fun c2=>?_) (fun c2=>?_)
   . have c2:tag (a+d) ≠ tag t:=by simpa using c2
     conv=>whnf
     refine sFm ?_
     (refine cL ?_;refine dL (zbr _) ?_)
     (refine cL ?_;refine dL (zbr _) ?_)
     refine zaf (fun c3=>?_) (fun c3=>?_)
     . have c3:tag (a - d) ≠ tag t:=by simpa using c3
       conv=>whnf
       refine sFm ?_
       refine ⟨⟨d+1,by omega,by omega,fun j hj=>?_⟩,(hle_Q []),by dsimp only;omega⟩
       by_cases hjd:(j:Int)=d
       . rw [hjd];exact ⟨c2,c3⟩
       . exact hno j (by omega)
     . have c3:tag (a - d)=tag t:=by simpa using c3
       conv=>whnf
       refine sFm ?_
       (refine cL ?_;refine dL (zbr _) ?_)
       (refine cL ?_;refine dL (zbr _) ?_)
       refine zab (by simpa using c2) ?_
       conv=>whnf
       refine sFm ?_
       rw [hn] at c1 c2 c3 ⊢;rw [yhe (by omega) (by omega) (by omega) c2 c3]
   . have c2:tag (a+d)=tag t:=by simpa using c2
     conv=>whnf
     refine sFm ?_
     (refine cL ?_;refine dL (zbr _) ?_)
     (refine cL ?_;refine dL (zbr _) ?_)
     refine zad (by simpa using c2) ?_
     conv=>whnf
     refine sFm ?_
     rw [hn] at c2 ⊢;rw [ybm (by omega) (by omega) (by omega) c2]
 . have c1:d=32768:=by have:=of_decide_eq_false c1;omega
   subst c1
   have c2:tag (a+32768)=tag t:=ylp fun j hj=>hno j (by omega)
   conv=>whnf
   refine sFm ?_
   (refine cL ?_;refine dL (zbr _) ?_)
   (refine cL ?_;refine dL (zbr _) ?_)
   refine zad (by simpa using c2) ?_
   conv=>whnf
   refine sFm ?_
   rw [ybm (d:=32768) (by omega) (by omega) (Nat.le_refl _) c2];rfl
theorem ylr {g:FuncId} {cs:List PV} {p:Span -> Bool} (hg:∀ m:Span,FunOK Tryz.prog g [m.hv,.rp cs] zac (hbool (p m)) zac) (q:List Span) (hb:q.length < 2 ^ 62) :
 FunOK Tryz.prog 185 [.p (.sl 2 (q.map Span.row)),.clo g [.rp cs]] zac (i64 (zbm p 0 q)) zac:=by
 refine zah mixed Tryz.func185 (by decide) ?_
 conv=>whnf
 refine ⟨{ k:Nat // k <= q.length /\ zbm p k (q.drop k)=zbm p 0 q },fun | ⟨k,_⟩=>hs 19 [(0,.p (.sl 2 (q.map Span.row))),(1,.clo g [.rp cs]),(7,i64 (q.map Span.row).length),(8,i64 k)] [],fun k=>q.length - k.1,⟨0,by simp⟩,?_,?_⟩
 . exact (hle_Q [])
 . rintro ⟨k,hk,hi⟩
   conv=>whnf
   refine zaf (fun h=>?_) (fun h=>?_)
   . have hlt:k < q.length:=by simpa using h
     conv=>whnf
     refine zbq (r:=(q[k]).row) (by simp) (by simp [hlt]) ?_
     conv=>whnf
     refine zeo ?_;conv=>whnf
     refine ⟨_,hg q[k],rfl,?_⟩;conv=>whnf
     rw [List.drop_eq_getElem_cons hlt] at hi
     simp only [zbm] at hi
     refine zaf (fun h=>?_) (fun h=>?_)
     . conv=>whnf
       rw [if_pos h] at hi
       rw [<- hi]
     . conv=>whnf
       rw [if_neg (by rw [h];decide)] at hi
       refine zan (W_fit (by omega) (by omega)) ?_
       conv=>whnf
       exact ⟨⟨k+1,hlt,hi⟩,(hle_Q []),by dsimp only;omega⟩
   . conv=>whnf
     have hge:q.length <= k:=by simpa using h
     rw [List.drop_eq_nil_of_le hge] at hi
     rw [<- hi];rfl
theorem yhf (s:Span) (n:Int):FunOK Tryz.prog 156 [s.hv,.rp [pi n]] zac (hbool (decide (s.lo <= n) && decide (n <= s.hi))) zac:=by
 refine zah mixed Tryz.func156 (by decide) ?_
 conv=>whnf
 refine zaf (fun c=>?_) (fun c=>?_) <;> conv=>whnf
 . show hbool (decide (n <= s.hi))=_;rw [show decide (s.lo <= n)=true from c,Bool.true_and]
 . rw [show decide (s.lo <= n)=false from c,Bool.false_and]
theorem zsr {α:Type} {p:α -> Bool}:∀ (l:List α) (k:Nat),decide (zbm p k l >= 0)=l.any p
 | [],k=>rfl
 | x :: r,k=>by
  simp only [zbm,List.any_cons]
  split
  . rename_i h;rw [h];simp
  . rename_i h;rw [zsr r];simp [h]
theorem zss {g:FuncId} {cs:List PV} {p:Span -> Bool} (hg:∀ m:Span,FunOK Tryz.prog g [m.hv,.rp cs] zac (hbool (p m)) zac) (q:List Span) (hb:q.length < 2 ^ 62) :
 FunOK Tryz.prog 155 [spans q,.clo g [.rp cs]] zac (hbool (q.any p)) zac:=by
 refine zah mixed Tryz.func155 (by decide) ?_
 conv=>whnf
 (refine cZ ?_;refine dL (ylr hg q hb) ?_)
 show hbool (decide (zbm p 0 q >= 0))=_
 rw [zsr]
theorem yls (l:List Span) (n:Int) (hb:l.length < 2 ^ 62):FunOK Tryz.prog 120 [spans l,i64 n] zac (hbool (has l n)) zac:=by
 refine zah mixed Tryz.func120 (by decide) ?_
 conv=>whnf
 (refine cL ?_;refine dL (zss (fun m=>yhf m n) l hb) ?_)
 rfl
theorem zyq (l:List Span) (n:Int) (hb:l.length < 2 ^ 62):FunOK Tryz.prog 128 [spans l,i64 n] zac (hbool (has l n)) zac:=by
 refine zah mixed Tryz.func128 (by decide) ?_
 conv=>whnf
 refine ⟨{ k:Nat // k <= l.length /\ has (l.drop k) n=has l n },fun | ⟨k,_⟩=>hs 24 [(1,i64 n),(7,spans l),(8,i64 l.length),(9,i64 k)] [],fun x=>l.length - x.1,⟨0,by simp⟩,?_,?_⟩
 . exact (hle_Q [])
 rintro ⟨k,hk,hi⟩
 conv=>whnf
 refine zaf (fun c=>?_) (fun c=>?_)
 . have hlt:k < l.length:=by simpa using c
   rw [List.drop_eq_getElem_cons hlt,has,List.any_cons] at hi
   conv=>whnf
   refine zbj k rfl hlt ?_;conv=>whnf
   generalize l[k]=s at hi ⊢
   refine zaf (fun c1=>?_) (fun c1=>?_)
   . have c1:s.lo <= n:=of_decide_eq_true c1
     conv=>whnf
     refine zaf (fun c2=>?_) (fun c2=>?_)
     . have c2:n <= s.hi:=of_decide_eq_true c2
       conv=>whnf
       rw [<- hi,decide_eq_true c1,decide_eq_true c2];rfl
     . have c2:¬ n <= s.hi:=of_decide_eq_false c2
       conv=>whnf
       refine sFm ?_
       exact ⟨⟨k+1,hlt,by rw [<- hi,decide_eq_false c2];simp [has]⟩,(hle_Q []),by dsimp only;omega⟩
   . have c1:¬ s.lo <= n:=of_decide_eq_false c1
     conv=>whnf
     refine sFm ?_
     exact ⟨⟨k+1,hlt,by rw [<- hi,decide_eq_false c1];simp [has]⟩,(hle_Q []),by dsimp only;omega⟩
 . have hge:l.length <= k:=by simpa using c
   rw [List.drop_eq_nil_of_le hge] at hi
   conv=>whnf
   rw [<- hi];rfl
end Ser
end Go.HL
namespace Go.HL
open Go.Proofs
namespace Sco
open Ser
set_option maxHeartbeats 1000000
set_option maxRecDepth 100000
set_option linter.unusedSimpArgs false
abbrev sents (l:List Sent):HV:=.p (.sl 20 (l.map Sent.row))
abbrev skips (l:List Skip):HV:=.p (.sl 3 (l.map Skip.row))
abbrev sentB (l:List Sent):HSlot:=.live (.row 134 20 (l.map Sent.row))
abbrev skipB (l:List Skip):HSlot:=.live (.row 180 3 (l.map Skip.row))
abbrev intB (l:List Int):HSlot:=.live (.row 3 1 (l.map fun n=>[pi n]))
def total (l:List Sent):Nat:=(l.map fun s=>s.chunk.data.length).sum
theorem zfa (a b:List Sent):total (a++b)=total a+total b:=by simp [total]
theorem zeb (s:Sent) (b:List Sent):total (s :: b)=s.chunk.data.length+total b:=by simp [total]
structure Sized (l:List Sent):Prop where
 len:l.length < 2 ^ 38
 bytes:total l < 2 ^ 38
theorem zcz (l:List UInt8) (hb:l.length < 2 ^ 40):FunOK Tryz.prog 70 [.p (.sl 1 (l.map bRow))] zac (.own 0) (lk .free [(0,.live (.row 5 1 (l.map bRow)))]):=by
 refine zal mixed Tryz.func70 (by decide) [] (fun _=>.inl rfl) ?_
 conv=>whnf
 intro b hn
 conv=>whnf
 refine zaf (fun c=>?_) (fun c=>?_)
 . conv=>whnf
   refine zau [(0,none)] rfl rfl trivial rfl rfl ⟨⟨rfl,.inr ⟨rfl,hn c⟩⟩,trivial⟩
 . conv=>whnf
   refine zaa (c:=(([]:List (List PV)).length+(l.map bRow).length) * 1 <= 140737488355328) (by simp;omega) ?_
   conv=>whnf
   refine zau [(0,some 7)] rfl rfl trivial rfl rfl ⟨⟨rfl,.inl ⟨7,rfl,?_⟩⟩,trivial⟩
   rfl
theorem zyr (l:List Skip) (hb:l.length < 2 ^ 40):FunOK Tryz.prog 157 [.p (.sl 3 (l.map Skip.row))] zac (.own 0) (lk .free [(0,.live (.row 180 3 (l.map Skip.row)))]):=by
 refine zal mixed Tryz.func157 (by decide) [] (fun _=>.inl rfl) ?_
 conv=>whnf
 intro b hn
 conv=>whnf
 refine zaf (fun c=>?_) (fun c=>?_)
 . conv=>whnf
   refine zau [(0,none)] rfl rfl trivial rfl rfl ⟨⟨rfl,.inr ⟨rfl,hn c⟩⟩,trivial⟩
 . conv=>whnf
   refine zaa (c:=(([]:List (List PV)).length+(l.map Skip.row).length) * 24 <= 140737488355328) (by simp;omega) ?_
   conv=>whnf
   refine zau [(0,some 7)] rfl rfl trivial rfl rfl ⟨⟨rfl,.inl ⟨7,rfl,?_⟩⟩,trivial⟩
   rfl
theorem zdb (l:List Sent) (hl:Sized l):FunOK Tryz.prog 72 [sents l] zac (.own 0) (lk .free [(0,sentB l)]):=by
 obtain ⟨hl1,hl2⟩:=hl
 refine zal mixed Tryz.func72 (by decide) [] (fun _=>.inl rfl) ?_
 conv=>whnf
 refine ⟨{ x:List Sent × List Sent // l=x.1++x.2 },fun | ⟨(a,b),_⟩=>hs 24 [(3,.own 900),(6,sents l),(7,i64 l.length),(8,i64 a.length)] [(900,sentB a)],fun x=>x.1.2.length,⟨([],l),rfl⟩,?_,?_⟩
 . exact (hle_Q [(900,none)])
 rintro ⟨⟨a,b⟩,h⟩
 dsimp only at h
 cases b with
 | nil =>
  have hz:=zaz h
  conv=>whnf
  refine sN ?_
  refine zau [(0,some 900)] rfl rfl trivial rfl rfl ⟨⟨rfl,.inl ⟨900,rfl,?_⟩⟩,trivial⟩
  show sentB a=sentB l
  rw [h,List.append_nil]
 | cons s b =>
  have hz:=zar h
  rw [h,zfa,zeb] at hl2
  conv=>whnf
  refine sT ?_
  refine zaj h rfl ?_;conv=>whnf
  (refine zap [(0,15)]  ?_;(conv=>whnf);refine dO (zcz s.chunk.data (by omega)) ?_)
  refine zaa (c:=((a.map Sent.row).length+1) * 200 <= 140737488355328) om ?_
  conv=>whnf
  refine sF ?_
  exact ⟨⟨(a++[s],b),zae h⟩,(hle_X [(900,some 21)] (by repeat' (first | exact z0 | refine z1 ?_ | refine ⟨?_,?_⟩ | (exact zcv rfl) | exact z2))),by simp⟩
def fl (path:Int) (l:List Sent):Nat:=(l.map fun s=>if s.state=1 /\ s.path=path then s.chunk.data.length else 0).sum
theorem ybn (p:Int) (a b:List Sent):fl p (a++b)=fl p a+fl p b:=by simp [fl]
theorem zoi (p:Int) (s:Sent):fl p [s]=if s.state=1 /\ s.path=p then s.chunk.data.length else 0:=by simp [fl]
theorem fl_le (p:Int):∀ l:List Sent,fl p l <= total l
 | []=>by simp [fl,total]
 | s :: r=>by
  have:=fl_le p r
  simp only [fl,total,List.map_cons,List.sum_cons] at this ⊢
  split <;> omega
theorem zje (l:List Sent) (path:Int) (hl:Sized l):FunOK Tryz.prog 122 [sents l,i64 path] zac (i64 (fl path l)) zac:=by
 obtain ⟨hl1,hl2⟩:=hl
 refine zah mixed Tryz.func122 (by decide) ?_
 conv=>whnf
 refine ⟨{ x:List Sent × List Sent // l=x.1++x.2 },fun | ⟨(a,b),_⟩=>hs 31 [(1,i64 path),(5,i64 (fl path a)),(8,sents l),(9,i64 l.length),(10,i64 a.length)] [],fun x=>x.1.2.length,⟨([],l),rfl⟩,?_,?_⟩
 . exact (hle_Q [])
 rintro ⟨⟨a,b⟩,h⟩
 dsimp only at h
 cases b with
 | nil =>
  have hz:=zaz h
  conv=>whnf
  refine sN ?_
  rw [h,List.append_nil]
 | cons s b =>
  have hz:=zar h
  have hf:=fl_le path a
  rw [h,zfa,zeb] at hl2
  have e1:=ybn path a [s]
  rw [zoi] at e1
  conv=>whnf
  refine sT ?_
  (try (refine hcut.go ?_;conv=>whnf))
  refine zaj h rfl ?_;conv=>whnf
  refine zaf (fun c1=>?_) (fun c1=>?_)
  . conv=>whnf
    refine zaf (fun c2=>?_) (fun c2=>?_)
    . conv=>whnf
      rw [if_pos ⟨by simpa using c1,by simpa using c2⟩] at e1
      refine sF ?_
      refine sF ?_
      exact ⟨⟨(a++[s],b),zae h⟩,(hle_X [] (by repeat' (first | exact z0 | refine z1 ?_ | refine ⟨?_,?_⟩ | (exact zbg (by rw [e1];simp)) | exact z2))),by simp⟩
    . conv=>whnf
      rw [if_neg (by rintro ⟨h1,h2⟩;simp [h2] at c2)] at e1
      refine sF ?_
      exact ⟨⟨(a++[s],b),zae h⟩,(hle_X [] (by repeat' (first | exact z0 | refine z1 ?_ | refine ⟨?_,?_⟩ | (exact zbg (by rw [e1];simp)) | exact z2))),by simp⟩
  . conv=>whnf
    rw [if_neg (by rintro ⟨h1,h2⟩;simp [h1] at c1)] at e1
    refine sF ?_
    exact ⟨⟨(a++[s],b),zae h⟩,(hle_X [] (by repeat' (first | exact z0 | refine z1 ?_ | refine ⟨?_,?_⟩ | (exact zbg (by rw [e1];simp)) | exact z2))),by simp⟩
def give (id:Int) (s:Sent):Sent:=if s.id=id /\ s.state ≠ 2 then { s with state:=4 } else s
def late (path:Int) (s:Sent):Sent:=if s.state=1 /\ s.path=path then { s with state:=3 } else s
theorem zjx (l:List Sent) (id:Int) (hl:Sized l):FunOK Tryz.prog 162 [sents l,i64 id] zac (.own 0) (lk .free [(0,sentB (l.map (give id)))]):=by
 have hl1:=hl.len
 refine zal mixed Tryz.func162 (by decide) [] (fun _=>.inl rfl) ?_
 conv=>whnf
 (refine zap [(0,8)]  ?_;(conv=>whnf);refine dO (zdb l hl) ?_)
 refine ⟨{ x:List Sent × List Sent // l=x.1++x.2 },fun | ⟨(a,b),_⟩=>hs 35 [(1,i64 id),(5,.own 900),(10,i64 l.length),(11,i64 a.length)] [(900,sentB (a.map (give id)++b))],fun x=>x.1.2.length,⟨([],l),rfl⟩,?_,?_⟩
 . exact (hle_Q [(900,some 8)])
 rintro ⟨⟨a,b⟩,h⟩
 dsimp only at h
 cases b with
 | nil =>
  have hz:=zaz h
  conv=>whnf
  refine sN ?_
  refine zau [(0,some 900)] rfl rfl trivial rfl rfl ⟨⟨rfl,.inl ⟨900,rfl,?_⟩⟩,trivial⟩
  show sentB (a.map (give id)++[])=sentB (l.map (give id))
  rw [h,List.append_nil,List.append_nil]
 | cons s b =>
  have hz:=zar h
  have hm:a.length=(a.map (give id)).length:=by simp
  have e0:(a++[s]).map (give id)++b=a.map (give id)++give id s :: b:=by simp
  conv=>whnf
  refine sT ?_
  (try (refine hcut.go ?_;conv=>whnf))
  refine sO ?_
  refine zaj (a:=a.map (give id)) (b:=b) (s:=s) rfl (by simp) ?_;conv=>whnf
  refine zaf (fun c1=>?_) (fun c1=>?_)
  . conv=>whnf
    refine sO ?_
    refine zaj (a:=a.map (give id)) (b:=b) (s:=s) rfl (by simp) ?_;conv=>whnf
    refine zaf (fun c2=>?_) (fun c2=>?_)
    . have e1:give id s={ s with state:=4 }:=if_pos ⟨by simpa using c1,by simpa using c2⟩
      conv=>whnf
      refine sO ?_
      refine zaj (a:=a.map (give id)) (b:=b) (s:=s) rfl (by simp) ?_;conv=>whnf
      refine sF ?_
      exact ⟨⟨(a++[s],b),zae h⟩,(hle_X [(900,some 900)] (by repeat' (first | exact z0 | refine z1 ?_ | refine ⟨?_,?_⟩ | ((rw [e0];exact (zdd (by simp) (by rw [e1];rfl)).symm)) | exact z2))),by simp⟩
    . have e1:give id s=s:=if_neg (by rintro ⟨_,h2⟩;exact h2 (by simpa using c2))
      conv=>whnf
      refine sF ?_
      exact ⟨⟨(a++[s],b),zae h⟩,(hle_X [(900,some 900)] (by repeat' (first | exact z0 | refine z1 ?_ | refine ⟨?_,?_⟩ | ((rw [e0,e1];rfl)) | exact z2))),by simp⟩
  . have e1:give id s=s:=if_neg (by rintro ⟨h2,_⟩;simp [h2] at c1)
    conv=>whnf
    refine sF ?_
    exact ⟨⟨(a++[s],b),zae h⟩,(hle_X [(900,some 900)] (by repeat' (first | exact z0 | refine z1 ?_ | refine ⟨?_,?_⟩ | ((rw [e0,e1];rfl)) | exact z2))),by simp⟩
theorem zof (l:List Sent) (path:Int) (hl:Sized l):FunOK Tryz.prog 90 [sents l,i64 path] zac (.own 0) (lk .free [(0,sentB (l.map (late path)))]):=by
 have hl1:=hl.len
 refine zal mixed Tryz.func90 (by decide) [] (fun _=>.inl rfl) ?_
 conv=>whnf
 (refine zap [(0,8)]  ?_;(conv=>whnf);refine dO (zdb l hl) ?_)
 refine ⟨{ x:List Sent × List Sent // l=x.1++x.2 },fun | ⟨(a,b),_⟩=>hs 35 [(1,i64 path),(5,.own 900),(10,i64 l.length),(11,i64 a.length)] [(900,sentB (a.map (late path)++b))],fun x=>x.1.2.length,⟨([],l),rfl⟩,?_,?_⟩
 . exact (hle_Q [(900,some 8)])
 rintro ⟨⟨a,b⟩,h⟩
 dsimp only at h
 cases b with
 | nil =>
  have hz:=zaz h
  conv=>whnf
  refine sN ?_
  refine zau [(0,some 900)] rfl rfl trivial rfl rfl ⟨⟨rfl,.inl ⟨900,rfl,?_⟩⟩,trivial⟩
  show sentB (a.map (late path)++[])=sentB (l.map (late path))
  rw [h,List.append_nil,List.append_nil]
 | cons s b =>
  have hz:=zar h
  have hm:a.length=(a.map (late path)).length:=by simp
  have e0:(a++[s]).map (late path)++b=a.map (late path)++late path s :: b:=by simp
  conv=>whnf
  refine sT ?_
  (try (refine hcut.go ?_;conv=>whnf))
  refine sO ?_
  refine zaj (a:=a.map (late path)) (b:=b) (s:=s) rfl (by simp) ?_;conv=>whnf
  refine zaf (fun c1=>?_) (fun c1=>?_)
  . conv=>whnf
    refine sO ?_
    refine zaj (a:=a.map (late path)) (b:=b) (s:=s) rfl (by simp) ?_;conv=>whnf
    refine zaf (fun c2=>?_) (fun c2=>?_)
    . have e1:late path s={ s with state:=3 }:=if_pos ⟨by simpa using c1,by simpa using c2⟩
      conv=>whnf
      refine sO ?_
      refine zaj (a:=a.map (late path)) (b:=b) (s:=s) rfl (by simp) ?_;conv=>whnf
      refine sF ?_
      exact ⟨⟨(a++[s],b),zae h⟩,(hle_X [(900,some 900)] (by repeat' (first | exact z0 | refine z1 ?_ | refine ⟨?_,?_⟩ | ((rw [e0];exact (zdd (by simp) (by rw [e1];rfl)).symm)) | exact z2))),by simp⟩
    . have e1:late path s=s:=if_neg (by rintro ⟨_,h2⟩;simp [h2] at c2)
      conv=>whnf
      refine sF ?_
      exact ⟨⟨(a++[s],b),zae h⟩,(hle_X [(900,some 900)] (by repeat' (first | exact z0 | refine z1 ?_ | refine ⟨?_,?_⟩ | ((rw [e0,e1];rfl)) | exact z2))),by simp⟩
  . have e1:late path s=s:=if_neg (by rintro ⟨h2,_⟩;simp [h2] at c1)
    conv=>whnf
    refine sF ?_
    exact ⟨⟨(a++[s],b),zae h⟩,(hle_X [(900,some 900)] (by repeat' (first | exact z0 | refine z1 ?_ | refine ⟨?_,?_⟩ | ((rw [e0,e1];rfl)) | exact z2))),by simp⟩
def zbv (c:Chunk) (s:Skip):Bool:=s.stream == c.stream && s.ordered == c.ordered && (c.ordered || s.mid == c.mid)
def skip (c:Chunk):List Skip -> List Skip
 | []=>[⟨c.stream,c.mid,c.ordered⟩]
 | s :: r=>if zbv c s then ⟨s.stream,c.mid,s.ordered⟩ :: r else s :: skip c r
theorem zhq {c:Chunk}:∀ {a:List Skip},(∀ s ∈ a,zbv c s=false) -> ∀ b,skip c (a++b)=a++skip c b
 | [],_,b=>rfl
 | s :: r,h,b=>by
  rw [List.cons_append,skip,if_neg (by rw [h s (by simp)];decide),zhq fun x hx=>h x (by simp [hx])];rfl
theorem yhg (l:List Skip) (c:Chunk) (hl:l.length < 2 ^ 38):FunOK Tryz.prog 123 [skips l,c.hv] zac (.own 0) (lk .free [(0,skipB (skip c l))]):=by
 refine zal mixed Tryz.func123 (by decide) [] (fun _=>.inl rfl) ?_
 conv=>whnf
 (refine zap [(0,9)]  ?_;(conv=>whnf);refine dO (zyr l (by omega)) ?_)
 refine ⟨{ x:List Skip × List Skip // l=x.1++x.2 /\ ∀ s ∈ x.1,zbv c s=false },fun | ⟨(a,b),_⟩=>hs 58 [(3,.ptr 3 0),(5,.own 900),(10,.own 900),(11,i64 l.length),(12,i64 a.length)] [(3,.live (.cells 61 c.cells)),(900,skipB l)],fun x=>x.1.2.length,⟨([],l),rfl,by simp⟩,?_,?_⟩
 . exact (hle_Q [(3,some 3),(900,some 9)])
 rintro ⟨⟨a,b⟩,h,hno⟩
 dsimp only at h hno
 cases b with
 | nil =>
  have hz:=zaz h
  conv=>whnf
  refine sN ?_
  refine zaa (c:=((l.map Skip.row).length+1) * 24 <= 140737488355328) om ?_;conv=>whnf
  refine zau [(0,some 57)] rfl rfl trivial rfl rfl ⟨⟨rfl,.inl ⟨57,rfl,?_⟩⟩,trivial⟩
  have e1:=zhq hno []
  rw [<- h] at e1
  exact (zcv (f:=Skip.row) (a:=l) (x:=⟨c.stream,c.mid,c.ordered⟩) (by rw [e1,h,List.append_nil];rfl)).symm
 | cons s b =>
  have hz:=zar h
  have yes:zbv c s=true -> skip c l=a++⟨s.stream,c.mid,s.ordered⟩ :: b:=by
   intro hm
   rw [h,zhq hno,skip,if_pos hm]
  have nxt:zbv c s=false -> ∀ x ∈ a++[s],zbv c x=false:=by
   intro hm x hx
   rcases List.mem_append.1 hx with hx | hx
   . exact hno x hx
   . rw [List.mem_singleton.1 hx];exact hm
  conv=>whnf
  refine sT ?_
  refine sO ?_
  refine zaj h rfl ?_;conv=>whnf
  have hy:zbv c s=true -> HSlot.live (HBlk.row 180 3 (((l.map Skip.row).set a.length [pi s.stream,pi c.mid,pb s.ordered])))=skipB (skip c l):=by
   intro hm
   rw [yes hm,h]
   exact (zdd (f:=Skip.row) (a:=a) (b:=b) (x:=s) (y:=⟨s.stream,c.mid,s.ordered⟩) rfl rfl).symm
  simp only [zbv] at hy nxt
  refine zaf (fun c1=>?_) (fun c1=>?_)
  . conv=>whnf
    refine zaf (fun c2=>?_) (fun c2=>?_)
    . conv=>whnf
      refine zaf (fun c3=>?_) (fun c3=>?_)
      . conv=>whnf
        refine sO ?_
        refine zaj h rfl ?_;conv=>whnf
        refine zau [(0,some 900)] rfl rfl trivial rfl rfl ⟨⟨rfl,.inl ⟨900,rfl,?_⟩⟩,trivial⟩
        exact hy (by rw [c1,c2,c3];rfl)
      . conv=>whnf
        refine zaf (fun c4=>?_) (fun c4=>?_)
        . conv=>whnf
          refine sO ?_
          refine zaj h rfl ?_;conv=>whnf
          refine zau [(0,some 900)] rfl rfl trivial rfl rfl ⟨⟨rfl,.inl ⟨900,rfl,?_⟩⟩,trivial⟩
          exact hy (by rw [c1,c2,c3,c4];rfl)
        . conv=>whnf
          refine sF ?_
          exact ⟨⟨(a++[s],b),zae h,nxt (by simp only [c3,c4];simp)⟩,(hle_Q [(3,some 3),(900,some 900)]),by simp⟩
    . conv=>whnf
      refine sF ?_
      exact ⟨⟨(a++[s],b),zae h,nxt (by simp only [c2];simp)⟩,(hle_Q [(3,some 3),(900,some 900)]),by simp⟩
  . conv=>whnf
    refine sF ?_
    exact ⟨⟨(a++[s],b),zae h,nxt (by simp only [c1];simp)⟩,(hle_Q [(3,some 3),(900,some 900)]),by simp⟩
theorem zst (c:Chunk):∀ l:List Skip,(skip c l).length <= l.length+1
 | []=>by simp [skip]
 | s :: r=>by
  have:=zst c r
  simp only [skip];split <;> simp <;> omega
def zde (cum:Int) (sk:List Skip):List Sent -> Int × List Skip
 | []=>(cum,sk)
 | s :: r=>if s.number ≠ W (cum+1) \/ (s.state ≠ 4 /\ s.state ≠ 2) then (cum,sk) else
  if s.state=4 then (if (skip s.chunk sk).length > 8 then (cum,sk) else zde s.number (skip s.chunk sk) r) else zde s.number sk r
def point (l:List Sent) (cum:Int):Int × List Skip:=zde cum [] l
end Sco
end Go.HL
namespace Go.HL
open Go.Proofs
namespace Sco
open Ser
set_option maxHeartbeats 2000000
set_option maxRecDepth 100000
set_option linter.unusedSimpArgs false
def here (c:Chunk) (n:Int) (s:Sent):Bool:=decide (s.number <= n) || has c.spans (W (s.number - n))
def comes (c:Chunk) (n:Int) (s:Sent):Bool:=here c n s && (s.state == 1 || s.state == 3)
def turn (c:Chunk) (n:Int) (s:Sent):Sent:=if comes c n s then { s with state:=2 } else s
def left (c:Chunk) (n:Int) (l:List Sent):List Sent:=(l.filter fun s=>decide (s.number > n)).map (turn c n)
def addAt (come:List Int) (p x:Int):List Int:=come.set p.toNat (W (come[p.toNat]?.getD 0+x))
def come1 (c:Chunk) (n:Int) (come:List Int) (s:Sent):List Int:=if comes c n s then addAt come s.path s.chunk.data.length else come
def zoj (c:Chunk) (n:Int) (paths:Nat) (l:List Sent):List Int:=l.foldl (come1 c n) (List.replicate paths 0)
def high1 (c:Chunk) (n:Int) (h:Int) (s:Sent):Int:=if comes c n s then s.number else h
def zlz (c:Chunk) (n:Int) (l:List Sent):Int:=l.foldl (high1 c n) 0
def age (h:Int) (s:Sent):Sent:=if s.state=1 /\ s.number < h then (if W (s.missed+1) >= 3 then { s with missed:=W (s.missed+1),state:=3 } else { s with missed:=W (s.missed+1) }) else s
def lost (h:Int) (l:List Sent):List Int:=(l.filter fun s=>decide (s.state=1 /\ s.number < h /\ W (s.missed+1) >= 3)).map Sent.number
def sack (l:List Sent) (cum:Int) (c:Chunk) (paths:Int):List Sent × Int × List Int × List Int :=
 if near cum c.tag < cum \/ near cum c.tag > cum+l.length then (l,cum,List.replicate paths.toNat 0,[]) else
  ((left c (near cum c.tag) l).map (age (zlz c (near cum c.tag) l)),near cum c.tag,zoj c (near cum c.tag) paths.toNat l,lost (zlz c (near cum c.tag) l) (left c (near cum c.tag) l))
structure Right (l:List Sent) (cum paths:Int):Prop where
 path:∀ s ∈ l,0 <= s.path /\ s.path < paths
 p0:1 <= paths
 p1:paths <= 2
 c0:-1 <= cum
 c1:cum < 2 ^ 39
 rise:∀ (i:Nat) s,l[i]?=some s -> s.number=cum+1+i
theorem Right.at {l:List Sent} {cum paths:Int} (h:Right l cum paths) {a b:List Sent} {s:Sent} (e:l=a++s :: b):s.number=cum+1+a.length /\ 0 <= s.path /\ s.path < paths :=
 ⟨h.rise a.length s (by rw [e];simp),h.path s (zfb e)⟩
theorem yhh (come:List Int) (p x:Int):(addAt come p x).length=come.length:=by simp [addAt]
theorem zij (c:Chunk) (n:Int) (paths:Nat) (l:List Sent):(zoj c n paths l).length=paths:=by
 have gen:∀ (l:List Sent) (z:List Int),(l.foldl (come1 c n) z).length=z.length:=by
  intro l
  induction l with
  | nil=>intro z;rfl
  | cons s r ih=>intro z;rw [List.foldl_cons,ih,come1];split;exact yhh _ _ _;rfl
 rw [zoj,gen];simp
structure SI (l:List Sent) (c:Chunk) (n:Int) (paths:Nat) (cum:Int) (x:List Sent × List Sent × List Sent × List Int × Int):Prop where
 split:l=x.1++x.2.1
 out:x.2.2.1=left c n x.1
 come:x.2.2.2.1=zoj c n paths x.1
 high:x.2.2.2.2=zlz c n x.1
 h0:0 <= x.2.2.2.2
 h1:x.2.2.2.2 <= cum+1+x.1.length
theorem yhi (c:Chunk) (n:Int) (a:List Sent) (s:Sent):left c n (a++[s])=left c n a++if s.number > n then [turn c n s] else []:=by
 simp only [left,List.filter_append,List.map_append]
 congr 1
 by_cases h:s.number > n <;> simp [h]
theorem zys (c:Chunk) (n:Int) (p:Nat) (a:List Sent) (s:Sent):zoj c n p (a++[s])=come1 c n (zoj c n p a) s:=by simp [zoj]
theorem zyt (c:Chunk) (n:Int) (a:List Sent) (s:Sent):zlz c n (a++[s])=high1 c n (zlz c n a) s:=by simp [zlz]
section
variable {l a b out:List Sent} {c:Chunk} {n cum high:Int} {paths:Nat} {come:List Int} {s:Sent}
theorem SI.next (h:SI l c n paths cum (a,s :: b,out,come,high)) (hs:s.number=cum+1+a.length) (hc:-1 <= cum) :
 SI l c n paths cum (a++[s],b,out++(if s.number > n then [turn c n s] else []),come1 c n come s,high1 c n high s):=by
 obtain ⟨h1,h2,h3,h4,h5,h6⟩:=h
 dsimp only at h1 h2 h3 h4 h5 h6
 refine ⟨zae h1,?_,?_,?_,?_,?_⟩ <;> dsimp only
 . rw [yhi,h2]
 . rw [zys,h3]
 . rw [zyt,h4]
 . rw [high1];split <;> omega
 . rw [high1];simp only [List.length_append,List.length_cons,List.length_nil];split <;> push_cast <;> omega
end
end Sco
end Go.HL
namespace Go.HL
open Go.Proofs
namespace Chk
set_option maxHeartbeats 1000000
set_option maxRecDepth 100000
set_option linter.unusedSimpArgs false
abbrev zsu (l:List Span):HV:=.p (.sl 2 (l.map Span.row))
abbrev zsv (l:List Skip):HV:=.p (.sl 3 (l.map Skip.row))
def small (n:Int):Bool:=decide (0 <= n /\ n < 65536)
def zcp (last:Int):List Span -> Int
 | []=>0
 | s :: r=>if s.lo <= last \/ s.hi < s.lo \/ ¬ (0 <= s.hi /\ s.hi < 65536) then 3 else zcp (s.hi+1) r
def zcq:List Skip -> Int
 | []=>0
 | s :: r=>if s.stream < 0 \/ s.stream >= 4 \/ ¬ (0 <= s.mid /\ s.mid < 65536) then 3 else zcq r
def wrong (c:Chunk):Int :=
 if c.kind < 1 \/ c.kind > 3 then 1 else
 if ¬ (0 <= c.tag /\ c.tag < 65536) then 3 else
 if c.kind=1 then
  if c.stream < 0 \/ c.stream >= 4 \/ ¬ (0 <= c.mid /\ c.mid < 65536) \/ c.part < 0 \/ c.part > 255 then 3 else
  if c.data.length < 1 \/ c.data.length > 16 then 4 else 0
 else if c.kind=2 then
  if ¬ (0 <= c.room /\ c.room < 65536) then 3 else
  if c.spans.length > 6 then 5 else zcp 1 c.spans
 else if c.skips.length > 8 then 5 else zcq c.skips
theorem zlf (n:Int):FunOK Tryz.prog 202 [i64 n] zac (hbool (small n)) zac:=by
 refine zah mixed Tryz.func202 (by decide) ?_
 conv=>whnf
 refine zaf (fun h=>?_) (fun h=>?_) <;> conv=>whnf
 . have h:=of_decide_eq_true h
   rw [show decide (n < 65536)=small n from by simp only [small];congr 1;simp;omega]
 . have h:=of_decide_eq_false h
   rw [show small n=false from decide_eq_false (by omega)]
theorem zlg (n:Int):FunOK Tryz.prog 190 [i64 n] zac (hbool (small n)) zac:=by
 refine zah mixed Tryz.func190 (by decide) ?_
 conv=>whnf
 refine zaf (fun h=>?_) (fun h=>?_) <;> conv=>whnf
 . have h:=of_decide_eq_true h
   rw [show decide (n <= 65535)=small n from by simp only [small];congr 1;simp;omega]
 . have h:=of_decide_eq_false h
   rw [show small n=false from decide_eq_false (by omega)]
theorem yek (c:Chunk) (h9:c.spans.length < 2 ^ 40) (h8:c.skips.length < 2 ^ 40):FunOK Tryz.prog 187 [c.hv] zac (i64 (wrong c)) zac:=by
 refine zah mixed Tryz.func187 (by decide) ?_
 conv=>whnf
 (repeat' (first | (refine zbc ?_;conv=>whnf) | (refine zaa ?_ ?_;(first | kernel_rfl | decide);conv=>whnf) | (refine zas ?_ ?_;kernel_rfl;conv=>whnf) | (refine hcut.go ?_;conv=>whnf) | (refine zav ?_;(conv=>whnf);refine ⟨_,zlf _,rfl,?_⟩;conv=>whnf) | (refine zaf (fun h=>?_) (fun h=>?_) <;> conv=>whnf)))
 all_goals try simp only [Bool.not_eq_true',Bool.not_eq_false',beq_iff_eq,beq_eq_false_iff_ne,decide_eq_true_eq,decide_eq_false_iff_not,small,List.length_map] at *
 all_goals first | (simp only [wrong];(repeat' split) <;> first | rfl | omega) | skip
 . have hw:wrong c=zcp 1 c.spans:=by simp only [wrong];(repeat' split) <;> first | rfl | omega
   rw [hw]
   refine ⟨{ x:Nat × Int // x.1 <= c.spans.length /\ zcp x.2 (c.spans.drop x.1)=zcp 1 c.spans /\ x.2 < 70000 /\ 0 < x.2 },fun | ⟨(k,last),_⟩=>hs 128 [(3,.clo 202 []),(4,i64 last),(100,zsu c.spans),(101,i64 c.spans.length),(102,i64 k)] [],fun x=>c.spans.length - x.1.1,⟨(0,1),by simp,rfl,by decide,by decide⟩,?_,?_⟩
   . exact zbo [] rfl rfl rfl rfl ⟨⟨rfl,rfl⟩,⟨rfl,rfl⟩,⟨rfl,rfl⟩,⟨rfl,by simp;rfl⟩,⟨rfl,rfl⟩,trivial⟩ trivial
   . rintro ⟨⟨k,last⟩,hk,hi,hlast,hlast0⟩
     dsimp only at hk hi hlast
     conv=>whnf
     refine zaf (fun h=>?_) (fun h=>?_)
     . have hlt:k < c.spans.length:=by simpa using h
       conv=>whnf
       refine zbq (r:=(c.spans[k]).row) (by omega) (by rw [Int.toNat_natCast,List.getElem?_map,List.getElem?_eq_getElem hlt];rfl) ?_
       rw [List.drop_eq_getElem_cons hlt] at hi
       simp only [zcp] at hi
       generalize c.spans[k]=s at hi ⊢
       conv=>whnf
       (repeat' (first | (refine zbc ?_;conv=>whnf) | (refine zaa ?_ ?_;(first | kernel_rfl | decide);conv=>whnf) | (refine zas ?_ ?_;kernel_rfl;conv=>whnf) | (refine hcut.go ?_;conv=>whnf) | (refine zav ?_;(conv=>whnf);refine ⟨_,zlf _,rfl,?_⟩;conv=>whnf) | (refine zaf (fun h=>?_) (fun h=>?_) <;> conv=>whnf)))
       all_goals try simp only [Bool.not_eq_true',Bool.not_eq_false',beq_iff_eq,beq_eq_false_iff_ne,decide_eq_true_eq,decide_eq_false_iff_not,small,List.length_map] at *
       all_goals first | (rw [if_pos (by omega)] at hi;rw [<- hi]) | skip
       rw [if_neg (by omega)] at hi
       have e2:W ((k:Int)+1)=((k+1:Nat):Int):=W_nat hlt (by omega)
       have e1:W (s.hi+1)=s.hi+1:=W_fit (by omega) (by omega)
       exact ⟨⟨(k+1,s.hi+1),hlt,hi,by dsimp only;omega,by dsimp only;omega⟩,zbo [] rfl rfl rfl rfl ⟨⟨rfl,rfl⟩,⟨rfl,congrArg i64 e1.symm⟩,⟨rfl,rfl⟩,⟨rfl,rfl⟩,⟨rfl,congrArg i64 e2.symm⟩,trivial⟩ trivial,by dsimp only;omega⟩
     . have hge:c.spans.length <= k:=by simpa using h
       rw [List.drop_eq_nil_of_le hge] at hi
       conv=>whnf
       rw [<- hi];rfl
 . have hw:wrong c=zcq c.skips:=by simp only [wrong];(repeat' split) <;> first | rfl | omega
   rw [hw]
   refine ⟨{ k:Nat // k <= c.skips.length /\ zcq (c.skips.drop k)=zcq c.skips },fun | ⟨k,_⟩=>hs 128 [(3,.clo 202 []),(29,zsv c.skips),(30,i64 c.skips.length),(31,i64 k)] [],fun x=>c.skips.length - x.1,⟨0,by simp,rfl⟩,?_,?_⟩
   . exact zbo [] rfl rfl rfl rfl ⟨⟨rfl,rfl⟩,⟨rfl,rfl⟩,⟨rfl,by simp;rfl⟩,⟨rfl,rfl⟩,trivial⟩ trivial
   . rintro ⟨k,hk,hi⟩
     conv=>whnf
     refine zaf (fun h=>?_) (fun h=>?_)
     . have hlt:k < c.skips.length:=by simpa using h
       conv=>whnf
       refine zbq (r:=(c.skips[k]).row) (by omega) (by rw [Int.toNat_natCast,List.getElem?_map,List.getElem?_eq_getElem hlt];rfl) ?_
       rw [List.drop_eq_getElem_cons hlt] at hi
       simp only [zcq] at hi
       generalize c.skips[k]=s at hi ⊢
       conv=>whnf
       (repeat' (first | (refine zbc ?_;conv=>whnf) | (refine zaa ?_ ?_;(first | kernel_rfl | decide);conv=>whnf) | (refine zas ?_ ?_;kernel_rfl;conv=>whnf) | (refine hcut.go ?_;conv=>whnf) | (refine zav ?_;(conv=>whnf);refine ⟨_,zlf _,rfl,?_⟩;conv=>whnf) | (refine zaf (fun h=>?_) (fun h=>?_) <;> conv=>whnf)))
       all_goals try simp only [Bool.not_eq_true',Bool.not_eq_false',beq_iff_eq,beq_eq_false_iff_ne,decide_eq_true_eq,decide_eq_false_iff_not,small,List.length_map] at *
       all_goals first | (rw [if_pos (by omega)] at hi;rw [<- hi]) | skip
       rw [if_neg (by omega)] at hi
       have e2:W ((k:Int)+1)=((k+1:Nat):Int):=W_nat hlt (by omega)
       exact ⟨⟨k+1,hlt,hi⟩,zbo [] rfl rfl rfl rfl ⟨⟨rfl,rfl⟩,⟨rfl,rfl⟩,⟨rfl,rfl⟩,⟨rfl,congrArg i64 e2.symm⟩,trivial⟩ trivial,by dsimp only;omega⟩
     . have hge:c.skips.length <= k:=by simpa using h
       rw [List.drop_eq_nil_of_le hge] at hi
       conv=>whnf
       rw [<- hi];rfl
theorem zeq (c:Chunk) (h9:c.spans.length < 2 ^ 40) (h8:c.skips.length < 2 ^ 40):FunOK Tryz.prog 169 [c.hv] zac (i64 (wrong c)) zac:=by
 refine zah mixed Tryz.func169 (by decide) ?_
 conv=>whnf
 (repeat' (first | (refine zbc ?_;conv=>whnf) | (refine zaa ?_ ?_;(first | kernel_rfl | decide);conv=>whnf) | (refine zas ?_ ?_;kernel_rfl;conv=>whnf) | (refine hcut.go ?_;conv=>whnf) | (refine zav ?_;(conv=>whnf);refine ⟨_,zlg _,rfl,?_⟩;conv=>whnf) | (refine zaf (fun h=>?_) (fun h=>?_) <;> conv=>whnf)))
 all_goals try simp only [Bool.not_eq_true',Bool.not_eq_false',beq_iff_eq,beq_eq_false_iff_ne,decide_eq_true_eq,decide_eq_false_iff_not,small,List.length_map] at *
 all_goals first | (simp only [wrong];(repeat' split) <;> first | rfl | omega) | skip
 . have hw:wrong c=zcp 1 c.spans:=by simp only [wrong];(repeat' split) <;> first | rfl | omega
   rw [hw]
   refine ⟨{ x:Nat × Int // x.1 <= c.spans.length /\ zcp x.2 (c.spans.drop x.1)=zcp 1 c.spans /\ x.2 < 70000 /\ 0 < x.2 },fun | ⟨(k,last),_⟩=>hs 121 [(3,i64 (last+1)),(69,zsu c.spans),(70,i64 c.spans.length),(71,i64 k)] [],fun x=>c.spans.length - x.1.1,⟨(0,1),by simp,rfl,by decide,by decide⟩,?_,?_⟩
   . exact zbo [] rfl rfl rfl rfl ⟨⟨rfl,rfl⟩,⟨rfl,rfl⟩,⟨rfl,by simp;rfl⟩,⟨rfl,rfl⟩,trivial⟩ trivial
   . rintro ⟨⟨k,last⟩,hk,hi,hlast,hlast0⟩
     dsimp only at hk hi hlast
     conv=>whnf
     refine zaf (fun h=>?_) (fun h=>?_)
     . have hlt:k < c.spans.length:=by simpa using h
       conv=>whnf
       refine zbq (r:=(c.spans[k]).row) (by omega) (by rw [Int.toNat_natCast,List.getElem?_map,List.getElem?_eq_getElem hlt];rfl) ?_
       rw [List.drop_eq_getElem_cons hlt] at hi
       simp only [zcp] at hi
       generalize c.spans[k]=s at hi ⊢
       conv=>whnf
       (repeat' (first | (refine zbc ?_;conv=>whnf) | (refine zaa ?_ ?_;(first | kernel_rfl | decide);conv=>whnf) | (refine zas ?_ ?_;kernel_rfl;conv=>whnf) | (refine hcut.go ?_;conv=>whnf) | (refine zav ?_;(conv=>whnf);refine ⟨_,zlg _,rfl,?_⟩;conv=>whnf) | (refine zaf (fun h=>?_) (fun h=>?_) <;> conv=>whnf)))
       all_goals try simp only [Bool.not_eq_true',Bool.not_eq_false',beq_iff_eq,beq_eq_false_iff_ne,decide_eq_true_eq,decide_eq_false_iff_not,small,List.length_map] at *
       all_goals first | (rw [if_pos (by omega)] at hi;rw [<- hi]) | skip
       rw [if_neg (by omega)] at hi
       have e2:W ((k:Int)+1)=((k+1:Nat):Int):=W_nat hlt (by omega)
       have e1:W (s.hi+2)=s.hi+2:=W_fit (by omega) (by omega)
       exact ⟨⟨(k+1,s.hi+1),hlt,hi,by dsimp only;omega,by dsimp only;omega⟩,zbo [] rfl rfl rfl rfl ⟨⟨rfl,congrArg i64 (show W (s.hi+2)=s.hi+1+1 by rw [e1];omega).symm⟩,⟨rfl,rfl⟩,⟨rfl,rfl⟩,⟨rfl,congrArg i64 e2.symm⟩,trivial⟩ trivial,by dsimp only;omega⟩
     . have hge:c.spans.length <= k:=by simpa using h
       rw [List.drop_eq_nil_of_le hge] at hi
       conv=>whnf
       rw [<- hi];rfl
 . have hw:wrong c=zcq c.skips:=by simp only [wrong];(repeat' split) <;> first | rfl | omega
   rw [hw]
   refine ⟨{ k:Nat // k <= c.skips.length /\ zcq (c.skips.drop k)=zcq c.skips },fun | ⟨k,_⟩=>hs 121 [(100,zsv c.skips),(101,i64 c.skips.length),(102,i64 k)] [],fun x=>c.skips.length - x.1,⟨0,by simp,rfl⟩,?_,?_⟩
   . exact zbo [] rfl rfl rfl rfl ⟨⟨rfl,rfl⟩,⟨rfl,by simp;rfl⟩,⟨rfl,rfl⟩,trivial⟩ trivial
   . rintro ⟨k,hk,hi⟩
     conv=>whnf
     refine zaf (fun h=>?_) (fun h=>?_)
     . have hlt:k < c.skips.length:=by simpa using h
       conv=>whnf
       refine zbq (r:=(c.skips[k]).row) (by omega) (by rw [Int.toNat_natCast,List.getElem?_map,List.getElem?_eq_getElem hlt];rfl) ?_
       rw [List.drop_eq_getElem_cons hlt] at hi
       simp only [zcq] at hi
       generalize c.skips[k]=s at hi ⊢
       conv=>whnf
       (repeat' (first | (refine zbc ?_;conv=>whnf) | (refine zaa ?_ ?_;(first | kernel_rfl | decide);conv=>whnf) | (refine zas ?_ ?_;kernel_rfl;conv=>whnf) | (refine hcut.go ?_;conv=>whnf) | (refine zav ?_;(conv=>whnf);refine ⟨_,zlg _,rfl,?_⟩;conv=>whnf) | (refine zaf (fun h=>?_) (fun h=>?_) <;> conv=>whnf)))
       all_goals try simp only [Bool.not_eq_true',Bool.not_eq_false',beq_iff_eq,beq_eq_false_iff_ne,decide_eq_true_eq,decide_eq_false_iff_not,small,List.length_map] at *
       all_goals first | (rw [if_pos (by omega)] at hi;rw [<- hi]) | skip
       rw [if_neg (by omega)] at hi
       have e2:W ((k:Int)+1)=((k+1:Nat):Int):=W_nat hlt (by omega)
       exact ⟨⟨k+1,hlt,hi⟩,zbo [] rfl rfl rfl rfl ⟨⟨rfl,rfl⟩,⟨rfl,rfl⟩,⟨rfl,congrArg i64 e2.symm⟩,trivial⟩ trivial,by dsimp only;omega⟩
     . have hge:c.skips.length <= k:=by simpa using h
       rw [List.drop_eq_nil_of_le hge] at hi
       conv=>whnf
       rw [<- hi];rfl
def row8 (l:List UInt8):HSlot:=.live (.row 5 1 (l.map bRow))
theorem yhj (n:Int):FunOK Tryz.prog 188 [hnil,i64 n] zac (.own 0) (lk .free [(0,row8 (enc16 n))]):=by
 refine zal mixed Tryz.func188 (by decide) [] (fun _=>.inl rfl) ?_
 conv=>whnf
 refine zaa (by decide) ?_;conv=>whnf
 refine zca ?_;conv=>whnf
 refine zca ?_;conv=>whnf
 refine zaa (c:=2 * 1 <= 140737488355328) (by decide) ?_;conv=>whnf
 exact zau [(0,some 12)] rfl rfl trivial rfl rfl ⟨⟨rfl,.inl ⟨12,rfl,rfl⟩⟩,trivial⟩
theorem zjy (l:List UInt8) (n:Int) (hb:l.length < 2 ^ 40):FunOK Tryz.prog 188 [.own 1000,i64 n] (lk .free [(1000,row8 l)]) (.own 0) (lk .free [(1000,.dead),(0,row8 (l++enc16 n))]):=by
 refine zal mixed Tryz.func188 (by decide) [1000] (fun i=>zbn i) ?_
 conv=>whnf
 refine zaa (by decide) ?_;conv=>whnf
 refine zca ?_;conv=>whnf
 refine zca ?_;conv=>whnf
 refine zaa (c:=((l.map bRow).length+2) * 1 <= 140737488355328) (by simp;omega) ?_;conv=>whnf
 refine zau [(1000,some 1000),(0,some 12)] rfl rfl ⟨rfl,trivial⟩ rfl rfl ⟨rfl,⟨rfl,.inl ⟨12,rfl,?_⟩⟩,trivial⟩
 show HSlot.live (.row _ 1 _)=HSlot.live (.row _ 1 ((l++enc16 n).map bRow))
 rw [List.map_append]
 rfl
theorem zsw (b:Bool) (n:Int):FunOK Tryz.prog 189 [hbool b,hint .u8 n] zac (hint .u8 (if b then n else 0)) zac:=by
 refine zah mixed Tryz.func189 (by decide) ?_
 cases b <;> (conv=>whnf) <;> rfl
theorem zgq (n:Int) (h:0 <= n /\ n < 65536):FunOK Tryz.prog 170 [i64 n] zac (.own 0) (lk .free [(0,row8 (enc16 n))]):=by
 obtain ⟨h0,h1⟩:=h
 refine zal mixed Tryz.func170 (by decide) [] (fun _=>.inl rfl) ?_
 conv=>whnf
 refine zaa (by decide) ?_;conv=>whnf
 have e1:n.tdiv 256=n / 256:=Int.tdiv_eq_ediv_of_nonneg h0
 have e2:by8 (n.tmod 256)=by8 n:=by
  rw [Int.tmod_eq_emod_of_nonneg h0]
  apply UInt8.toNat_inj.1
  have h1:=zhn (n % 256)
  have h2:=zhn n
  omega
 refine sFm ?_
 refine zca ?_;conv=>whnf
 refine zaa (by decide) ?_;conv=>whnf
 refine zca ?_;conv=>whnf
 refine zau [(0,some 9)] rfl rfl trivial rfl rfl ⟨⟨rfl,.inl ⟨9,rfl,?_⟩⟩,trivial⟩
 show row8 [by8 (n.tdiv 256),by8 (n.tmod 256)]=row8 (enc16 n)
 rw [e1,e2]
 rfl
theorem zlh (b:Bool) (n:Int):FunOK Tryz.prog 171 [hbool b,i64 n] zac (i64 (if b then n else 0)) zac:=by
 refine zah mixed Tryz.func171 (by decide) ?_
 cases b <;> (conv=>whnf) <;> rfl
def flags (c:Chunk):Int:=(if c.last then 1 else 0)+(if c.ordered then 2 else 0)
def zbl (l:List Span):List UInt8:=l.flatMap fun s=>enc16 s.lo++enc16 s.hi
def skipBytes (l:List Skip):List UInt8:=l.flatMap fun s=>[by8 s.stream,by8 (if s.ordered then 1 else 0)]++enc16 s.mid
def body (c:Chunk):List UInt8 :=
 if c.kind=1 then enc16 c.tag++[by8 c.stream,by8 (flags c)]++enc16 c.mid++[by8 c.part]++c.data
 else if c.kind=2 then enc16 c.tag++enc16 c.room++zbl c.spans
 else enc16 c.tag++skipBytes c.skips
def bytes (c:Chunk):List UInt8:=if wrong c=0 then by8 c.kind :: by8 (body c).length :: body c else []
theorem zgz (l:List Span):(zbl l).length=4 * l.length:=by
 induction l with
 | nil=>rfl
 | cons x l ih=>simp only [zbl,List.flatMap_cons,List.length_append,List.length_cons] at ih ⊢;simp [enc16] at ih ⊢;omega
theorem zha (l:List Skip):(skipBytes l).length=4 * l.length:=by
 induction l with
 | nil=>rfl
 | cons x l ih=>simp only [skipBytes,List.flatMap_cons,List.length_append,List.length_cons] at ih ⊢;simp [enc16] at ih ⊢;omega
theorem zql {c:Chunk} (h:wrong c=0) (k:c.kind=1):1 <= c.data.length /\ c.data.length <= 16:=by
 simp only [wrong] at h;(repeat' split at h) <;> first | omega | simp_all
theorem zok {c:Chunk} (h:wrong c=0) (k:c.kind=2):c.spans.length <= 6:=by
 simp only [wrong] at h;(repeat' split at h) <;> first | omega | simp_all
theorem zol {c:Chunk} (h:wrong c=0) (k1:¬ c.kind=1) (k:¬ c.kind=2):c.skips.length <= 8:=by
 simp only [wrong] at h;(repeat' split at h) <;> first | omega | simp_all
theorem zsx {c:Chunk} (h:wrong c=0):(body c).length <= 34:=by
 have h1:=zql h
 have h2:=zok h
 have h3:=zol h
 unfold body
 split
 . have:=h1 ‹_›;simp [enc16];omega
 . split
   . have:=h2 ‹_›;simp [enc16,zgz];omega
   . have:=h3 ‹_› ‹_›;simp [enc16,zha];omega
theorem zqm (c:Chunk) (h9:c.spans.length < 2 ^ 40) (h8:c.skips.length < 2 ^ 40):FunOK Tryz.prog 167 [c.hv] zac (.tup [byts (bytes c),i64 (wrong c)]) zac:=by
 refine zah mixed Tryz.func167 (by decide) ?_
 conv=>whnf
 refine zav ?_;conv=>whnf
 refine ⟨_,yek c h9 h8,rfl,?_⟩;conv=>whnf
 refine zaf (fun h=>?_) (fun h=>?_)
 . conv=>whnf
   have h:¬ wrong c=0:=by simpa using h
   rw [bytes,if_neg h]
   rfl
 have h:wrong c=0:=by simpa using h
 rw [bytes,if_pos h]
 conv=>whnf
 refine yeb [(0,17)] ?_;conv=>whnf
 refine ⟨_,_,yhj c.tag,⟨⟨⟨rfl,rfl⟩,trivial⟩,rfl,rfl,rfl⟩,?_⟩;conv=>whnf
 refine hcut.meet PUnit (fun _=>hs 97 [(1,.ptr 1 0),(5,.own 900)] [(1,.live (.cells 61 c.cells)),(900,row8 (body c))]) ?_ ?_
 . have h1:wrong c=0:=h
   conv=>whnf
   refine zaf (fun k1=>?_) (fun k1=>?_)
   . conv=>whnf
     refine zca ?_;conv=>whnf
     refine zav ?_;conv=>whnf
     refine ⟨_,zsw _ _,rfl,?_⟩;conv=>whnf
     refine zav ?_;conv=>whnf
     refine ⟨_,zsw _ _,rfl,?_⟩;conv=>whnf
     have hbits:bits .or .u8 (if c.last then 1 else 0) (if c.ordered then 2 else 0)=((by8 (flags c)).toNat:Int):=by
      unfold flags
      cases c.last <;> cases c.ordered <;> kernel_rfl
     have hd:=(zql h (by simpa using k1)).2
     refine zaa (c:=(((enc16 c.tag).map bRow).length+2) * 1 <= 140737488355328) (by simp [enc16]) ?_;conv=>whnf
     refine zag [] [(1000,54)] [(0,57)] ?_;conv=>whnf
     refine ⟨_,_,_,_,zjy (enc16 c.tag++[by8 c.stream,by8 (flags c)]) c.mid (by simp [enc16]),⟨rfl,rfl,rfl,⟨⟨rfl,_,rfl,.inl ⟨rfl,?_⟩⟩,trivial⟩,⟨⟨rfl,rfl⟩,trivial⟩,rfl,rfl,rfl⟩,?_⟩
     . show HSlot.live (.row _ 1 ((enc16 c.tag).map bRow++[bRow (by8 c.stream),[.v (.int .u8 (bits .or .u8 (if c.last then 1 else 0) (if c.ordered then 2 else 0)))]]))=_
       rw [hbits]
       rfl
     conv=>whnf
     refine zas ?_ ?_
     . kernel_rfl
     conv=>whnf
     refine zca ?_;conv=>whnf
     refine zaa (c:=(((enc16 c.tag++[by8 c.stream,by8 (flags c)]++enc16 c.mid).map bRow).length+1) * 1 <= 140737488355328) (by simp [enc16]) ?_;conv=>whnf
     refine zaa (c:=(((enc16 c.tag++[by8 c.stream,by8 (flags c)]++enc16 c.mid++[by8 c.part]).map bRow).length+(c.data.map bRow).length) * 1 <= 140737488355328) (by simp [enc16];omega) ?_;conv=>whnf
     refine zas ?_ ?_
     . kernel_rfl
     conv=>whnf
     refine ⟨⟨⟩,zbo [(1,some 1),(900,some 66)] rfl rfl rfl rfl ⟨⟨rfl,rfl⟩,⟨rfl,rfl⟩,trivial⟩ ⟨⟨rfl,.inl ⟨1,rfl,rfl⟩⟩,⟨rfl,.inl ⟨66,rfl,?_⟩⟩,trivial⟩⟩
     show HSlot.live (.row _ 1 ((enc16 c.tag++[by8 c.stream,by8 (flags c)]++enc16 c.mid++[by8 c.part]).map bRow++c.data.map bRow))=HSlot.live (.row _ 1 ((body c).map bRow))
     have k1:c.kind=1:=by simpa using k1
     rw [body,if_pos k1,List.map_append (l₂:=c.data)]
   . conv=>whnf
     refine zaf (fun k2=>?_) (fun k2=>?_)
     . conv=>whnf
       refine zag [] [(1000,17)] [(0,72)] ?_;conv=>whnf
       refine ⟨_,_,_,_,zjy (enc16 c.tag) c.room (by simp [enc16]),⟨rfl,rfl,rfl,⟨⟨rfl,_,rfl,.inl ⟨rfl,rfl⟩⟩,trivial⟩,⟨⟨rfl,rfl⟩,trivial⟩,rfl,rfl,rfl⟩,?_⟩
       conv=>whnf
       have k1:¬ c.kind=1:=by simpa using k1
       have k2:c.kind=2:=by simpa using k2
       have hsp:=zok h k2
       refine ⟨{ k:Nat // k <= c.spans.length },fun | ⟨k,_⟩=>hs 97 [(1,.ptr 1 0),(5,.own 900),(74,zsu c.spans),(75,i64 c.spans.length),(76,i64 k)] [(1,.live (.cells 61 c.cells)),(900,row8 (enc16 c.tag++enc16 c.room++zbl (c.spans.take k)))],fun k=>c.spans.length - k.1,⟨0,by omega⟩,?_,?_⟩
       . refine zbo [(1,some 1),(900,some 72)] rfl rfl rfl rfl ⟨⟨rfl,rfl⟩,⟨rfl,rfl⟩,⟨rfl,rfl⟩,⟨rfl,by simp;rfl⟩,⟨rfl,rfl⟩,trivial⟩ ⟨⟨rfl,.inl ⟨1,rfl,rfl⟩⟩,⟨rfl,.inl ⟨72,rfl,?_⟩⟩,trivial⟩
         rfl
       rintro ⟨k,hk⟩
       conv=>whnf
       refine zaf (fun c1=>?_) (fun c1=>?_)
       . have hlt:k < c.spans.length:=by simpa using c1
         conv=>whnf
         refine zbq (r:=(c.spans[k]).row) (by omega) (by rw [Int.toNat_natCast,List.getElem?_map,List.getElem?_eq_getElem hlt];rfl) ?_
         have ht:zbl (c.spans.take (k+1))=zbl (c.spans.take k)++(enc16 (c.spans[k]).lo++enc16 (c.spans[k]).hi):=by
          rw [<- List.take_append_getElem hlt,zbl,List.flatMap_append];simp [zbl]
         have hlen:(zbl (c.spans.take k)).length <= 24:=by
          rw [zgz];simp;omega
         generalize c.spans[k]=s at ht ⊢
         conv=>whnf
         refine zag [] [(1000,900)] [(0,83)] ?_;conv=>whnf
         refine ⟨_,_,_,_,zjy (enc16 c.tag++enc16 c.room++zbl (c.spans.take k)) s.lo (by simp [enc16];omega),⟨rfl,rfl,rfl,⟨⟨rfl,_,rfl,.inl ⟨rfl,rfl⟩⟩,trivial⟩,⟨⟨rfl,rfl⟩,trivial⟩,rfl,rfl,rfl⟩,?_⟩
         conv=>whnf
         refine zag [] [(1000,83)] [(0,86)] ?_;conv=>whnf
         refine ⟨_,_,_,_,zjy (enc16 c.tag++enc16 c.room++zbl (c.spans.take k)++enc16 s.lo) s.hi (by simp [enc16];omega),⟨rfl,rfl,rfl,⟨⟨rfl,_,rfl,.inl ⟨rfl,rfl⟩⟩,trivial⟩,⟨⟨rfl,rfl⟩,trivial⟩,rfl,rfl,rfl⟩,?_⟩
         conv=>whnf
         refine zas ?_ ?_
         . kernel_rfl
         conv=>whnf
         refine sFm ?_
         refine ⟨⟨k+1,hlt⟩,zbo [(1,some 1),(900,some 86)] rfl rfl rfl rfl ⟨⟨rfl,rfl⟩,⟨rfl,rfl⟩,⟨rfl,rfl⟩,⟨rfl,rfl⟩,⟨rfl,by simp;rfl⟩,trivial⟩ ⟨⟨rfl,.inl ⟨1,rfl,rfl⟩⟩,⟨rfl,.inl ⟨86,rfl,?_⟩⟩,trivial⟩,by dsimp only;omega⟩
         show row8 (enc16 c.tag++enc16 c.room++zbl (c.spans.take k)++enc16 s.lo++enc16 s.hi)=row8 (enc16 c.tag++enc16 c.room++zbl (c.spans.take (k+1)))
         rw [ht];simp only [List.append_assoc]
       . conv=>whnf
         have hge:c.spans.length <= k:=by simpa using c1
         refine ⟨⟨⟩,zbo [(1,some 1),(900,some 900)] rfl rfl rfl rfl ⟨⟨rfl,rfl⟩,⟨rfl,rfl⟩,trivial⟩ ⟨⟨rfl,.inl ⟨1,rfl,rfl⟩⟩,⟨rfl,.inl ⟨900,rfl,?_⟩⟩,trivial⟩⟩
         show row8 (enc16 c.tag++enc16 c.room++zbl (c.spans.take k))=row8 (body c)
         rw [body,if_neg k1,if_pos k2,List.take_of_length_le hge]
     . conv=>whnf
       have k1:¬ c.kind=1:=by simpa using k1
       have k2:¬ c.kind=2:=by simpa using k2
       have hsk:=zol h k1 k2
       refine ⟨{ k:Nat // k <= c.skips.length },fun | ⟨k,_⟩=>hs 97 [(1,.ptr 1 0),(5,.own 900),(21,zsv c.skips),(22,i64 c.skips.length),(23,i64 k)] [(1,.live (.cells 61 c.cells)),(900,row8 (enc16 c.tag++skipBytes (c.skips.take k)))],fun k=>c.skips.length - k.1,⟨0,by omega⟩,?_,?_⟩
       . refine zbo [(1,some 1),(900,some 17)] rfl rfl rfl rfl ⟨⟨rfl,rfl⟩,⟨rfl,rfl⟩,⟨rfl,rfl⟩,⟨rfl,by simp;rfl⟩,⟨rfl,rfl⟩,trivial⟩ ⟨⟨rfl,.inl ⟨1,rfl,rfl⟩⟩,⟨rfl,.inl ⟨17,rfl,?_⟩⟩,trivial⟩
         rfl
       rintro ⟨k,hk⟩
       conv=>whnf
       refine zaf (fun c1=>?_) (fun c1=>?_)
       . have hlt:k < c.skips.length:=by simpa using c1
         conv=>whnf
         refine zbq (r:=(c.skips[k]).row) (by omega) (by rw [Int.toNat_natCast,List.getElem?_map,List.getElem?_eq_getElem hlt];rfl) ?_
         have ht:skipBytes (c.skips.take (k+1))=skipBytes (c.skips.take k)++([by8 (c.skips[k]).stream,by8 (if (c.skips[k]).ordered then 1 else 0)]++enc16 (c.skips[k]).mid):=by
          rw [<- List.take_append_getElem hlt,skipBytes,List.flatMap_append];simp [skipBytes]
         have hlen:(skipBytes (c.skips.take k)).length <= 32:=by
          rw [zha];simp;omega
         generalize c.skips[k]=s at ht ⊢
         conv=>whnf
         refine zca ?_;conv=>whnf
         refine zav ?_;conv=>whnf
         refine ⟨_,zsw _ _,rfl,?_⟩;conv=>whnf
         refine zaa (c:=(((enc16 c.tag++skipBytes (c.skips.take k)).map bRow).length+2) * 1 <= 140737488355328) (by simp [enc16];omega) ?_;conv=>whnf
         refine zag [] [(1000,35)] [(0,38)] ?_;conv=>whnf
         refine ⟨_,_,_,_,zjy (enc16 c.tag++skipBytes (c.skips.take k)++[by8 s.stream,by8 (if s.ordered then 1 else 0)]) s.mid (by simp [enc16];omega),⟨rfl,rfl,rfl,⟨⟨rfl,_,rfl,.inl ⟨rfl,?_⟩⟩,trivial⟩,⟨⟨rfl,rfl⟩,trivial⟩,rfl,rfl,rfl⟩,?_⟩
         . show HSlot.live (.row _ 1 ((enc16 c.tag++skipBytes (c.skips.take k)).map bRow++[bRow (by8 s.stream),[.v (.int .u8 (if s.ordered then 1 else 0))]]))=row8 _
           simp only [row8,List.map_append]
           cases s.ordered <;> rfl
         conv=>whnf
         refine zas ?_ ?_
         . kernel_rfl
         conv=>whnf
         refine sFm ?_
         refine ⟨⟨k+1,hlt⟩,zbo [(1,some 1),(900,some 38)] rfl rfl rfl rfl ⟨⟨rfl,rfl⟩,⟨rfl,rfl⟩,⟨rfl,rfl⟩,⟨rfl,rfl⟩,⟨rfl,by simp;rfl⟩,trivial⟩ ⟨⟨rfl,.inl ⟨1,rfl,rfl⟩⟩,⟨rfl,.inl ⟨38,rfl,?_⟩⟩,trivial⟩,by dsimp only;omega⟩
         show row8 (enc16 c.tag++skipBytes (c.skips.take k)++[by8 s.stream,by8 (if s.ordered then 1 else 0)]++enc16 s.mid)=row8 (enc16 c.tag++skipBytes (c.skips.take (k+1)))
         rw [ht];simp only [List.append_assoc]
       . conv=>whnf
         have hge:c.skips.length <= k:=by simpa using c1
         refine ⟨⟨⟩,zbo [(1,some 1),(900,some 900)] rfl rfl rfl rfl ⟨⟨rfl,rfl⟩,⟨rfl,rfl⟩,trivial⟩ ⟨⟨rfl,.inl ⟨1,rfl,rfl⟩⟩,⟨rfl,.inl ⟨900,rfl,?_⟩⟩,trivial⟩⟩
         show row8 (enc16 c.tag++skipBytes (c.skips.take k))=row8 (body c)
         rw [body,if_neg k1,if_neg k2,List.take_of_length_le hge]
 . rintro ⟨⟩
   have hlen:=zsx h
   conv=>whnf
   refine zca ?_;conv=>whnf
   refine zca ?_;conv=>whnf
   refine zaa (c:=(2+((body c).map bRow).length) * 1 <= 140737488355328) (by simp;omega) ?_;conv=>whnf
   show HV.tup [.p (.sl 1 ([bRow (by8 c.kind),bRow (by8 ((body c).map bRow).length)]++(body c).map bRow)),i64 0]=_
   rw [List.length_map,h]
   rfl
theorem ybo:∀ {l:List Span} {last:Int},zcp last l=0 -> 0 <= last -> ∀ s ∈ l,(0 <= s.lo /\ s.lo < 65536) /\ (0 <= s.hi /\ s.hi < 65536)
 | [],_,_,_,s,hs=>by cases hs
 | x :: r,last,h,h0,s,hs=>by
  simp only [zcp] at h
  split at h
  . omega
  . rename_i hn
    rcases List.mem_cons.1 hs with rfl | hs
    . omega
    . exact ybo h (by omega) s hs
theorem ybp:∀ {l:List Skip},zcq l=0 -> ∀ s ∈ l,(0 <= s.stream /\ s.stream < 4) /\ (0 <= s.mid /\ s.mid < 65536)
 | [],_,s,hs=>by cases hs
 | x :: r,h,s,hs=>by
  simp only [zcq] at h
  split at h
  . omega
  . rename_i hn
    rcases List.mem_cons.1 hs with rfl | hs
    . omega
    . exact ybp h s hs
structure Fine (c:Chunk):Prop where
 kind:1 <= c.kind /\ c.kind <= 3
 tag:0 <= c.tag /\ c.tag < 65536
 data:c.kind=1 -> (0 <= c.stream /\ c.stream < 4) /\ (0 <= c.mid /\ c.mid < 65536) /\ (0 <= c.part /\ c.part <= 255) /\ 1 <= c.data.length /\ c.data.length <= 16
 room:c.kind=2 -> (0 <= c.room /\ c.room < 65536) /\ c.spans.length <= 6 /\ zcp 1 c.spans=0
 skips:¬ c.kind=1 -> ¬ c.kind=2 -> c.skips.length <= 8 /\ zcq c.skips=0
theorem fine {c:Chunk} (h:wrong c=0):Fine c:=by
 simp only [wrong] at h
 (repeat' split at h) <;> first | omega | (constructor <;> first | omega | (intros;omega) | skip)
theorem zyu (c:Chunk) (h9:c.spans.length < 2 ^ 40) (h8:c.skips.length < 2 ^ 40):FunOK Tryz.prog 144 [c.hv] zac (.tup [byts (bytes c),i64 (wrong c)]) zac:=by
 refine zah mixed Tryz.func144 (by decide) ?_
 conv=>whnf
 refine zav ?_;conv=>whnf
 refine ⟨_,zeq c h9 h8,rfl,?_⟩;conv=>whnf
 refine zaf (fun h=>?_) (fun h=>?_)
 . conv=>whnf
   have h:¬ wrong c=0:=by simpa using h
   rw [bytes,if_neg h]
   rfl
 have h:wrong c=0:=by simpa using h
 rw [bytes,if_pos h]
 have hf:=fine h
 conv=>whnf
 refine zap [(0,18)] ?_;conv=>whnf
 refine ⟨_,_,zgq c.tag hf.tag,⟨⟨⟨rfl,rfl⟩,trivial⟩,rfl,rfl,rfl⟩,?_⟩;conv=>whnf
 refine hcut.meet PUnit (fun _=>hs 110 [(1,.ptr 1 0),(5,.own 900)] [(1,.live (.cells 61 c.cells)),(900,row8 (body c))]) ?_ ?_
 . conv=>whnf
   refine zaf (fun k1=>?_) (fun k1=>?_)
   . have k1:c.kind=1:=by simpa using k1
     obtain ⟨d1,d2,d3,d4,d5⟩:=hf.data k1
     conv=>whnf
     refine zca ?_;conv=>whnf
     refine zav ?_;conv=>whnf
     refine ⟨_,zlh _ _,rfl,?_⟩;conv=>whnf
     refine zav ?_;conv=>whnf
     refine ⟨_,zlh _ _,rfl,?_⟩;conv=>whnf
     refine zan (W_fit (by split <;> split <;> omega) (by split <;> split <;> omega)) ?_;conv=>whnf
     refine zca ?_;conv=>whnf
     refine zaa (c:=(((enc16 c.tag).map bRow).length+2) * 1 <= 140737488355328) (by simp [enc16]) ?_;conv=>whnf
     refine zas ?_ ?_
     . kernel_rfl
     conv=>whnf
     refine zap [(0,65)] ?_;conv=>whnf
     refine ⟨_,_,zgq c.mid d2,⟨⟨⟨rfl,rfl⟩,trivial⟩,rfl,rfl,rfl⟩,?_⟩;conv=>whnf
     refine zaa (c:=(((enc16 c.tag++[by8 c.stream,by8 (flags c)]).map bRow).length+((enc16 c.mid).map bRow).length) * 1 <= 140737488355328) (by simp [enc16]) ?_;conv=>whnf
     refine zca ?_;conv=>whnf
     refine zaa (c:=(((enc16 c.tag++[by8 c.stream,by8 (flags c)]++enc16 c.mid).map bRow).length+1) * 1 <= 140737488355328) (by simp [enc16]) ?_;conv=>whnf
     refine zaa (c:=(((enc16 c.tag++[by8 c.stream,by8 (flags c)]++enc16 c.mid++[by8 c.part]).map bRow).length+(c.data.map bRow).length) * 1 <= 140737488355328) (by simp [enc16];omega) ?_;conv=>whnf
     refine ⟨⟨⟩,zbo [(1,some 1),(900,some 76)] rfl rfl rfl rfl ⟨⟨rfl,rfl⟩,⟨rfl,rfl⟩,trivial⟩ ⟨⟨rfl,.inl ⟨1,rfl,rfl⟩⟩,⟨rfl,.inl ⟨76,rfl,?_⟩⟩,trivial⟩⟩
     show HSlot.live (.row _ 1 ((enc16 c.tag++[by8 c.stream,by8 (flags c)]++enc16 c.mid++[by8 c.part]).map bRow++c.data.map bRow))=HSlot.live (.row _ 1 ((body c).map bRow))
     rw [body,if_pos k1,List.map_append (l₂:=c.data)]
   . conv=>whnf
     have k1:¬ c.kind=1:=by simpa using k1
     refine zaf (fun k2=>?_) (fun k2=>?_)
     . conv=>whnf
       have k2:c.kind=2:=by simpa using k2
       obtain ⟨d1,hsp,d3⟩:=hf.room k2
       have hok:=ybo d3 (by decide)
       refine zap [(0,82)] ?_;conv=>whnf
       refine ⟨_,_,zgq c.room d1,⟨⟨⟨rfl,rfl⟩,trivial⟩,rfl,rfl,rfl⟩,?_⟩;conv=>whnf
       refine zaa (c:=(((enc16 c.tag).map bRow).length+((enc16 c.room).map bRow).length) * 1 <= 140737488355328) (by simp [enc16]) ?_;conv=>whnf
       refine ⟨{ k:Nat // k <= c.spans.length },fun | ⟨k,_⟩=>hs 110 [(1,.ptr 1 0),(5,.own 900),(85,zsu c.spans),(86,i64 c.spans.length),(87,i64 k)] [(1,.live (.cells 61 c.cells)),(900,row8 (enc16 c.tag++enc16 c.room++zbl (c.spans.take k)))],fun k=>c.spans.length - k.1,⟨0,by omega⟩,?_,?_⟩
       . refine zbo [(1,some 1),(900,some 83)] rfl rfl rfl rfl ⟨⟨rfl,rfl⟩,⟨rfl,rfl⟩,⟨rfl,rfl⟩,⟨rfl,by simp;rfl⟩,⟨rfl,rfl⟩,trivial⟩ ⟨⟨rfl,.inl ⟨1,rfl,rfl⟩⟩,⟨rfl,.inl ⟨83,rfl,?_⟩⟩,trivial⟩
         rfl
       rintro ⟨k,hk⟩
       conv=>whnf
       refine zaf (fun c1=>?_) (fun c1=>?_)
       . have hlt:k < c.spans.length:=by simpa using c1
         conv=>whnf
         refine zbq (r:=(c.spans[k]).row) (by omega) (by rw [Int.toNat_natCast,List.getElem?_map,List.getElem?_eq_getElem hlt];rfl) ?_
         have ht:zbl (c.spans.take (k+1))=zbl (c.spans.take k)++(enc16 (c.spans[k]).lo++enc16 (c.spans[k]).hi):=by
          rw [<- List.take_append_getElem hlt,zbl,List.flatMap_append];simp [zbl]
         have hlen:(zbl (c.spans.take k)).length <= 24:=by
          rw [zgz];simp;omega
         obtain ⟨g1,g2⟩:=hok _ (List.getElem_mem hlt)
         generalize c.spans[k]=s at ht g1 g2 ⊢
         conv=>whnf
         refine zap [(0,94)] ?_;conv=>whnf
         refine ⟨_,_,zgq s.lo g1,⟨⟨⟨rfl,rfl⟩,trivial⟩,rfl,rfl,rfl⟩,?_⟩;conv=>whnf
         refine zaa (c:=(((enc16 c.tag++enc16 c.room++zbl (c.spans.take k)).map bRow).length+((enc16 s.lo).map bRow).length) * 1 <= 140737488355328) (by simp [enc16];omega) ?_;conv=>whnf
         refine zap [(0,98)] ?_;conv=>whnf
         refine ⟨_,_,zgq s.hi g2,⟨⟨⟨rfl,rfl⟩,trivial⟩,rfl,rfl,rfl⟩,?_⟩;conv=>whnf
         refine zaa (c:=(((enc16 c.tag++enc16 c.room++zbl (c.spans.take k)).map bRow++(enc16 s.lo).map bRow).length+((enc16 s.hi).map bRow).length) * 1 <= 140737488355328) (by simp [enc16];omega) ?_;conv=>whnf
         refine zas ?_ ?_
         . kernel_rfl
         conv=>whnf
         refine sFm ?_
         refine ⟨⟨k+1,hlt⟩,zbo [(1,some 1),(900,some 99)] rfl rfl rfl rfl ⟨⟨rfl,rfl⟩,⟨rfl,rfl⟩,⟨rfl,rfl⟩,⟨rfl,rfl⟩,⟨rfl,by simp;rfl⟩,trivial⟩ ⟨⟨rfl,.inl ⟨1,rfl,rfl⟩⟩,⟨rfl,.inl ⟨99,rfl,?_⟩⟩,trivial⟩,by dsimp only;omega⟩
         show HSlot.live (.row _ 1 ((enc16 c.tag++enc16 c.room++zbl (c.spans.take k)).map bRow++(enc16 s.lo).map bRow++(enc16 s.hi).map bRow))=row8 (enc16 c.tag++enc16 c.room++zbl (c.spans.take (k+1)))
         rw [ht];simp only [row8,List.map_append,List.append_assoc]
       . conv=>whnf
         have hge:c.spans.length <= k:=by simpa using c1
         refine ⟨⟨⟩,zbo [(1,some 1),(900,some 900)] rfl rfl rfl rfl ⟨⟨rfl,rfl⟩,⟨rfl,rfl⟩,trivial⟩ ⟨⟨rfl,.inl ⟨1,rfl,rfl⟩⟩,⟨rfl,.inl ⟨900,rfl,?_⟩⟩,trivial⟩⟩
         show row8 (enc16 c.tag++enc16 c.room++zbl (c.spans.take k))=row8 (body c)
         rw [body,if_neg k1,if_pos k2,List.take_of_length_le hge]
     . conv=>whnf
       have k2:¬ c.kind=2:=by simpa using k2
       obtain ⟨hsk,d3⟩:=hf.skips k1 k2
       have hok:=ybp d3
       refine ⟨{ k:Nat // k <= c.skips.length },fun | ⟨k,_⟩=>hs 110 [(1,.ptr 1 0),(5,.own 900),(6,.clo 171 []),(22,zsv c.skips),(23,i64 c.skips.length),(24,i64 k)] [(1,.live (.cells 61 c.cells)),(900,row8 (enc16 c.tag++skipBytes (c.skips.take k)))],fun k=>c.skips.length - k.1,⟨0,by omega⟩,?_,?_⟩
       . refine zbo [(1,some 1),(900,some 18)] rfl rfl rfl rfl ⟨⟨rfl,rfl⟩,⟨rfl,rfl⟩,⟨rfl,rfl⟩,⟨rfl,rfl⟩,⟨rfl,by simp;rfl⟩,⟨rfl,rfl⟩,trivial⟩ ⟨⟨rfl,.inl ⟨1,rfl,rfl⟩⟩,⟨rfl,.inl ⟨18,rfl,?_⟩⟩,trivial⟩
         rfl
       rintro ⟨k,hk⟩
       conv=>whnf
       refine zaf (fun c1=>?_) (fun c1=>?_)
       . have hlt:k < c.skips.length:=by simpa using c1
         conv=>whnf
         refine zbq (r:=(c.skips[k]).row) (by omega) (by rw [Int.toNat_natCast,List.getElem?_map,List.getElem?_eq_getElem hlt];rfl) ?_
         have ht:skipBytes (c.skips.take (k+1))=skipBytes (c.skips.take k)++([by8 (c.skips[k]).stream,by8 (if (c.skips[k]).ordered then 1 else 0)]++enc16 (c.skips[k]).mid):=by
          rw [<- List.take_append_getElem hlt,skipBytes,List.flatMap_append];simp [skipBytes]
         have hlen:(skipBytes (c.skips.take k)).length <= 32:=by
          rw [zha];simp;omega
         obtain ⟨g1,g2⟩:=hok _ (List.getElem_mem hlt)
         generalize c.skips[k]=s at ht g1 g2 ⊢
         conv=>whnf
         refine zca ?_;conv=>whnf
         refine zav ?_;conv=>whnf
         refine ⟨_,zlh _ _,rfl,?_⟩;conv=>whnf
         refine zca ?_;conv=>whnf
         refine zaa (c:=(((enc16 c.tag++skipBytes (c.skips.take k)).map bRow).length+2) * 1 <= 140737488355328) (by simp [enc16];omega) ?_;conv=>whnf
         refine zap [(0,41)] ?_;conv=>whnf
         refine ⟨_,_,zgq s.mid g2,⟨⟨⟨rfl,rfl⟩,trivial⟩,rfl,rfl,rfl⟩,?_⟩;conv=>whnf
         refine zaa (c:=(((enc16 c.tag++skipBytes (c.skips.take k)).map bRow++[bRow (by8 s.stream),bRow (by8 (if s.ordered then 1 else 0))]).length+((enc16 s.mid).map bRow).length) * 1 <= 140737488355328) (by simp [enc16];omega) ?_;conv=>whnf
         refine zas ?_ ?_
         . kernel_rfl
         conv=>whnf
         refine sFm ?_
         refine ⟨⟨k+1,hlt⟩,zbo [(1,some 1),(900,some 42)] rfl rfl rfl rfl ⟨⟨rfl,rfl⟩,⟨rfl,rfl⟩,⟨rfl,rfl⟩,⟨rfl,rfl⟩,⟨rfl,rfl⟩,⟨rfl,by simp;rfl⟩,trivial⟩ ⟨⟨rfl,.inl ⟨1,rfl,rfl⟩⟩,⟨rfl,.inl ⟨42,rfl,?_⟩⟩,trivial⟩,by dsimp only;omega⟩
         show HSlot.live (.row _ 1 ((enc16 c.tag++skipBytes (c.skips.take k)).map bRow++[bRow (by8 s.stream),bRow (by8 (if s.ordered then 1 else 0))]++(enc16 s.mid).map bRow))=row8 (enc16 c.tag++skipBytes (c.skips.take (k+1)))
         rw [ht];simp only [row8,List.map_append,List.append_assoc];rfl
       . conv=>whnf
         have hge:c.skips.length <= k:=by simpa using c1
         refine ⟨⟨⟩,zbo [(1,some 1),(900,some 900)] rfl rfl rfl rfl ⟨⟨rfl,rfl⟩,⟨rfl,rfl⟩,trivial⟩ ⟨⟨rfl,.inl ⟨1,rfl,rfl⟩⟩,⟨rfl,.inl ⟨900,rfl,?_⟩⟩,trivial⟩⟩
         show row8 (enc16 c.tag++skipBytes (c.skips.take k))=row8 (body c)
         rw [body,if_neg k1,if_neg k2,List.take_of_length_le hge]
 . rintro ⟨⟩
   have hlen:=zsx h
   conv=>whnf
   refine zca ?_;conv=>whnf
   refine zca ?_;conv=>whnf
   refine zaa (c:=(2+((body c).map bRow).length) * 1 <= 140737488355328) (by simp;omega) ?_;conv=>whnf
   show HV.tup [.p (.sl 1 ([bRow (by8 c.kind),bRow (by8 ((body c).map bRow).length)]++(body c).map bRow)),i64 0]=_
   rw [List.length_map,h]
   rfl
end Chk
end Go.HL
namespace Go.HL
open Go.Proofs
namespace Chk
set_option maxHeartbeats 1000000
set_option maxRecDepth 100000
set_option linter.unusedSimpArgs false
def at16 (b:List UInt8) (i:Nat):Int:=dec16 (b[i]?.getD 0) (b[i+1]?.getD 0)
def no:Chunk:=⟨0,0,0,0,0,false,false,[],[],0,[]⟩
def zdz:List UInt8 -> List Span
 | a :: b :: c :: d :: r=>⟨dec16 a b,dec16 c d⟩ :: zdz r
 | _=>[]
def zby:List UInt8 -> List Skip × Bool
 | s :: f :: m :: n :: r=>if f.toNat > 1 then ([],false) else (⟨s.toNat,dec16 m n,f.toNat == 1⟩ :: (zby r).1,(zby r).2)
 | _=>([],true)
def zcb (kind:Int) (b:List UInt8):Chunk × Bool :=
 if b.length < 2 then ({ no with kind:=kind },false) else
 if kind=1 then
  if b.length < 7 \/ (b[3]?.getD 0).toNat > 3 then ({ no with kind:=kind,tag:=at16 b 0 },false)
  else ({ no with kind:=kind,tag:=at16 b 0,stream:=(b[2]?.getD 0).toNat,last:=(b[3]?.getD 0).toNat % 2 != 0,ordered:=(b[3]?.getD 0).toNat / 2 * 2 != 0,mid:=at16 b 4,part:=(b[6]?.getD 0).toNat,data:=b.drop 7 },true)
 else if kind=2 then
  if b.length < 4 \/ b.length % 4 ≠ 0 then ({ no with kind:=kind,tag:=at16 b 0 },false)
  else ({ no with kind:=kind,tag:=at16 b 0,room:=at16 b 2,spans:=zdz (b.drop 4) },true)
 else if b.length % 4 ≠ 2 then ({ no with kind:=kind,tag:=at16 b 0 },false)
  else ({ no with kind:=kind,tag:=at16 b 0,skips:=(zby (b.drop 2)).1 },(zby (b.drop 2)).2)
def yne:List HV:=[i64 0,i64 0,i64 0,i64 0,i64 0,hbool false,hbool false,hnil,hnil,i64 0,hnil]
theorem zjf:∀ l:List UInt8,(zdz l).length=l.length / 4
 | a :: b :: c :: d :: r=>by simp only [zdz,List.length_cons,zjf r];omega
 | []=>by simp [zdz]
 | [_]=>by simp [zdz]
 | [_,_]=>by simp [zdz]
 | [_,_,_]=>by simp [zdz]
theorem ybq (b:UInt8):W (b.toNat:Int)=b.toNat:=by have:=b.toNat_lt;exact W_fit (by omega) (by omega)
end Chk
end Go.HL
namespace Go.HL
open Go.Proofs
namespace Chk
set_option maxHeartbeats 1000000
set_option maxRecDepth 100000
set_option linter.unusedSimpArgs false
theorem zhr:∀ l:List UInt8,(zby l).1.length <= l.length
 | a :: b :: c :: d :: r=>by
  have:=zhr r
  simp only [zby]
  split <;> simp <;> omega
 | []=>by simp [zby]
 | [_]=>by simp [zby]
 | [_,_]=>by simp [zby]
 | [_,_,_]=>by simp [zby]
theorem yel (kind:Int) (b:List UInt8):(zcb kind b).1.spans.length <= b.length /\ (zcb kind b).1.skips.length <= b.length:=by
 have h1:=zhr (b.drop 2)
 have h2:=zjf (b.drop 4)
 have h3:(b.drop 2).length <= b.length:=by simp
 have h4:(b.drop 4).length <= b.length:=by simp
 unfold zcb
 (repeat' split) <;> constructor <;> first | (simp [no];done) | (dsimp only [no];omega)
def parse (b:List UInt8):Chunk × Int × Int :=
 if b.length < 2 \/ b.length < 2+(b[1]?.getD 0).toNat then (no,0,8) else
 if (b[0]?.getD 0).toNat < 1 \/ (b[0]?.getD 0).toNat > 3 then (no,0,1) else
 if (zcb (b[0]?.getD 0).toNat ((b.drop 2).take (b[1]?.getD 0).toNat)).2=false then (no,0,2) else
 if wrong (zcb (b[0]?.getD 0).toNat ((b.drop 2).take (b[1]?.getD 0).toNat)).1 ≠ 0 then (no,0,wrong (zcb (b[0]?.getD 0).toNat ((b.drop 2).take (b[1]?.getD 0).toNat)).1) else
 ((zcb (b[0]?.getD 0).toNat ((b.drop 2).take (b[1]?.getD 0).toNat)).1,2+(b[1]?.getD 0).toNat,0)
theorem zgi {rows:List (List PV)} {o n o' n':Nat} {K:List (List PV) -> Prop} (ho:o=o') (hn:n=n') (h:hsub rows o' n' K):hsub rows o n K:=by subst ho;subst hn;exact h
def one (l:List UInt8) (ok:Bool):Int × List UInt8 × Bool:=match l with
 | []=>(0,[],false)
 | x :: r=>(x.toNat,r,ok)
def two (l:List UInt8) (ok:Bool):Int × List UInt8 × Bool:=match l with
 | x :: y :: r=>(dec16 x y,r,ok)
 | [x]=>(x.toNat * 256,[],false)
 | []=>(0,[],false)
def rd (l:List UInt8) (ok:Bool):HSlot:=.live (.cells 233 [byts l,hbool ok])
theorem zik (l:List UInt8) (ok:Bool):FunOK Tryz.prog 192 [.ptr 1000 0] (lk .free [(1000,rd l ok)]) (i64 (one l ok).1) (lk .free [(1000,rd (one l ok).2.1 (one l ok).2.2)]):=by
 refine zal mixed Tryz.func192 (by decide) [1000] (fun i=>zbn i) ?_
 cases l with
 | nil =>
  conv=>whnf
  exact zau [(1000,some 1000)] rfl rfl ⟨rfl,trivial⟩ rfl rfl ⟨⟨rfl,.inl ⟨1000,rfl,rfl⟩⟩,trivial⟩
 | cons x r =>
  simp only [one]
  conv=>whnf
  refine zqg (b:=x :: r) 0 rfl (by simp) ?_;conv=>whnf
  refine zan (ybq x) ?_;conv=>whnf
  refine sOm ?_
  refine zez (l:=x :: r) (by simp;omega) ?_
  conv=>whnf
  exact zau [(1000,some 1000)] rfl rfl ⟨rfl,trivial⟩ rfl rfl ⟨⟨rfl,.inl ⟨1000,rfl,rfl⟩⟩,trivial⟩
theorem zhb (l:List UInt8) (ok:Bool):FunOK Tryz.prog 191 [.ptr 1000 0] (lk .free [(1000,rd l ok)]) (i64 (two l ok).1) (lk .free [(1000,rd (two l ok).2.1 (two l ok).2.2)]):=by
 refine zal mixed Tryz.func191 (by decide) [1000] (fun i=>zbn i) ?_
 have h1:∀ x y:UInt8,(x.toNat:Int) * 256+y.toNat <= 70000 /\ 0 <= (x.toNat:Int) * 256+y.toNat:=by
  intro x y;have:=x.toNat_lt;have:=y.toNat_lt;omega
 conv=>whnf
 refine zag [] [(1000,1000)] [] ?_;conv=>whnf
 refine ⟨_,_,_,_,zik l ok,⟨rfl,rfl,rfl,⟨⟨rfl,_,rfl,.inl ⟨rfl,rfl⟩⟩,trivial⟩,trivial,rfl,rfl,rfl⟩,?_⟩
 conv=>whnf
 have e1:W ((one l ok).1 * 256)=(one l ok).1 * 256:=by
  cases l with
  | nil=>rfl
  | cons x r=>have:=h1 x 0;exact W_fit (by simp only [one];omega) (by simp only [one];omega)
 have e1':W (256 * (one l ok).1)=256 * (one l ok).1:=by rw [Int.mul_comm];exact e1
 refine zan e1' ?_;conv=>whnf
 refine zag [] [(1000,1000)] [] ?_;conv=>whnf
 refine ⟨_,_,_,_,zik (one l ok).2.1 (one l ok).2.2,⟨rfl,rfl,rfl,⟨⟨rfl,_,rfl,.inl ⟨rfl,rfl⟩⟩,trivial⟩,trivial,rfl,rfl,rfl⟩,?_⟩
 conv=>whnf
 have e2:256 * (one l ok).1+(one (one l ok).2.1 (one l ok).2.2).1=(two l ok).1:=by
  cases l with
  | nil=>rfl
  | cons x r=>cases r with
   | nil=>simp only [one,two];omega
   | cons y r=>simp only [one,two,dec16];omega
 have e3:W (two l ok).1=(two l ok).1:=by
  cases l with
  | nil=>rfl
  | cons x r=>cases r with
   | nil=>have:=h1 x 0;exact W_fit (by simp only [two];omega) (by simp only [two];omega)
   | cons y r=>have:=h1 x y;exact W_fit (by simp only [two,dec16];omega) (by simp only [two,dec16];omega)
 have e4:(one (one l ok).2.1 (one l ok).2.2).2=(two l ok).2:=by
  cases l with
  | nil=>rfl
  | cons x r=>cases r <;> rfl
 refine zan (z:=256 * (one l ok).1+(one (one l ok).2.1 (one l ok).2.2).1) (by rw [e2];exact e3) ?_;conv=>whnf
 rw [<- e4,<- e2]
 exact zau [(1000,some 1000)] rfl rfl ⟨rfl,trivial⟩ rfl rfl ⟨⟨rfl,.inl ⟨1000,rfl,rfl⟩⟩,trivial⟩
end Chk
end Go.HL
namespace Go.HL
open Go.Proofs
namespace Chk
set_option maxHeartbeats 1000000
set_option maxRecDepth 100000
set_option linter.unusedSimpArgs false
theorem yhk:∀ l:List UInt8,l=[] \/ (∃ a,l=[a]) \/ (∃ a b,l=[a,b]) \/ (∃ a b c,l=[a,b,c]) \/ (∃ a b c d,l=[a,b,c,d]) \/ (∃ a b c d e,l=[a,b,c,d,e]) \/ (∃ a b c d e f,l=[a,b,c,d,e,f]) \/ ∃ a b c d e f g r,l=a :: b :: c :: d :: e :: f :: g :: r
 | []=>by simp
 | [a]=>by simp
 | [a,b]=>by simp
 | [a,b,c]=>by simp
 | [a,b,c,d]=>by simp
 | [a,b,c,d,e]=>by simp
 | [a,b,c,d,e,f]=>by simp
 | a :: b :: c :: d :: e :: f :: g :: r=>by simp
theorem zvo {l:List UInt8} {ok:Bool} (h:(two l ok).2.2=true):ok=true /\ ∃ a b,l=a :: b :: (two l ok).2.1 /\ (two l ok).1=dec16 a b:=by
 match l,h with
 | x :: y :: r,h=>exact ⟨h,x,y,rfl,rfl⟩
 | [x],h=>cases h
 | [],h=>cases h
theorem zhs (l:List UInt8) (ok:Bool):(two l ok).2.1.length <= l.length - 2:=by
 match l with
 | x :: y :: r=>simp [two]
 | [x]=>simp [two]
 | []=>simp [two]
theorem zom {l:List UInt8} {ok:Bool} (h:(two l ok).2.2=false):ok=false \/ l.length < 2:=by
 match l,h with
 | x :: y :: r,h=>exact .inl h
 | [x],h=>exact .inr (by simp)
 | [],h=>exact .inr (by simp)
theorem bad2 {s:List UInt8} (h:s.length < 4 \/ s.length % 4 ≠ 0):(zcb 2 s).2=false:=by
 unfold zcb
 (repeat' split) <;> first | rfl | (exfalso;omega)
structure I2 (s:List UInt8) (tag room:Int) (l:List UInt8) (ok:Bool) (acc:List Span):Prop where
 good:ok=true -> 4 <= s.length /\ acc++zdz l=zdz (s.drop 4) /\ l.length % 4=s.length % 4 /\ tag=at16 s 0 /\ room=at16 s 2
 bad:ok=false -> (zcb 2 s).2=false
 len:acc.length+l.length <= 256
theorem I2.start {s:List UInt8} (hs:s.length <= 256):I2 s (two s true).1 (two (two s true).2.1 (two s true).2.2).1 (two (two s true).2.1 (two s true).2.2).2.1 (two (two s true).2.1 (two s true).2.2).2.2 []:=by
 refine ⟨fun h=>?_,fun h=>?_,?_⟩
 . obtain ⟨h1,c,d,h2,h3⟩:=zvo h
   obtain ⟨_,a,b,h4,h5⟩:=zvo h1
   generalize (two (two s true).2.1 (two s true).2.2).2.1=r at *
   rw [h2] at h4
   subst h4
   refine ⟨by simp,by simp,by simp;omega,h5.trans rfl,h3.trans rfl⟩
 . refine bad2 ?_
   rcases zom h with h1 | h1
   . rcases zom h1 with h2 | h2
     . cases h2
     . left;omega
   . have:s.length <= (two s true).2.1.length+2:=by
      match s with
      | x :: y :: r=>simp [two]
      | [x]=>simp
      | []=>simp
     left;omega
 . have h1:=zhs s true
   have h2:=zhs (two s true).2.1 (two s true).2.2
   simp only [List.length_nil];omega
theorem I2.next {s l:List UInt8} {tag room:Int} {ok:Bool} {acc:List Span} (h:I2 s tag room l ok acc) (hl:0 < l.length) :
 I2 s tag room (two (two l ok).2.1 (two l ok).2.2).2.1 (two (two l ok).2.1 (two l ok).2.2).2.2 (acc++[⟨(two l ok).1,(two (two l ok).2.1 (two l ok).2.2).1⟩]):=by
 have g1:=zhs l ok
 have g2:=zhs (two l ok).2.1 (two l ok).2.2
 refine ⟨fun h2=>?_,fun h2=>?_,?_⟩
 . obtain ⟨h3,c,d,h4,h5⟩:=zvo h2
   obtain ⟨h6,a,b,h7,h8⟩:=zvo h3
   obtain ⟨i1,i2,i3,i4,i5⟩:=h.good h6
   refine ⟨i1,?_,?_,i4,i5⟩
   . rw [<- i2,h8,h5,List.append_assoc]
     congr 1
     generalize (two (two l ok).2.1 (two l ok).2.2).2.1=r at *
     rw [h7,h4]
     rfl
   . rw [<- i3]
     generalize (two (two l ok).2.1 (two l ok).2.2).2.1=r at *
     rw [h7,h4];simp;omega
 . cases hok:ok with
   | false=>exact h.bad hok
   | true =>
    obtain ⟨i1,i2,i3,i4,i5⟩:=h.good hok
    refine bad2 (.inr ?_)
    rw [<- i3]
    have hlen:l.length < 4:=by
     rcases zom h2 with h3 | h3
     . rcases zom h3 with h4 | h4
       . rw [hok] at h4;cases h4
       . omega
     . have:l.length <= (two l ok).2.1.length+2:=by
        match l with
        | x :: y :: r=>simp [two]
        | [x]=>simp
        | []=>simp
       omega
    omega
 . have:=h.len
   simp only [List.length_append,List.length_cons,List.length_nil];omega
theorem I2.done {s:List UInt8} {tag room:Int} {acc:List Span} (h:I2 s tag room [] true acc):zcb 2 s=(⟨2,tag,0,0,0,false,false,[],acc,room,[]⟩,true):=by
 obtain ⟨i1,i2,i3,i4,i5⟩:=h.good rfl
 simp only [zdz,List.append_nil] at i2
 unfold zcb
 rw [if_neg (by omega),if_neg (by decide),if_pos rfl,if_neg (by simp at i3;omega),i2,i4,i5]
 rfl
theorem bad3 {kind:Int} {s:List UInt8} (k1:¬ kind=1) (k2:¬ kind=2) (h:s.length < 2 \/ s.length % 4 ≠ 2 \/ (zby (s.drop 2)).2=false):(zcb kind s).2=false:=by
 unfold zcb
 rcases h with h | h | h
 . (repeat' split) <;> first | rfl | (exfalso;omega)
 . (repeat' split) <;> first | rfl | (exfalso;omega)
 . (repeat' split) <;> first | rfl | (exfalso;omega) | exact h
theorem yhl (l:List UInt8) (ok:Bool):(one l ok).2.1.length=l.length - 1:=by
 match l with
 | x :: r=>simp [one]
 | []=>simp [one]
structure I3 (kind:Int) (s:List UInt8) (tag:Int) (l:List UInt8) (ok:Bool) (acc:List Skip):Prop where
 good:ok=true -> 2 <= s.length /\ zby (s.drop 2)=(acc++(zby l).1,(zby l).2) /\ l.length % 4=(s.length - 2) % 4 /\ tag=at16 s 0
 bad:ok=false -> (zcb kind s).2=false
 len:acc.length+l.length <= 256
theorem I3.start {kind:Int} {s:List UInt8} (k1:¬ kind=1) (k2:¬ kind=2) (hs:s.length <= 256):I3 kind s (two s true).1 (two s true).2.1 (two s true).2.2 []:=by
 refine ⟨fun h=>?_,fun h=>?_,?_⟩
 . obtain ⟨_,a,b,h4,h5⟩:=zvo h
   generalize (two s true).2.1=r at *
   subst h4
   exact ⟨by simp,by simp,by simp,h5.trans rfl⟩
 . refine bad3 k1 k2 ?_
   rcases zom h with h1 | h1
   . cases h1
   . exact .inl h1
 . have h1:=zhs s true
   simp only [List.length_nil];omega
theorem I3.less {l:List UInt8} {ok:Bool} (hl:0 < l.length):(two (one (one l ok).2.1 (one l ok).2.2).2.1 (one (one l ok).2.1 (one l ok).2.2).2.2).2.1.length < l.length:=by
 have h1:=zhs (one (one l ok).2.1 (one l ok).2.2).2.1 (one (one l ok).2.1 (one l ok).2.2).2.2
 have h2:=yhl l ok
 have h3:=yhl (one l ok).2.1 (one l ok).2.2
 omega
theorem I3.next {kind:Int} {s l:List UInt8} {tag:Int} {ok:Bool} {acc:List Skip} (h:I3 kind s tag l ok acc) (k1:¬ kind=1) (k2:¬ kind=2) (hl:0 < l.length) :
 ((one (one l ok).2.1 (one l ok).2.2).1 > 1 -> I3 kind s tag (two (one (one l ok).2.1 (one l ok).2.2).2.1 (one (one l ok).2.1 (one l ok).2.2).2.2).2.1 false (acc++[⟨(one l ok).1,(two (one (one l ok).2.1 (one l ok).2.2).2.1 (one (one l ok).2.1 (one l ok).2.2).2.2).1,(one (one l ok).2.1 (one l ok).2.2).1 == 1⟩])) /\
 (¬ (one (one l ok).2.1 (one l ok).2.2).1 > 1 -> I3 kind s tag (two (one (one l ok).2.1 (one l ok).2.2).2.1 (one (one l ok).2.1 (one l ok).2.2).2.2).2.1 (two (one (one l ok).2.1 (one l ok).2.2).2.1 (one (one l ok).2.1 (one l ok).2.2).2.2).2.2
  (acc++[⟨(one l ok).1,(two (one (one l ok).2.1 (one l ok).2.2).2.1 (one (one l ok).2.1 (one l ok).2.2).2.2).1,(one (one l ok).2.1 (one l ok).2.2).1 == 1⟩])):=by
 have hlen:=h.len
 have hless:=I3.less (ok:=ok) hl
 match l,hl with
 | [x],_ =>
  have hbad:(zcb kind s).2=false:=by
   cases hok:ok with
   | false=>exact h.bad hok
   | true =>
    obtain ⟨i1,i2,i3,i4⟩:=h.good hok
    exact bad3 k1 k2 (.inr (.inl (by simp at i3;omega)))
  refine ⟨fun h2=>absurd h2 (by simp [one]),fun _=>⟨fun h2=>(by cases h2),fun _=>hbad,by simp [one,two] at hlen ⊢;omega⟩⟩
 | [x,y],_ =>
  have hbad:(zcb kind s).2=false:=by
   cases hok:ok with
   | false=>exact h.bad hok
   | true =>
    obtain ⟨i1,i2,i3,i4⟩:=h.good hok
    exact bad3 k1 k2 (.inr (.inl (by simp at i3;omega)))
  exact ⟨fun _=>⟨fun h2=>(by cases h2),fun _=>hbad,by simp [one,two] at hlen ⊢;omega⟩,fun _=>⟨fun h2=>(by cases h2),fun _=>hbad,by simp [one,two] at hlen ⊢;omega⟩⟩
 | [x,y,z],_ =>
  have hbad:(zcb kind s).2=false:=by
   cases hok:ok with
   | false=>exact h.bad hok
   | true =>
    obtain ⟨i1,i2,i3,i4⟩:=h.good hok
    exact bad3 k1 k2 (.inr (.inl (by simp at i3;omega)))
  exact ⟨fun _=>⟨fun h2=>(by cases h2),fun _=>hbad,by simp [one,two] at hlen ⊢;omega⟩,fun _=>⟨fun h2=>(by cases h2),fun _=>hbad,by simp [one,two] at hlen ⊢;omega⟩⟩
 | x :: y :: z :: w :: r,_ =>
  simp only [one,two]
  have hbeq:((y.toNat:Int) == 1)=(y.toNat == 1):=by
   rcases Nat.decEq y.toNat 1 with h | h
   . rw [show ((y.toNat:Int) == 1)=false from by simpa using (by omega:¬ (y.toNat:Int)=1),show (y.toNat == 1)=false from by simpa using h]
   . rw [h];rfl
  refine ⟨fun h2=>⟨fun h3=>(by cases h3),fun _=>?_,by simp at hlen ⊢;omega⟩,fun h2=>⟨fun hok=>?_,fun hok=>h.bad hok,by simp at hlen ⊢;omega⟩⟩
  . cases hok:ok with
    | false=>exact h.bad hok
    | true =>
     obtain ⟨i1,i2,i3,i4⟩:=h.good hok
     refine bad3 k1 k2 (.inr (.inr ?_))
     rw [i2]
     show (zby (x :: y :: z :: w :: r)).2=false
     rw [zby,if_pos (by omega)]
  . obtain ⟨i1,i2,i3,i4⟩:=h.good hok
    refine ⟨i1,?_,by rw [<- i3];simp only [List.length_cons];omega,i4⟩
    rw [i2,zby,if_neg (by omega),hbeq]
    simp
theorem I3.done {kind:Int} {s:List UInt8} {tag:Int} {acc:List Skip} (k1:¬ kind=1) (k2:¬ kind=2) (h:I3 kind s tag [] true acc):zcb kind s=(⟨kind,tag,0,0,0,false,false,[],[],0,acc⟩,true):=by
 obtain ⟨i1,i2,i3,i4⟩:=h.good rfl
 simp only [zby,List.append_nil] at i2
 unfold zcb
 rw [if_neg (by omega),if_neg k1,if_neg k2,if_neg (by simp at i3;omega),i2,i4]
 rfl
theorem zyv (b:List UInt8) (hb:b.length < 2 ^ 39):FunOK Tryz.prog 172 [byts b] zac (.tup [(parse b).1.hv,i64 (parse b).2.1,i64 (parse b).2.2]) zac:=by
 refine zah mixed Tryz.func172 (by decide) ?_
 have hl:(b.map bRow).length=b.length:=by simp
 have hb1:=(b[1]?.getD 0).toNat_lt
 conv=>whnf
 refine zaf (fun c1=>?_) (fun c1=>?_)
 . have c1:(b.length:Int) < 2:=by simpa using c1
   rw [parse,if_pos (.inl (by omega))]
   conv=>whnf
   rfl
 have c1:¬ (b.length:Int) < 2:=by simpa using c1
 conv=>whnf
 refine zqg 1 rfl (by omega) ?_;conv=>whnf
 refine zan (ybq _) ?_;conv=>whnf
 refine zan (z:=((b.map bRow).length:Int) - 2) (W_fit (by omega) (by omega)) ?_;conv=>whnf
 refine zaf (fun c2=>?_) (fun c2=>?_)
 . have c2:((b[1]?.getD 0).toNat:Int) > ((b.map bRow).length:Int) - 2:=of_decide_eq_true c2
   rw [parse,if_pos (.inr (by omega))]
   conv=>whnf
   rfl
 have c2:¬ ((b[1]?.getD 0).toNat:Int) > ((b.map bRow).length:Int) - 2:=of_decide_eq_false c2
 rw [parse,if_neg (by omega)]
 conv=>whnf
 refine zqg 0 rfl (by omega) ?_;conv=>whnf
 refine zaf (fun c3=>?_) (fun c3=>?_)
 . have c3:((b[0]?.getD 0).toNat:Int) < 1:=of_decide_eq_true c3
   rw [if_pos (.inl (by omega))]
   conv=>whnf
   rfl
 have c3:¬ ((b[0]?.getD 0).toNat:Int) < 1:=of_decide_eq_false c3
 conv=>whnf
 refine zqg 0 rfl (by omega) ?_;conv=>whnf
 refine zaf (fun c4=>?_) (fun c4=>?_)
 . have c4:((b[0]?.getD 0).toNat:Int) > 3:=of_decide_eq_true c4
   rw [if_pos (.inr (by omega))]
   conv=>whnf
   rfl
 have c4:¬ ((b[0]?.getD 0).toNat:Int) > 3:=of_decide_eq_false c4
 rw [if_neg (by omega)]
 conv=>whnf
 refine zqg 1 rfl (by omega) ?_;conv=>whnf
 refine zan (ybq _) ?_;conv=>whnf
 refine zan (z:=2+((b[1]?.getD 0).toNat:Int)) (W_fit (by omega) (by omega)) ?_;conv=>whnf
 refine zaa (by omega) ?_;conv=>whnf
 refine zgi (o':=2) (n':=(b[1]?.getD 0).toNat) rfl (by omega) ?_
 refine zee (l:=b) (by omega) ?_
 have hlen:((b.drop 2).take (b[1]?.getD 0).toNat).length <= 256:=by simp;omega
 generalize hsub:(b.drop 2).take (b[1]?.getD 0).toNat=s at hlen ⊢
 conv=>whnf
 refine zqg 0 rfl (by omega) ?_;conv=>whnf
 refine zan (ybq _) ?_;conv=>whnf
 refine zag [] [(1000,46)] [] ?_;conv=>whnf
 refine ⟨_,_,_,_,zhb s true,⟨rfl,rfl,rfl,⟨⟨rfl,_,rfl,.inl ⟨rfl,rfl⟩⟩,trivial⟩,trivial,rfl,rfl,rfl⟩,?_⟩
 conv=>whnf
 refine zas ?_ ?_
 . kernel_rfl
 conv=>whnf
 generalize ((b[0]?.getD 0).toNat:Int)=kind at *
 refine hcut.go ?_;conv=>whnf
 refine zaf (fun k1=>?_) (fun k1=>?_)
 . have k1:kind=1:=by simpa using k1
   subst k1
   by_cases h7:s.length < 7
   . have hbad:(zcb 1 s).2=false:=by
      unfold zcb;split
      . rfl
      . rw [if_pos rfl,if_pos (.inl h7)]
     rw [if_pos hbad]
     rcases yhk s with rfl | ⟨x0,rfl⟩ | ⟨x0,x1,rfl⟩ | ⟨x0,x1,x2,rfl⟩ | ⟨x0,x1,x2,x3,rfl⟩ | ⟨x0,x1,x2,x3,x4,rfl⟩ | ⟨x0,x1,x2,x3,x4,x5,rfl⟩ | ⟨x0,x1,x2,x3,x4,x5,x6,r,rfl⟩
     case inr.inr.inr.inr.inr.inr.inr=>simp at h7;omega
     all_goals
      conv=>whnf
      (repeat' (first | (refine zbc ?_;conv=>whnf) | (refine zaa ?_ ?_;(first | kernel_rfl | decide);conv=>whnf) | (refine zas ?_ ?_;kernel_rfl;conv=>whnf) | (refine hcut.go ?_;conv=>whnf) | (refine zag [] [(1000,46)]   []  ?_;(conv=>whnf);refine ⟨_,_,_,_, zik _ _,⟨rfl,rfl,rfl,⟨⟨rfl,_,rfl,.inl ⟨rfl,rfl⟩⟩,trivial⟩,trivial,rfl,rfl,rfl⟩,?_⟩;conv=>whnf) | (refine zag [] [(1000,46)]   []  ?_;(conv=>whnf);refine ⟨_,_,_,_, zhb _ _,⟨rfl,rfl,rfl,⟨⟨rfl,_,rfl,.inl ⟨rfl,rfl⟩⟩,trivial⟩,trivial,rfl,rfl,rfl⟩,?_⟩;conv=>whnf) | (refine zaf (fun h=>?_) (fun h=>?_) <;> conv=>whnf)))
     all_goals first | rfl | (refine zaa (c:=(([]:List (List PV)).length+(([]:List UInt8).map bRow).length) * 1 <= 140737488355328) (by decide) ?_;(conv=>whnf);rfl)
   . rcases yhk s with rfl | ⟨x0,rfl⟩ | ⟨x0,x1,rfl⟩ | ⟨x0,x1,x2,rfl⟩ | ⟨x0,x1,x2,x3,rfl⟩ | ⟨x0,x1,x2,x3,x4,rfl⟩ | ⟨x0,x1,x2,x3,x4,x5,rfl⟩ | ⟨x0,x1,x2,x3,x4,x5,x6,r,rfl⟩
     case inr.inr.inr.inr.inr.inr.inr =>
      conv=>whnf
      (repeat' (first | (refine zbc ?_;conv=>whnf) | (refine zaa ?_ ?_;(first | kernel_rfl | decide);conv=>whnf) | (refine zas ?_ ?_;kernel_rfl;conv=>whnf) | (refine hcut.go ?_;conv=>whnf) | (refine zag [] [(1000,46)]   []  ?_;(conv=>whnf);refine ⟨_,_,_,_, zik _ _,⟨rfl,rfl,rfl,⟨⟨rfl,_,rfl,.inl ⟨rfl,rfl⟩⟩,trivial⟩,trivial,rfl,rfl,rfl⟩,?_⟩;conv=>whnf) | (refine zag [] [(1000,46)]   []  ?_;(conv=>whnf);refine ⟨_,_,_,_, zhb _ _,⟨rfl,rfl,rfl,⟨⟨rfl,_,rfl,.inl ⟨rfl,rfl⟩⟩,trivial⟩,trivial,rfl,rfl,rfl⟩,?_⟩;conv=>whnf) | (refine zaf (fun h=>?_) (fun h=>?_) <;> conv=>whnf)))
      all_goals
       refine zaa (c:=(([]:List (List PV)).length+(r.map bRow).length) * 1 <= 140737488355328) (by simp at hlen ⊢;omega) ?_
       conv=>whnf
      . rename_i h
        have h:(x3.toNat:Int) > 3:=of_decide_eq_true h
        have hbad:(zcb 1 (x0 :: x1 :: x2 :: x3 :: x4 :: x5 :: x6 :: r)).2=false:=by
         unfold zcb;rw [if_neg (by simp),if_pos rfl,if_pos (.inr (by simp;omega))]
        rw [if_pos hbad]
        rfl
      . rename_i h
        have h:¬ (x3.toNat:Int) > 3:=of_decide_eq_false h
        have hbody:zcb 1 (x0 :: x1 :: x2 :: x3 :: x4 :: x5 :: x6 :: r)=(⟨1,dec16 x0 x1,x2.toNat,dec16 x4 x5,x6.toNat,(x3.toNat:Int).tmod 2 == 1,W ((x3.toNat:Int).tdiv 2) == 1,r,[],0,[]⟩,true):=by
         unfold zcb;rw [if_neg (by simp),if_pos rfl,if_neg (by simp;omega)]
         have e1:((x3.toNat:Int).tmod 2 == 1)=(x3.toNat % 2 != 0):=by
          generalize x3.toNat=n at h ⊢
          have:n <= 3:=by omega
          match n,this with
          | 0,_=>decide
          | 1,_=>decide
          | 2,_=>decide
          | 3,_=>decide
         have e2:(W ((x3.toNat:Int).tdiv 2) == 1)=(x3.toNat / 2 * 2 != 0):=by
          generalize x3.toNat=n at h ⊢
          have:n <= 3:=by omega
          match n,this with
          | 0,_=>decide
          | 1,_=>decide
          | 2,_=>decide
          | 3,_=>decide
         rw [e1,e2]
         rfl
        rw [hbody]
        refine zav ?_;conv=>whnf
        refine ⟨_,zeq ⟨1,dec16 x0 x1,x2.toNat,dec16 x4 x5,x6.toNat,(x3.toNat:Int).tmod 2 == 1,W ((x3.toNat:Int).tdiv 2) == 1,r,[],0,[]⟩ (by simp) (by simp),rfl,?_⟩
        rw [if_neg (by simp)]
        generalize hw:wrong _=w
        conv=>whnf
        refine zaf (fun c5=>?_) (fun c5=>?_)
        . have c5:¬ w=0:=by simpa using c5
          rw [if_pos c5]
          conv=>whnf
          rfl
        . have c5:w=0:=by simpa using c5
          rw [if_neg (fun h=>h c5)]
          conv=>whnf
          rfl
     all_goals (exfalso;simp at h7)
 . have k1:¬ kind=1:=by simpa using k1
   conv=>whnf
   obtain ⟨T,hT⟩:∃ T,T=two s true:=⟨_,rfl⟩
   rw [<- hT]
   refine zaf (fun k2=>?_) (fun k2=>?_)
   . have k2:kind=2:=by simpa using k2
     subst k2
     conv=>whnf
     refine zag [] [(1000,46)] [] ?_;conv=>whnf
     refine ⟨_,_,_,_,zhb T.2.1 T.2.2,⟨rfl,rfl,rfl,⟨⟨rfl,_,rfl,.inl ⟨rfl,rfl⟩⟩,trivial⟩,trivial,rfl,rfl,rfl⟩,?_⟩
     obtain ⟨R,hR⟩:∃ R,R=two T.2.1 T.2.2:=⟨_,rfl⟩
     rw [<- hR]
     have hi:=I2.start hlen
     rw [<- hT,<- hR] at hi
     clear hT hR
     conv=>whnf
     refine ⟨{ x:List UInt8 × Bool × List Span // I2 s T.1 R.1 x.1 x.2.1 x.2.2 },fun | ⟨(l,ok,acc),_⟩=>hs 152 [(2,.ptr 2 0),(5,i64 (2+(b[1]?.getD 0).toNat)),(6,.ptr 46 0),(7,.ptr 7 0)] [(2,.live (.cells 61 yne)),(46,rd l ok),(7,.live (.cells 61 [i64 2,i64 T.1,i64 0,i64 0,i64 0,hbool false,hbool false,hnil,.own 900,i64 R.1,hnil])),(900,.live (.row 199 2 (acc.map Span.row)))],fun x=>x.1.1.length,⟨(R.2.1,R.2.2,[]),hi⟩,?_,?_⟩
     . exact zbo [(2,some 2),(46,some 46),(7,some 7),(900,none)] rfl rfl rfl rfl ⟨⟨rfl,rfl⟩,⟨rfl,rfl⟩,⟨rfl,rfl⟩,⟨rfl,rfl⟩,trivial⟩ ⟨⟨rfl,.inl ⟨2,rfl,rfl⟩⟩,⟨rfl,.inl ⟨46,rfl,rfl⟩⟩,⟨rfl,.inl ⟨7,rfl,rfl⟩⟩,⟨rfl,.inr ⟨rfl,rfl⟩⟩,trivial⟩
     rintro ⟨⟨l,ok,acc⟩,hinv⟩
     dsimp only at hinv
     conv=>whnf
     refine zaf (fun c=>?_) (fun c=>?_)
     . have hl0:0 < l.length:=by
        have:=of_decide_eq_true c;rw [List.length_map] at this;omega
       conv=>whnf
       refine zag [] [(1000,46)] [] ?_;conv=>whnf
       refine ⟨_,_,_,_,zhb l ok,⟨rfl,rfl,rfl,⟨⟨rfl,_,rfl,.inl ⟨rfl,rfl⟩⟩,trivial⟩,trivial,rfl,rfl,rfl⟩,?_⟩
       conv=>whnf
       refine zag [] [(1000,46)] [] ?_;conv=>whnf
       refine ⟨_,_,_,_,zhb (two l ok).2.1 (two l ok).2.2,⟨rfl,rfl,rfl,⟨⟨rfl,_,rfl,.inl ⟨rfl,rfl⟩⟩,trivial⟩,trivial,rfl,rfl,rfl⟩,?_⟩
       conv=>whnf
       refine zaa (c:=((acc.map Span.row).length+1) * 16 <= 140737488355328) (by have:=hinv.len;simp;omega) ?_;conv=>whnf
       refine zas ?_ ?_
       . kernel_rfl
       conv=>whnf
       have g1:=zhs l ok
       have g2:=zhs (two l ok).2.1 (two l ok).2.2
       refine ⟨⟨((two (two l ok).2.1 (two l ok).2.2).2.1,(two (two l ok).2.1 (two l ok).2.2).2.2,acc++[⟨(two l ok).1,(two (two l ok).2.1 (two l ok).2.2).1⟩]),hinv.next hl0⟩,zbo [(2,some 2),(46,some 46),(7,some 7),(900,some 136)] rfl rfl rfl rfl ⟨⟨rfl,rfl⟩,⟨rfl,rfl⟩,⟨rfl,rfl⟩,⟨rfl,rfl⟩,trivial⟩ ⟨⟨rfl,.inl ⟨2,rfl,rfl⟩⟩,⟨rfl,.inl ⟨46,rfl,rfl⟩⟩,⟨rfl,.inl ⟨7,rfl,rfl⟩⟩,⟨rfl,.inl ⟨136,rfl,?_⟩⟩,trivial⟩,by dsimp only;omega⟩
       show HSlot.live (.row _ 2 (acc.map Span.row++[Span.row ⟨(two l ok).1,(two (two l ok).2.1 (two l ok).2.2).1⟩]))=HSlot.live (.row _ 2 (List.map Span.row (acc++[⟨(two l ok).1,(two (two l ok).2.1 (two l ok).2.2).1⟩])))
       rw [List.map_append]
       rfl
     . have hl0:l=[]:=by
        have:=of_decide_eq_false c;rw [List.length_map] at this;exact List.eq_nil_of_length_eq_zero (by omega)
       subst hl0
       cases ok with
       | false =>
        have hbad:=hinv.bad rfl
        conv=>whnf
        rw [if_pos hbad]
        rfl
       | true =>
        have hbody:=hinv.done
        conv=>whnf
        refine zav ?_;conv=>whnf
        refine ⟨_,zeq ⟨2,T.1,0,0,0,false,false,[],acc,R.1,[]⟩ (by have:=hinv.len;simp;omega) (by simp),rfl,?_⟩
        rw [hbody,if_neg (by simp)]
        generalize hw:wrong _=w
        conv=>whnf
        refine zaf (fun c5=>?_) (fun c5=>?_)
        . have c5:¬ w=0:=by simpa using c5
          rw [if_pos c5]
          conv=>whnf
          rfl
        . have c5:w=0:=by simpa using c5
          rw [if_neg (fun h=>h c5)]
          conv=>whnf
          rfl
   . have k2:¬ kind=2:=by simpa using k2
     have hi:=I3.start k1 k2 hlen
     rw [<- hT] at hi
     clear hT
     conv=>whnf
     refine ⟨{ x:List UInt8 × Bool × List Skip // I3 kind s T.1 x.1 x.2.1 x.2.2 },fun | ⟨(l,ok,acc),_⟩=>hs 152 [(2,.ptr 2 0),(5,i64 (2+(b[1]?.getD 0).toNat)),(6,.ptr 46 0),(7,.ptr 7 0)] [(2,.live (.cells 61 yne)),(46,rd l ok),(7,.live (.cells 61 [i64 kind,i64 T.1,i64 0,i64 0,i64 0,hbool false,hbool false,hnil,hnil,i64 0,.own 900])),(900,.live (.row 180 3 (acc.map Skip.row)))],fun x=>x.1.1.length,⟨(T.2.1,T.2.2,[]),hi⟩,?_,?_⟩
     . exact zbo [(2,some 2),(46,some 46),(7,some 7),(900,none)] rfl rfl rfl rfl ⟨⟨rfl,rfl⟩,⟨rfl,rfl⟩,⟨rfl,rfl⟩,⟨rfl,rfl⟩,trivial⟩ ⟨⟨rfl,.inl ⟨2,rfl,rfl⟩⟩,⟨rfl,.inl ⟨46,rfl,rfl⟩⟩,⟨rfl,.inl ⟨7,rfl,rfl⟩⟩,⟨rfl,.inr ⟨rfl,rfl⟩⟩,trivial⟩
     rintro ⟨⟨l,ok,acc⟩,hinv⟩
     dsimp only at hinv
     conv=>whnf
     refine zaf (fun c=>?_) (fun c=>?_)
     . have hl0:0 < l.length:=by
        have:=of_decide_eq_true c;rw [List.length_map] at this;omega
       conv=>whnf
       refine zag [] [(1000,46)] [] ?_;conv=>whnf
       refine ⟨_,_,_,_,zik l ok,⟨rfl,rfl,rfl,⟨⟨rfl,_,rfl,.inl ⟨rfl,rfl⟩⟩,trivial⟩,trivial,rfl,rfl,rfl⟩,?_⟩
       obtain ⟨A,hA⟩:∃ A,A=one l ok:=⟨_,rfl⟩
       rw [<- hA]
       conv=>whnf
       refine zag [] [(1000,46)] [] ?_;conv=>whnf
       refine ⟨_,_,_,_,zik A.2.1 A.2.2,⟨rfl,rfl,rfl,⟨⟨rfl,_,rfl,.inl ⟨rfl,rfl⟩⟩,trivial⟩,trivial,rfl,rfl,rfl⟩,?_⟩
       obtain ⟨B,hB⟩:∃ B,B=one A.2.1 A.2.2:=⟨_,rfl⟩
       rw [<- hB]
       conv=>whnf
       refine zag [] [(1000,46)] [] ?_;conv=>whnf
       refine ⟨_,_,_,_,zhb B.2.1 B.2.2,⟨rfl,rfl,rfl,⟨⟨rfl,_,rfl,.inl ⟨rfl,rfl⟩⟩,trivial⟩,trivial,rfl,rfl,rfl⟩,?_⟩
       obtain ⟨D,hD⟩:∃ D,D=two B.2.1 B.2.2:=⟨_,rfl⟩
       rw [<- hD]
       conv=>whnf
       refine hcut.go ?_;conv=>whnf
       refine zaf (fun c5=>?_) (fun c5=>?_)
       . have c5:=of_decide_eq_true c5
         have hn:=hinv.next k1 k2 hl0
         rw [<- hA,<- hB,<- hD] at hn
         have hn:=hn.1 c5
         have hdl:D.2.1.length < l.length:=by rw [hD,hB,hA];exact I3.less hl0
         conv=>whnf
         refine zaa (c:=((acc.map Skip.row).length+1) * 24 <= 140737488355328) (by have:=hinv.len;simp;omega) ?_;conv=>whnf
         refine ⟨⟨(D.2.1,false,acc++[⟨A.1,D.1,B.1 == 1⟩]),hn⟩,zbo [(2,some 2),(46,some 46),(7,some 7),(900,some 82)] rfl rfl rfl rfl ⟨⟨rfl,rfl⟩,⟨rfl,rfl⟩,⟨rfl,rfl⟩,⟨rfl,rfl⟩,trivial⟩ ⟨⟨rfl,.inl ⟨2,rfl,rfl⟩⟩,⟨rfl,.inl ⟨46,rfl,rfl⟩⟩,⟨rfl,.inl ⟨7,rfl,rfl⟩⟩,⟨rfl,.inl ⟨82,rfl,?_⟩⟩,trivial⟩,hdl⟩
         show HSlot.live (.row _ 3 (acc.map Skip.row++[Skip.row ⟨A.1,D.1,B.1 == 1⟩]))=HSlot.live (.row _ 3 (List.map Skip.row (acc++[⟨A.1,D.1,B.1 == 1⟩])))
         rw [List.map_append]
         rfl
       . have c5:=of_decide_eq_false c5
         have hn:=hinv.next k1 k2 hl0
         rw [<- hA,<- hB,<- hD] at hn
         have hn:=hn.2 c5
         have hdl:D.2.1.length < l.length:=by rw [hD,hB,hA];exact I3.less hl0
         conv=>whnf
         refine zaa (c:=((acc.map Skip.row).length+1) * 24 <= 140737488355328) (by have:=hinv.len;simp;omega) ?_;conv=>whnf
         refine ⟨⟨(D.2.1,D.2.2,acc++[⟨A.1,D.1,B.1 == 1⟩]),hn⟩,zbo [(2,some 2),(46,some 46),(7,some 7),(900,some 82)] rfl rfl rfl rfl ⟨⟨rfl,rfl⟩,⟨rfl,rfl⟩,⟨rfl,rfl⟩,⟨rfl,rfl⟩,trivial⟩ ⟨⟨rfl,.inl ⟨2,rfl,rfl⟩⟩,⟨rfl,.inl ⟨46,rfl,rfl⟩⟩,⟨rfl,.inl ⟨7,rfl,rfl⟩⟩,⟨rfl,.inl ⟨82,rfl,?_⟩⟩,trivial⟩,hdl⟩
         show HSlot.live (.row _ 3 (acc.map Skip.row++[Skip.row ⟨A.1,D.1,B.1 == 1⟩]))=HSlot.live (.row _ 3 (List.map Skip.row (acc++[⟨A.1,D.1,B.1 == 1⟩])))
         rw [List.map_append]
         rfl
     . have hl0:l=[]:=by
        have:=of_decide_eq_false c;rw [List.length_map] at this;exact List.eq_nil_of_length_eq_zero (by omega)
       subst hl0
       cases ok with
       | false =>
        have hbad:=hinv.bad rfl
        conv=>whnf
        rw [if_pos hbad]
        rfl
       | true =>
        have hbody:=hinv.done k1 k2
        conv=>whnf
        refine zav ?_;conv=>whnf
        refine ⟨_,zeq ⟨kind,T.1,0,0,0,false,false,[],[],0,acc⟩ (by simp) (by have:=hinv.len;simp;omega),rfl,?_⟩
        rw [hbody,if_neg (by simp)]
        generalize hw:wrong _=w
        conv=>whnf
        refine zaf (fun c5=>?_) (fun c5=>?_)
        . have c5:¬ w=0:=by simpa using c5
          rw [if_pos c5]
          conv=>whnf
          rfl
        . have c5:w=0:=by simpa using c5
          rw [if_neg (fun h=>h c5)]
          conv=>whnf
          rfl
end Chk
end Go.HL
namespace Go.HL
open Go.Proofs
namespace Chk
set_option maxHeartbeats 1000000
set_option maxRecDepth 100000
set_option linter.unusedSimpArgs false
theorem yhm (b:List UInt8):(parse b).1.spans.length <= b.length /\ (parse b).1.skips.length <= b.length:=by
 have h:=yel (b[0]?.getD 0).toNat ((b.drop 2).take (b[1]?.getD 0).toNat)
 have h3:((b.drop 2).take (b[1]?.getD 0).toNat).length <= b.length:=by simp;omega
 unfold parse
 (repeat' split) <;> constructor <;> first | (simp [no];done) | (dsimp only;omega)
end Chk
end Go.HL
namespace Go.HL
open Go.Proofs
namespace Chk
set_option maxHeartbeats 2000000
set_option maxRecDepth 100000
set_option linter.unusedSimpArgs false
theorem zma:∀ {l:List UInt8},l.length % 4=0 -> zbl (zdz l)=l
 | a :: b :: c :: d :: r,h=>by
  have:=zma (l:=r) (by simp at h;omega)
  rw [zdz]
  show enc16 (dec16 a b)++enc16 (dec16 c d)++zbl (zdz r)=_
  rw [zho,zho,this];rfl
 | [],_=>rfl
 | [_],h=>by simp at h
 | [_,_],h=>by simp at h
 | [_,_,_],h=>by simp at h
theorem zmb:∀ {l:List UInt8},l.length % 4=0 -> (zby l).2=true -> skipBytes (zby l).1=l
 | a :: b :: c :: d :: r,h,h2=>by
  rw [zby] at h2 ⊢
  split at h2
  . cases h2
  . rename_i hb
    have:=zmb (l:=r) (by simp at h;omega) h2
    rw [if_neg hb]
    show [by8 (a.toNat:Int),by8 (if (b.toNat == 1)=true then 1 else 0)]++enc16 (dec16 c d)++skipBytes (zby r).1=_
    rw [zho,this,zqh]
    have hb2:by8 (if (b.toNat == 1)=true then 1 else 0)=b:=by
     apply UInt8.toNat_inj.1
     rcases Nat.lt_or_ge b.toNat 1 with h1 | h1
     . have:b.toNat=0:=by omega
       rw [this];rfl
     . have:b.toNat=1:=by omega
       rw [this];rfl
    rw [hb2];rfl
 | [],_,_=>rfl
 | [_],h,_=>by simp at h
 | [_,_],h,_=>by simp at h
 | [_,_,_],h,_=>by simp at h
theorem yoo {kind:Int} {s:List UInt8} (h:(zcb kind s).2=true):body (zcb kind s).1=s /\ (zcb kind s).1.kind=kind:=by
 unfold zcb at h ⊢
 split at h
 . cases h
 rename_i h2
 rw [if_neg h2]
 by_cases k1:kind=1
 . rw [if_pos k1] at h ⊢
   split at h
   . cases h
   rename_i h3
   rw [if_neg h3]
   refine ⟨?_,rfl⟩
   rcases yhk s with rfl | ⟨x0,rfl⟩ | ⟨x0,x1,rfl⟩ | ⟨x0,x1,x2,rfl⟩ | ⟨x0,x1,x2,x3,rfl⟩ | ⟨x0,x1,x2,x3,x4,rfl⟩ | ⟨x0,x1,x2,x3,x4,x5,rfl⟩ | ⟨x0,x1,x2,x3,x4,x5,x6,r,rfl⟩
   case inr.inr.inr.inr.inr.inr.inr =>
    have hx:x3.toNat <= 3:=by simp at h3;omega
    rw [body,if_pos k1]
    show enc16 (dec16 x0 x1)++[by8 (x2.toNat:Int),by8 ((if (x3.toNat % 2 != 0)=true then 1 else 0)+(if (x3.toNat / 2 * 2 != 0)=true then 2 else 0))]++enc16 (dec16 x4 x5)++[by8 (x6.toNat:Int)]++r=_
    have hfl:by8 ((if (x3.toNat % 2 != 0)=true then 1 else 0)+(if (x3.toNat / 2 * 2 != 0)=true then 2 else 0))=x3:=by
     apply UInt8.toNat_inj.1
     generalize x3.toNat=n at hx
     match n,hx with
     | 0,_=>decide
     | 1,_=>decide
     | 2,_=>decide
     | 3,_=>decide
    rw [zho,zho,zqh,zqh,hfl];rfl
   all_goals (exfalso;simp at h3)
 . rw [if_neg k1] at h ⊢
   match s,h2 with
   | a :: b :: r,_ =>
    by_cases k2:kind=2
    . rw [if_pos k2] at h ⊢
      split at h
      . cases h
      rename_i h3
      rw [if_neg h3]
      refine ⟨?_,rfl⟩
      match r,h3 with
      | c :: d :: r,h3 =>
       rw [body,if_neg k1,if_pos k2]
       show enc16 (dec16 a b)++enc16 (dec16 c d)++zbl (zdz r)=_
       rw [zho,zho,zma (by simp at h3;omega)];rfl
      | [],h3=>simp at h3
      | [_],h3=>simp at h3
    . rw [if_neg k2] at h ⊢
      split at h
      . cases h
      rename_i h3
      rw [if_neg h3]
      refine ⟨?_,rfl⟩
      rw [body,if_neg k1,if_neg k2]
      show enc16 (dec16 a b)++skipBytes (zby r).1=_
      rw [zho,zmb (l:=r) (by simp at h3;omega) h];rfl
   | [],h2=>simp at h2
   | [_],h2=>simp at h2
theorem yem {b:List UInt8} (h:(parse b).2.2=0):wrong (parse b).1=0 /\ 0 <= (parse b).2.1 /\ (parse b).2.1 <= b.length /\ bytes (parse b).1=b.take (parse b).2.1.toNat:=by
 by_cases h1:b.length < 2 \/ b.length < 2+(b[1]?.getD 0).toNat
 . rw [parse,if_pos h1] at h;cases h
 by_cases h2:(b[0]?.getD 0).toNat < 1 \/ (b[0]?.getD 0).toNat > 3
 . rw [parse,if_neg h1,if_pos h2] at h;cases h
 generalize hs:(b.drop 2).take (b[1]?.getD 0).toNat=s
 cases h3:(zcb (b[0]?.getD 0).toNat s).2 with
 | false=>rw [parse,if_neg h1,if_neg h2,hs,if_pos h3] at h;cases h
 | true =>
  by_cases h4:wrong (zcb (b[0]?.getD 0).toNat s).1=0
  . have hp:parse b=((zcb (b[0]?.getD 0).toNat s).1,2+((b[1]?.getD 0).toNat:Int),(0:Int)):=by
     rw [parse,if_neg h1,if_neg h2,hs,if_neg (by rw [h3];simp),if_neg (fun h=>h h4)]
    obtain ⟨g1,g2⟩:=yoo h3
    have hlen:s.length=(b[1]?.getD 0).toNat:=by rw [<- hs];simp;omega
    rw [hp]
    refine ⟨h4,by dsimp only;omega,by dsimp only;omega,?_⟩
    dsimp only
    rw [bytes,if_pos h4,g1,g2,hlen,zqh,zqh]
    have e2:∀ m:Nat,(2+(m:Int)).toNat=m+1+1:=by intro m;omega
    rw [e2]
    match b,h1,hs with
    | x :: y :: r,h1,hs =>
     rw [<- hs];rfl
    | [],h1,_=>simp at h1
    | [_],h1,_=>simp at h1
  . rw [parse,if_neg h1,if_neg h2,hs,if_neg (by rw [h3];simp),if_pos h4] at h
    exact absurd h h4
end Chk
end Go.HL
namespace Go.HL
open Go.Proofs
namespace Pck
open Chk
set_option maxHeartbeats 2000000
set_option maxRecDepth 100000
set_option linter.unusedSimpArgs false
abbrev chunks (l:List Chunk):HV:=.p (.sl 11 (l.map Chunk.row))
def Sized (l:List Chunk):Prop:=l.length < 2 ^ 38 /\ ∀ c ∈ l,c.spans.length < 2 ^ 38 /\ c.skips.length < 2 ^ 38
def zbt:List Chunk -> Int
 | []=>0
 | c :: r=>if wrong c ≠ 0 then wrong c else zbt r
def zbf (l:List Chunk):List UInt8:=l.flatMap Chk.bytes
def pbytes (l:List Chunk) (most:Int):List UInt8 × Int :=
 if l.length=0 then ([],5) else if zbt l ≠ 0 then ([],zbt l) else if ((zbf l).length:Int) > most then ([],4) else (zbf l,0)
theorem zjz (c:Chunk):(Chk.bytes c).length <= 36:=by
 unfold Chk.bytes
 split
 . rename_i h;have:=zsx h;simp;omega
 . simp
theorem zec:∀ l:List Chunk,(zbf l).length <= 36 * l.length
 | []=>by simp [zbf]
 | c :: r=>by
  have h1:=zjz c
  have h2:=zec r
  simp only [zbf,List.flatMap_cons,List.length_append,List.length_cons] at h2 ⊢
  omega
theorem zdi {l:List Chunk} {k:Nat} (h:k < l.length):zbf (l.take (k+1))=zbf (l.take k)++Chk.bytes l[k]:=by
 rw [<- List.take_append_getElem h,zbf,List.flatMap_append];simp [zbf]
theorem zer (l:List Chunk) (most:Int) (hl:Sized l):FunOK Tryz.prog 141 [chunks l,i64 most] zac (.tup [byts (pbytes l most).1,i64 (pbytes l most).2]) zac:=by
 obtain ⟨hl1,hl2⟩:=hl
 refine zah mixed Tryz.func141 (by decide) ?_
 conv=>whnf
 refine zaf (fun c1=>?_) (fun c1=>?_)
 . have c1:l.length=0:=by simpa using c1
   rw [pbytes,if_pos c1]
   conv=>whnf
   rfl
 have c1:¬ l.length=0:=by simpa using c1
 rw [pbytes,if_neg c1]
 conv=>whnf
 refine ⟨{ k:Nat // k <= l.length /\ zbt l=zbt (l.drop k) },fun | ⟨k,_⟩=>hs 37 [(1,i64 most),(6,.own 900),(14,chunks l),(15,i64 l.length),(16,i64 k)] [(900,row8 (zbf (l.take k)))],fun x=>l.length - x.1,⟨0,by omega,rfl⟩,?_,?_⟩
 . exact zbo [(900,none)] rfl rfl rfl rfl ⟨⟨rfl,rfl⟩,⟨rfl,rfl⟩,⟨rfl,rfl⟩,⟨rfl,by simp;rfl⟩,⟨rfl,rfl⟩,trivial⟩ ⟨⟨rfl,.inr ⟨rfl,rfl⟩⟩,trivial⟩
 rintro ⟨k,hk,hi⟩
 conv=>whnf
 refine zaf (fun c2=>?_) (fun c2=>?_)
 . have hlt:k < l.length:=by simpa using c2
   have hab:=zec (l.take k)
   have hab2:(l.take k).length <= k:=by simp;omega
   obtain ⟨s1,s2⟩:=hl2 l[k] (List.getElem_mem hlt)
   have hsucc:=zdi hlt
   have hbl:=zjz l[k]
   rw [List.drop_eq_getElem_cons hlt] at hi
   simp only [zbt] at hi
   conv=>whnf
   refine zbj (f:=Chunk.row) (l:=l) k rfl hlt ?_
   generalize l[k]=c at s1 s2 hi hsucc hbl ⊢
   conv=>whnf
   refine zcf ?_;conv=>whnf
   refine ⟨_,zqm c (by omega) (by omega),rfl,?_⟩;conv=>whnf
   refine zaf (fun c3=>?_) (fun c3=>?_)
   . have c3:wrong c ≠ 0:=by simpa using c3
     rw [if_pos c3] at hi
     conv=>whnf
     rw [hi,if_pos c3]
     rfl
   have c3:wrong c=0:=by simpa using c3
   rw [if_neg (fun h=>h c3)] at hi
   conv=>whnf
   refine zaa (c:=(((zbf (l.take k)).map bRow).length+((Chk.bytes c).map bRow).length) * 1 <= 140737488355328) (by simp;omega) ?_;conv=>whnf
   refine sFm ?_
   refine ⟨⟨k+1,hlt,hi⟩,zbo [(900,some 30)] rfl rfl rfl rfl ⟨⟨rfl,rfl⟩,⟨rfl,rfl⟩,⟨rfl,rfl⟩,⟨rfl,rfl⟩,⟨rfl,by simp;rfl⟩,trivial⟩ ⟨⟨rfl,.inl ⟨30,rfl,?_⟩⟩,trivial⟩,by dsimp only;omega⟩
   show HSlot.live (.row _ 1 ((zbf (l.take k)).map bRow++(Chk.bytes c).map bRow))=row8 (zbf (l.take (k+1)))
   rw [hsucc,row8,List.map_append]
 . have hge:l.length <= k:=by simpa using c2
   rw [List.drop_eq_nil_of_le hge] at hi
   have hi:zbt l=0:=hi
   have ht:l.take k=l:=List.take_of_length_le hge
   have hab:=zec l
   conv=>whnf
   refine zaf (fun c3=>?_) (fun c3=>?_)
   . have c3:((zbf l).length:Int) > most:=by rw [ht] at c3;simpa using c3
     conv=>whnf
     rw [if_neg (fun h=>h hi),if_pos c3]
     rfl
   . have c3:¬ ((zbf l).length:Int) > most:=by rw [ht] at c3;simpa using c3
     conv=>whnf
     rw [if_neg (fun h=>h hi),if_neg c3,ht]
theorem zgd (l:List Chunk) (most:Int) (hl:Sized l):FunOK Tryz.prog 105 [chunks l,i64 most] zac (.tup [byts (pbytes l most).1,i64 (pbytes l most).2]) zac:=by
 obtain ⟨hl1,hl2⟩:=hl
 refine zah mixed Tryz.func105 (by decide) ?_
 conv=>whnf
 refine zaf (fun c1=>?_) (fun c1=>?_)
 . have c1:l.length=0:=by simpa using c1
   rw [pbytes,if_pos c1]
   conv=>whnf
   rfl
 have c1:¬ l.length=0:=by simpa using c1
 rw [pbytes,if_neg c1]
 conv=>whnf
 refine ⟨{ k:Nat // k <= l.length /\ zbt l=zbt (l.drop k) },fun | ⟨k,_⟩=>hs 37 [(1,i64 most),(6,.own 900),(14,chunks l),(15,i64 l.length),(16,i64 k)] [(900,row8 (zbf (l.take k)))],fun x=>l.length - x.1,⟨0,by omega,rfl⟩,?_,?_⟩
 . exact zbo [(900,none)] rfl rfl rfl rfl ⟨⟨rfl,rfl⟩,⟨rfl,rfl⟩,⟨rfl,rfl⟩,⟨rfl,by simp;rfl⟩,⟨rfl,rfl⟩,trivial⟩ ⟨⟨rfl,.inr ⟨rfl,rfl⟩⟩,trivial⟩
 rintro ⟨k,hk,hi⟩
 conv=>whnf
 refine zaf (fun c2=>?_) (fun c2=>?_)
 . have hlt:k < l.length:=by simpa using c2
   have hab:=zec (l.take k)
   have hab2:(l.take k).length <= k:=by simp;omega
   obtain ⟨s1,s2⟩:=hl2 l[k] (List.getElem_mem hlt)
   have hsucc:=zdi hlt
   have hbl:=zjz l[k]
   rw [List.drop_eq_getElem_cons hlt] at hi
   simp only [zbt] at hi
   conv=>whnf
   refine zbj (f:=Chunk.row) (l:=l) k rfl hlt ?_
   generalize l[k]=c at s1 s2 hi hsucc hbl ⊢
   conv=>whnf
   refine zcf ?_;conv=>whnf
   refine ⟨_,zyu c (by omega) (by omega),rfl,?_⟩;conv=>whnf
   refine zaf (fun c3=>?_) (fun c3=>?_)
   . have c3:wrong c ≠ 0:=by simpa using c3
     rw [if_pos c3] at hi
     conv=>whnf
     rw [hi,if_pos c3]
     rfl
   have c3:wrong c=0:=by simpa using c3
   rw [if_neg (fun h=>h c3)] at hi
   conv=>whnf
   refine zaa (c:=(((zbf (l.take k)).map bRow).length+((Chk.bytes c).map bRow).length) * 1 <= 140737488355328) (by simp;omega) ?_;conv=>whnf
   refine sFm ?_
   refine ⟨⟨k+1,hlt,hi⟩,zbo [(900,some 30)] rfl rfl rfl rfl ⟨⟨rfl,rfl⟩,⟨rfl,rfl⟩,⟨rfl,rfl⟩,⟨rfl,rfl⟩,⟨rfl,by simp;rfl⟩,trivial⟩ ⟨⟨rfl,.inl ⟨30,rfl,?_⟩⟩,trivial⟩,by dsimp only;omega⟩
   show HSlot.live (.row _ 1 ((zbf (l.take k)).map bRow++(Chk.bytes c).map bRow))=row8 (zbf (l.take (k+1)))
   rw [hsucc,row8,List.map_append]
 . have hge:l.length <= k:=by simpa using c2
   rw [List.drop_eq_nil_of_le hge] at hi
   have hi:zbt l=0:=hi
   have ht:l.take k=l:=List.take_of_length_le hge
   have hab:=zec l
   conv=>whnf
   refine zaf (fun c3=>?_) (fun c3=>?_)
   . have c3:((zbf l).length:Int) > most:=by rw [ht] at c3;simpa using c3
     conv=>whnf
     rw [if_neg (fun h=>h hi),if_pos c3]
     rfl
   . have c3:¬ ((zbf l).length:Int) > most:=by rw [ht] at c3;simpa using c3
     conv=>whnf
     rw [if_neg (fun h=>h hi),if_neg c3,ht]
def zdq (most:Int) (n:Nat) (k:Nat):List Chunk -> Int
 | []=>k
 | c :: r=>if wrong c ≠ 0 \/ ((Chk.bytes c).length:Int) > most - n then k else zdq most (n+(Chk.bytes c).length) (k+1) r
theorem zil (l:List Chunk) (most:Int) (hl:Sized l) (hm:inI most):FunOK Tryz.prog 140 [chunks l,i64 most] zac (i64 (zdq most 0 0 l)) zac:=by
 obtain ⟨hl1,hl2⟩:=hl
 refine zah mixed Tryz.func140 (by decide) ?_
 conv=>whnf
 refine ⟨{ x:Nat × Nat // x.1 <= l.length /\ x.2=(zbf (l.take x.1)).length /\ ((x.2:Int) <= most \/ x.2=0) /\ zdq most x.2 x.1 (l.drop x.1)=zdq most 0 0 l },fun | ⟨(k,n),_⟩=>hs 40 [(0,chunks l),(1,i64 most),(5,i64 n),(10,chunks l),(11,i64 l.length),(12,i64 k)] [],fun x=>l.length - x.1.1,⟨(0,0),by simp,by simp [zbf],.inr rfl,rfl⟩,?_,?_⟩
 . exact zbo [] rfl rfl rfl rfl ⟨⟨rfl,rfl⟩,⟨rfl,rfl⟩,⟨rfl,rfl⟩,⟨rfl,rfl⟩,⟨rfl,by simp;rfl⟩,⟨rfl,rfl⟩,trivial⟩ trivial
 rintro ⟨⟨k,n⟩,hk,hn,hmost,hi⟩
 dsimp only at hk hn hmost hi
 conv=>whnf
 refine zaf (fun c1=>?_) (fun c1=>?_)
 . have hlt:k < l.length:=by simpa using c1
   have hab:=zec (l.take k)
   have hab2:(l.take k).length <= k:=by simp;omega
   obtain ⟨s1,s2⟩:=hl2 l[k] (List.getElem_mem hlt)
   rw [List.drop_eq_getElem_cons hlt] at hi
   simp only [zdq] at hi
   conv=>whnf
   refine zbj (f:=Chunk.row) (l:=l) k rfl hlt ?_;conv=>whnf
   have hbl:=zjz l[k]
   have hsucc:=zdi hlt
   generalize l[k]=c at s1 s2 hi hbl hsucc ⊢
   refine zcf ?_;conv=>whnf
   refine ⟨_,zqm c (by omega) (by omega),rfl,?_⟩;conv=>whnf
   refine zaf (fun c2=>?_) (fun c2=>?_)
   . have c2:wrong c ≠ 0:=by simpa using c2
     rw [if_pos (.inl c2)] at hi
     conv=>whnf
     rw [<- hi]
   have c2:wrong c=0:=by simpa using c2
   obtain ⟨hm1,hm2⟩:=hm
   conv=>whnf
   refine zan (z:=most - n) (W_fit (by omega) (by omega)) ?_;conv=>whnf
   refine zaf (fun c3=>?_) (fun c3=>?_)
   . have c3:((Chk.bytes c).length:Int) > most - n:=by simpa using c3
     rw [if_pos (.inr c3)] at hi
     conv=>whnf
     rw [<- hi]
   have c3:¬ ((Chk.bytes c).length:Int) > most - n:=by simpa using c3
   rw [if_neg (by rintro (h | h);exact h c2;exact c3 h)] at hi
   conv=>whnf
   refine zan (z:=(n:Int)+((Chk.bytes c).map bRow).length) (W_fit (by simp;omega) (by simp;omega)) ?_;conv=>whnf
   refine sFm ?_
   exact ⟨⟨(k+1,n+(Chk.bytes c).length),hlt,by dsimp only;rw [hsucc];simp;omega,by dsimp only;left;push_cast;omega,hi⟩,zbo [] rfl rfl rfl rfl ⟨⟨rfl,rfl⟩,⟨rfl,rfl⟩,⟨rfl,by simp;rfl⟩,⟨rfl,rfl⟩,⟨rfl,rfl⟩,⟨rfl,by simp;rfl⟩,trivial⟩ trivial,by dsimp only;omega⟩
 . have hge:l.length <= k:=by simpa using c1
   rw [List.drop_eq_nil_of_le hge] at hi
   conv=>whnf
   have hkl:k=l.length:=by omega
   simp only [zdq] at hi
   rw [<- hi,hkl]
   simp
end Pck
end Go.HL
namespace Go.HL
open Go.Proofs
namespace Pck
open Chk
set_option maxHeartbeats 2000000
set_option maxRecDepth 100000
set_option linter.unusedSimpArgs false
theorem zht {l:List Chunk} {k:Nat} (h:k < l.length) (h0:zbt (l.take k)=0):zbt (l.take (k+1))=wrong l[k]:=by
 rw [<- List.take_append_getElem h]
 generalize l.take k=a at h0 ⊢
 generalize l[k]=c
 induction a with
 | nil=>simp only [List.nil_append,zbt];split <;> omega
 | cons x r ih =>
  simp only [zbt] at h0
  split at h0
  . contradiction
  . rename_i hx
    simp only [List.cons_append,zbt]
    rw [if_neg hx]
    exact ih h0
structure Fits (l:List Chunk) (most:Int) (k:Nat):Prop where
 le:k <= l.length
 fine:zbt (l.take k)=0
 much:((zbf (l.take k)).length:Int) <= most \/ k=0
theorem Fits.zero (l:List Chunk) (most:Int):Fits l most 0:=⟨by omega,by simp [zbt],.inr rfl⟩
theorem ybr {l:List Chunk} {most:Int} {k:Nat} (h:k < l.length) (hf:Fits l most k) :
 ((pbytes (l.take (k+1)) most).2 ≠ 0 ↔ (wrong l[k] ≠ 0 \/ ((Chk.bytes l[k]).length:Int) > most - (zbf (l.take k)).length)):=by
 have h1:=zht h hf.fine
 have h2:(zbf (l.take (k+1))).length=(zbf (l.take k)).length+(Chk.bytes l[k]).length:=by rw [zdi h];simp
 have h3:¬ (l.take (k+1)).length=0:=by rw [List.length_take];omega
 rw [pbytes,if_neg h3,h1]
 by_cases hw:wrong l[k] ≠ 0
 . rw [if_pos hw]
   exact ⟨fun h=>.inl hw,fun _=>hw⟩
 . rw [if_neg hw]
   split
   . exact ⟨fun _=>.inr (by omega),fun _=>by decide⟩
   . exact ⟨fun h=>absurd rfl h,fun h=>by rcases h with h | h;exact absurd h hw;omega⟩
theorem Fits.next {l:List Chunk} {most:Int} {k:Nat} (h:k < l.length) (hf:Fits l most k) (hn:¬ (wrong l[k] ≠ 0 \/ ((Chk.bytes l[k]).length:Int) > most - (zbf (l.take k)).length)):Fits l most (k+1):=by
 have h1:=zht h hf.fine
 have h2:(zbf (l.take (k+1))).length=(zbf (l.take k)).length+(Chk.bytes l[k]).length:=by rw [zdi h];simp
 refine ⟨h,?_,.inl ?_⟩
 . rw [h1];rcases Int.decEq (wrong l[k]) 0 with h | h;exact absurd (.inl h) hn;exact h
 . have:¬ ((Chk.bytes l[k]).length:Int) > most - (zbf (l.take k)).length:=fun h=>hn (.inr h)
   omega
theorem ybs {l:List Chunk} {most:Int}:∀ {j k:Nat},l.length - k=j -> Fits l most k -> ∃ r,zdq most (zbf (l.take k)).length k (l.drop k)=(r:Nat) /\ Fits l most r /\ (r < l.length -> (pbytes (l.take (r+1)) most).2 ≠ 0)
 | 0,k,hj,hf=>by
  have hk:k=l.length:=by have:=hf.le;omega
  refine ⟨k,?_,hf,fun h=>absurd h (by omega)⟩
  rw [List.drop_eq_nil_of_le (by omega)];rfl
 | j+1,k,hj,hf=>by
  have hlt:k < l.length:=by omega
  have hs:=ybr hlt hf
  rw [List.drop_eq_getElem_cons hlt]
  simp only [zdq]
  by_cases hc:wrong l[k] ≠ 0 \/ ((Chk.bytes l[k]).length:Int) > most - (zbf (l.take k)).length
  . rw [if_pos hc]
    exact ⟨k,rfl,hf,fun _=>hs.2 hc⟩
  . rw [if_neg hc]
    obtain ⟨r,h1,h2,h3⟩:=ybs (j:=j) (k:=k+1) (by omega) (hf.next hlt hc)
    rw [zdi hlt,List.length_append] at h1
    exact ⟨r,h1,h2,h3⟩
theorem zyw (l:List Chunk) (most:Int):∃ r,zdq most 0 0 l=(r:Nat) /\ Fits l most r /\ (r < l.length -> (pbytes (l.take (r+1)) most).2 ≠ 0):=by
 have:=ybs (l:=l) (most:=most) rfl (Fits.zero l most)
 simpa [zbf] using this
theorem Sized.take {l:List Chunk} (h:Sized l) (k:Nat):Sized (l.take k):=⟨by have:=h.1;simp;omega,fun c hc=>h.2 c (List.mem_of_mem_take hc)⟩
theorem zvp (l:List Chunk) (most:Int) (hl:Sized l):FunOK Tryz.prog 104 [chunks l,i64 most] zac (i64 (zdq most 0 0 l)) zac:=by
 have hl1:=hl.1
 refine zah mixed Tryz.func104 (by decide) ?_
 conv=>whnf
 refine hcut.go ?_;conv=>whnf
 refine ⟨{ k:Nat // Fits l most k /\ zdq most (zbf (l.take k)).length k (l.drop k)=zdq most 0 0 l },fun | ⟨k,_⟩=>hs 26 [(0,chunks l),(1,i64 most),(5,i64 k)] [],fun x=>l.length - x.1,⟨0,Fits.zero l most,by simp [zbf]⟩,?_,?_⟩
 . exact zbo [] rfl rfl rfl rfl ⟨⟨rfl,rfl⟩,⟨rfl,rfl⟩,⟨rfl,rfl⟩,trivial⟩ trivial
 rintro ⟨k,hf,hi⟩
 conv=>whnf
 refine zaf (fun c1=>?_) (fun c1=>?_)
 . have hlt:k < l.length:=by simpa using c1
   have hstep:=ybr hlt hf
   have hnext:=hf.next hlt
   have hsucc:=zdi hlt
   rw [List.drop_eq_getElem_cons hlt] at hi
   simp only [zdq] at hi
   conv=>whnf
   refine sFm ?_
   refine sOm ?_
   refine zgi (o':=0) (n':=k+1) rfl (by omega) ?_
   refine zee (l:=l) (by omega) ?_
   rw [List.drop_zero]
   conv=>whnf
   refine zcf ?_;conv=>whnf
   refine ⟨_,zgd (l.take (k+1)) most (hl.take _),rfl,?_⟩;conv=>whnf
   refine zaf (fun c2=>?_) (fun c2=>?_)
   . have c2:(pbytes (l.take (k+1)) most).2 ≠ 0:=by simpa using c2
     rw [if_pos (hstep.1 c2)] at hi
     conv=>whnf
     rw [<- hi]
   . have c2:(pbytes (l.take (k+1)) most).2=0:=by simpa using c2
     have hn:¬ (wrong l[k] ≠ 0 \/ ((Chk.bytes l[k]).length:Int) > most - (zbf (l.take k)).length):=fun h=>hstep.2 h c2
     rw [if_neg hn] at hi
     conv=>whnf
     refine sFm ?_
     exact ⟨⟨k+1,hnext hn,by rw [hsucc,List.length_append];exact hi⟩,zbo [] rfl rfl rfl rfl ⟨⟨rfl,rfl⟩,⟨rfl,rfl⟩,⟨rfl,by simp;rfl⟩,trivial⟩ trivial,by dsimp only;omega⟩
 . have hge:l.length <= k:=by simpa using c1
   rw [List.drop_eq_nil_of_le hge] at hi
   conv=>whnf
   rw [<- hi]
   rfl
def zek:Nat -> List UInt8 -> List Chunk × Int
 | 0,_=>([],0)
 | f+1,b=>if b.length=0 then ([],0) else if (parse b).2.2 ≠ 0 then ([],(parse b).2.2) else
  if (zek f (b.drop (parse b).2.1.toNat)).2 ≠ 0 then ([],(zek f (b.drop (parse b).2.1.toNat)).2) else ((parse b).1 :: (zek f (b.drop (parse b).2.1.toNat)).1,0)
def pparse (b:List UInt8):List Chunk × Int:=if b.length=0 then ([],5) else zek b.length b
theorem yop {b:List UInt8} (h:(parse b).2.2=0):2 <= (parse b).2.1:=by
 unfold parse at h ⊢
 (repeat' split at h) <;> first | contradiction | skip
 all_goals (repeat' split) <;> first | contradiction | (dsimp only;omega)
theorem yen:∀ (f:Nat) (b:List UInt8),(zek f b).2 ≠ 0 -> (zek f b).1=[]
 | 0,b,h=>rfl
 | f+1,b,h=>by
  rw [zek] at h ⊢
  split
  . rfl
  split
  . rfl
  split
  . rfl
  . rename_i h1 h2 h3
    rw [if_neg h1,if_neg h2,if_neg h3] at h
    exact absurd rfl h
theorem zvq (b:List UInt8) (hb:b.length < 2 ^ 37):FunOK Tryz.prog 145 [byts b] zac (.tup [chunks (pparse b).1,i64 (pparse b).2]) zac:=by
 refine zah mixed Tryz.func145 (by decide) ?_
 conv=>whnf
 refine zaf (fun c1=>?_) (fun c1=>?_)
 . have c1:b.length=0:=by simpa using c1
   rw [pparse,if_pos c1]
   conv=>whnf
   rfl
 have c1:¬ b.length=0:=by simpa using c1
 rw [pparse,if_neg c1]
 generalize hR:zek b.length b=R
 conv=>whnf
 refine ⟨{ x:Nat × List UInt8 × List Chunk // x.2.1.length <= x.1 /\ x.2.2.length+x.2.1.length <= b.length /\ R.2=(zek x.1 x.2.1).2 /\ ((zek x.1 x.2.1).2=0 -> R.1=x.2.2++(zek x.1 x.2.1).1) /\ (R.2 ≠ 0 -> R.1=[]) },fun | ⟨(f,b',acc),_⟩=>hs 31 [(0,byts b'),(4,.own 900)] [(900,.live (.row 61 11 (acc.map Chunk.row)))],fun x=>x.1.2.1.length,⟨(b.length,b,[]),by dsimp only;omega,by simp,by dsimp only;rw [hR],fun _=>by dsimp only;rw [hR];rfl,by rw [<- hR];exact yen _ _⟩,?_,?_⟩
 . exact zbo [(900,none)] rfl rfl rfl rfl ⟨⟨rfl,rfl⟩,⟨rfl,rfl⟩,trivial⟩ ⟨⟨rfl,.inr ⟨rfl,rfl⟩⟩,trivial⟩
 rintro ⟨⟨f,b',acc⟩,hf,hlen,h1,h2,h3⟩
 dsimp only at hf hlen h1 h2 h3
 conv=>whnf
 refine zaf (fun c2=>?_) (fun c2=>?_)
 . have c2:0 < b'.length:=by have:=of_decide_eq_true c2;rw [List.length_map] at this;omega
   obtain ⟨g,rfl⟩:∃ g,f=g+1:=⟨f - 1,by omega⟩
   rw [zek,if_neg (by omega)] at h1 h2
   have hn:=yop (b:=b')
   have hg:=yem (b:=b')
   obtain ⟨q1,q2⟩:=yhm b'
   conv=>whnf
   refine zcf ?_;conv=>whnf
   refine ⟨_,zyv b' (by omega),rfl,?_⟩
   generalize parse b'=p at h1 h2 hn hg q1 q2 ⊢
   obtain ⟨c,n,e⟩:=p
   dsimp only at h1 h2 hn hg q1 q2
   conv=>whnf
   refine zaf (fun c3=>?_) (fun c3=>?_)
   . have c3:e ≠ 0:=by simpa using c3
     rw [if_pos c3] at h1
     dsimp only at h1
     have h4:=h3 (by rw [h1];exact c3)
     conv=>whnf
     rw [h4,h1]
     try rfl
   have c3:e=0:=by simpa using c3
   rw [if_neg (fun h=>h c3)] at h1 h2
   have hn:=hn c3
   obtain ⟨g1,g2,g3,g4⟩:=hg c3
   conv=>whnf
   refine zaa (c:=((acc.map Chunk.row).length+1) * 128 <= 140737488355328) (by simp;omega) ?_;conv=>whnf
   refine zaa ⟨g2,by rw [List.length_map];exact g3,by omega⟩ ?_;conv=>whnf
   refine zez (l:=b') (by rw [List.length_map];show n.toNat+((b'.length:Int) - n).toNat=b'.length;omega) ?_
   conv=>whnf
   try (refine zas ?_ ?_;· kernel_rfl)
   try conv=>whnf
   refine ⟨⟨(g,b'.drop n.toNat,acc++[c]),by dsimp only;rw [List.length_drop];omega,by dsimp only;rw [List.length_drop,List.length_append];simp;omega,?_,?_,h3⟩,zbo [(900,some 26)] rfl rfl rfl rfl ⟨⟨rfl,rfl⟩,⟨rfl,rfl⟩,trivial⟩ ⟨⟨rfl,.inl ⟨26,rfl,?_⟩⟩,trivial⟩,by dsimp only;rw [List.length_drop];omega⟩
   . dsimp only
     rw [h1]
     split
     . rfl
     . rename_i h;exact (Decidable.of_not_not h).symm
   . dsimp only
     intro h
     rw [if_neg (fun h'=>h' h)] at h2
     have:=h2 rfl
     rw [this];simp
   . show HSlot.live (.row _ 11 (acc.map Chunk.row++[c.row]))=HSlot.live (.row _ 11 ((acc++[c]).map Chunk.row))
     rw [List.map_append]
     rfl
 . have c2:b'.length=0:=by have:=of_decide_eq_false c2;rw [List.length_map] at this;omega
   have h4:zek f b'=([],0):=by
    cases f with
    | zero=>rfl
    | succ f=>rw [zek,if_pos c2]
   rw [h4] at h1 h2
   have h5:=h2 rfl
   rw [List.append_nil] at h5
   have h1:R.2=0:=h1
   conv=>whnf
   rw [h5,h1]
   try rfl
end Pck
end Go.HL
namespace Go.HL
open Go.Proofs
namespace Snd
open Ser
set_option linter.unusedSimpArgs false
def newS (c:Config):Sender:=⟨c,0,[],Sch.new c.streams,[],List.replicate c.paths.toNat (Paths.new c.part),c.first - 1,c.first,400,List.replicate (2 * c.streams).toNat 0,[],false,c.first - 1⟩
def noS:Sender:=⟨⟨0,0,0,0,0,0,0⟩,0,[],⟨0,0,[]⟩,[],[],0,0,0,[],[],false,0⟩
def zdo (s:Sender) (m:Message):Int :=
 if m.stream < 0 \/ m.stream >= s.config.streams \/ m.life < 0 \/ m.life > 1000 \/ m.tries < 0 \/ m.tries > 1000 then 3 else
 if m.data.length < 1 \/ m.data.length > 60 then 4 else if (s.queue.length:Int) >= s.config.waiting then 7 else 0
def sendS (s:Sender) (m:Message):Sender:={ s with queue:=s.queue++[⟨s.fates.length,-1,s.clock,0,0,m⟩],fates:=s.fates++[1] }
def flP (out:List Sent) (i:Nat) (p:Path):Path:={ p with flight:=(Sco.fl i out:Nat) }
def flights (s:Sender):Sender:={ s with paths:=s.paths.mapIdx fun i p=>flP s.out i p }
def endOf (next:Int) (m:Queued):Sent:=⟨next,m.id,0,0,0,0,0,0,0,⟨1,tag next,m.message.stream,tag m.mid,m.parts,true,m.message.ordered,[],[],0,[]⟩⟩
def end1 (id:Int) (s:Sender) (m:Queued):Sender:=if m.id=id /\ m.parts > 0 then { s with out:=s.out++[endOf s.next m],next:=W (s.next+1) } else s
def giveS (s:Sender) (id:Int):Sender :=
 let t:=s.queue.foldl (end1 id) { s with fates:=s.fates.set id.toNat 3 }
 flights { t with queue:=s.queue.filter fun m=>decide (m.id ≠ id),sched:=if s.sched.hand=id then { s.sched with hand:=-1 } else s.sched,out:=t.out.map (Sco.give id),forward:=true }
def old (clock came life:Int):Bool:=decide (life > 0) && decide (W (clock - came) >= life)
def expQ (s:Sender) (m:Queued):Sender:=if old s.clock m.came m.message.life then giveS s m.id else s
def dueX (s:Sender) (x:Sent):Bool:=decide (s.fates[x.id.toNat]?.getD 0=1) && (decide (x.state ≠ 2) && (old s.clock x.came x.life || (decide (x.state=3) && (decide (x.tries > 0) && decide (x.times > x.tries)))))
def expX (s:Sender) (x:Sent):Sender:=if dueX s x then giveS s x.id else s
def expire (s:Sender):Sender:=(s.queue.foldl expQ s).out.foldl expX (s.queue.foldl expQ s)
structure Pump where
 s:Sender
 out:List (List Chunk)
def flyX (x:Sent) (path:Int):Sent:={ x with state:=1,path:=path,missed:=0,times:=W (x.times+1) }
def setAt {α:Type} (l:List α) (k:Nat) (f:α -> α):List α:=match l[k]? with
 | none=>l
 | some x=>l.set k (f x)
def fly (p:Pump) (i path:Nat):Pump:=match p.s.out[i]? with
 | none=>p
 | some x=>⟨{ p.s with out:=p.s.out.set i (flyX x path),paths:=setAt p.s.paths path fun a=>{ a with flight:=W (a.flight+x.chunk.data.length) } },setAt p.out path (·++[x.chunk])⟩
def opened (s:Sender) (path:Nat):Bool:=match s.paths[path]? with
 | none=>false
 | some a=>decide (a.flight < a.window)
def zbx (path:Nat) (p:Pump) (i:Nat):Pump:=match p.s.out[i]? with
 | none=>p
 | some x=>if x.state=3 /\ opened p.s path=true then fly p i path else p
def choose (s:Sender):Nat:=(Paths.zco 0 s.paths).toNat
def again (p:Pump):Pump:=(List.range p.s.out.length).foldl (zbx (choose p.s)) p
def flight (s:Sender):Int:=s.paths.foldl (fun n a=>W (n+a.flight)) 0
def midAt (s:Sender) (m:Queued):Nat:=(m.message.stream+if m.message.ordered then 0 else s.config.streams).toNat
def midOf (s:Sender) (m:Queued):Int:=if m.mid < 0 then s.mids[midAt s m]?.getD 0 else m.mid
def zcj (s:Sender) (m:Queued):List Int:=if m.mid < 0 then setAt s.mids (midAt s m) (fun n=>W (n+1)) else s.mids
def cut (s:Sender) (m:Queued) (n:Int):Chunk:=⟨1,tag s.next,m.message.stream,tag (midOf s m),m.parts,decide (m.sent+n=m.message.data.length),m.message.ordered,(m.message.data.drop m.sent.toNat).take n.toNat,[],0,[]⟩
def many (s:Sender) (m:Queued):Int:=if (m.message.data.length:Int) - m.sent < s.config.part then (m.message.data.length:Int) - m.sent else s.config.part
def next1 (p:Pump) (k:Nat) (m:Queued) (n:Int):Pump :=
 let over:=decide (m.sent+n=m.message.data.length)
 let m':Queued:={ m with mid:=midOf p.s m }
 let s:={ p.s with mids:=zcj p.s m,sched:=Sch.had p.s.sched m' n over,out:=p.s.out++[⟨p.s.next,m.id,0,0,0,0,m.came,m.message.life,m.message.tries,cut p.s m n⟩],next:=W (p.s.next+1),queue:=if over then p.s.queue.eraseIdx k else p.s.queue.set k { m' with sent:=m.sent+n,parts:=W (m.parts+1) } }
 fly ⟨s,p.out⟩ p.s.out.length (choose p.s)
def zcu (s:Sender):Int:=Sch.next s.config.turns s.sched s.queue
def next (p:Pump):Option Pump :=
 if zcu p.s < 0 \/ opened p.s (choose p.s)=false \/ (p.s.out.length:Int) >= 60 then none else match p.s.queue[(zcu p.s).toNat]? with
  | none=>none
  | some m=>if flight p.s > 0 /\ W (flight p.s+many p.s m) > p.s.room then none else some (next1 p (zcu p.s).toNat m (many p.s m))
def nexts:Nat -> Pump -> Pump
 | 0,p=>p
 | n+1,p=>match next p with
  | none=>p
  | some q=>nexts n q
def alarm (s:Sender) (a:Path):Path:=if a.alarm=0 then { a with alarm:=W (s.clock+a.wait) } else a
def forward (p:Pump):Pump:=if p.s.forward=false \/ (Sco.point p.s.out p.s.cum).1=p.s.cum then p else
 ⟨{ p.s with forward:=false,paths:=setAt p.s.paths (choose p.s) (alarm p.s) },setAt p.out (choose p.s) (·++[⟨3,tag (Sco.point p.s.out p.s.cum).1,0,0,0,false,false,[],[],0,(Sco.point p.s.out p.s.cum).2⟩])⟩
def room1 (most:Int) (l:List Chunk):Int:=if 1 > Pck.zdq most 0 0 l then 1 else Pck.zdq most 0 0 l
def pack1 (most:Int) (path:Int) (l:List Chunk):List Packet:=if (Pck.pbytes (l.take (room1 most l).toNat) most).2=0 then [⟨path,false,(Pck.pbytes (l.take (room1 most l).toNat) most).1⟩] else []
def packN (most:Int) (path:Int):Nat -> List Chunk -> List Packet
 | 0,_=>[]
 | n+1,l=>if l=[] then [] else pack1 most path l++packN most path n (l.drop (room1 most l).toNat)
def zay (most:Int):Nat -> List (List Chunk) -> List Packet
 | _,[]=>[]
 | k,l :: r=>packN most k l.length l++zay most (k+1) r
def wake (s:Sender) (n:Int) (a:Path):Path:=if a.flight > 0 /\ a.alarm=0 then { a with alarm:=W (s.clock+a.wait) } else if a.flight=0 /\ n=s.cum then { a with alarm:=0 } else a
def woken (s:Sender):Sender:={ s with paths:=s.paths.map (wake s (Sco.point s.out s.cum).1) }
def pumpP (s:Sender):Pump:=nexts 61 (again (forward ⟨expire s,List.replicate s.paths.length []⟩))
def pump (s:Sender):Sender × List Packet:=(woken (pumpP s).s,zay s.config.packet 0 (pumpP s).out)
def settled (s:Sender) (id:Nat) (f:Int):Int:=if f=1 /\ (s.queue.any fun m=>decide (m.id=(id:Int)))=false /\ (s.out.any fun x=>decide (x.id=(id:Int)) && decide (x.state ≠ 2))=false then 2 else f
def settle (s:Sender):Sender:={ s with fates:=s.fates.mapIdx fun id f=>settled s id f }
def heard (s:Sender) (c:Chunk):Sender :=
 let k:=Sco.sack s.out s.cum c s.paths.length
 let moved:=decide (k.2.1 > s.cum)
 let t:=flights { s with out:=k.1,cum:=k.2.1,room:=c.room,paths:=s.paths.mapIdx fun i p=>if k.2.2.1[i]?.getD 0 > 0 then Paths.acked p (k.2.2.1[i]?.getD 0) s.config.part moved else p }
 let u:=match k.2.2.2.getLast? with
  | none=>t
  | some z=>if z > t.recover then { t with paths:=setAt t.paths (choose t) fun p=>Paths.halved p s.config.part,recover:=W (t.next - 1) } else t
 settle (if moved=true /\ (Sco.point u.out u.cum).1 > u.cum then { u with forward:=true } else u)
def hear (s:Sender) (c:Chunk):Sender:=if c.kind ≠ 2 then s else if near s.cum c.tag < s.cum \/ near s.cum c.tag > s.cum+s.out.length then s else heard s c
def late1 (part:Int) (s:Sender) (i:Nat):Sender:=match s.paths[i]? with
 | none=>s
 | some p=>if p.alarm=0 \/ s.clock < p.alarm then s else
  let t:={ s with out:=s.out.map (Sco.late i),paths:=s.paths.set i (Paths.late p part) }
  if (Sco.point t.out t.cum).1 > t.cum then { t with forward:=true } else t
def tick (s:Sender):Sender:=(List.range s.paths.length).foldl (late1 s.config.part) { s with clock:=W (s.clock+1) }
def calm (s:Sender):Bool:=decide (s.queue.length=0) && decide (s.out.length=0)
end Snd
end Go.HL
namespace Go.HL
open Go.Proofs
namespace Snd
open Ser
set_option maxHeartbeats 4000000
set_option maxRecDepth 100000
set_option linter.unusedSimpArgs false
abbrev rowQ (l:List Queued):HSlot:=.live (.row 117 10 (l.map Queued.row))
abbrev rowX (l:List Sent):HSlot:=.live (.row 134 20 (l.map Sent.row))
abbrev rowW (l:List Path):HSlot:=.live (.row 86 7 (l.map Path.row))
abbrev rowT (l:List Int):HSlot:=.live (.row 3 1 (l.map fun n=>[pi n]))
abbrev rowK (l:List Chunk):HSlot:=.live (.row 61 11 (l.map Chunk.row))
abbrev pths (l:List Path):HV:=.p (.sl 7 (l.map Path.row))
def sndC (s:Sender) (q h o p m f:HV):List HV:=[i64 s.config.streams,i64 s.config.part,i64 s.config.packet,i64 s.config.paths,i64 s.config.turns,i64 s.config.waiting,i64 s.config.first,i64 s.clock,q,i64 s.sched.last,i64 s.sched.hand,h,o,p,i64 s.cum,i64 s.next,i64 s.room,m,f,hbool s.forward,i64 s.recover]
def pmpC (s:Sender) (q h o p m f x:HV):List HV:=[i64 s.config.streams,i64 s.config.part,i64 s.config.packet,i64 s.config.paths,i64 s.config.turns,i64 s.config.waiting,i64 s.config.first,i64 s.clock,q,i64 s.sched.last,i64 s.sched.hand,h,o,p,i64 s.cum,i64 s.next,i64 s.room,m,f,hbool s.forward,i64 s.recover,x]
abbrev sndO (s:Sender) (a b c d e f:Nat):HV:=.agg (sndC s (.own a) (.own b) (.own c) (.own d) (.own e) (.own f))
abbrev sndB (s:Sender) (a b c d e f:Nat) (L:List (Nat × HSlot)):List (Nat × HSlot):=(a,rowQ s.queue) :: (b,rowT s.sched.had) :: (c,rowX s.out) :: (d,rowW s.paths) :: (e,rowT s.mids) :: (f,rowT s.fates) :: L
abbrev snG0 (s:Sender) (q h o p m f:Nat) (L:List (Nat × HSlot)):List (Nat × HSlot):=(1000,.live (.cells 32 (sndC s (.own q) (.own h) (.own o) (.own p) (.own m) (.own f)))) :: sndB s q h o p m f L
abbrev snG1 (s:Sender) (a:List Chunk) (q h o p m f x c:Nat) (L:List (Nat × HSlot)):List (Nat × HSlot):=(1000,.live (.cells 139 (pmpC s (.own q) (.own h) (.own o) (.own p) (.own m) (.own f) (.own x)))) :: sndB s q h o p m f ((x,.live (.cells 145 [.own c])) :: (c,rowK a) :: L)
abbrev snG2 (s:Sender) (a b:List Chunk) (q h o p m f x c d:Nat) (L:List (Nat × HSlot)):List (Nat × HSlot):=(1000,.live (.cells 139 (pmpC s (.own q) (.own h) (.own o) (.own p) (.own m) (.own f) (.own x)))) :: sndB s q h o p m f ((x,.live (.cells 145 [.own c,.own d])) :: (c,rowK a) :: (d,rowK b) :: L)
abbrev snG3 (s:Sender) (q h o p m f x:Nat) (L:List (Nat × HSlot)):List (Nat × HSlot):=(1000,.live (.cells 139 (pmpC s (.own q) (.own h) (.own o) (.own p) (.own m) (.own f) (.own x)))) :: sndB s q h o p m f ((x,.live (.cells 145 [hnil])) :: L)
abbrev snG4 (s:Sender) (q h o p m f x:Nat) (L:List (Nat × HSlot)):List (Nat × HSlot):=(1000,.live (.cells 139 (pmpC s (.own q) (.own h) (.own o) (.own p) (.own m) (.own f) (.own x)))) :: sndB s q h o p m f ((x,.live (.cells 145 [hnil,hnil])) :: L)
abbrev pH0 (s:Sender) :List (Nat × HSlot):=snG0 s  1001 1002 1003 1004 1005 1006  []
abbrev pD0 (s:Sender) :List (Nat × HSlot):=snG0 s  0 1 2 3 4 5 [(1001,.dead),(1002,.dead),(1003,.dead),(1004,.dead),(1005,.dead),(1006,.dead)]
abbrev pH1 (s:Sender) (a:List Chunk):List (Nat × HSlot):=snG1 s a 1001 1002 1003 1004 1005 1006 1007 1008 []
abbrev pD1 (s:Sender) (a:List Chunk):List (Nat × HSlot):=snG1 s a 0 1 2 3 4 5 1007 6 [(1001,.dead),(1002,.dead),(1003,.dead),(1004,.dead),(1005,.dead),(1006,.dead),(1008,.dead)]
abbrev pH2 (s:Sender) (a b:List Chunk):List (Nat × HSlot):=snG2 s a b 1001 1002 1003 1004 1005 1006 1007 1008 1009 []
abbrev pD2 (s:Sender) (a b:List Chunk):List (Nat × HSlot):=snG2 s a b 0 1 2 3 4 5 1007 6 7 [(1001,.dead),(1002,.dead),(1003,.dead),(1004,.dead),(1005,.dead),(1006,.dead),(1008,.dead),(1009,.dead)]
abbrev pH3 (s:Sender) :List (Nat × HSlot):=snG3 s  1001 1002 1003 1004 1005 1006 1007 []
abbrev pD3 (s:Sender) :List (Nat × HSlot):=snG3 s  0 1 2 3 4 5 1007 [(1001,.dead),(1002,.dead),(1003,.dead),(1004,.dead),(1005,.dead),(1006,.dead)]
abbrev pH4 (s:Sender) :List (Nat × HSlot):=snG4 s  1001 1002 1003 1004 1005 1006 1007 []
abbrev pD4 (s:Sender) :List (Nat × HSlot):=snG4 s  0 1 2 3 4 5 1007 [(1001,.dead),(1002,.dead),(1003,.dead),(1004,.dead),(1005,.dead),(1006,.dead)]
abbrev zeroS:List HV:=[i64 0,i64 0,i64 0,i64 0,i64 0,i64 0,i64 0,i64 0,hnil,i64 0,i64 0,hnil,hnil,hnil,i64 0,i64 0,i64 0,hnil,hnil,hbool false,i64 0]
structure Fit (s:Sender):Prop where
 queue:s.queue.length < 2 ^ 22
 had:s.sched.had.length < 2 ^ 22
 out:Sco.Sized s.out
 paths:s.paths.length < 2 ^ 22
 mids:s.mids.length < 2 ^ 22
 fates:s.fates.length < 2 ^ 30
 data:∀ m ∈ s.queue,m.message.data.length < 2 ^ 38
theorem zdb (s:Sender) (hs:Fit s):FunOK Tryz.prog 33 [s.hv] zac (sndO s 0 1 2 3 4 5) (lk .free (sndB s 0 1 2 3 4 5 [])):=by
 obtain ⟨h1,h2,h3,h4,h5,h6,h7⟩:=hs
 refine zal mixed Tryz.func33 (by decide) [] (fun _=>.inl rfl) ?_
 conv=>whnf
 refine ⟨{ x:List Queued × List Queued // s.queue=x.1++x.2 },fun | ⟨(A,B),_⟩=>hs 47 [(1,.ptr 1 0),(2,.ptr 2 0),(3,.own 900),(7,Sch.qs s.queue),(8,i64 s.queue.length),(9,i64 A.length)] [(1,.live (.cells 32 (sndC s (Sch.qs s.queue) (ints s.sched.had) (Sco.sents s.out) (pths s.paths) (ints s.mids) (ints s.fates)))),(2,.live (.cells 32 zeroS)),(900,rowQ A)],fun x=>x.1.2.length,⟨([],s.queue),rfl⟩,?_,?_⟩
 . exact (hle_Q [(1,some 1),(2,some 2),(900,none)])
 rintro ⟨⟨A,B⟩,h⟩
 dsimp only at h
 conv=>whnf
 cases B with
 | cons p B =>
  have hz:=zar h
  have hp:=h7 p (zfb h)
  refine sT ?_
  refine zaj h rfl ?_;conv=>whnf
  (refine zap [(0,16)]  ?_;(conv=>whnf);refine dO (Cl.zcz p.message.data (by omega)) ?_)
  refine zaa (c:=((A.map Queued.row).length+1) * 96 <= 140737488355328) (by simp;omega) ?_;conv=>whnf
  refine sF ?_
  refine ⟨⟨(A++[p],B),zae h⟩,(hle_X [(1,some 1),(2,some 2),(900,some 22)] (by repeat' (first | exact z0 | refine z1 ?_ | refine ⟨?_,?_⟩ | ((exact zat (f:=Queued.row) rfl rfl)) | exact z2))),by simp⟩
 | nil =>
  have hz:=zaz h
  rw [List.append_nil] at h
  refine sN ?_
  (refine zap [(0,27)]  ?_;(conv=>whnf);refine dO (Sch.zdb s.sched (by omega)) ?_)
  (refine zap [(0,30)]  ?_;(conv=>whnf);refine dO (Sco.zdb s.out h3) ?_)
  refine sD ?_
  (refine zap [(0,36)]  ?_;(conv=>whnf);refine dO (Cl.zyn s.paths (by omega)) ?_)
  (refine zap [(0,39)]  ?_;(conv=>whnf);refine dO (Cl.zqi s.mids (by omega)) ?_)
  (refine zap [(0,42)]  ?_;(conv=>whnf);refine dO (Cl.zqi s.fates (by omega)) ?_)
  refine sD ?_
  refine zau [(0,some 900),(1,some 27),(2,some 30),(3,some 36),(4,some 39),(5,some 42)] rfl rfl trivial rfl rfl ⟨⟨rfl,.inl ⟨900,rfl,?_⟩⟩,⟨rfl,.inl ⟨27,rfl,rfl⟩⟩,⟨rfl,.inl ⟨30,rfl,rfl⟩⟩,⟨rfl,.inl ⟨36,rfl,rfl⟩⟩,⟨rfl,.inl ⟨39,rfl,rfl⟩⟩,⟨rfl,.inl ⟨42,rfl,rfl⟩⟩,trivial⟩
  exact zao (by rw [h])
theorem zvr (s:Sender)  (came life:Int):FunOK Tryz.prog 130 [.ptr 1000 0,i64 came,i64 life] (lk .free (pH3 s )) (hbool (old s.clock came life)) (lk .free (pH3 s )):=by
 refine zal mixed Tryz.func130 (by decide) [1000,1001,1002,1003,1004,1005,1006,1007] zbn ?_
 conv=>whnf
 by_cases c1:life > 0
 . refine sT ?_
   refine sR ?_
   try refine sT ?_
   (exact zbz (pK8 []) (by repeat' (first | exact z0 | refine z1 ?_ | refine ⟨?_,?_⟩ | ((simp [old,c1];rfl)) | ((simp [old,c1])) | exact z2)))
 . refine sN ?_
   try refine sN ?_
   (exact zbz (pK8 []) (by repeat' (first | exact z0 | refine z1 ?_ | refine ⟨?_,?_⟩ | ((simp [old,c1];rfl)) | ((simp [old,c1])) | exact z2)))
theorem zvs (s:Sender)  (came life:Int):FunOK Tryz.prog 130 [.ptr 1000 0,i64 came,i64 life] (lk .free (pH4 s )) (hbool (old s.clock came life)) (lk .free (pH4 s )):=by
 refine zal mixed Tryz.func130 (by decide) [1000,1001,1002,1003,1004,1005,1006,1007] zbn ?_
 conv=>whnf
 by_cases c1:life > 0
 . refine sT ?_
   refine sR ?_
   try refine sT ?_
   (exact zbz (pK8 []) (by repeat' (first | exact z0 | refine z1 ?_ | refine ⟨?_,?_⟩ | ((simp [old,c1];rfl)) | ((simp [old,c1])) | exact z2)))
 . refine sN ?_
   try refine sN ?_
   (exact zbz (pK8 []) (by repeat' (first | exact z0 | refine z1 ?_ | refine ⟨?_,?_⟩ | ((simp [old,c1];rfl)) | ((simp [old,c1])) | exact z2)))
theorem zvt (s:Sender) (a:List Chunk) (h4:s.paths.length < 2 ^ 22):FunOK Tryz.prog 136 [.ptr 1000 0] (lk .free (pH1 s a)) (i64 (flight s)) (lk .free (pH1 s a)):=by
 refine zal mixed Tryz.func136 (by decide) [1000,1001,1002,1003,1004,1005,1006,1007,1008] zbn ?_
 conv=>whnf
 refine ⟨{ x:List Path × List Path // s.paths=x.1++x.2 },fun | ⟨(A,B),_⟩=>hsP [1000,1001,1002,1003,1004,1005,1006,1007,1008] 22 [(3,i64 (A.foldl (fun n a=>W (n+a.flight)) 0)),(10,.own 1004),(11,i64 s.paths.length),(12,i64 A.length)] (pH1 s a),fun x=>x.1.2.length,⟨([],s.paths),rfl⟩,?_,?_⟩
 . exact (hle_Y (pK9 []) (by repeat' (first | exact z0 | refine z1 ?_ | refine ⟨?_,?_⟩ | ((exact zbg om)) | exact z2)))
 rintro ⟨⟨A,B⟩,h⟩
 dsimp only at h
 conv=>whnf
 cases B with
 | cons p B =>
  have hz:=zar h
  refine sT ?_
  refine sO ?_
  refine zaj h rfl ?_;conv=>whnf
  refine sR ?_
  refine sF ?_
  exact ⟨⟨(A++[p],B),zae h⟩,(hle_Y (pK9 []) (by repeat' (first | exact z0 | refine z1 ?_ | refine ⟨?_,?_⟩ | ((exact zbg (by rw [List.foldl_append];rfl))) | exact z2))),by simp⟩
 | nil =>
  have hz:=zaz h
  rw [List.append_nil] at h
  refine sN ?_
  (exact zbz (pK9 []) (by repeat' (first | exact z0 | refine z1 ?_ | refine ⟨?_,?_⟩ | ((rw [flight,h];rfl)) | exact z2)))
theorem zmc (s:Sender) (a b:List Chunk) (h4:s.paths.length < 2 ^ 22):FunOK Tryz.prog 136 [.ptr 1000 0] (lk .free (pH2 s a b)) (i64 (flight s)) (lk .free (pH2 s a b)):=by
 refine zal mixed Tryz.func136 (by decide) [1000,1001,1002,1003,1004,1005,1006,1007,1008,1009] zbn ?_
 conv=>whnf
 refine ⟨{ x:List Path × List Path // s.paths=x.1++x.2 },fun | ⟨(A,B),_⟩=>hsP [1000,1001,1002,1003,1004,1005,1006,1007,1008,1009] 22 [(3,i64 (A.foldl (fun n a=>W (n+a.flight)) 0)),(10,.own 1004),(11,i64 s.paths.length),(12,i64 A.length)] (pH2 s a b),fun x=>x.1.2.length,⟨([],s.paths),rfl⟩,?_,?_⟩
 . exact (hle_Y (pK10 []) (by repeat' (first | exact z0 | refine z1 ?_ | refine ⟨?_,?_⟩ | ((exact zbg om)) | exact z2)))
 rintro ⟨⟨A,B⟩,h⟩
 dsimp only at h
 conv=>whnf
 cases B with
 | cons p B =>
  have hz:=zar h
  refine sT ?_
  refine sO ?_
  refine zaj h rfl ?_;conv=>whnf
  refine sR ?_
  refine sF ?_
  exact ⟨⟨(A++[p],B),zae h⟩,(hle_Y (pK10 []) (by repeat' (first | exact z0 | refine z1 ?_ | refine ⟨?_,?_⟩ | ((exact zbg (by rw [List.foldl_append];rfl))) | exact z2))),by simp⟩
 | nil =>
  have hz:=zaz h
  rw [List.append_nil] at h
  refine sN ?_
  (exact zbz (pK10 []) (by repeat' (first | exact z0 | refine z1 ?_ | refine ⟨?_,?_⟩ | ((rw [flight,h];rfl)) | exact z2)))
end Snd
namespace Sco
open Ser
set_option maxHeartbeats 4000000
set_option maxRecDepth 100000
set_option linter.unusedSimpArgs false
theorem zdj (l:List Sent) (cum:Int) (hl:l.length < 2 ^ 38):FunOK Tryz.prog 81 [.own 1000,i64 cum] (lk .free [(1000,sentB l)]) (.tup [i64 (point l cum).1,.own 0]) (lk .free [(1000,sentB l),(0,.ro (.row 180 3 ((point l cum).2.map Skip.row)))]):=by
 refine zal mixed Tryz.func81 (by decide) [1000] zbn ?_
 generalize hR:point l cum=R
 conv=>whnf
 refine hcut.meet PUnit (fun _=>hsP [1000] 47 [(1,i64 R.1),(6,.own 900)] [(1000,sentB l),(900,.ro (.row 180 3 (R.2.map Skip.row)))]) ?_ ?_
 . conv=>whnf
   refine ⟨{ x:List Sent × List Sent × Int × List Skip // l=x.1++x.2.1 /\ x.2.2.2.length <= 8 /\ zde x.2.2.1 x.2.2.2 x.2.1=R },fun | ⟨(a,b,z,sk),_⟩=>hsP [1000] 47 [(1,i64 z),(6,.own 900),(10,.own 1000),(11,i64 l.length),(12,i64 a.length)] [(1000,sentB l),(900,skipB sk)],fun x=>x.1.2.1.length,⟨([],l,cum,[]),rfl,by simp,hR⟩,?_,?_⟩
   . exact (hle_Y [(1000,some 1000),(900,none)] (by repeat' (first | exact z0 | refine z1 ?_ | refine ⟨?_,?_⟩ | ((exact zbg om)) | exact z2)))
   rintro ⟨⟨a,b,z,sk⟩,h,hsk,hi⟩
   dsimp only at h hsk hi
   cases b with
   | nil =>
    have hz:=zaz h
    simp only [zde] at hi
    subst hi
    conv=>whnf
    refine sN ?_
    exact ⟨⟨⟩,(hle_P [(1000,some 1000),(900,some 900)])⟩
   | cons s b =>
    have hz:=zar h
    simp only [zde] at hi
    conv=>whnf
    refine sT ?_
    refine sO ?_
    refine zaj h rfl ?_;conv=>whnf
    refine sR ?_
    refine zaf (fun c1=>?_) (fun c1=>?_)
    . have c1:s.number ≠ W (z+1):=by simpa using c1
      rw [if_pos (.inl c1)] at hi
      subst hi
      conv=>whnf
      exact ⟨⟨⟩,(hle_P [(1000,some 1000),(900,some 900)])⟩
    have c1:¬ s.number ≠ W (z+1):=by simpa using c1
    conv=>whnf
    have sl:=zst s.chunk sk
    by_cases c2:s.state=4
    . rw [if_neg (by rintro (h1 | h1);exact c1 h1;exact h1.1 c2),if_pos c2] at hi
      refine sN ?_
      (try (refine hcut.go ?_;conv=>whnf))
      refine sT ?_
      (refine zap [(0,37)]  ?_;(conv=>whnf);refine dO (yhg sk s.chunk (by omega)) ?_)
      refine zaf (fun c3=>?_) (fun c3=>?_)
      . have c3:(skip s.chunk sk).length > 8:=by simp at c3;omega
        rw [if_pos c3] at hi
        subst hi
        conv=>whnf
        exact ⟨⟨⟩,(hle_P [(1000,some 1000),(900,some 900)])⟩
      . have c3:¬ (skip s.chunk sk).length > 8:=by simp at c3;omega
        rw [if_neg c3] at hi
        conv=>whnf
        refine sF ?_
        exact ⟨⟨(a++[s],b,s.number,skip s.chunk sk),zae h,by dsimp only;omega,hi⟩,(hle_P [(1000,some 1000),(900,some 37)]),by simp⟩
    . by_cases c3:s.state=2
      . rw [if_neg (by rintro (h1 | h1);exact c1 h1;exact h1.2 c3),if_neg c2] at hi
        refine sT ?_
        refine sN ?_
        (try (refine hcut.go ?_;conv=>whnf))
        refine sN ?_
        refine sF ?_
        exact ⟨⟨(a++[s],b,s.number,sk),zae h,hsk,hi⟩,(hle_P [(1000,some 1000),(900,some 900)]),by simp⟩
      . rw [if_pos (.inr ⟨c2,c3⟩)] at hi
        subst hi
        refine sT ?_
        refine sT ?_
        exact ⟨⟨⟩,(hle_P [(1000,some 1000),(900,some 900)])⟩
 . rintro ⟨⟩
   conv=>whnf
   (exact zbw [(1000,some 1000),(0,some 900)])
end Sco
namespace Snd
set_option maxHeartbeats 4000000
set_option maxRecDepth 100000
set_option linter.unusedSimpArgs false
theorem ynf (l:List Queued) (hb:l.length < 2 ^ 39):FunOK Tryz.prog 129 [.own 1000] (lk .free [(1000,.live (.row 117 10 (l.map Queued.row)))]) (.own 0) (lk .free [(1000,.live (.row 117 10 (l.map Queued.row))),(0,.live (.row 117 10 (l.map Queued.row)))]):=by
 refine zal mixed Tryz.func129 (by decide) [1000] zbn ?_
 conv=>whnf
 intro b hn
 conv=>whnf
 refine zaf (fun c=>?_) (fun c=>?_)
 . conv=>whnf
   refine zau [(1000,some 1000),(0,none)] rfl rfl ⟨rfl,trivial⟩ rfl rfl ⟨⟨rfl,.inl ⟨1000,rfl,rfl⟩⟩,⟨rfl,.inr ⟨rfl,hn c⟩⟩,trivial⟩
 . conv=>whnf
   refine zaa (c:=(([]:List (List PV)).length+(l.map Queued.row).length) * 96 <= 140737488355328) (by simp;omega) ?_
   conv=>whnf
   refine zau [(1000,some 1000),(0,some 7)] rfl rfl ⟨rfl,trivial⟩ rfl rfl ⟨⟨rfl,.inl ⟨1000,rfl,rfl⟩⟩,⟨rfl,.inl ⟨7,rfl,?_⟩⟩,trivial⟩
   rfl
theorem yng (l:List Sent) (hb:l.length < 2 ^ 38):FunOK Tryz.prog 132 [.own 1000] (lk .free [(1000,.live (.row 134 20 (l.map Sent.row)))]) (.own 0) (lk .free [(1000,.live (.row 134 20 (l.map Sent.row))),(0,.live (.row 134 20 (l.map Sent.row)))]):=by
 refine zal mixed Tryz.func132 (by decide) [1000] zbn ?_
 conv=>whnf
 intro b hn
 conv=>whnf
 refine zaf (fun c=>?_) (fun c=>?_)
 . conv=>whnf
   refine zau [(1000,some 1000),(0,none)] rfl rfl ⟨rfl,trivial⟩ rfl rfl ⟨⟨rfl,.inl ⟨1000,rfl,rfl⟩⟩,⟨rfl,.inr ⟨rfl,hn c⟩⟩,trivial⟩
 . conv=>whnf
   refine zaa (c:=(([]:List (List PV)).length+(l.map Sent.row).length) * 200 <= 140737488355328) (by simp;omega) ?_
   conv=>whnf
   refine zau [(1000,some 1000),(0,some 7)] rfl rfl ⟨rfl,trivial⟩ rfl rfl ⟨⟨rfl,.inl ⟨1000,rfl,rfl⟩⟩,⟨rfl,.inl ⟨7,rfl,?_⟩⟩,trivial⟩
   rfl
end Snd
end Go.HL
