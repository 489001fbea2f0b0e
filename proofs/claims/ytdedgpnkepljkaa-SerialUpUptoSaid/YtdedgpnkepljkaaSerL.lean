/- The laws of chapter 1: what they hand back is true. -/
import Derived.Test.YtdedgpnkepljkaaSerC
namespace Go.HL
open Go.Proofs
namespace Ser
set_option maxHeartbeats 4000000
set_option maxRecDepth 100000
set_option linter.unusedSimpArgs false
theorem riseB_of : ∀ {l : List Span} {p : Option Int}, riseB p l = true → rise l ∧ (∀ s ∈ l, -1099511627776 ≤ s.lo ∧ s.hi ≤ 1099511627776 ∧ gapS p s.lo = true)
  | [], _, _ => ⟨trivial, by simp⟩
  | s :: r, p, h => by
    simp only [riseB, okS, Bool.and_eq_true, decide_eq_true_eq] at h
    obtain ⟨⟨⟨⟨h1, h2⟩, h3⟩, h4⟩, h5⟩ := h
    obtain ⟨i1, i2⟩ := riseB_of h5
    refine ⟨⟨h3, by omega, by omega, fun t ht => ?_, i1⟩, fun t ht => ?_⟩
    · have := (i2 t ht).2.2; simp [gapS] at this; omega
    · rcases List.mem_cons.1 ht with rfl | ht
      · exact ⟨h1, h2, h4⟩
      · obtain ⟨j1, j2, j3⟩ := i2 t ht
        refine ⟨j1, j2, ?_⟩
        cases p with
        | none => rfl
        | some q => simp [gapS] at h4 j3 ⊢; omega
theorem riseB_mk : ∀ {l : List Span} {p : Option Int}, rise l → (∀ s ∈ l, -1099511627776 ≤ s.lo ∧ s.hi ≤ 1099511627776 ∧ gapS p s.lo = true) → riseB p l = true
  | [], _, _, _ => rfl
  | s :: r, p, h, hb => by
    obtain ⟨h1, h2, h3, h4, h5⟩ := h
    obtain ⟨b1, b2, b3⟩ := hb s (by simp)
    simp only [riseB, okS, Bool.and_eq_true, decide_eq_true_eq]
    refine ⟨⟨⟨⟨b1, b2⟩, h1⟩, b3⟩, riseB_mk h5 fun t ht => ?_⟩
    obtain ⟨c1, c2, c3⟩ := hb t (by simp [ht])
    exact ⟨c1, c2, by have := h4 t ht; simp [gapS]; omega⟩
theorem cutL_len (n : Int) (a : List Span) : (cutL n a).1.length ≤ a.length := by
  unfold cutL; split
  · split
    · simp
    · exact Nat.le_refl _
  · exact Nat.le_refl _
theorem cutR_len (n : Int) (a : List Span) : (cutR n a).2.length ≤ a.length := by
  cases a with
  | nil => exact Nat.le_refl _
  | cons t r => simp only [cutR]; split <;> simp
theorem add_len (l : List Span) (n : Int) : (add l n).length ≤ l.length + 1 := by
  unfold add
  split
  · omega
  · have h1 := cutL_len n (below l n)
    have h2 := cutR_len n (above l n)
    have h3 : l.length = (below l n).length + (above l n).length := by conv => lhs; rw [split l n]
                                                                       exact List.length_append
    simp only [List.length_append, List.length_cons]; omega
/-- numbers put in, one by one -/
def adds (s : List Span) (l : List Int) : List Span := l.foldl add s
theorem adds_snoc (s : List Span) (l : List Int) (n : Int) : adds s (l ++ [n]) = add (adds s l) n := by simp [adds]
theorem adds_len (l : List Int) : ∀ s : List Span, (adds s l).length ≤ s.length + l.length := by
  induction l with
  | nil => intro s; exact Nat.le_refl _
  | cons n l ih => intro s; have := ih (add s n); have := add_len s n; simp only [adds, List.foldl_cons, List.length_cons] at *; omega
theorem adds_is : ∀ {l : List Int} {s : List Span}, rise s → (∀ n ∈ l, inI n) → rise (adds s l) ∧ ∀ m, has (adds s l) m = (has s m || l.any fun n => decide (m = n))
  | [], s, h, _ => ⟨h, by simp [adds]⟩
  | n :: l, s, h, hl => by
    have hn := hl n (by simp)
    unfold inI at hn
    obtain ⟨h1, h2⟩ := add_rise (n := n) h (by omega) (by omega)
    obtain ⟨h3, h4⟩ := adds_is (l := l) h1 fun m hm => hl m (by simp [hm])
    refine ⟨h3, fun m => ?_⟩
    show has (adds (add s n) l) m = _
    rw [h4 m, h2 m, List.any_cons, Bool.or_assoc]
theorem small {l : List Int} (hl : ∀ n ∈ l, -1000000 ≤ n ∧ n ≤ 1000000) : ∀ n ∈ l, inI n := fun n hn => by have := hl n hn; unfold inI; omega
theorem adds_has {l : List Int} (hl : ∀ n ∈ l, -1000000 ≤ n ∧ n ≤ 1000000) (m : Int) : has (adds [] l) m = true ↔ m ∈ l := by
  rw [(adds_is (s := []) trivial (small hl)).2 m]
  simp [has]
theorem adds_in {l : List Int} (hl : ∀ n ∈ l, -1000000 ≤ n ∧ n ≤ 1000000) : ∀ s ∈ adds [] l, s.lo ∈ l ∧ s.hi ∈ l := by
  intro s hs
  have hr := (adds_is (s := []) trivial (small hl)).1
  have := (rise_mem hr s hs).1
  exact ⟨(adds_has hl _).1 (has_iff.2 ⟨s, hs, by omega, by omega⟩), (adds_has hl _).1 (has_iff.2 ⟨s, hs, by omega, by omega⟩)⟩
theorem adds_bound {l : List Int} (hl : ∀ n ∈ l, -1000000 ≤ n ∧ n ≤ 1000000) : ∀ s ∈ adds [] l, -1000000 ≤ s.lo ∧ s.hi ≤ 1000000 := fun s hs =>
  ⟨(hl _ (adds_in hl s hs).1).1, (hl _ (adds_in hl s hs).2).2⟩
theorem up_stop {n : Int} : ∀ {l : List Span}, (∀ s ∈ l, n + 1 < s.lo) → up l n = (n, l)
  | [], _ => rfl
  | s :: r, h => by rw [up, if_neg (by have := h s (by simp); omega)]
theorem up_is {l : List Span} {n : Int} (h : rise l) (hn : ∀ s ∈ l, n < s.lo) : (up l n = (n, l) ∧ ∀ s ∈ l, n + 1 < s.lo) ∨ ∃ s r, l = s :: r ∧ s.lo = n + 1 ∧ up l n = (s.hi, r) := by
  cases l with
  | nil => exact .inl ⟨rfl, by simp⟩
  | cons s r =>
    have hs := hn s (by simp)
    have h1 := h.1
    by_cases c : s.lo ≤ n + 1
    · right
      refine ⟨s, r, rfl, by omega, ?_⟩
      rw [up, if_pos c, if_pos (by omega), up_stop fun t ht => h.2.2.2.1 t ht]
    · left
      have : ∀ t ∈ s :: r, n + 1 < t.lo := fun t ht => by
        rcases List.mem_cons.1 ht with rfl | ht
        · omega
        · have := h.2.2.2.1 t ht; omega
      exact ⟨up_stop this, this⟩
theorem many : ∀ (k : Nat) {a : Int} {l : List Int}, (∀ m, a < m → m ≤ a + k → m ∈ l) → k ≤ l.length
  | 0, _, _, _ => Nat.zero_le _
  | k + 1, a, l, h => by
    have h1 : a + (k + 1 : Nat) ∈ l := h _ (by omega) (by omega)
    have h2 := many k (a := a) (l := l.erase (a + (k + 1 : Nat))) fun m hm1 hm2 => (List.mem_erase_of_ne (by omega)).2 (h m hm1 (by omega))
    have h3 : 0 < l.length := List.length_pos_of_mem h1
    rw [List.length_erase_of_mem h1] at h2
    omega
/-- what the law SerialUp asks -/
theorem upLaw {l : List Int} {cum : Int} (hl : ∀ n ∈ l, -1000000 ≤ n ∧ n ≤ 1000000) (hc : ∀ n ∈ l, cum < n) (h2 : cum ≤ 1000000) :
    cum ≤ (up (adds [] l) cum).1 ∧ (up (adds [] l) cum).1 ≤ 1000000 ∧ has (adds [] l) ((up (adds [] l) cum).1 + 1) = false ∧ has (up (adds [] l) cum).2 ((up (adds [] l) cum).1 + 1) = false ∧
    (∀ x ∈ l, decide (x > (up (adds [] l) cum).1) = has (up (adds [] l) cum).2 x) ∧ (up (adds [] l) cum).1 - cum ≤ l.length := by
  have hr := (adds_is (s := []) trivial (small hl)).1
  have hh := adds_has hl
  have hin := adds_in hl
  have hbd := adds_bound hl
  generalize adds [] l = S at *
  rcases up_is hr (n := cum) fun s hs => hc _ (hin s hs).1 with ⟨e, hs⟩ | ⟨s, r, rfl, e1, e⟩
  · rw [e]
    dsimp only
    have h0 : has S (cum + 1) = false := has_no.2 fun s hs' => by have := hs s hs'; omega
    refine ⟨Int.le_refl _, h2, h0, h0, fun x hx => ?_, by omega⟩
    rw [(hh x).2 hx]; simpa using hc x hx
  · rw [e]
    dsimp only
    have hb := hbd s (by simp)
    have hs := hr.1
    have h0 : has r (s.hi + 1) = false := has_no.2 fun t ht => by have := hr.2.2.2.1 t ht; omega
    refine ⟨by omega, hb.2, ?_, h0, fun x hx => ?_, ?_⟩
    · rw [has_cons, h0]; simp; omega
    · have hx1 := (hh x).2 hx
      rw [has_cons] at hx1
      by_cases c : x > s.hi
      · have c2 : ¬ x ≤ s.hi := by omega
        rw [show decide (x ≤ s.hi) = false by simpa using c2] at hx1
        simp at hx1
        rw [hx1]; simpa using c
      · rw [show has r x = false from has_no.2 fun t ht => by have := hr.2.2.2.1 t ht; omega]
        simpa using c
    · have := many (s.hi - cum).toNat (a := cum) (l := l) fun m m1 m2 => (hh m).1 (by rw [has_cons]; simp; left; omega)
      omega
theorem alive : FunOK Try.prog 22 [] noHeap (hbool true) noHeap := by
  have a1 := spec_add [⟨3, 4⟩] 6 (by simp [rise]) (by simp) (by omega) (by omega)
  have a2 := spec_add [⟨3, 4⟩, ⟨6, 6⟩] 5 (by simp [rise]) (by simp) (by omega) (by omega)
  have a3 := spec_up [⟨3, 6⟩] 2 (by simp) (by simp) (by omega) (by omega)
  rw [show add [⟨3, 4⟩] 6 = [⟨3, 4⟩, ⟨6, 6⟩] by decide] at a1
  rw [show add [⟨3, 4⟩, ⟨6, 6⟩] 5 = [⟨3, 6⟩] by decide] at a2
  rw [show up [⟨3, 6⟩] 2 = (6, []) by decide] at a3
  refine funOK_pure mixed Try.func22 (by decide) ?_
  conv => whnf
  ((refine hcall_own [(0, 6)] ?_; (conv => whnf); refine ⟨_, _,  a1, ⟨⟨⟨rfl, rfl⟩, trivial⟩, rfl, rfl, rfl⟩, ?_⟩; conv => whnf); try (refine hcut.go ?_; conv => whnf))
  ((refine hcall_own [(0, 7)] ?_; (conv => whnf); refine ⟨_, _,  a2, ⟨⟨⟨rfl, rfl⟩, trivial⟩, rfl, rfl, rfl⟩, ?_⟩; conv => whnf); try (refine hcut.go ?_; conv => whnf))
  ((refine hcall_own [(0, 10)] ?_; (conv => whnf); refine ⟨_, _,  a3, ⟨⟨⟨rfl, rfl⟩, trivial⟩, rfl, rfl, rfl⟩, ?_⟩; conv => whnf); try (refine hcut.go ?_; conv => whnf))
  (repeat' (first | (refine hwrap_raw ?_; conv => whnf) | (refine hobl_intro ?_ ?_; (first | kernel_rfl | decide); conv => whnf) | (refine hdraw_intro ?_ ?_; kernel_rfl; conv => whnf) | (refine hcut.go ?_; conv => whnf) | (refine hcall_lend ?_; (conv => whnf); refine ⟨_, spec_tag _, rfl, ?_⟩; conv => whnf) | (refine hcall_lend ?_; (conv => whnf); refine ⟨_, spec_near _ _, rfl, ?_⟩; conv => whnf) | (refine hcall_lend ?_; (conv => whnf); refine ⟨_, spec_has [⟨3, 6⟩] _ (by simp), rfl, ?_⟩; conv => whnf) | (refine hrow_intro ?_ rfl ?_; (first | decide | kernel_rfl | omega); conv => whnf) | (refine hif_true ?_ ?_; · kernel_rfl; conv => whnf) | (refine hif_false ?_ ?_; · kernel_rfl; conv => whnf)))
  kernel_rfl
theorem nearlaw (a by_ : Int) : FunOK Try.prog 5 [i64 a, i64 by_] noHeap (hbool true) noHeap := by
  refine funOK_pure mixed Try.func5 (by decide) ?_
  conv => whnf
  ((refine hcall_lend ?_; (conv => whnf); refine ⟨_, alive, rfl, ?_⟩; conv => whnf); try (refine hcut.go ?_; conv => whnf))
  refine hif_intro (fun c1 => ?_) (fun c1 => ?_)
  · conv => whnf
    try (refine hcut.go ?_; conv => whnf)
  have c1 : -1000000000 ≤ a := by simpa using c1
  conv => whnf
  refine hif_intro (fun c2 => ?_) (fun c2 => ?_)
  · conv => whnf
    try (refine hcut.go ?_; conv => whnf)
  have c2 : a ≤ 1000000000 := by simpa using c2
  conv => whnf
  refine hif_intro (fun c3 => ?_) (fun c3 => ?_)
  · conv => whnf
    try (refine hcut.go ?_; conv => whnf)
  have c3 : -32768 < by_ := by simpa using c3
  conv => whnf
  refine hif_intro (fun c4 => ?_) (fun c4 => ?_)
  · conv => whnf
    try (refine hcut.go ?_; conv => whnf)
  have c4 : by_ ≤ 32768 := by simpa using c4
  conv => whnf
  try (refine hcut.go ?_; conv => whnf)
  ((refine hwrap_fit (W_fit ?_ ?_) ?_; (· (first | omega | (simp only [List.length_map, List.length_append, List.length_take, List.length_drop, List.length_cons, List.length_nil] <;> omega) | (simp <;> omega))); (· (first | omega | (simp only [List.length_map, List.length_append, List.length_take, List.length_drop, List.length_cons, List.length_nil] <;> omega) | (simp <;> omega))); conv => whnf); try (refine hcut.go ?_; conv => whnf))
  ((refine hcall_lend ?_; (conv => whnf); refine ⟨_, spec_tag _, rfl, ?_⟩; conv => whnf); try (refine hcut.go ?_; conv => whnf))
  ((refine hcall_lend ?_; (conv => whnf); refine ⟨_, spec_near _ _, rfl, ?_⟩; conv => whnf); try (refine hcut.go ?_; conv => whnf))
  ((refine hwrap_fit (W_fit ?_ ?_) ?_; (· (first | omega | (simp only [List.length_map, List.length_append, List.length_take, List.length_drop, List.length_cons, List.length_nil] <;> omega) | (simp <;> omega))); (· (first | omega | (simp only [List.length_map, List.length_append, List.length_take, List.length_drop, List.length_cons, List.length_nil] <;> omega) | (simp <;> omega))); conv => whnf); try (refine hcut.go ?_; conv => whnf))
  obtain ⟨n1, n2, n3⟩ := near_lo (a := a) (t := tag (a + by_)) (by omega) (by omega)
  have : near a (tag (a + by_)) = a + by_ := by unfold tag at n3; unfold tag at n1 n2 ⊢; omega
  rw [this]; simp
theorem up_len : ∀ (l : List Span) (n : Int), (up l n).2.length ≤ l.length
  | [], _ => Nat.le_refl _
  | s :: r, n => by
    rw [up]; split
    · have := up_len r (if s.hi > n then s.hi else n); simp only [List.length_cons]; omega
    · exact Nat.le_refl _
theorem adds_rev {l : List Int} (hl : ∀ n ∈ l, -1000000 ≤ n ∧ n ≤ 1000000) : adds [] l = adds [] l.reverse := by
  have hl' : ∀ n ∈ l.reverse, -1000000 ≤ n ∧ n ≤ 1000000 := fun n hn => hl n (by simpa using hn)
  refine rise_ext (adds_is (s := []) trivial (small hl)).1 (adds_is (s := []) trivial (small hl')).1 fun m => ?_
  rw [Bool.eq_iff_iff, adds_has hl, adds_has hl']; simp
theorem tells (a t : Int) (l : List Span) (n : Int) (hb : l.length < 2 ^ 38) : FunOK Try.prog 4 [i64 a, i64 t, spans l, i64 n] noHeap (hbool true) noHeap := by
  refine funOK_pure mixed Try.func4 (by decide) ?_
  conv => whnf
  ((refine hcall_lend ?_; (conv => whnf); refine ⟨_, spec_tag a, rfl, ?_⟩; conv => whnf); try (refine hcut.go ?_; conv => whnf))
  ((refine hcall_lend ?_; (conv => whnf); refine ⟨_, spec_rtag a, rfl, ?_⟩; conv => whnf); try (refine hcut.go ?_; conv => whnf))
  ((refine hif_false ?_ ?_; (· (first | rfl | assumption | omega | (simp only [gt_iff_lt, ge_iff_le, decide_eq_true_eq, decide_eq_false_iff_not, beq_iff_eq, bne_iff_ne, ne_eq, beq_eq_false_iff_ne, bne_eq_false_iff_eq, List.length_map, List.length_append, List.length_cons, List.length_nil, List.length_take, List.length_drop, Bool.not_eq_true', Bool.not_eq_false', Bool.not_eq_true, Bool.not_eq_false, Decidable.not_not, Nat.cast_ofNat, Int.natCast_add] <;> omega) | (simp <;> omega))); conv => whnf); try (refine hcut.go ?_; conv => whnf))
  rcases (show (a ≥ -1099511627776 ∧ a ≤ 1099511627776) ∨ (a ≥ -1099511627776 ∧ ¬ a ≤ 1099511627776) ∨ ¬ a ≥ -1099511627776 by omega) with ⟨c1, c2⟩ | ⟨c1, c2⟩ | c1
  all_goals first | (((refine hif_true ?_ ?_; (· (first | rfl | assumption | omega | (simp only [gt_iff_lt, ge_iff_le, decide_eq_true_eq, decide_eq_false_iff_not, beq_iff_eq, bne_iff_ne, ne_eq, beq_eq_false_iff_ne, bne_eq_false_iff_eq, List.length_map, List.length_append, List.length_cons, List.length_nil, List.length_take, List.length_drop, Bool.not_eq_true', Bool.not_eq_false', Bool.not_eq_true, Bool.not_eq_false, Decidable.not_not, Nat.cast_ofNat, Int.natCast_add] <;> omega) | (simp <;> omega))); conv => whnf); try (refine hcut.go ?_; conv => whnf)); ((refine hif_true ?_ ?_; (· (first | rfl | assumption | omega | (simp only [gt_iff_lt, ge_iff_le, decide_eq_true_eq, decide_eq_false_iff_not, beq_iff_eq, bne_iff_ne, ne_eq, beq_eq_false_iff_ne, bne_eq_false_iff_eq, List.length_map, List.length_append, List.length_cons, List.length_nil, List.length_take, List.length_drop, Bool.not_eq_true', Bool.not_eq_false', Bool.not_eq_true, Bool.not_eq_false, Decidable.not_not, Nat.cast_ofNat, Int.natCast_add] <;> omega) | (simp <;> omega))); conv => whnf); try (refine hcut.go ?_; conv => whnf)); ((refine hcall_lend ?_; (conv => whnf); refine ⟨_, spec_near a t, rfl, ?_⟩; conv => whnf); try (refine hcut.go ?_; conv => whnf)); ((refine hcall_lend ?_; (conv => whnf); refine ⟨_, spec_rnear a t (by omega) (by omega), rfl, ?_⟩; conv => whnf); try (refine hcut.go ?_; conv => whnf)); ((refine hif_false ?_ ?_; (· (first | rfl | assumption | omega | (simp only [gt_iff_lt, ge_iff_le, decide_eq_true_eq, decide_eq_false_iff_not, beq_iff_eq, bne_iff_ne, ne_eq, beq_eq_false_iff_ne, bne_eq_false_iff_eq, List.length_map, List.length_append, List.length_cons, List.length_nil, List.length_take, List.length_drop, Bool.not_eq_true', Bool.not_eq_false', Bool.not_eq_true, Bool.not_eq_false, Decidable.not_not, Nat.cast_ofNat, Int.natCast_add] <;> omega) | (simp <;> omega))); conv => whnf); try (refine hcut.go ?_; conv => whnf))) | (((refine hif_true ?_ ?_; (· (first | rfl | assumption | omega | (simp only [gt_iff_lt, ge_iff_le, decide_eq_true_eq, decide_eq_false_iff_not, beq_iff_eq, bne_iff_ne, ne_eq, beq_eq_false_iff_ne, bne_eq_false_iff_eq, List.length_map, List.length_append, List.length_cons, List.length_nil, List.length_take, List.length_drop, Bool.not_eq_true', Bool.not_eq_false', Bool.not_eq_true, Bool.not_eq_false, Decidable.not_not, Nat.cast_ofNat, Int.natCast_add] <;> omega) | (simp <;> omega))); conv => whnf); try (refine hcut.go ?_; conv => whnf)); ((refine hif_false ?_ ?_; (· (first | rfl | assumption | omega | (simp only [gt_iff_lt, ge_iff_le, decide_eq_true_eq, decide_eq_false_iff_not, beq_iff_eq, bne_iff_ne, ne_eq, beq_eq_false_iff_ne, bne_eq_false_iff_eq, List.length_map, List.length_append, List.length_cons, List.length_nil, List.length_take, List.length_drop, Bool.not_eq_true', Bool.not_eq_false', Bool.not_eq_true, Bool.not_eq_false, Decidable.not_not, Nat.cast_ofNat, Int.natCast_add] <;> omega) | (simp <;> omega))); conv => whnf); try (refine hcut.go ?_; conv => whnf))) | ((refine hif_false ?_ ?_; (· (first | rfl | assumption | omega | (simp only [gt_iff_lt, ge_iff_le, decide_eq_true_eq, decide_eq_false_iff_not, beq_iff_eq, bne_iff_ne, ne_eq, beq_eq_false_iff_ne, bne_eq_false_iff_eq, List.length_map, List.length_append, List.length_cons, List.length_nil, List.length_take, List.length_drop, Bool.not_eq_true', Bool.not_eq_false', Bool.not_eq_true, Bool.not_eq_false, Decidable.not_not, Nat.cast_ofNat, Int.natCast_add] <;> omega) | (simp <;> omega))); conv => whnf); try (refine hcut.go ?_; conv => whnf))
  all_goals (
    ((refine hcall_lend ?_; (conv => whnf); refine ⟨_, spec_rise l (by omega), rfl, ?_⟩; conv => whnf); try (refine hcut.go ?_; conv => whnf))
    refine hif_intro (fun c1 => ?_) (fun c1 => ?_)
    · conv => whnf
      try (refine hcut.go ?_; conv => whnf)
    have c1 : riseB none l = true := by simpa using c1
    obtain ⟨hr, hl⟩ := riseB_of c1
    conv => whnf
    refine hif_intro (fun c2 => ?_) (fun c2 => ?_)
    · conv => whnf
      try (refine hcut.go ?_; conv => whnf)
    have c2 : -1000000 ≤ n := by simpa using c2
    conv => whnf
    refine hif_intro (fun c3 => ?_) (fun c3 => ?_)
    · conv => whnf
      try (refine hcut.go ?_; conv => whnf)
    have c3 : n ≤ 1000000 := by simpa using c3
    conv => whnf
    try (refine hcut.go ?_; conv => whnf)
    ((refine hcall_own [(0, 49)] ?_; (conv => whnf); refine ⟨_, _,  spec_up l n (fun s hs => (hl s hs).2.1) (by omega) (by omega) (by omega), ⟨⟨⟨rfl, rfl⟩, trivial⟩, rfl, rfl, rfl⟩, ?_⟩; conv => whnf); try (refine hcut.go ?_; conv => whnf))
    ((refine hcall_own [(0, 55)] ?_; (conv => whnf); refine ⟨_, _,  spec_rup l n hr (fun s hs => (hl s hs).2.1) (by omega) (by omega) (by omega), ⟨⟨⟨rfl, rfl⟩, trivial⟩, rfl, rfl, rfl⟩, ?_⟩; conv => whnf); try (refine hcut.go ?_; conv => whnf))
    ((refine hcall_lend ?_; (conv => whnf); refine ⟨_, spec_has l n (by omega), rfl, ?_⟩; conv => whnf); try (refine hcut.go ?_; conv => whnf))
    ((refine hcall_lend ?_; (conv => whnf); refine ⟨_, spec_in l n (by omega), rfl, ?_⟩; conv => whnf); try (refine hcut.go ?_; conv => whnf))
    ((refine hif_true ?_ ?_; (· (first | rfl | assumption | omega | (simp only [gt_iff_lt, ge_iff_le, decide_eq_true_eq, decide_eq_false_iff_not, beq_iff_eq, bne_iff_ne, ne_eq, beq_eq_false_iff_ne, bne_eq_false_iff_eq, List.length_map, List.length_append, List.length_cons, List.length_nil, List.length_take, List.length_drop, Bool.not_eq_true', Bool.not_eq_false', Bool.not_eq_true, Bool.not_eq_false, Decidable.not_not, Nat.cast_ofNat, Int.natCast_add] <;> omega) | (simp <;> omega))); conv => whnf); try (refine hcut.go ?_; conv => whnf))
    ((refine hcall_own [(0, 68)] ?_; (conv => whnf); refine ⟨_, _,  spec_add l n hr (by omega) (by omega) (by omega), ⟨⟨⟨rfl, rfl⟩, trivial⟩, rfl, rfl, rfl⟩, ?_⟩; conv => whnf); try (refine hcut.go ?_; conv => whnf))
    cases hn : has l n with
    | true =>
      have e : add l n = l := by rw [add, hn]; rfl
      have hul := up_len l n
      ((refine hcall_pure ?_; (conv => whnf); refine ⟨_, spec_radd_has l n (by omega) hn, rfl, ?_⟩; conv => whnf); try (refine hcut.go ?_; conv => whnf))
      ((refine hcall_lend ?_; (conv => whnf); refine ⟨_, spec_rsame (add l n) l (by have := add_len l n; omega), rfl, ?_⟩; conv => whnf); try (refine hcut.go ?_; conv => whnf))
      refine hif_true (by simp [e]) ?_
      conv => whnf
      ((refine hif_true ?_ ?_; (· (first | rfl | assumption | omega | (simp only [gt_iff_lt, ge_iff_le, decide_eq_true_eq, decide_eq_false_iff_not, beq_iff_eq, bne_iff_ne, ne_eq, beq_eq_false_iff_ne, bne_eq_false_iff_eq, List.length_map, List.length_append, List.length_cons, List.length_nil, List.length_take, List.length_drop, Bool.not_eq_true', Bool.not_eq_false', Bool.not_eq_true, Bool.not_eq_false, Decidable.not_not, Nat.cast_ofNat, Int.natCast_add] <;> omega) | (simp <;> omega))); conv => whnf); try (refine hcut.go ?_; conv => whnf))
      ((refine hcall_lend ?_; (conv => whnf); refine ⟨_, spec_rsame (up l n).2 (up l n).2 (by omega), rfl, ?_⟩; conv => whnf); try (refine hcut.go ?_; conv => whnf))
      simp
    | false =>
      have hul := up_len l n
      ((refine hcall_own [(0, 71)] ?_; (conv => whnf); refine ⟨_, _,  spec_radd l n hn hr (by omega) (by omega) (by omega), ⟨⟨⟨rfl, rfl⟩, trivial⟩, rfl, rfl, rfl⟩, ?_⟩; conv => whnf); try (refine hcut.go ?_; conv => whnf))
      ((refine hcall_lend ?_; (conv => whnf); refine ⟨_, spec_rsame (add l n) (add l n) (by have := add_len l n; omega), rfl, ?_⟩; conv => whnf); try (refine hcut.go ?_; conv => whnf))
      ((refine hif_true ?_ ?_; (· (first | rfl | assumption | omega | (simp only [gt_iff_lt, ge_iff_le, decide_eq_true_eq, decide_eq_false_iff_not, beq_iff_eq, bne_iff_ne, ne_eq, beq_eq_false_iff_ne, bne_eq_false_iff_eq, List.length_map, List.length_append, List.length_cons, List.length_nil, List.length_take, List.length_drop, Bool.not_eq_true', Bool.not_eq_false', Bool.not_eq_true, Bool.not_eq_false, Decidable.not_not, Nat.cast_ofNat, Int.natCast_add] <;> omega) | (simp <;> omega))); conv => whnf); try (refine hcut.go ?_; conv => whnf))
      ((refine hif_true ?_ ?_; (· (first | rfl | assumption | omega | (simp only [gt_iff_lt, ge_iff_le, decide_eq_true_eq, decide_eq_false_iff_not, beq_iff_eq, bne_iff_ne, ne_eq, beq_eq_false_iff_ne, bne_eq_false_iff_eq, List.length_map, List.length_append, List.length_cons, List.length_nil, List.length_take, List.length_drop, Bool.not_eq_true', Bool.not_eq_false', Bool.not_eq_true, Bool.not_eq_false, Decidable.not_not, Nat.cast_ofNat, Int.natCast_add] <;> omega) | (simp <;> omega))); conv => whnf); try (refine hcut.go ?_; conv => whnf))
      ((refine hcall_lend ?_; (conv => whnf); refine ⟨_, spec_rsame (up l n).2 (up l n).2 (by omega), rfl, ?_⟩; conv => whnf); try (refine hcut.go ?_; conv => whnf))
      simp)
theorem uplaw (l : List Int) (cum : Int) (hb : l.length < 2 ^ 38) : FunOK Try.prog 7 [ints l, i64 cum] noHeap (hbool true) noHeap := by
  refine funOK_pure mixed Try.func7 (by decide) ?_
  conv => whnf
  ((refine hcall_lend ?_; (conv => whnf); refine ⟨_, alive, rfl, ?_⟩; conv => whnf); try (refine hcut.go ?_; conv => whnf))
  refine hif_intro (fun c1 => ?_) (fun c1 => ?_)
  · conv => whnf
    try (refine hcut.go ?_; conv => whnf)
  have c1 : -1000000 ≤ cum := by simpa using c1
  conv => whnf
  refine hif_intro (fun c2 => ?_) (fun c2 => ?_)
  · conv => whnf
    try (refine hcut.go ?_; conv => whnf)
  have c2 : cum ≤ 1000000 := by simpa using c2
  conv => whnf
  try (refine hcut.go ?_; conv => whnf)
  refine ⟨{ x : List Int × List Int // l = x.1 ++ x.2 ∧ ∀ n ∈ x.1, cum < n ∧ -1000000 ≤ n ∧ n ≤ 1000000 }, fun | ⟨(a, b), _⟩ => hs 86 [(0, ints l), (1, i64 cum), (5, .own 900), (20, ints l), (21, i64 l.length), (22, i64 a.length)] [(900, .live (.row 52 2 ((adds [] a).map Span.row)))], fun x => x.1.2.length, ⟨([], l), rfl, by simp⟩, ?_, ?_⟩
  · exact (hle_hs [(900, none)] rfl rfl rfl rfl (by repeat' (first | exact trivial | exact rfl | (refine ⟨⟨rfl, ?_⟩, ?_⟩) | (refine ⟨rfl, ?_⟩) | (simp; done) | (simp; rfl))) (by repeat' (first | exact trivial | exact rfl | exact .inl rfl | exact .inr rfl | (refine ⟨⟨rfl, .inl ⟨_, rfl, ?_⟩⟩, ?_⟩) | (refine ⟨⟨rfl, _, rfl, ?_⟩, ?_⟩) | (refine ⟨⟨rfl, .inr ⟨rfl, ?_⟩⟩, ?_⟩) | (simp; done) | (simp; rfl))))
  rintro ⟨⟨a, b⟩, h, ha⟩
  dsimp only at h ha
  have hlen : l.length = a.length + b.length := by rw [h]; simp
  have hal := adds_len a []
  rw [List.length_nil] at hal
  have ha' : ∀ n ∈ a, -1000000 ≤ n ∧ n ≤ 1000000 := fun n hn => (ha n hn).2
  have hr := (adds_is (s := []) trivial (small ha')).1
  have hbd := adds_bound ha'
  conv => whnf
  cases b with
  | cons x b =>
    rw [List.length_cons] at hlen
    ((refine hif_true ?_ ?_; (· (first | rfl | assumption | omega | (simp only [gt_iff_lt, ge_iff_le, decide_eq_true_eq, decide_eq_false_iff_not, beq_iff_eq, bne_iff_ne, ne_eq, beq_eq_false_iff_ne, bne_eq_false_iff_eq, List.length_map, List.length_append, List.length_cons, List.length_nil, List.length_take, List.length_drop, Bool.not_eq_true', Bool.not_eq_false', Bool.not_eq_true, Bool.not_eq_false, Decidable.not_not, Nat.cast_ofNat, Int.natCast_add] <;> omega) | (simp <;> omega))); conv => whnf); try (refine hcut.go ?_; conv => whnf))
    refine hrow_mid h rfl ?_; conv => whnf
    refine hif_intro (fun d1 => ?_) (fun d1 => ?_)
    · conv => whnf
      try (refine hcut.go ?_; conv => whnf)
    have d1 : -1000000 ≤ x := by simpa using d1
    conv => whnf
    refine hif_intro (fun d2 => ?_) (fun d2 => ?_)
    · conv => whnf
      try (refine hcut.go ?_; conv => whnf)
    have d2 : x ≤ 1000000 := by simpa using d2
    conv => whnf
    refine hif_intro (fun d3 => ?_) (fun d3 => ?_)
    · conv => whnf
      try (refine hcut.go ?_; conv => whnf)
    have d3 : cum < x := by simpa using d3
    conv => whnf
    try (refine hcut.go ?_; conv => whnf)
    ((refine hcall_own [(0, 39)] ?_; (conv => whnf); refine ⟨_, _,  spec_add (adds [] a) x hr (by omega) (by omega) (by omega), ⟨⟨⟨rfl, rfl⟩, trivial⟩, rfl, rfl, rfl⟩, ?_⟩; conv => whnf); try (refine hcut.go ?_; conv => whnf))
    ((refine hwrap_fit (W_fit ?_ ?_) ?_; (· (first | omega | (simp only [List.length_map, List.length_append, List.length_take, List.length_drop, List.length_cons, List.length_nil] <;> omega) | (simp <;> omega))); (· (first | omega | (simp only [List.length_map, List.length_append, List.length_take, List.length_drop, List.length_cons, List.length_nil] <;> omega) | (simp <;> omega))); conv => whnf); try (refine hcut.go ?_; conv => whnf))
    refine ⟨⟨(a ++ [x], b), by rw [h]; simp, fun n hn => ?_⟩, (hle_hs [(900, some 39)] rfl rfl rfl rfl (by repeat' (first | exact trivial | exact rfl | (refine ⟨⟨rfl, ?_⟩, ?_⟩) | (refine ⟨rfl, ?_⟩) | ((exact row_eqs (by rw [adds_snoc]))) | (simp; done) | (simp; rfl))) (by repeat' (first | exact trivial | exact rfl | exact .inl rfl | exact .inr rfl | (refine ⟨⟨rfl, .inl ⟨_, rfl, ?_⟩⟩, ?_⟩) | (refine ⟨⟨rfl, _, rfl, ?_⟩, ?_⟩) | (refine ⟨⟨rfl, .inr ⟨rfl, ?_⟩⟩, ?_⟩) | ((exact row_eqs (by rw [adds_snoc]))) | (simp; done) | (simp; rfl)))), by simp⟩
    rcases List.mem_append.1 hn with hn | hn
    · exact ha n hn
    · rw [List.mem_singleton.1 hn]; exact ⟨d3, d1, d2⟩
  | nil =>
    rw [List.append_nil] at h
    subst h
    clear hlen
    obtain ⟨u1, u2, u3, u4, u5, u6⟩ := upLaw (l := l) (cum := cum) ha' (fun n hn => (ha n hn).1) c2
    have ps := spec_up (adds [] l) cum (fun s hs => by have := hbd s hs; omega) (by omega) (by omega) (by omega)
    have hul := up_len (adds [] l) cum
    generalize hU : up (adds [] l) cum = U at u1 u2 u3 u4 u5 u6 ps hul
    obtain ⟨n, rest⟩ := U
    dsimp only at u1 u2 u3 u4 u5 u6 ps hul
    ((refine hif_false ?_ ?_; (· (first | rfl | assumption | omega | (simp only [gt_iff_lt, ge_iff_le, decide_eq_true_eq, decide_eq_false_iff_not, beq_iff_eq, bne_iff_ne, ne_eq, beq_eq_false_iff_ne, bne_eq_false_iff_eq, List.length_map, List.length_append, List.length_cons, List.length_nil, List.length_take, List.length_drop, Bool.not_eq_true', Bool.not_eq_false', Bool.not_eq_true, Bool.not_eq_false, Decidable.not_not, Nat.cast_ofNat, Int.natCast_add] <;> omega) | (simp <;> omega))); conv => whnf); try (refine hcut.go ?_; conv => whnf))
    ((refine hcall_own [(0, 46)] ?_; (conv => whnf); refine ⟨_, _,  ps, ⟨⟨⟨rfl, rfl⟩, trivial⟩, rfl, rfl, rfl⟩, ?_⟩; conv => whnf); try (refine hcut.go ?_; conv => whnf))
    ((refine hif_false ?_ ?_; (· (first | rfl | assumption | omega | (simp only [gt_iff_lt, ge_iff_le, decide_eq_true_eq, decide_eq_false_iff_not, beq_iff_eq, bne_iff_ne, ne_eq, beq_eq_false_iff_ne, bne_eq_false_iff_eq, List.length_map, List.length_append, List.length_cons, List.length_nil, List.length_take, List.length_drop, Bool.not_eq_true', Bool.not_eq_false', Bool.not_eq_true, Bool.not_eq_false, Decidable.not_not, Nat.cast_ofNat, Int.natCast_add] <;> omega) | (simp <;> omega))); conv => whnf); try (refine hcut.go ?_; conv => whnf))
    ((refine hif_false ?_ ?_; (· (first | rfl | assumption | omega | (simp only [gt_iff_lt, ge_iff_le, decide_eq_true_eq, decide_eq_false_iff_not, beq_iff_eq, bne_iff_ne, ne_eq, beq_eq_false_iff_ne, bne_eq_false_iff_eq, List.length_map, List.length_append, List.length_cons, List.length_nil, List.length_take, List.length_drop, Bool.not_eq_true', Bool.not_eq_false', Bool.not_eq_true, Bool.not_eq_false, Decidable.not_not, Nat.cast_ofNat, Int.natCast_add] <;> omega) | (simp <;> omega))); conv => whnf); try (refine hcut.go ?_; conv => whnf))
    ((refine hwrap_fit (W_fit ?_ ?_) ?_; (· (first | omega | (simp only [List.length_map, List.length_append, List.length_take, List.length_drop, List.length_cons, List.length_nil] <;> omega) | (simp <;> omega))); (· (first | omega | (simp only [List.length_map, List.length_append, List.length_take, List.length_drop, List.length_cons, List.length_nil] <;> omega) | (simp <;> omega))); conv => whnf); try (refine hcut.go ?_; conv => whnf))
    ((refine hcall_lend ?_; (conv => whnf); refine ⟨_, spec_has (adds [] l) (n + 1) (by omega), rfl, ?_⟩; conv => whnf); try (refine hcut.go ?_; conv => whnf))
    refine hif_false u3 ?_
    conv => whnf
    ((refine hwrap_fit (W_fit ?_ ?_) ?_; (· (first | omega | (simp only [List.length_map, List.length_append, List.length_take, List.length_drop, List.length_cons, List.length_nil] <;> omega) | (simp <;> omega))); (· (first | omega | (simp only [List.length_map, List.length_append, List.length_take, List.length_drop, List.length_cons, List.length_nil] <;> omega) | (simp <;> omega))); conv => whnf); try (refine hcut.go ?_; conv => whnf))
    ((refine hcall_lend ?_; (conv => whnf); refine ⟨_, spec_has rest (n + 1) (by omega), rfl, ?_⟩; conv => whnf); try (refine hcut.go ?_; conv => whnf))
    refine hif_false u4 ?_
    conv => whnf
    try (refine hcut.go ?_; conv => whnf)
    refine ⟨{ x : List Int × List Int // l = x.1 ++ x.2 }, fun | ⟨(a, b), _⟩ => hs 86 [(0, ints l), (1, i64 cum), (8, i64 n), (9, .own 900), (66, ints l), (67, i64 l.length), (68, i64 a.length)] [(900, .live (.row 52 2 (rest.map Span.row)))], fun x => x.1.2.length, ⟨([], l), rfl⟩, ?_, ?_⟩
    · exact (hle_hs [(900, some 46)] rfl rfl rfl rfl (by repeat' (first | exact trivial | exact rfl | (refine ⟨⟨rfl, ?_⟩, ?_⟩) | (refine ⟨rfl, ?_⟩) | (simp; done) | (simp; rfl))) (by repeat' (first | exact trivial | exact rfl | exact .inl rfl | exact .inr rfl | (refine ⟨⟨rfl, .inl ⟨_, rfl, ?_⟩⟩, ?_⟩) | (refine ⟨⟨rfl, _, rfl, ?_⟩, ?_⟩) | (refine ⟨⟨rfl, .inr ⟨rfl, ?_⟩⟩, ?_⟩) | (simp; done) | (simp; rfl))))
    rintro ⟨⟨a, b⟩, h⟩
    dsimp only at h
    have hlen : l.length = a.length + b.length := by rw [h]; simp
    conv => whnf
    cases b with
    | cons x b =>
      rw [List.length_cons] at hlen
      ((refine hif_true ?_ ?_; (· (first | rfl | assumption | omega | (simp only [gt_iff_lt, ge_iff_le, decide_eq_true_eq, decide_eq_false_iff_not, beq_iff_eq, bne_iff_ne, ne_eq, beq_eq_false_iff_ne, bne_eq_false_iff_eq, List.length_map, List.length_append, List.length_cons, List.length_nil, List.length_take, List.length_drop, Bool.not_eq_true', Bool.not_eq_false', Bool.not_eq_true, Bool.not_eq_false, Decidable.not_not, Nat.cast_ofNat, Int.natCast_add] <;> omega) | (simp <;> omega))); conv => whnf); try (refine hcut.go ?_; conv => whnf))
      refine hrow_mid h rfl ?_; conv => whnf
      ((refine hcall_lend ?_; (conv => whnf); refine ⟨_, spec_has rest x (by omega), rfl, ?_⟩; conv => whnf); try (refine hcut.go ?_; conv => whnf))
      refine hif_false (by rw [u5 x (zip_mem h)]; simp) ?_
      conv => whnf
      try (refine hcut.go ?_; conv => whnf)
      ((refine hwrap_fit (W_fit ?_ ?_) ?_; (· (first | omega | (simp only [List.length_map, List.length_append, List.length_take, List.length_drop, List.length_cons, List.length_nil] <;> omega) | (simp <;> omega))); (· (first | omega | (simp only [List.length_map, List.length_append, List.length_take, List.length_drop, List.length_cons, List.length_nil] <;> omega) | (simp <;> omega))); conv => whnf); try (refine hcut.go ?_; conv => whnf))
      exact ⟨⟨(a ++ [x], b), by rw [h]; simp⟩, (hle_hs [(900, some 900)] rfl rfl rfl rfl (by repeat' (first | exact trivial | exact rfl | (refine ⟨⟨rfl, ?_⟩, ?_⟩) | (refine ⟨rfl, ?_⟩) | (simp; done) | (simp; rfl))) (by repeat' (first | exact trivial | exact rfl | exact .inl rfl | exact .inr rfl | (refine ⟨⟨rfl, .inl ⟨_, rfl, ?_⟩⟩, ?_⟩) | (refine ⟨⟨rfl, _, rfl, ?_⟩, ?_⟩) | (refine ⟨⟨rfl, .inr ⟨rfl, ?_⟩⟩, ?_⟩) | (simp; done) | (simp; rfl)))), by simp⟩
    | nil =>
      rw [List.length_nil] at hlen
      ((refine hif_false ?_ ?_; (· (first | rfl | assumption | omega | (simp only [gt_iff_lt, ge_iff_le, decide_eq_true_eq, decide_eq_false_iff_not, beq_iff_eq, bne_iff_ne, ne_eq, beq_eq_false_iff_ne, bne_eq_false_iff_eq, List.length_map, List.length_append, List.length_cons, List.length_nil, List.length_take, List.length_drop, Bool.not_eq_true', Bool.not_eq_false', Bool.not_eq_true, Bool.not_eq_false, Decidable.not_not, Nat.cast_ofNat, Int.natCast_add] <;> omega) | (simp <;> omega))); conv => whnf); try (refine hcut.go ?_; conv => whnf))
      ((refine hwrap_fit (W_fit ?_ ?_) ?_; (· (first | omega | (simp only [List.length_map, List.length_append, List.length_take, List.length_drop, List.length_cons, List.length_nil] <;> omega) | (simp <;> omega))); (· (first | omega | (simp only [List.length_map, List.length_append, List.length_take, List.length_drop, List.length_cons, List.length_nil] <;> omega) | (simp <;> omega))); conv => whnf); try (refine hcut.go ?_; conv => whnf))
      simp; omega
theorem spanslaw (l : List Int) (other : Int) (hb : l.length < 2 ^ 38) (hI : ∀ n ∈ l, inI n) : FunOK Try.prog 6 [ints l, i64 other] noHeap (hbool true) noHeap := by
  refine funOK_pure mixed Try.func6 (by decide) ?_
  conv => whnf
  ((refine hcall_lend ?_; (conv => whnf); refine ⟨_, alive, rfl, ?_⟩; conv => whnf); try (refine hcut.go ?_; conv => whnf))
  refine ⟨{ x : (List Int × List Int) × (List Int × List Int) // l = x.1.1 ++ x.1.2 ∧ l = x.2.2 ++ x.2.1.reverse ∧ x.2.1.length = x.1.1.length ∧ ∀ n ∈ x.1.1, -1000000 ≤ n ∧ n ≤ 1000000 }, fun | ⟨((a, b), (a', b')), _⟩ => hs 72 [(0, ints l), (1, i64 other), (5, .own 900), (6, .own 901), (7, hbool (a.any fun n => decide (n = other))), (14, ints l), (15, i64 l.length), (16, i64 a.length)] [(900, .live (.row 52 2 ((adds [] a).map Span.row))), (901, .live (.row 52 2 ((adds [] a').map Span.row)))], fun x => x.1.1.2.length, ⟨(([], l), ([], l)), rfl, by simp, rfl, by simp⟩, ?_, ?_⟩
  · exact (hle_hs [(900, none), (901, none)] rfl rfl rfl rfl (by repeat' (first | exact trivial | exact rfl | (refine ⟨⟨rfl, ?_⟩, ?_⟩) | (refine ⟨rfl, ?_⟩) | (simp; done) | (simp; rfl))) (by repeat' (first | exact trivial | exact rfl | exact .inl rfl | exact .inr rfl | (refine ⟨⟨rfl, .inl ⟨_, rfl, ?_⟩⟩, ?_⟩) | (refine ⟨⟨rfl, _, rfl, ?_⟩, ?_⟩) | (refine ⟨⟨rfl, .inr ⟨rfl, ?_⟩⟩, ?_⟩) | (simp; done) | (simp; rfl))))
  rintro ⟨⟨⟨a, b⟩, ⟨a', b'⟩⟩, h, h', haa, ha⟩
  dsimp only at h h' haa ha
  have hlen : l.length = a.length + b.length := by rw [h]; simp
  have hlen' : l.length = a'.length + b'.length := by rw [h']; simp; omega
  have hal := adds_len a []
  have hal' := adds_len a' []
  rw [List.length_nil] at hal hal'
  have hr := (adds_is (s := []) trivial (small ha)).1
  have hr' := (adds_is (l := a') (s := []) trivial (fun n hn => hI n (by rw [h']; simp [hn]))).1
  conv => whnf
  cases b with
  | cons x b =>
    rw [List.length_cons] at hlen
    ((refine hif_true ?_ ?_; (· (first | rfl | assumption | omega | (simp only [gt_iff_lt, ge_iff_le, decide_eq_true_eq, decide_eq_false_iff_not, beq_iff_eq, bne_iff_ne, ne_eq, beq_eq_false_iff_ne, bne_eq_false_iff_eq, List.length_map, List.length_append, List.length_cons, List.length_nil, List.length_take, List.length_drop, Bool.not_eq_true', Bool.not_eq_false', Bool.not_eq_true, Bool.not_eq_false, Decidable.not_not, Nat.cast_ofNat, Int.natCast_add] <;> omega) | (simp <;> omega))); conv => whnf); try (refine hcut.go ?_; conv => whnf))
    refine hrow_mid h rfl ?_; conv => whnf
    refine hif_intro (fun d1 => ?_) (fun d1 => ?_)
    · conv => whnf
      try (refine hcut.go ?_; conv => whnf)
    have d1 : -1000000 ≤ x := by simpa using d1
    conv => whnf
    refine hif_intro (fun d2 => ?_) (fun d2 => ?_)
    · conv => whnf
      try (refine hcut.go ?_; conv => whnf)
    have d2 : x ≤ 1000000 := by simpa using d2
    conv => whnf
    try (refine hcut.go ?_; conv => whnf)
    ((refine hcall_own [(0, 29)] ?_; (conv => whnf); refine ⟨_, _,  spec_add (adds [] a) x hr (by omega) (by omega) (by omega), ⟨⟨⟨rfl, rfl⟩, trivial⟩, rfl, rfl, rfl⟩, ?_⟩; conv => whnf); try (refine hcut.go ?_; conv => whnf))
    ((refine hwrap_fit (W_fit ?_ ?_) ?_; (· (first | omega | (simp only [List.length_map, List.length_append, List.length_take, List.length_drop, List.length_cons, List.length_nil] <;> omega) | (simp <;> omega))); (· (first | omega | (simp only [List.length_map, List.length_append, List.length_take, List.length_drop, List.length_cons, List.length_nil] <;> omega) | (simp <;> omega))); conv => whnf); try (refine hcut.go ?_; conv => whnf))
    ((refine hwrap_fit (W_fit ?_ ?_) ?_; (· (first | omega | (simp only [List.length_map, List.length_append, List.length_take, List.length_drop, List.length_cons, List.length_nil] <;> omega) | (simp <;> omega))); (· (first | omega | (simp only [List.length_map, List.length_append, List.length_take, List.length_drop, List.length_cons, List.length_nil] <;> omega) | (simp <;> omega))); conv => whnf); try (refine hcut.go ?_; conv => whnf))
    obtain ⟨c, y, hc⟩ : ∃ c y, b' = c ++ [y] := by
      rcases nil_or_snoc b' with rfl | ⟨c, y, rfl⟩
      · simp at hlen'; omega
      · exact ⟨c, y, rfl⟩
    subst hc
    simp only [List.length_append, List.length_cons, List.length_nil] at hlen'
    have hy := hI y (by rw [h']; simp)
    unfold inI at hy
    refine hrow_mid (show l = c ++ y :: a'.reverse by rw [h']; simp) (by simp; omega) ?_; conv => whnf
    ((refine hcall_own [(0, 39)] ?_; (conv => whnf); refine ⟨_, _,  spec_add (adds [] a') y hr' (by omega) (by omega) (by omega), ⟨⟨⟨rfl, rfl⟩, trivial⟩, rfl, rfl, rfl⟩, ?_⟩; conv => whnf); try (refine hcut.go ?_; conv => whnf))
    refine hif_intro (fun d3 => ?_) (fun d3 => ?_)
    all_goals (
      conv => whnf
      try (refine hcut.go ?_; conv => whnf)
      ((refine hwrap_fit (W_fit ?_ ?_) ?_; (· (first | omega | (simp only [List.length_map, List.length_append, List.length_take, List.length_drop, List.length_cons, List.length_nil] <;> omega) | (simp <;> omega))); (· (first | omega | (simp only [List.length_map, List.length_append, List.length_take, List.length_drop, List.length_cons, List.length_nil] <;> omega) | (simp <;> omega))); conv => whnf); try (refine hcut.go ?_; conv => whnf))
      refine ⟨⟨((a ++ [x], b), (a' ++ [y], c)), by rw [h]; simp, by rw [h']; simp, by simp; omega, fun n hn => ?_⟩, (hle_hs [(900, some 29), (901, some 39)] rfl rfl rfl rfl (by repeat' (first | exact trivial | exact rfl | (refine ⟨⟨rfl, ?_⟩, ?_⟩) | (refine ⟨rfl, ?_⟩) | ((exact row_eqs (by rw [adds_snoc]))) | ((simp [List.any_append, d3])) | ((exact congrArg hbool (by rw [List.any_append, d3]; simp))) | (simp; done) | (simp; rfl))) (by repeat' (first | exact trivial | exact rfl | exact .inl rfl | exact .inr rfl | (refine ⟨⟨rfl, .inl ⟨_, rfl, ?_⟩⟩, ?_⟩) | (refine ⟨⟨rfl, _, rfl, ?_⟩, ?_⟩) | (refine ⟨⟨rfl, .inr ⟨rfl, ?_⟩⟩, ?_⟩) | ((exact row_eqs (by rw [adds_snoc]))) | ((simp [List.any_append, d3])) | ((exact congrArg hbool (by rw [List.any_append, d3]; simp))) | (simp; done) | (simp; rfl)))), by simp⟩
      rcases List.mem_append.1 hn with hn | hn
      · exact ha n hn
      · rw [List.mem_singleton.1 hn]; exact ⟨d1, d2⟩)
  | nil =>
    rw [List.append_nil] at h
    rw [List.length_nil] at hlen
    subst h
    obtain rfl : b' = [] := List.eq_nil_of_length_eq_zero (by omega)
    have hrev : adds [] l = adds [] a' := by
      have e : a' = l.reverse := by rw [List.nil_append] at h'; rw [h', List.reverse_reverse]
      rw [e]; exact adds_rev ha
    have hh := adds_has ha
    have hbd := adds_bound ha
    have hrb : riseB none (adds [] l) = true := riseB_mk hr fun s hs => by have := hbd s hs; exact ⟨by omega, by omega, rfl⟩
    clear hlen' hal'
    ((refine hif_false ?_ ?_; (· (first | rfl | assumption | omega | (simp only [gt_iff_lt, ge_iff_le, decide_eq_true_eq, decide_eq_false_iff_not, beq_iff_eq, bne_iff_ne, ne_eq, beq_eq_false_iff_ne, bne_eq_false_iff_eq, List.length_map, List.length_append, List.length_cons, List.length_nil, List.length_take, List.length_drop, Bool.not_eq_true', Bool.not_eq_false', Bool.not_eq_true, Bool.not_eq_false, Decidable.not_not, Nat.cast_ofNat, Int.natCast_add] <;> omega) | (simp <;> omega))); conv => whnf); try (refine hcut.go ?_; conv => whnf))
    refine ⟨{ x : List Int × List Int // l = x.1 ++ x.2 }, fun | ⟨(a, b), _⟩ => hs 72 [(1, i64 other), (5, .own 900), (6, .own 901), (7, hbool (l.any fun n => decide (n = other))), (47, ints l), (48, i64 l.length), (49, i64 a.length)] [(900, .live (.row 52 2 ((adds [] l).map Span.row))), (901, .live (.row 52 2 ((adds [] a').map Span.row)))], fun x => x.1.2.length, ⟨([], l), rfl⟩, ?_, ?_⟩
    · exact (hle_hs [(900, some 900), (901, some 901)] rfl rfl rfl rfl (by repeat' (first | exact trivial | exact rfl | (refine ⟨⟨rfl, ?_⟩, ?_⟩) | (refine ⟨rfl, ?_⟩) | (simp; done) | (simp; rfl))) (by repeat' (first | exact trivial | exact rfl | exact .inl rfl | exact .inr rfl | (refine ⟨⟨rfl, .inl ⟨_, rfl, ?_⟩⟩, ?_⟩) | (refine ⟨⟨rfl, _, rfl, ?_⟩, ?_⟩) | (refine ⟨⟨rfl, .inr ⟨rfl, ?_⟩⟩, ?_⟩) | (simp; done) | (simp; rfl))))
    rintro ⟨⟨a, b⟩, h⟩
    dsimp only at h
    have hlen : l.length = a.length + b.length := by rw [h]; simp
    conv => whnf
    cases b with
    | cons x b =>
      rw [List.length_cons] at hlen
      ((refine hif_true ?_ ?_; (· (first | rfl | assumption | omega | (simp only [gt_iff_lt, ge_iff_le, decide_eq_true_eq, decide_eq_false_iff_not, beq_iff_eq, bne_iff_ne, ne_eq, beq_eq_false_iff_ne, bne_eq_false_iff_eq, List.length_map, List.length_append, List.length_cons, List.length_nil, List.length_take, List.length_drop, Bool.not_eq_true', Bool.not_eq_false', Bool.not_eq_true, Bool.not_eq_false, Decidable.not_not, Nat.cast_ofNat, Int.natCast_add] <;> omega) | (simp <;> omega))); conv => whnf); try (refine hcut.go ?_; conv => whnf))
      refine hrow_mid h rfl ?_; conv => whnf
      ((refine hcall_lend ?_; (conv => whnf); refine ⟨_, spec_has (adds [] l) x (by omega), rfl, ?_⟩; conv => whnf); try (refine hcut.go ?_; conv => whnf))
      refine hif_false (by rw [(hh x).2 (zip_mem h)]; rfl) ?_
      conv => whnf
      try (refine hcut.go ?_; conv => whnf)
      ((refine hwrap_fit (W_fit ?_ ?_) ?_; (· (first | omega | (simp only [List.length_map, List.length_append, List.length_take, List.length_drop, List.length_cons, List.length_nil] <;> omega) | (simp <;> omega))); (· (first | omega | (simp only [List.length_map, List.length_append, List.length_take, List.length_drop, List.length_cons, List.length_nil] <;> omega) | (simp <;> omega))); conv => whnf); try (refine hcut.go ?_; conv => whnf))
      exact ⟨⟨(a ++ [x], b), by rw [h]; simp⟩, (hle_hs [(900, some 900), (901, some 901)] rfl rfl rfl rfl (by repeat' (first | exact trivial | exact rfl | (refine ⟨⟨rfl, ?_⟩, ?_⟩) | (refine ⟨rfl, ?_⟩) | (simp; done) | (simp; rfl))) (by repeat' (first | exact trivial | exact rfl | exact .inl rfl | exact .inr rfl | (refine ⟨⟨rfl, .inl ⟨_, rfl, ?_⟩⟩, ?_⟩) | (refine ⟨⟨rfl, _, rfl, ?_⟩, ?_⟩) | (refine ⟨⟨rfl, .inr ⟨rfl, ?_⟩⟩, ?_⟩) | (simp; done) | (simp; rfl)))), by simp⟩
    | nil =>
      rw [List.length_nil] at hlen
      ((refine hif_false ?_ ?_; (· (first | rfl | assumption | omega | (simp only [gt_iff_lt, ge_iff_le, decide_eq_true_eq, decide_eq_false_iff_not, beq_iff_eq, bne_iff_ne, ne_eq, beq_eq_false_iff_ne, bne_eq_false_iff_eq, List.length_map, List.length_append, List.length_cons, List.length_nil, List.length_take, List.length_drop, Bool.not_eq_true', Bool.not_eq_false', Bool.not_eq_true, Bool.not_eq_false, Decidable.not_not, Nat.cast_ofNat, Int.natCast_add] <;> omega) | (simp <;> omega))); conv => whnf); try (refine hcut.go ?_; conv => whnf))
      ((refine hcall_lend ?_; (conv => whnf); refine ⟨_, spec_has (adds [] l) other (by omega), rfl, ?_⟩; conv => whnf); try (refine hcut.go ?_; conv => whnf))
      refine hif_true ?_ ?_
      · have e : (l.any fun n => decide (n = other)) = has (adds [] l) other := by rw [Bool.eq_iff_iff, hh]; simp
        rw [e]; simp
      conv => whnf
      ((refine hcall_lend ?_; (conv => whnf); refine ⟨_, spec_rise (adds [] l) (by omega), rfl, ?_⟩; conv => whnf); try (refine hcut.go ?_; conv => whnf))
      refine hif_true hrb ?_
      conv => whnf
      ((refine hcall_lend ?_; (conv => whnf); refine ⟨_, spec_rsame (adds [] l) (adds [] a') (by omega), rfl, ?_⟩; conv => whnf); try (refine hcut.go ?_; conv => whnf))
      simp [hrev]
end Ser
end Go.HL
