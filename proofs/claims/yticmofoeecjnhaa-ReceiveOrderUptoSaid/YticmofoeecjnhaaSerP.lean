/- Spans that rise, with a gap between: plain facts. -/
import Derived.Test.YticmofoeecjnhaaSer
namespace Go.HL
namespace Ser
set_option linter.unusedSimpArgs false
def rise : List Span → Prop
  | [] => True
  | s :: r => s.lo ≤ s.hi ∧ -9223372036854775808 ≤ s.lo ∧ s.hi ≤ 9223372036854775807 ∧ (∀ t ∈ r, s.hi + 1 < t.lo) ∧ rise r
theorem rise_app : ∀ {a b : List Span}, rise (a ++ b) ↔ rise a ∧ rise b ∧ ∀ s ∈ a, ∀ t ∈ b, s.hi + 1 < t.lo
  | [], b => by simp [rise]
  | s :: a, b => by
    simp only [List.cons_append, rise, rise_app (a := a) (b := b), List.mem_append, List.mem_cons]
    constructor
    · rintro ⟨h1, h2, h3, h4, h5, h6, h7⟩
      exact ⟨⟨h1, h2, h3, fun t ht => h4 t (.inl ht), h5⟩, h6, fun x hx t ht => by rcases hx with rfl | hx; exact h4 t (.inr ht); exact h7 x hx t ht⟩
    · rintro ⟨⟨h1, h2, h3, h4, h5⟩, h6, h7⟩
      exact ⟨h1, h2, h3, fun t ht => by rcases ht with ht | ht; exact h4 t ht; exact h7 s (.inl rfl) t ht, h5, h6, fun x hx t ht => h7 x (.inr hx) t ht⟩
theorem rise_mem : ∀ {l : List Span}, rise l → ∀ s ∈ l, s.lo ≤ s.hi ∧ -9223372036854775808 ≤ s.lo ∧ s.hi ≤ 9223372036854775807
  | s :: r, h, t, ht => by
    rcases List.mem_cons.1 ht with rfl | ht
    · exact ⟨h.1, h.2.1, h.2.2.1⟩
    · exact rise_mem h.2.2.2.2 t ht
theorem has_iff {l : List Span} {n : Int} : has l n = true ↔ ∃ s ∈ l, s.lo ≤ n ∧ n ≤ s.hi := by
  simp [has, List.any_eq_true]
theorem has_no {l : List Span} {n : Int} : has l n = false ↔ ∀ s ∈ l, ¬ (s.lo ≤ n ∧ n ≤ s.hi) := by
  rw [← Bool.not_eq_true, has_iff]; simp
theorem has_app (a b : List Span) (n : Int) : has (a ++ b) n = (has a n || has b n) := by simp [has]
theorem has_cons (s : Span) (b : List Span) (n : Int) : has (s :: b) n = ((decide (s.lo ≤ n) && decide (n ≤ s.hi)) || has b n) := by simp [has]
/-- spans that rise are told by what they have -/
theorem rise_ext : ∀ {l l' : List Span}, rise l → rise l' → (∀ m, has l m = has l' m) → l = l'
  | [], [], _, _, _ => rfl
  | [], t :: r, _, h, e => by
    have := e t.lo
    rw [has_cons] at this
    have h1 := h.1
    simp [has, h1] at this
  | s :: r, [], h, _, e => by
    have := e s.lo
    rw [has_cons] at this
    have h1 := h.1
    simp [has, h1] at this
  | s :: r, t :: q, h, k, e => by
    have hr : ∀ m, m ≤ s.hi + 1 → has r m = false := fun m hm => has_no.2 fun x hx => by have := h.2.2.2.1 x hx; omega
    have hq : ∀ m, m ≤ t.hi + 1 → has q m = false := fun m hm => has_no.2 fun x hx => by have := k.2.2.2.1 x hx; omega
    have h1 := h.1
    have k1 := k.1
    have elo : s.lo = t.lo := by
      rcases Int.lt_trichotomy s.lo t.lo with hl | hl | hl
      · have := e s.lo
        rw [has_cons, has_cons, hq s.lo (by omega)] at this
        have a1 : ¬ t.lo ≤ s.lo := by omega
        simp [h1, a1] at this
      · exact hl
      · have := e t.lo
        rw [has_cons, has_cons, hr t.lo (by omega)] at this
        have a1 : ¬ s.lo ≤ t.lo := by omega
        simp [k1, a1] at this
    have ehi : s.hi = t.hi := by
      rcases Int.lt_trichotomy s.hi t.hi with hl | hl | hl
      · have := e (s.hi + 1)
        rw [has_cons, has_cons, hr (s.hi + 1) (by omega)] at this
        have a1 : ¬ s.hi + 1 ≤ s.hi := by omega
        have a2 : t.lo ≤ s.hi + 1 := by omega
        have a3 : s.hi + 1 ≤ t.hi := by omega
        simp [a1, a2, a3] at this
      · exact hl
      · have := e (t.hi + 1)
        rw [has_cons, has_cons, hq (t.hi + 1) (by omega)] at this
        have a1 : ¬ t.hi + 1 ≤ t.hi := by omega
        have a2 : s.lo ≤ t.hi + 1 := by omega
        have a3 : t.hi + 1 ≤ s.hi := by omega
        simp [a1, a2, a3] at this
    have est : s = t := by cases s; cases t; simp_all
    subst est
    refine congrArg (s :: ·) (rise_ext h.2.2.2.2 k.2.2.2.2 fun m => ?_)
    have := e m
    rw [has_cons, has_cons] at this
    by_cases hm : m ≤ s.hi + 1
    · rw [hr m hm, hq m hm]
    · have a1 : ¬ m ≤ s.hi := by omega
      simpa [a1] using this

/-! ### Add -/
def lowB (n : Int) (s : Span) : Bool := decide (s.hi < n)
def below (l : List Span) (n : Int) : List Span := l.takeWhile (lowB n)
def above (l : List Span) (n : Int) : List Span := l.dropWhile (lowB n)
def cutL (n : Int) (a : List Span) : List Span × Int := match a.getLast? with
  | some s => if s.hi = n - 1 then (a.dropLast, s.lo) else (a, n)
  | none => (a, n)
def cutR (n : Int) : List Span → Int × List Span
  | t :: r => if t.lo = n + 1 then (t.hi, r) else (n, t :: r)
  | [] => (n, [])
def add (l : List Span) (n : Int) : List Span :=
  if has l n then l else (cutL n (below l n)).1 ++ ⟨(cutL n (below l n)).2, (cutR n (above l n)).1⟩ :: (cutR n (above l n)).2
theorem split (l : List Span) (n : Int) : l = below l n ++ above l n := (List.takeWhile_append_dropWhile).symm
theorem below_lt {l : List Span} {n : Int} : ∀ s ∈ below l n, s.hi < n := fun s hs => by
  have := List.all_eq_true.1 (List.all_takeWhile (p := lowB n) (l := l)) s hs
  simpa [lowB] using this
/-- what stands above, if the number is not in -/
theorem above_gt {l : List Span} {n : Int} (h : rise l) (hn : has l n = false) : ∀ s ∈ above l n, n < s.lo := by
  intro s hs
  have hsp := split l n
  have hr : rise (above l n) := by rw [hsp] at h; exact (rise_app.1 h).2.1
  have hno : ∀ t ∈ above l n, ¬ (t.lo ≤ n ∧ n ≤ t.hi) := fun t ht => has_no.1 hn t (by rw [hsp]; exact List.mem_append_right _ ht)
  have hhd : ∀ t r, above l n = t :: r → ¬ t.hi < n := by
    intro t r e hlt
    have := List.head?_dropWhile_not (lowB n) l
    rw [show l.dropWhile (lowB n) = t :: r from e] at this
    simp [lowB] at this; omega
  cases ha : above l n with
  | nil => rw [ha] at hs; simp at hs
  | cons t r =>
    have h1 := hhd t r ha
    have h2 := hno t (by rw [ha]; simp)
    rw [ha] at hr hs
    have h3 := hr.1
    rcases List.mem_cons.1 hs with rfl | hs
    · omega
    · have := hr.2.2.2.1 s hs; omega
theorem below_idx {l : List Span} {n : Int} (h : rise l) : ∀ (i : Nat) (hi : i < l.length), l[i].hi < n ↔ i < (below l n).length := by
  intro i hi
  have hsp := split l n
  constructor
  · intro hlt
    apply Classical.byContradiction
    intro hge
    have hmem : l[i] ∈ above l n := by
      have e : l[i]? = (above l n)[i - (below l n).length]? := by
        conv => lhs; rw [hsp]
        exact List.getElem?_append_right (by omega)
      rw [List.getElem?_eq_getElem hi] at e
      exact List.mem_of_getElem? e.symm
    have hr : rise (above l n) := by rw [hsp] at h; exact (rise_app.1 h).2.1
    cases ha : above l n with
    | nil => rw [ha] at hmem; simp at hmem
    | cons t r =>
      have h1 : ¬ t.hi < n := by
        intro hlt
        have := List.head?_dropWhile_not (lowB n) l
        rw [show l.dropWhile (lowB n) = t :: r from ha] at this
        simp [lowB] at this; omega
      rw [ha] at hr hmem
      rcases List.mem_cons.1 hmem with e | hm
      · rw [e] at hlt; exact h1 hlt
      · have h4 := hr.2.2.2.1 _ hm
        have h5 := (rise_mem hr.2.2.2.2 _ hm).1
        have := hr.1
        omega
  · intro hlt
    have e : l[i]? = (below l n)[i]? := by
      conv => lhs; rw [hsp]
      exact List.getElem?_append_left hlt
    rw [List.getElem?_eq_getElem hi] at e
    exact below_lt _ (List.mem_of_getElem? e.symm)
theorem cutL_spec {a : List Span} {n : Int} (h : rise a) (hn : ∀ s ∈ a, s.hi < n) :
    (cutL n a).2 ≤ n ∧ (∀ s ∈ (cutL n a).1, s.hi + 1 < (cutL n a).2) ∧ rise (cutL n a).1 ∧ (-9223372036854775808 ≤ n → -9223372036854775808 ≤ (cutL n a).2) ∧ ∀ m, (has (cutL n a).1 m || (decide ((cutL n a).2 ≤ m) && decide (m < n))) = has a m := by
  rcases List.eq_nil_or_concat a with rfl | ⟨a', s, rfl⟩
  · simp [cutL, rise, has]
    intro m hm; exact of_decide_eq_true hm
  · rw [List.concat_eq_append] at h hn ⊢
    have hs := hn s (by simp)
    have hr := rise_app.1 h
    have h3 : ∀ x ∈ a', x.hi + 1 < s.lo := fun x hx => hr.2.2 x hx s (by simp)
    have h4 := hr.2.1.1
    simp only [cutL, List.getLast?_concat]
    split
    · rename_i he
      simp only [List.dropLast_concat]
      refine ⟨by omega, h3, hr.1, fun _ => hr.2.1.2.1, fun m => ?_⟩
      rw [has_app, has_cons]
      have : decide (m < n) = decide (m ≤ s.hi) := by rw [decide_eq_decide]; omega
      rw [this]; simp [has]
    · rename_i he
      refine ⟨Int.le_refl _, fun x hx => ?_, h, fun h => h, fun m => ?_⟩
      · rcases List.mem_append.1 hx with hx | hx
        · have := h3 x hx; dsimp only; omega
        · rw [List.mem_singleton.1 hx]; dsimp only; omega
      · have : (decide (n ≤ m) && decide (m < n)) = false := by simp <;> omega
        dsimp only
        rw [this, Bool.or_false]
theorem cutR_spec {b : List Span} {n : Int} (h : rise b) (hn : ∀ s ∈ b, n < s.lo) :
    n ≤ (cutR n b).1 ∧ (∀ s ∈ (cutR n b).2, (cutR n b).1 + 1 < s.lo) ∧ rise (cutR n b).2 ∧ (n ≤ 9223372036854775807 → (cutR n b).1 ≤ 9223372036854775807) ∧ ∀ m, (has (cutR n b).2 m || (decide (n < m) && decide (m ≤ (cutR n b).1))) = has b m := by
  cases b with
  | nil =>
    simp [cutR, rise, has]
    intro m hm; exact decide_eq_false (by omega)
  | cons t r =>
    have ht := hn t (by simp)
    simp only [cutR]
    split
    · rename_i he
      refine ⟨by have := h.1; dsimp only; omega, h.2.2.2.1, h.2.2.2.2, fun _ => h.2.2.1, fun m => ?_⟩
      rw [has_cons, Bool.or_comm]
      congr 2
      rw [decide_eq_decide]; omega
    · rename_i he
      refine ⟨Int.le_refl _, fun x hx => ?_, h, fun h => h, fun m => ?_⟩
      · rcases List.mem_cons.1 hx with rfl | hx
        · dsimp only; omega
        · have := h.2.2.2.1 x hx; have := h.1; dsimp only; omega
      · have : (decide (n < m) && decide (m ≤ n)) = false := by simp
        dsimp only
        rw [this, Bool.or_false]
theorem add_rise {l : List Span} {n : Int} (h : rise l) (h1 : -9223372036854775808 ≤ n) (h2 : n ≤ 9223372036854775807) : rise (add l n) ∧ ∀ m, has (add l n) m = (has l m || decide (m = n)) := by
  unfold add
  cases hn : has l n with
  | true =>
    refine ⟨h, fun m => ?_⟩
    by_cases hm : m = n
    · subst hm; simp [hn]
    · simp [hm]
  | false =>
    simp only [Bool.false_eq_true, if_false]
    have hsp := split l n
    have hab := h
    rw [hsp] at hab
    obtain ⟨ra, rb, rab⟩ := rise_app.1 hab
    obtain ⟨a1, a2, a3, a4, a5⟩ := cutL_spec ra below_lt
    obtain ⟨b1, b2, b3, b4, b5⟩ := cutR_spec rb (above_gt h hn)
    have a4 := a4 h1
    have b4 := b4 h2
    have b6 : ∀ s ∈ (cutR n (above l n)).2, n < s.lo := fun s hs => by have := b2 s hs; omega
    refine ⟨rise_app.2 ⟨a3, ⟨by dsimp only; omega, a4, b4, b2, b3⟩, fun s hs t ht => ?_⟩, fun m => ?_⟩
    · rcases List.mem_cons.1 ht with rfl | ht
      · exact a2 s hs
      · have := a2 s hs; have := b6 t ht; omega
    · have e : has l m = (has (below l n) m || has (above l n) m) := by rw [← has_app, ← hsp]
      rw [has_app, has_cons, e, ← a5 m, ← b5 m]
      generalize has (cutL n (below l n)).1 m = A
      generalize has (cutR n (above l n)).2 m = B
      dsimp only
      rcases Int.lt_trichotomy m n with hlt | rfl | hgt
      · have e1 : decide (m < n) = true := by simpa using hlt
        have e2 : decide (n < m) = false := by simp; omega
        have e3 : decide (m = n) = false := by simp; omega
        have e4 : decide (m ≤ (cutR n (above l n)).1) = true := by simp; omega
        rw [e1, e2, e3, e4]; simp [Bool.or_assoc, Bool.or_comm, Bool.or_left_comm]
      · have e4 : decide (m ≤ (cutR m (above l m)).1) = true := by simp; omega
        have e5 : decide ((cutL m (below l m)).2 ≤ m) = true := by simp; omega
        rw [e4, e5]; simp
      · have e1 : decide (m < n) = false := by simp; omega
        have e2 : decide (n < m) = true := by simpa using hgt
        have e3 : decide (m = n) = false := by simp; omega
        have e4 : decide ((cutL n (below l n)).2 ≤ m) = true := by simp; omega
        rw [e1, e2, e3, e4]; simp [Bool.or_assoc, Bool.or_comm, Bool.or_left_comm]
end Ser
end Go.HL
