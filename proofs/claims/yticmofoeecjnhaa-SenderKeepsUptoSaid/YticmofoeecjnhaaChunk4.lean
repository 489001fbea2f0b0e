/- Parse of the document. -/
import Derived.Test.YticmofoeecjnhaaChunk3
namespace Go.HL
open Go.Proofs
namespace Chk
set_option maxHeartbeats 1000000
set_option maxRecDepth 100000
set_option linter.unusedSimpArgs false
theorem two_ok {l : List UInt8} {ok : Bool} (h : (two l ok).2.2 = true) : ok = true ∧ ∃ a b, l = a :: b :: (two l ok).2.1 ∧ (two l ok).1 = dec16 a b := by
  match l, h with
  | x :: y :: r, h => exact ⟨h, x, y, rfl, rfl⟩
  | [x], h => cases h
  | [], h => cases h
theorem two_len (l : List UInt8) (ok : Bool) : (two l ok).2.1.length ≤ l.length - 2 := by
  match l with
  | x :: y :: r => simp [two]
  | [x] => simp [two]
  | [] => simp [two]
theorem two_bad {l : List UInt8} {ok : Bool} (h : (two l ok).2.2 = false) : ok = false ∨ l.length < 2 := by
  match l, h with
  | x :: y :: r, h => exact .inl h
  | [x], h => exact .inr (by simp)
  | [], h => exact .inr (by simp)
theorem bad2 {s : List UInt8} (h : s.length < 4 ∨ s.length % 4 ≠ 0) : (bodyOf 2 s).2 = false := by
  unfold bodyOf
  (repeat' split) <;> first | rfl | (exfalso; omega)
structure I2 (s : List UInt8) (tag room : Int) (l : List UInt8) (ok : Bool) (acc : List Span) : Prop where
  good : ok = true → 4 ≤ s.length ∧ acc ++ spansOf l = spansOf (s.drop 4) ∧ l.length % 4 = s.length % 4 ∧ tag = at16 s 0 ∧ room = at16 s 2
  bad : ok = false → (bodyOf 2 s).2 = false
  len : acc.length + l.length ≤ 256
theorem I2.next {s l : List UInt8} {tag room : Int} {ok : Bool} {acc : List Span} (h : I2 s tag room l ok acc) (hl : 0 < l.length) :
    I2 s tag room (two (two l ok).2.1 (two l ok).2.2).2.1 (two (two l ok).2.1 (two l ok).2.2).2.2 (acc ++ [⟨(two l ok).1, (two (two l ok).2.1 (two l ok).2.2).1⟩]) := by
  have g1 := two_len l ok
  have g2 := two_len (two l ok).2.1 (two l ok).2.2
  refine ⟨fun h2 => ?_, fun h2 => ?_, ?_⟩
  · obtain ⟨h3, c, d, h4, h5⟩ := two_ok h2
    obtain ⟨h6, a, b, h7, h8⟩ := two_ok h3
    obtain ⟨i1, i2, i3, i4, i5⟩ := h.good h6
    refine ⟨i1, ?_, ?_, i4, i5⟩
    · rw [← i2, h8, h5, List.append_assoc]
      congr 1
      generalize (two (two l ok).2.1 (two l ok).2.2).2.1 = r at *
      rw [h7, h4]
      rfl
    · rw [← i3]
      generalize (two (two l ok).2.1 (two l ok).2.2).2.1 = r at *
      rw [h7, h4]; simp; omega
  · cases hok : ok with
    | false => exact h.bad hok
    | true =>
      obtain ⟨i1, i2, i3, i4, i5⟩ := h.good hok
      refine bad2 (.inr ?_)
      rw [← i3]
      have hlen : l.length < 4 := by
        rcases two_bad h2 with h3 | h3
        · rcases two_bad h3 with h4 | h4
          · rw [hok] at h4; cases h4
          · omega
        · have : l.length ≤ (two l ok).2.1.length + 2 := by
            match l with
            | x :: y :: r => simp [two]
            | [x] => simp
            | [] => simp
          omega
      omega
  · have := h.len
    simp only [List.length_append, List.length_cons, List.length_nil]; omega
theorem I2.done {s : List UInt8} {tag room : Int} {acc : List Span} (h : I2 s tag room [] true acc) : bodyOf 2 s = (⟨2, tag, 0, 0, 0, false, false, [], acc, room, []⟩, true) := by
  obtain ⟨i1, i2, i3, i4, i5⟩ := h.good rfl
  simp only [spansOf, List.append_nil] at i2
  unfold bodyOf
  rw [if_neg (by omega), if_neg (by decide), if_pos rfl, if_neg (by simp at i3; omega), i2, i4, i5]
  rfl
theorem bad3 {kind : Int} {s : List UInt8} (k1 : ¬ kind = 1) (k2 : ¬ kind = 2) (h : s.length < 2 ∨ s.length % 4 ≠ 2 ∨ (skipsRun (s.drop 2)).2 = false) : (bodyOf kind s).2 = false := by
  unfold bodyOf
  rcases h with h | h | h
  · (repeat' split) <;> first | rfl | (exfalso; omega)
  · (repeat' split) <;> first | rfl | (exfalso; omega)
  · (repeat' split) <;> first | rfl | (exfalso; omega) | exact h
theorem one_len (l : List UInt8) (ok : Bool) : (one l ok).2.1.length = l.length - 1 := by
  match l with
  | x :: r => simp [one]
  | [] => simp [one]
structure I3 (kind : Int) (s : List UInt8) (tag : Int) (l : List UInt8) (ok : Bool) (acc : List Skip) : Prop where
  good : ok = true → 2 ≤ s.length ∧ skipsRun (s.drop 2) = (acc ++ (skipsRun l).1, (skipsRun l).2) ∧ l.length % 4 = (s.length - 2) % 4 ∧ tag = at16 s 0
  bad : ok = false → (bodyOf kind s).2 = false
  len : acc.length + l.length ≤ 256
theorem I3.less {l : List UInt8} {ok : Bool} (hl : 0 < l.length) : (two (one (one l ok).2.1 (one l ok).2.2).2.1 (one (one l ok).2.1 (one l ok).2.2).2.2).2.1.length < l.length := by
  have h1 := two_len (one (one l ok).2.1 (one l ok).2.2).2.1 (one (one l ok).2.1 (one l ok).2.2).2.2
  have h2 := one_len l ok
  have h3 := one_len (one l ok).2.1 (one l ok).2.2
  omega
theorem I3.next {kind : Int} {s l : List UInt8} {tag : Int} {ok : Bool} {acc : List Skip} (h : I3 kind s tag l ok acc) (k1 : ¬ kind = 1) (k2 : ¬ kind = 2) (hl : 0 < l.length) :
    ((one (one l ok).2.1 (one l ok).2.2).1 > 1 → I3 kind s tag (two (one (one l ok).2.1 (one l ok).2.2).2.1 (one (one l ok).2.1 (one l ok).2.2).2.2).2.1 false (acc ++ [⟨(one l ok).1, (two (one (one l ok).2.1 (one l ok).2.2).2.1 (one (one l ok).2.1 (one l ok).2.2).2.2).1, (one (one l ok).2.1 (one l ok).2.2).1 == 1⟩])) ∧
    (¬ (one (one l ok).2.1 (one l ok).2.2).1 > 1 → I3 kind s tag (two (one (one l ok).2.1 (one l ok).2.2).2.1 (one (one l ok).2.1 (one l ok).2.2).2.2).2.1 (two (one (one l ok).2.1 (one l ok).2.2).2.1 (one (one l ok).2.1 (one l ok).2.2).2.2).2.2
      (acc ++ [⟨(one l ok).1, (two (one (one l ok).2.1 (one l ok).2.2).2.1 (one (one l ok).2.1 (one l ok).2.2).2.2).1, (one (one l ok).2.1 (one l ok).2.2).1 == 1⟩])) := by
  have hlen := h.len
  have hless := I3.less (ok := ok) hl
  match l, hl with
  | [x], _ =>
    have hbad : (bodyOf kind s).2 = false := by
      cases hok : ok with
      | false => exact h.bad hok
      | true =>
        obtain ⟨i1, i2, i3, i4⟩ := h.good hok
        exact bad3 k1 k2 (.inr (.inl (by simp at i3; omega)))
    refine ⟨fun h2 => absurd h2 (by simp [one]), fun _ => ⟨fun h2 => (by cases h2), fun _ => hbad, by simp [one, two] at hlen ⊢; omega⟩⟩
  | [x, y], _ =>
    have hbad : (bodyOf kind s).2 = false := by
      cases hok : ok with
      | false => exact h.bad hok
      | true =>
        obtain ⟨i1, i2, i3, i4⟩ := h.good hok
        exact bad3 k1 k2 (.inr (.inl (by simp at i3; omega)))
    exact ⟨fun _ => ⟨fun h2 => (by cases h2), fun _ => hbad, by simp [one, two] at hlen ⊢; omega⟩, fun _ => ⟨fun h2 => (by cases h2), fun _ => hbad, by simp [one, two] at hlen ⊢; omega⟩⟩
  | [x, y, z], _ =>
    have hbad : (bodyOf kind s).2 = false := by
      cases hok : ok with
      | false => exact h.bad hok
      | true =>
        obtain ⟨i1, i2, i3, i4⟩ := h.good hok
        exact bad3 k1 k2 (.inr (.inl (by simp at i3; omega)))
    exact ⟨fun _ => ⟨fun h2 => (by cases h2), fun _ => hbad, by simp [one, two] at hlen ⊢; omega⟩, fun _ => ⟨fun h2 => (by cases h2), fun _ => hbad, by simp [one, two] at hlen ⊢; omega⟩⟩
  | x :: y :: z :: w :: r, _ =>
    simp only [one, two]
    have hbeq : ((y.toNat : Int) == 1) = (y.toNat == 1) := by
      rcases Nat.decEq y.toNat 1 with h | h
      · rw [show ((y.toNat : Int) == 1) = false from by simpa using (by omega : ¬ (y.toNat : Int) = 1), show (y.toNat == 1) = false from by simpa using h]
      · rw [h]; rfl
    refine ⟨fun h2 => ⟨fun h3 => (by cases h3), fun _ => ?_, by simp at hlen ⊢; omega⟩, fun h2 => ⟨fun hok => ?_, fun hok => h.bad hok, by simp at hlen ⊢; omega⟩⟩
    · cases hok : ok with
      | false => exact h.bad hok
      | true =>
        obtain ⟨i1, i2, i3, i4⟩ := h.good hok
        refine bad3 k1 k2 (.inr (.inr ?_))
        rw [i2]
        show (skipsRun (x :: y :: z :: w :: r)).2 = false
        rw [skipsRun, if_pos (by omega)]
    · obtain ⟨i1, i2, i3, i4⟩ := h.good hok
      refine ⟨i1, ?_, by rw [← i3]; simp only [List.length_cons]; omega, i4⟩
      rw [i2, skipsRun, if_neg (by omega), hbeq]
      simp
theorem I3.done {kind : Int} {s : List UInt8} {tag : Int} {acc : List Skip} (k1 : ¬ kind = 1) (k2 : ¬ kind = 2) (h : I3 kind s tag [] true acc) : bodyOf kind s = (⟨kind, tag, 0, 0, 0, false, false, [], [], 0, acc⟩, true) := by
  obtain ⟨i1, i2, i3, i4⟩ := h.good rfl
  simp only [skipsRun, List.append_nil] at i2
  unfold bodyOf
  rw [if_neg (by omega), if_neg k1, if_neg k2, if_neg (by simp at i3; omega), i2, i4]
  rfl
end Chk
end Go.HL
