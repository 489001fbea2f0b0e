/- Parse of the document. -/
import Derived.Test.YtgigdnakgoefcaaChunk3
namespace Go.HL
open Go.Proofs
namespace Chk
set_option maxHeartbeats 1000000
set_option maxRecDepth 100000
set_option linter.unusedSimpArgs false
theorem shape7 : ∀ l : List UInt8, l = [] ∨ (∃ a, l = [a]) ∨ (∃ a b, l = [a, b]) ∨ (∃ a b c, l = [a, b, c]) ∨ (∃ a b c d, l = [a, b, c, d]) ∨ (∃ a b c d e, l = [a, b, c, d, e]) ∨ (∃ a b c d e f, l = [a, b, c, d, e, f]) ∨ ∃ a b c d e f g r, l = a :: b :: c :: d :: e :: f :: g :: r
  | [] => by simp
  | [a] => by simp
  | [a, b] => by simp
  | [a, b, c] => by simp
  | [a, b, c, d] => by simp
  | [a, b, c, d, e] => by simp
  | [a, b, c, d, e, f] => by simp
  | a :: b :: c :: d :: e :: f :: g :: r => by simp
theorem two_ok {l : List UInt8} {ok : Bool} (h : (two l ok).2.2 = true) : ok = true ∧ ∃ a b, l = a :: b :: (two l ok).2.1 ∧ (two l ok).1 = dec16 a b := by
  match l, h with
  | x :: y :: r, h => exact ⟨h, x, y, rfl, rfl⟩
  | [x], h => cases h
  | [], h => cases h
theorem two_len (l : List UInt8) (ok : Bool) : (two l ok).2.1.length ≤ l.length - 2 := by
  match l with
  | x :: y :: r => simp [two]
  | [x] => simp [two]
  | [] => simp [two]
theorem two_bad {l : List UInt8} {ok : Bool} (h : (two l ok).2.2 = false) : ok = false ∨ l.length < 2 := by
  match l, h with
  | x :: y :: r, h => exact .inl h
  | [x], h => exact .inr (by simp)
  | [], h => exact .inr (by simp)
theorem bad2 {s : List UInt8} (h : s.length < 4 ∨ s.length % 4 ≠ 0) : (bodyOf 2 s).2 = false := by
  unfold bodyOf
  (repeat' split) <;> first | rfl | (exfalso; omega)
/-- how far the document's reader is, at spans -/
structure I2 (s : List UInt8) (tag room : Int) (l : List UInt8) (ok : Bool) (acc : List Span) : Prop where
  good : ok = true → 4 ≤ s.length ∧ acc ++ spansOf l = spansOf (s.drop 4) ∧ l.length % 4 = s.length % 4 ∧ tag = at16 s 0 ∧ room = at16 s 2
  bad : ok = false → (bodyOf 2 s).2 = false
  len : acc.length + l.length ≤ 256
theorem I2.start {s : List UInt8} (hs : s.length ≤ 256) : I2 s (two s true).1 (two (two s true).2.1 (two s true).2.2).1 (two (two s true).2.1 (two s true).2.2).2.1 (two (two s true).2.1 (two s true).2.2).2.2 [] := by
  refine ⟨fun h => ?_, fun h => ?_, ?_⟩
  · obtain ⟨h1, c, d, h2, h3⟩ := two_ok h
    obtain ⟨_, a, b, h4, h5⟩ := two_ok h1
    generalize (two (two s true).2.1 (two s true).2.2).2.1 = r at *
    rw [h2] at h4
    subst h4
    refine ⟨by simp, by simp, by simp; omega, h5.trans rfl, h3.trans rfl⟩
  · refine bad2 ?_
    rcases two_bad h with h1 | h1
    · rcases two_bad h1 with h2 | h2
      · cases h2
      · left; omega
    · have : s.length ≤ (two s true).2.1.length + 2 := by
        match s with
        | x :: y :: r => simp [two]
        | [x] => simp
        | [] => simp
      left; omega
  · have h1 := two_len s true
    have h2 := two_len (two s true).2.1 (two s true).2.2
    simp only [List.length_nil]; omega
theorem I2.next {s l : List UInt8} {tag room : Int} {ok : Bool} {acc : List Span} (h : I2 s tag room l ok acc) (hl : 0 < l.length) :
    I2 s tag room (two (two l ok).2.1 (two l ok).2.2).2.1 (two (two l ok).2.1 (two l ok).2.2).2.2 (acc ++ [⟨(two l ok).1, (two (two l ok).2.1 (two l ok).2.2).1⟩]) := by
  have g1 := two_len l ok
  have g2 := two_len (two l ok).2.1 (two l ok).2.2
  refine ⟨fun h2 => ?_, fun h2 => ?_, ?_⟩
  · obtain ⟨h3, c, d, h4, h5⟩ := two_ok h2
    obtain ⟨h6, a, b, h7, h8⟩ := two_ok h3
    obtain ⟨i1, i2, i3, i4, i5⟩ := h.good h6
    refine ⟨i1, ?_, ?_, i4, i5⟩
    · rw [← i2, h8, h5, List.append_assoc]
      congr 1
      generalize (two (two l ok).2.1 (two l ok).2.2).2.1 = r at *
      rw [h7, h4]
      rfl
    · rw [← i3]
      generalize (two (two l ok).2.1 (two l ok).2.2).2.1 = r at *
      rw [h7, h4]; simp; omega
  · cases hok : ok with
    | false => exact h.bad hok
    | true =>
      obtain ⟨i1, i2, i3, i4, i5⟩ := h.good hok
      refine bad2 (.inr ?_)
      rw [← i3]
      have hlen : l.length < 4 := by
        rcases two_bad h2 with h3 | h3
        · rcases two_bad h3 with h4 | h4
          · rw [hok] at h4; cases h4
          · omega
        · have : l.length ≤ (two l ok).2.1.length + 2 := by
            match l with
            | x :: y :: r => simp [two]
            | [x] => simp
            | [] => simp
          omega
      omega
  · have := h.len
    simp only [List.length_append, List.length_cons, List.length_nil]; omega
theorem I2.done {s : List UInt8} {tag room : Int} {acc : List Span} (h : I2 s tag room [] true acc) : bodyOf 2 s = (⟨2, tag, 0, 0, 0, false, false, [], acc, room, []⟩, true) := by
  obtain ⟨i1, i2, i3, i4, i5⟩ := h.good rfl
  simp only [spansOf, List.append_nil] at i2
  unfold bodyOf
  rw [if_neg (by omega), if_neg (by decide), if_pos rfl, if_neg (by simp at i3; omega), i2, i4, i5]
  rfl

theorem bad3 {kind : Int} {s : List UInt8} (k1 : ¬ kind = 1) (k2 : ¬ kind = 2) (h : s.length < 2 ∨ s.length % 4 ≠ 2 ∨ (skipsRun (s.drop 2)).2 = false) : (bodyOf kind s).2 = false := by
  unfold bodyOf
  rcases h with h | h | h
  · (repeat' split) <;> first | rfl | (exfalso; omega)
  · (repeat' split) <;> first | rfl | (exfalso; omega)
  · (repeat' split) <;> first | rfl | (exfalso; omega) | exact h
theorem one_ok {l : List UInt8} {ok : Bool} (h : (one l ok).2.2 = true) : ok = true ∧ ∃ a, l = a :: (one l ok).2.1 ∧ (one l ok).1 = a.toNat := by
  match l, h with
  | x :: r, h => exact ⟨h, x, rfl, rfl⟩
  | [], h => cases h
theorem one_bad {l : List UInt8} {ok : Bool} (h : (one l ok).2.2 = false) : ok = false ∨ l = [] := by
  match l, h with
  | x :: r, h => exact .inl h
  | [], h => exact .inr rfl
theorem one_len (l : List UInt8) (ok : Bool) : (one l ok).2.1.length = l.length - 1 := by
  match l with
  | x :: r => simp [one]
  | [] => simp [one]
/-- how far the document's reader is, at skips -/
structure I3 (kind : Int) (s : List UInt8) (tag : Int) (l : List UInt8) (ok : Bool) (acc : List Skip) : Prop where
  good : ok = true → 2 ≤ s.length ∧ skipsRun (s.drop 2) = (acc ++ (skipsRun l).1, (skipsRun l).2) ∧ l.length % 4 = (s.length - 2) % 4 ∧ tag = at16 s 0
  bad : ok = false → (bodyOf kind s).2 = false
  len : acc.length + l.length ≤ 256
theorem I3.start {kind : Int} {s : List UInt8} (k1 : ¬ kind = 1) (k2 : ¬ kind = 2) (hs : s.length ≤ 256) : I3 kind s (two s true).1 (two s true).2.1 (two s true).2.2 [] := by
  refine ⟨fun h => ?_, fun h => ?_, ?_⟩
  · obtain ⟨_, a, b, h4, h5⟩ := two_ok h
    generalize (two s true).2.1 = r at *
    subst h4
    exact ⟨by simp, by simp, by simp, h5.trans rfl⟩
  · refine bad3 k1 k2 ?_
    rcases two_bad h with h1 | h1
    · cases h1
    · exact .inl h1
  · have h1 := two_len s true
    simp only [List.length_nil]; omega
theorem I3.less {l : List UInt8} {ok : Bool} (hl : 0 < l.length) : (two (one (one l ok).2.1 (one l ok).2.2).2.1 (one (one l ok).2.1 (one l ok).2.2).2.2).2.1.length < l.length := by
  have h1 := two_len (one (one l ok).2.1 (one l ok).2.2).2.1 (one (one l ok).2.1 (one l ok).2.2).2.2
  have h2 := one_len l ok
  have h3 := one_len (one l ok).2.1 (one l ok).2.2
  omega
theorem I3.next {kind : Int} {s l : List UInt8} {tag : Int} {ok : Bool} {acc : List Skip} (h : I3 kind s tag l ok acc) (k1 : ¬ kind = 1) (k2 : ¬ kind = 2) (hl : 0 < l.length) :
    ((one (one l ok).2.1 (one l ok).2.2).1 > 1 → I3 kind s tag (two (one (one l ok).2.1 (one l ok).2.2).2.1 (one (one l ok).2.1 (one l ok).2.2).2.2).2.1 false (acc ++ [⟨(one l ok).1, (two (one (one l ok).2.1 (one l ok).2.2).2.1 (one (one l ok).2.1 (one l ok).2.2).2.2).1, (one (one l ok).2.1 (one l ok).2.2).1 == 1⟩])) ∧
    (¬ (one (one l ok).2.1 (one l ok).2.2).1 > 1 → I3 kind s tag (two (one (one l ok).2.1 (one l ok).2.2).2.1 (one (one l ok).2.1 (one l ok).2.2).2.2).2.1 (two (one (one l ok).2.1 (one l ok).2.2).2.1 (one (one l ok).2.1 (one l ok).2.2).2.2).2.2
      (acc ++ [⟨(one l ok).1, (two (one (one l ok).2.1 (one l ok).2.2).2.1 (one (one l ok).2.1 (one l ok).2.2).2.2).1, (one (one l ok).2.1 (one l ok).2.2).1 == 1⟩])) := by
  have hlen := h.len
  have hless := I3.less (ok := ok) hl
  match l, hl with
  | [x], _ =>
    have hbad : (bodyOf kind s).2 = false := by
      cases hok : ok with
      | false => exact h.bad hok
      | true =>
        obtain ⟨i1, i2, i3, i4⟩ := h.good hok
        exact bad3 k1 k2 (.inr (.inl (by simp at i3; omega)))
    refine ⟨fun h2 => absurd h2 (by simp [one]), fun _ => ⟨fun h2 => (by cases h2), fun _ => hbad, by simp [one, two] at hlen ⊢; omega⟩⟩
  | [x, y], _ =>
    have hbad : (bodyOf kind s).2 = false := by
      cases hok : ok with
      | false => exact h.bad hok
      | true =>
        obtain ⟨i1, i2, i3, i4⟩ := h.good hok
        exact bad3 k1 k2 (.inr (.inl (by simp at i3; omega)))
    exact ⟨fun _ => ⟨fun h2 => (by cases h2), fun _ => hbad, by simp [one, two] at hlen ⊢; omega⟩, fun _ => ⟨fun h2 => (by cases h2), fun _ => hbad, by simp [one, two] at hlen ⊢; omega⟩⟩
  | [x, y, z], _ =>
    have hbad : (bodyOf kind s).2 = false := by
      cases hok : ok with
      | false => exact h.bad hok
      | true =>
        obtain ⟨i1, i2, i3, i4⟩ := h.good hok
        exact bad3 k1 k2 (.inr (.inl (by simp at i3; omega)))
    exact ⟨fun _ => ⟨fun h2 => (by cases h2), fun _ => hbad, by simp [one, two] at hlen ⊢; omega⟩, fun _ => ⟨fun h2 => (by cases h2), fun _ => hbad, by simp [one, two] at hlen ⊢; omega⟩⟩
  | x :: y :: z :: w :: r, _ =>
    simp only [one, two]
    have hbeq : ((y.toNat : Int) == 1) = (y.toNat == 1) := by
      rcases Nat.decEq y.toNat 1 with h | h
      · rw [show ((y.toNat : Int) == 1) = false from by simpa using (by omega : ¬ (y.toNat : Int) = 1), show (y.toNat == 1) = false from by simpa using h]
      · rw [h]; rfl
    refine ⟨fun h2 => ⟨fun h3 => (by cases h3), fun _ => ?_, by simp at hlen ⊢; omega⟩, fun h2 => ⟨fun hok => ?_, fun hok => h.bad hok, by simp at hlen ⊢; omega⟩⟩
    · cases hok : ok with
      | false => exact h.bad hok
      | true =>
        obtain ⟨i1, i2, i3, i4⟩ := h.good hok
        refine bad3 k1 k2 (.inr (.inr ?_))
        rw [i2]
        show (skipsRun (x :: y :: z :: w :: r)).2 = false
        rw [skipsRun, if_pos (by omega)]
    · obtain ⟨i1, i2, i3, i4⟩ := h.good hok
      refine ⟨i1, ?_, by rw [← i3]; simp only [List.length_cons]; omega, i4⟩
      rw [i2, skipsRun, if_neg (by omega), hbeq]
      simp
theorem I3.done {kind : Int} {s : List UInt8} {tag : Int} {acc : List Skip} (k1 : ¬ kind = 1) (k2 : ¬ kind = 2) (h : I3 kind s tag [] true acc) : bodyOf kind s = (⟨kind, tag, 0, 0, 0, false, false, [], [], 0, acc⟩, true) := by
  obtain ⟨i1, i2, i3, i4⟩ := h.good rfl
  simp only [skipsRun, List.append_nil] at i2
  unfold bodyOf
  rw [if_neg (by omega), if_neg k1, if_neg k2, if_neg (by simp at i3; omega), i2, i4]
  rfl

theorem spec_rparse (b : List UInt8) (hb : b.length < 2 ^ 39) : FunOK Try.prog 14 [byts b] noHeap (.tup [(parse b).1.hv, i64 (parse b).2.1, i64 (parse b).2.2]) noHeap := by
  refine funOK_pure mixed Try.func14 (by decide) ?_
  have hl : (b.map bRow).length = b.length := by simp
  have hb1 := (b[1]?.getD 0).toNat_lt
  conv => whnf
  refine hif_intro (fun c1 => ?_) (fun c1 => ?_)
  · have c1 : (b.length : Int) < 2 := by simpa using c1
    rw [parse, if_pos (.inl (by omega))]
    conv => whnf
    rfl
  have c1 : ¬ (b.length : Int) < 2 := by simpa using c1
  conv => whnf
  refine hrow_b 1 rfl (by omega) ?_; conv => whnf
  refine hwrap_fit (u8_fit _) ?_; conv => whnf
  refine hwrap_fit (z := ((b.map bRow).length : Int) - 2) (W_fit (by omega) (by omega)) ?_; conv => whnf
  refine hif_intro (fun c2 => ?_) (fun c2 => ?_)
  · have c2 : ((b[1]?.getD 0).toNat : Int) > ((b.map bRow).length : Int) - 2 := of_decide_eq_true c2
    rw [parse, if_pos (.inr (by omega))]
    conv => whnf
    rfl
  have c2 : ¬ ((b[1]?.getD 0).toNat : Int) > ((b.map bRow).length : Int) - 2 := of_decide_eq_false c2
  rw [parse, if_neg (by omega)]
  conv => whnf
  refine hrow_b 0 rfl (by omega) ?_; conv => whnf
  refine hif_intro (fun c3 => ?_) (fun c3 => ?_)
  · have c3 : ((b[0]?.getD 0).toNat : Int) < 1 := of_decide_eq_true c3
    rw [if_pos (.inl (by omega))]
    conv => whnf
    rfl
  have c3 : ¬ ((b[0]?.getD 0).toNat : Int) < 1 := of_decide_eq_false c3
  conv => whnf
  refine hrow_b 0 rfl (by omega) ?_; conv => whnf
  refine hif_intro (fun c4 => ?_) (fun c4 => ?_)
  · have c4 : ((b[0]?.getD 0).toNat : Int) > 3 := of_decide_eq_true c4
    rw [if_pos (.inr (by omega))]
    conv => whnf
    rfl
  have c4 : ¬ ((b[0]?.getD 0).toNat : Int) > 3 := of_decide_eq_false c4
  rw [if_neg (by omega)]
  conv => whnf
  refine hrow_b 1 rfl (by omega) ?_; conv => whnf
  refine hwrap_fit (u8_fit _) ?_; conv => whnf
  refine hwrap_fit (z := 2 + ((b[1]?.getD 0).toNat : Int)) (W_fit (by omega) (by omega)) ?_; conv => whnf
  refine hobl_intro (by omega) ?_; conv => whnf
  refine hsub_eq (o' := 2) (n' := (b[1]?.getD 0).toNat) rfl (by omega) ?_
  refine hsub_at (l := b) (by omega) ?_
  have hlen : ((b.drop 2).take (b[1]?.getD 0).toNat).length ≤ 256 := by simp; omega
  generalize hsub : (b.drop 2).take (b[1]?.getD 0).toNat = s at hlen ⊢
  conv => whnf
  refine hrow_b 0 rfl (by omega) ?_; conv => whnf
  refine hwrap_fit (u8_fit _) ?_; conv => whnf
  refine hcall_give [] [(1000000, 46)] [] ?_; conv => whnf
  refine ⟨_, _, _, _, spec_two s true, ⟨rfl, rfl, rfl, ⟨⟨rfl, _, rfl, .inl ⟨rfl, rfl⟩⟩, trivial⟩, trivial, rfl, rfl, rfl⟩, ?_⟩
  conv => whnf
  refine hdraw_intro ?_ ?_
  · kernel_rfl
  conv => whnf
  generalize ((b[0]?.getD 0).toNat : Int) = kind at *
  refine hcut.go ?_; conv => whnf
  refine hif_intro (fun k1 => ?_) (fun k1 => ?_)
  · have k1 : kind = 1 := by simpa using k1
    subst k1
    by_cases h7 : s.length < 7
    · have hbad : (bodyOf 1 s).2 = false := by
        unfold bodyOf; split
        · rfl
        · rw [if_pos rfl, if_pos (.inl h7)]
      rw [if_pos hbad]
      rcases shape7 s with rfl | ⟨x0, rfl⟩ | ⟨x0, x1, rfl⟩ | ⟨x0, x1, x2, rfl⟩ | ⟨x0, x1, x2, x3, rfl⟩ | ⟨x0, x1, x2, x3, x4, rfl⟩ | ⟨x0, x1, x2, x3, x4, x5, rfl⟩ | ⟨x0, x1, x2, x3, x4, x5, x6, r, rfl⟩
      case inr.inr.inr.inr.inr.inr.inr => simp at h7; omega
      all_goals
        conv => whnf
        (repeat' (first | (refine hwrap_raw ?_; conv => whnf) | (refine hobl_intro ?_ ?_; (first | kernel_rfl | decide); conv => whnf) | (refine hdraw_intro ?_ ?_; kernel_rfl; conv => whnf) | (refine hcut.go ?_; conv => whnf) | (refine hcall_give [] [(1000000, 46)]   []  ?_; (conv => whnf); refine ⟨_, _, _, _,  spec_one _ _, ⟨rfl, rfl, rfl, ⟨⟨rfl, _, rfl, .inl ⟨rfl, rfl⟩⟩, trivial⟩, trivial, rfl, rfl, rfl⟩, ?_⟩; conv => whnf) | (refine hcall_give [] [(1000000, 46)]   []  ?_; (conv => whnf); refine ⟨_, _, _, _,  spec_two _ _, ⟨rfl, rfl, rfl, ⟨⟨rfl, _, rfl, .inl ⟨rfl, rfl⟩⟩, trivial⟩, trivial, rfl, rfl, rfl⟩, ?_⟩; conv => whnf) | (refine hif_intro (fun h => ?_) (fun h => ?_) <;> conv => whnf)))
      all_goals first | rfl | (refine hobl_intro (c := (([] : List (List PV)).length + (([] : List UInt8).map bRow).length) * 1 ≤ 140737488355328) (by decide) ?_; (conv => whnf); rfl)
    · rcases shape7 s with rfl | ⟨x0, rfl⟩ | ⟨x0, x1, rfl⟩ | ⟨x0, x1, x2, rfl⟩ | ⟨x0, x1, x2, x3, rfl⟩ | ⟨x0, x1, x2, x3, x4, rfl⟩ | ⟨x0, x1, x2, x3, x4, x5, rfl⟩ | ⟨x0, x1, x2, x3, x4, x5, x6, r, rfl⟩
      case inr.inr.inr.inr.inr.inr.inr =>
        conv => whnf
        (repeat' (first | (refine hwrap_raw ?_; conv => whnf) | (refine hobl_intro ?_ ?_; (first | kernel_rfl | decide); conv => whnf) | (refine hdraw_intro ?_ ?_; kernel_rfl; conv => whnf) | (refine hcut.go ?_; conv => whnf) | (refine hcall_give [] [(1000000, 46)]   []  ?_; (conv => whnf); refine ⟨_, _, _, _,  spec_one _ _, ⟨rfl, rfl, rfl, ⟨⟨rfl, _, rfl, .inl ⟨rfl, rfl⟩⟩, trivial⟩, trivial, rfl, rfl, rfl⟩, ?_⟩; conv => whnf) | (refine hcall_give [] [(1000000, 46)]   []  ?_; (conv => whnf); refine ⟨_, _, _, _,  spec_two _ _, ⟨rfl, rfl, rfl, ⟨⟨rfl, _, rfl, .inl ⟨rfl, rfl⟩⟩, trivial⟩, trivial, rfl, rfl, rfl⟩, ?_⟩; conv => whnf) | (refine hif_intro (fun h => ?_) (fun h => ?_) <;> conv => whnf)))
        all_goals
          refine hobl_intro (c := (([] : List (List PV)).length + (r.map bRow).length) * 1 ≤ 140737488355328) (by simp at hlen ⊢; omega) ?_
          conv => whnf
        · rename_i h
          have h : (x3.toNat : Int) > 3 := of_decide_eq_true h
          have hbad : (bodyOf 1 (x0 :: x1 :: x2 :: x3 :: x4 :: x5 :: x6 :: r)).2 = false := by
            unfold bodyOf; rw [if_neg (by simp), if_pos rfl, if_pos (.inr (by simp; omega))]
          rw [if_pos hbad]
          rfl
        · rename_i h
          have h : ¬ (x3.toNat : Int) > 3 := of_decide_eq_false h
          have hbody : bodyOf 1 (x0 :: x1 :: x2 :: x3 :: x4 :: x5 :: x6 :: r) = (⟨1, dec16 x0 x1, x2.toNat, dec16 x4 x5, x6.toNat, (x3.toNat : Int).tmod 2 == 1, W ((x3.toNat : Int).tdiv 2) == 1, r, [], 0, []⟩, true) := by
            unfold bodyOf; rw [if_neg (by simp), if_pos rfl, if_neg (by simp; omega)]
            have e1 : ((x3.toNat : Int).tmod 2 == 1) = (x3.toNat % 2 != 0) := by
              generalize x3.toNat = n at h ⊢
              have : n ≤ 3 := by omega
              match n, this with
              | 0, _ => decide
              | 1, _ => decide
              | 2, _ => decide
              | 3, _ => decide
            have e2 : (W ((x3.toNat : Int).tdiv 2) == 1) = (x3.toNat / 2 * 2 != 0) := by
              generalize x3.toNat = n at h ⊢
              have : n ≤ 3 := by omega
              match n, this with
              | 0, _ => decide
              | 1, _ => decide
              | 2, _ => decide
              | 3, _ => decide
            rw [e1, e2]
            rfl
          rw [hbody]
          refine hcall_lend ?_; conv => whnf
          refine ⟨_, spec_rwrong ⟨1, dec16 x0 x1, x2.toNat, dec16 x4 x5, x6.toNat, (x3.toNat : Int).tmod 2 == 1, W ((x3.toNat : Int).tdiv 2) == 1, r, [], 0, []⟩ (by simp) (by simp), rfl, ?_⟩
          rw [if_neg (by simp)]
          generalize hw : wrong _ = w
          conv => whnf
          refine hif_intro (fun c5 => ?_) (fun c5 => ?_)
          · have c5 : ¬ w = 0 := by simpa using c5
            rw [if_pos c5]
            conv => whnf
            rfl
          · have c5 : w = 0 := by simpa using c5
            rw [if_neg (fun h => h c5)]
            conv => whnf
            rfl
      all_goals (exfalso; simp at h7)
  · have k1 : ¬ kind = 1 := by simpa using k1
    conv => whnf
    obtain ⟨T, hT⟩ : ∃ T, T = two s true := ⟨_, rfl⟩
    rw [← hT]
    refine hif_intro (fun k2 => ?_) (fun k2 => ?_)
    · have k2 : kind = 2 := by simpa using k2
      subst k2
      conv => whnf
      refine hcall_give [] [(1000000, 46)] [] ?_; conv => whnf
      refine ⟨_, _, _, _, spec_two T.2.1 T.2.2, ⟨rfl, rfl, rfl, ⟨⟨rfl, _, rfl, .inl ⟨rfl, rfl⟩⟩, trivial⟩, trivial, rfl, rfl, rfl⟩, ?_⟩
      obtain ⟨R, hR⟩ : ∃ R, R = two T.2.1 T.2.2 := ⟨_, rfl⟩
      rw [← hR]
      have hi := I2.start hlen
      rw [← hT, ← hR] at hi
      clear hT hR
      conv => whnf
      refine ⟨{ x : List UInt8 × Bool × List Span // I2 s T.1 R.1 x.1 x.2.1 x.2.2 }, fun | ⟨(l, ok, acc), _⟩ => hs 152 [(2, .ptr 2 0), (5, i64 (2 + (b[1]?.getD 0).toNat)), (6, .ptr 46 0), (7, .ptr 7 0)] [(2, .live (.cells 26 Chunk0)), (46, rd l ok), (7, .live (.cells 26 [i64 2, i64 T.1, i64 0, i64 0, i64 0, hbool false, hbool false, hnil, .own 900, i64 R.1, hnil])), (900, .live (.row 48 2 (acc.map Span.row)))], fun x => x.1.1.length, ⟨(R.2.1, R.2.2, []), hi⟩, ?_, ?_⟩
      · exact hle_hs [(2, some 2), (46, some 46), (7, some 7), (900, none)] rfl rfl rfl rfl ⟨⟨rfl, rfl⟩, ⟨rfl, rfl⟩, ⟨rfl, rfl⟩, ⟨rfl, rfl⟩, trivial⟩ ⟨⟨rfl, .inl ⟨2, rfl, rfl⟩⟩, ⟨rfl, .inl ⟨46, rfl, rfl⟩⟩, ⟨rfl, .inl ⟨7, rfl, rfl⟩⟩, ⟨rfl, .inr ⟨rfl, rfl⟩⟩, trivial⟩
      rintro ⟨⟨l, ok, acc⟩, hinv⟩
      dsimp only at hinv
      conv => whnf
      refine hif_intro (fun c => ?_) (fun c => ?_)
      · have hl0 : 0 < l.length := by
          have := of_decide_eq_true c; rw [List.length_map] at this; omega
        conv => whnf
        refine hcall_give [] [(1000000, 46)] [] ?_; conv => whnf
        refine ⟨_, _, _, _, spec_two l ok, ⟨rfl, rfl, rfl, ⟨⟨rfl, _, rfl, .inl ⟨rfl, rfl⟩⟩, trivial⟩, trivial, rfl, rfl, rfl⟩, ?_⟩
        conv => whnf
        refine hcall_give [] [(1000000, 46)] [] ?_; conv => whnf
        refine ⟨_, _, _, _, spec_two (two l ok).2.1 (two l ok).2.2, ⟨rfl, rfl, rfl, ⟨⟨rfl, _, rfl, .inl ⟨rfl, rfl⟩⟩, trivial⟩, trivial, rfl, rfl, rfl⟩, ?_⟩
        conv => whnf
        refine hobl_intro (c := ((acc.map Span.row).length + 1) * 16 ≤ 140737488355328) (by have := hinv.len; simp; omega) ?_; conv => whnf
        refine hdraw_intro ?_ ?_
        · kernel_rfl
        conv => whnf
        have g1 := two_len l ok
        have g2 := two_len (two l ok).2.1 (two l ok).2.2
        refine ⟨⟨((two (two l ok).2.1 (two l ok).2.2).2.1, (two (two l ok).2.1 (two l ok).2.2).2.2, acc ++ [⟨(two l ok).1, (two (two l ok).2.1 (two l ok).2.2).1⟩]), hinv.next hl0⟩, hle_hs [(2, some 2), (46, some 46), (7, some 7), (900, some 136)] rfl rfl rfl rfl ⟨⟨rfl, rfl⟩, ⟨rfl, rfl⟩, ⟨rfl, rfl⟩, ⟨rfl, rfl⟩, trivial⟩ ⟨⟨rfl, .inl ⟨2, rfl, rfl⟩⟩, ⟨rfl, .inl ⟨46, rfl, rfl⟩⟩, ⟨rfl, .inl ⟨7, rfl, rfl⟩⟩, ⟨rfl, .inl ⟨136, rfl, ?_⟩⟩, trivial⟩, by dsimp only; omega⟩
        show HSlot.live (.row _ 2 (acc.map Span.row ++ [Span.row ⟨(two l ok).1, (two (two l ok).2.1 (two l ok).2.2).1⟩])) = HSlot.live (.row _ 2 (List.map Span.row (acc ++ [⟨(two l ok).1, (two (two l ok).2.1 (two l ok).2.2).1⟩])))
        rw [List.map_append]
        rfl
      · have hl0 : l = [] := by
          have := of_decide_eq_false c; rw [List.length_map] at this; exact List.eq_nil_of_length_eq_zero (by omega)
        subst hl0
        cases ok with
        | false =>
          have hbad := hinv.bad rfl
          conv => whnf
          rw [if_pos hbad]
          rfl
        | true =>
          have hbody := hinv.done
          conv => whnf
          refine hcall_lend ?_; conv => whnf
          refine ⟨_, spec_rwrong ⟨2, T.1, 0, 0, 0, false, false, [], acc, R.1, []⟩ (by have := hinv.len; simp; omega) (by simp), rfl, ?_⟩
          rw [hbody, if_neg (by simp)]
          generalize hw : wrong _ = w
          conv => whnf
          refine hif_intro (fun c5 => ?_) (fun c5 => ?_)
          · have c5 : ¬ w = 0 := by simpa using c5
            rw [if_pos c5]
            conv => whnf
            rfl
          · have c5 : w = 0 := by simpa using c5
            rw [if_neg (fun h => h c5)]
            conv => whnf
            rfl
    · have k2 : ¬ kind = 2 := by simpa using k2
      have hi := I3.start k1 k2 hlen
      rw [← hT] at hi
      clear hT
      conv => whnf
      refine ⟨{ x : List UInt8 × Bool × List Skip // I3 kind s T.1 x.1 x.2.1 x.2.2 }, fun | ⟨(l, ok, acc), _⟩ => hs 152 [(2, .ptr 2 0), (5, i64 (2 + (b[1]?.getD 0).toNat)), (6, .ptr 46 0), (7, .ptr 7 0)] [(2, .live (.cells 26 Chunk0)), (46, rd l ok), (7, .live (.cells 26 [i64 kind, i64 T.1, i64 0, i64 0, i64 0, hbool false, hbool false, hnil, hnil, i64 0, .own 900])), (900, .live (.row 50 3 (acc.map Skip.row)))], fun x => x.1.1.length, ⟨(T.2.1, T.2.2, []), hi⟩, ?_, ?_⟩
      · exact hle_hs [(2, some 2), (46, some 46), (7, some 7), (900, none)] rfl rfl rfl rfl ⟨⟨rfl, rfl⟩, ⟨rfl, rfl⟩, ⟨rfl, rfl⟩, ⟨rfl, rfl⟩, trivial⟩ ⟨⟨rfl, .inl ⟨2, rfl, rfl⟩⟩, ⟨rfl, .inl ⟨46, rfl, rfl⟩⟩, ⟨rfl, .inl ⟨7, rfl, rfl⟩⟩, ⟨rfl, .inr ⟨rfl, rfl⟩⟩, trivial⟩
      rintro ⟨⟨l, ok, acc⟩, hinv⟩
      dsimp only at hinv
      conv => whnf
      refine hif_intro (fun c => ?_) (fun c => ?_)
      · have hl0 : 0 < l.length := by
          have := of_decide_eq_true c; rw [List.length_map] at this; omega
        conv => whnf
        refine hcall_give [] [(1000000, 46)] [] ?_; conv => whnf
        refine ⟨_, _, _, _, spec_one l ok, ⟨rfl, rfl, rfl, ⟨⟨rfl, _, rfl, .inl ⟨rfl, rfl⟩⟩, trivial⟩, trivial, rfl, rfl, rfl⟩, ?_⟩
        obtain ⟨A, hA⟩ : ∃ A, A = one l ok := ⟨_, rfl⟩
        rw [← hA]
        conv => whnf
        refine hcall_give [] [(1000000, 46)] [] ?_; conv => whnf
        refine ⟨_, _, _, _, spec_one A.2.1 A.2.2, ⟨rfl, rfl, rfl, ⟨⟨rfl, _, rfl, .inl ⟨rfl, rfl⟩⟩, trivial⟩, trivial, rfl, rfl, rfl⟩, ?_⟩
        obtain ⟨B, hB⟩ : ∃ B, B = one A.2.1 A.2.2 := ⟨_, rfl⟩
        rw [← hB]
        conv => whnf
        refine hcall_give [] [(1000000, 46)] [] ?_; conv => whnf
        refine ⟨_, _, _, _, spec_two B.2.1 B.2.2, ⟨rfl, rfl, rfl, ⟨⟨rfl, _, rfl, .inl ⟨rfl, rfl⟩⟩, trivial⟩, trivial, rfl, rfl, rfl⟩, ?_⟩
        obtain ⟨D, hD⟩ : ∃ D, D = two B.2.1 B.2.2 := ⟨_, rfl⟩
        rw [← hD]
        conv => whnf
        refine hcut.go ?_; conv => whnf
        refine hif_intro (fun c5 => ?_) (fun c5 => ?_)
        · have c5 := of_decide_eq_true c5
          have hn := hinv.next k1 k2 hl0
          rw [← hA, ← hB, ← hD] at hn
          have hn := hn.1 c5
          have hdl : D.2.1.length < l.length := by rw [hD, hB, hA]; exact I3.less hl0
          conv => whnf
          refine hobl_intro (c := ((acc.map Skip.row).length + 1) * 24 ≤ 140737488355328) (by have := hinv.len; simp; omega) ?_; conv => whnf
          refine ⟨⟨(D.2.1, false, acc ++ [⟨A.1, D.1, B.1 == 1⟩]), hn⟩, hle_hs [(2, some 2), (46, some 46), (7, some 7), (900, some 82)] rfl rfl rfl rfl ⟨⟨rfl, rfl⟩, ⟨rfl, rfl⟩, ⟨rfl, rfl⟩, ⟨rfl, rfl⟩, trivial⟩ ⟨⟨rfl, .inl ⟨2, rfl, rfl⟩⟩, ⟨rfl, .inl ⟨46, rfl, rfl⟩⟩, ⟨rfl, .inl ⟨7, rfl, rfl⟩⟩, ⟨rfl, .inl ⟨82, rfl, ?_⟩⟩, trivial⟩, hdl⟩
          show HSlot.live (.row _ 3 (acc.map Skip.row ++ [Skip.row ⟨A.1, D.1, B.1 == 1⟩])) = HSlot.live (.row _ 3 (List.map Skip.row (acc ++ [⟨A.1, D.1, B.1 == 1⟩])))
          rw [List.map_append]
          rfl
        · have c5 := of_decide_eq_false c5
          have hn := hinv.next k1 k2 hl0
          rw [← hA, ← hB, ← hD] at hn
          have hn := hn.2 c5
          have hdl : D.2.1.length < l.length := by rw [hD, hB, hA]; exact I3.less hl0
          conv => whnf
          refine hobl_intro (c := ((acc.map Skip.row).length + 1) * 24 ≤ 140737488355328) (by have := hinv.len; simp; omega) ?_; conv => whnf
          refine ⟨⟨(D.2.1, D.2.2, acc ++ [⟨A.1, D.1, B.1 == 1⟩]), hn⟩, hle_hs [(2, some 2), (46, some 46), (7, some 7), (900, some 82)] rfl rfl rfl rfl ⟨⟨rfl, rfl⟩, ⟨rfl, rfl⟩, ⟨rfl, rfl⟩, ⟨rfl, rfl⟩, trivial⟩ ⟨⟨rfl, .inl ⟨2, rfl, rfl⟩⟩, ⟨rfl, .inl ⟨46, rfl, rfl⟩⟩, ⟨rfl, .inl ⟨7, rfl, rfl⟩⟩, ⟨rfl, .inl ⟨82, rfl, ?_⟩⟩, trivial⟩, hdl⟩
          show HSlot.live (.row _ 3 (acc.map Skip.row ++ [Skip.row ⟨A.1, D.1, B.1 == 1⟩])) = HSlot.live (.row _ 3 (List.map Skip.row (acc ++ [⟨A.1, D.1, B.1 == 1⟩])))
          rw [List.map_append]
          rfl
      · have hl0 : l = [] := by
          have := of_decide_eq_false c; rw [List.length_map] at this; exact List.eq_nil_of_length_eq_zero (by omega)
        subst hl0
        cases ok with
        | false =>
          have hbad := hinv.bad rfl
          conv => whnf
          rw [if_pos hbad]
          rfl
        | true =>
          have hbody := hinv.done k1 k2
          conv => whnf
          refine hcall_lend ?_; conv => whnf
          refine ⟨_, spec_rwrong ⟨kind, T.1, 0, 0, 0, false, false, [], [], 0, acc⟩ (by simp) (by have := hinv.len; simp; omega), rfl, ?_⟩
          rw [hbody, if_neg (by simp)]
          generalize hw : wrong _ = w
          conv => whnf
          refine hif_intro (fun c5 => ?_) (fun c5 => ?_)
          · have c5 : ¬ w = 0 := by simpa using c5
            rw [if_pos c5]
            conv => whnf
            rfl
          · have c5 : w = 0 := by simpa using c5
            rw [if_neg (fun h => h c5)]
            conv => whnf
            rfl
end Chk
end Go.HL
