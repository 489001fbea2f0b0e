/- serial.Add and serial.Up, and the document's answers to them. -/
import Derived.Test.YticmofoeecjnhaaSlices
import Derived.Test.YticmofoeecjnhaaSerP
namespace Go.HL
open Go.Proofs
namespace Ser
set_option maxHeartbeats 2000000
set_option maxRecDepth 100000
set_option linter.unusedSimpArgs false
def cmp (n : Int) (s : Span) : Int := if s.hi < n then -1 else if s.lo > n then 1 else 0
theorem spec_cmp (n : Int) (s : Span) : FunOK Try.prog 67 [s.hv, i64 n] noHeap (i64 (cmp n s)) noHeap := by
  refine funOK_pure mixed Try.func67 (by decide) ?_
  conv => whnf
  refine hif_intro (fun c => ?_) (fun c => ?_)
  · have c : s.hi < n := by simpa using c
    conv => whnf
    rw [cmp, if_pos c]
  · have c : ¬ s.hi < n := by simpa using c
    conv => whnf
    refine hif_intro (fun c2 => ?_) (fun c2 => ?_)
    · have c2 : s.lo > n := by simpa using c2
      conv => whnf
      rw [cmp, if_neg c, if_pos c2]
    · have c2 : ¬ s.lo > n := by simpa using c2
      conv => whnf
      rw [cmp, if_neg c, if_neg c2]
theorem cmp_lt {n : Int} {s : Span} : cmp n s < 0 ↔ s.hi < n := by
  unfold cmp
  split
  · simp [*]
  · split <;> simp [*]
theorem found {l : List Span} {n : Int} (h : rise l) : bsFound (cmp n) l (below l n).length = has l n := by
  have hsp := split l n
  have e : l[(below l n).length]? = (above l n)[0]? := by
    conv => lhs; arg 1; rw [hsp]
    rw [List.getElem?_append_right (Nat.le_refl _), Nat.sub_self]
  have e2 : has l n = has (above l n) n := by
    conv => lhs; arg 1; rw [hsp]
    rw [has_app, has_no.2 fun s hs => by have := below_lt s hs; omega, Bool.false_or]
  rw [bsFound, e, e2]
  cases ha : above l n with
  | nil => rfl
  | cons t r =>
    have hr : rise (above l n) := by rw [hsp] at h; exact (rise_app.1 h).2.1
    rw [ha] at hr
    have h1 : ¬ t.hi < n := by
      intro hlt
      have := List.head?_dropWhile_not (lowB n) l
      rw [show l.dropWhile (lowB n) = t :: r from ha] at this
      simp [lowB] at this; omega
    have h2 : has r n = false := has_no.2 fun s hs => by have := hr.2.2.2.1 s hs; omega
    rw [has_cons, h2, Bool.or_false]
    show (cmp n t == 0) = _
    rw [cmp, if_neg h1]
    by_cases c : t.lo > n
    · rw [if_pos c, decide_eq_false (by omega)]; rfl
    · rw [if_neg c, decide_eq_true (by omega), decide_eq_true (by omega)]; rfl
theorem clone_spans (l : List Span) (hb : l.length < 2 ^ 40) : FunOK Try.prog 32 [.p (.sl 2 (l.map Span.row))] noHeap (.own 0) (lk .free [(0, .live (.row 83 2 (l.map Span.row)))]) := by
  refine funOK_of mixed Try.func32 (by decide) [] (fun _ => .inl rfl) ?_
  conv => whnf
  intro b hn
  conv => whnf
  refine hif_intro (fun c => ?_) (fun c => ?_)
  · conv => whnf
    refine hfin_of [(0, none)] rfl rfl trivial rfl rfl ⟨⟨rfl, .inr ⟨rfl, hn c⟩⟩, trivial⟩
  · conv => whnf
    refine hobl_intro (c := (([] : List (List PV)).length + (l.map Span.row).length) * 16 ≤ 140737488355328) (by simp; omega) ?_
    conv => whnf
    refine hfin_of [(0, some 7)] rfl rfl trivial rfl rfl ⟨⟨rfl, .inl ⟨7, rfl, ?_⟩⟩, trivial⟩
    rfl

theorem nil_or_snoc {α : Type} (l : List α) : l = [] ∨ ∃ a x, l = a ++ [x] := by
  rcases List.eq_nil_or_concat l with h | ⟨a, x, h⟩
  · exact .inl h
  · exact .inr ⟨a, x, by rw [h, List.concat_eq_append]⟩
theorem cutL_snoc (n : Int) (a : List Span) (s : Span) : cutL n (a ++ [s]) = if s.hi = n - 1 then (a, s.lo) else (a ++ [s], n) := by
  simp [cutL]
theorem row_setA {α : Type} {t n : Nat} {f : α → List PV} {a b : List α} {x y : α} {k : Nat} {r : List PV} (hk : k = a.length) (hr : f y = r) :
    HSlot.live (.row t n (((a ++ [x] ++ b).map f).set k r)) = HSlot.live (.row t n ((a ++ [y] ++ b).map f)) := by
  rw [List.append_assoc, List.append_assoc]; exact (row_set hk hr).symm
theorem row_eq {α : Type} {t n : Nat} {f : α → List PV} {a b : List α} (h : a = b) : HSlot.live (.row t n (a.map f)) = HSlot.live (.row t n (b.map f)) := by rw [h]
theorem spec_add_ (A B : List Span) (n : Int) (hl : rise (A ++ B)) (hA : below (A ++ B) n = A) (hB : above (A ++ B) n = B) (hb : (A ++ B).length < 2 ^ 39) (h1 : -9223372036854775808 ≤ n) (h2 : n ≤ 9223372036854775807) :
    FunOK Try.prog 38 [spans (A ++ B), i64 n] noHeap (.own 0) (lk .free [(0, .live (.row 83 2 ((add (A ++ B) n).map Span.row)))]) := by
  refine funOK_of mixed Try.func38 (by decide) [] (fun _ => .inl rfl) ?_
  have hlen : (A ++ B).length = A.length + B.length := List.length_append
  have hf := found (n := n) hl
  rw [hA] at hf
  conv => whnf
  ((refine hcall_own [(0, 9)]  ?_; (conv => whnf); refine ⟨_, _,  clone_spans (A ++ B) (by omega), ⟨⟨⟨rfl, rfl⟩, trivial⟩, rfl, rfl, rfl⟩, ?_⟩; conv => whnf); try (refine hcut.go ?_; conv => whnf))
  ((refine hcall_lend0 ?_; (conv => whnf); refine ⟨_, spec_bs (spec_cmp n) (A ++ B) A.length (by omega) (fun i h => by rw [cmp_lt, below_idx hl i h, hA]) (by omega), rfl, ?_⟩; conv => whnf); try (refine hcut.go ?_; conv => whnf))
  rw [hf]
  cases hn : has (A ++ B) n with
  | true =>
    have ha : add (A ++ B) n = A ++ B := by rw [add, hn]; rfl
    rw [ha]
    conv => whnf
    refine hfin_of [(0, some 9)] rfl rfl trivial rfl rfl ⟨⟨rfl, .inl ⟨9, rfl, rfl⟩⟩, trivial⟩
  | false =>
    have ha : add (A ++ B) n = (cutL n A).1 ++ ⟨(cutL n A).2, (cutR n B).1⟩ :: (cutR n B).2 := by rw [add, hn, hA, hB]; rfl
    rw [ha]
    conv => whnf
    have hAl : A.length < 2 ^ 39 := by omega
    have hlow : ∀ s ∈ A, s.hi < n := by have := below_lt (l := A ++ B) (n := n); rwa [hA] at this
    have habv : ∀ s ∈ B, n < s.lo := by have := above_gt hl hn; rwa [hB] at this
    ((refine hcall_give [] [(1000000, 9), (1000001, 23)] [(0, 24)] ?_; (conv => whnf); refine ⟨_, _, _, _, ins_Span_at A B ⟨n, n⟩ _ rfl (by omega), ⟨rfl, rfl, rfl, ⟨⟨rfl, _, rfl, .inl ⟨rfl, rfl⟩⟩, ⟨⟨rfl, _, rfl, .inl ⟨rfl, rfl⟩⟩, trivial⟩⟩, ⟨⟨rfl, rfl⟩, trivial⟩, rfl, rfl, rfl⟩, ?_⟩; conv => whnf); try (refine hcut.go ?_; conv => whnf))
    cases B with
    | nil =>
      refine hwrap_to (z' := ((A.length + 1 : Nat) : Int)) (by show W ((A.length : Int) + 1) = _; rw [W_fit (by omega) (by omega)]; push_cast; rfl) ?_; conv => whnf
      ((refine hif_false ?_ ?_; (· (first | rfl | assumption | omega | (simp only [gt_iff_lt, ge_iff_le, decide_eq_true_eq, decide_eq_false_iff_not, beq_iff_eq, bne_iff_ne, ne_eq, beq_eq_false_iff_ne, bne_eq_false_iff_eq, List.length_map, List.length_append, List.length_cons, List.length_nil, List.length_take, List.length_drop, Bool.not_eq_true', Bool.not_eq_false', Bool.not_eq_true, Bool.not_eq_false, Decidable.not_not, Nat.cast_ofNat, Int.natCast_add] <;> omega) | (simp <;> omega))); conv => whnf); try (refine hcut.go ?_; conv => whnf))
      have hR : cutR n [] = (n, []) := rfl
      rw [hR]
      rcases nil_or_snoc A with rfl | ⟨A', s, rfl⟩
      · conv => whnf
        try (refine hcut.go ?_; conv => whnf)
        refine hfin_of [(0, some 24)] rfl rfl trivial rfl rfl ⟨⟨rfl, .inl ⟨24, rfl, rfl⟩⟩, trivial⟩
      · have hs : s.hi < n := hlow s (by simp)
        have hsl : (A' ++ [s]).length = A'.length + 1 := by simp
        have hs2 := rise_mem hl s (by simp)
        ((refine hif_true ?_ ?_; (· (first | rfl | assumption | omega | (simp only [gt_iff_lt, ge_iff_le, decide_eq_true_eq, decide_eq_false_iff_not, beq_iff_eq, bne_iff_ne, ne_eq, beq_eq_false_iff_ne, bne_eq_false_iff_eq, List.length_map, List.length_append, List.length_cons, List.length_nil, List.length_take, List.length_drop, Bool.not_eq_true', Bool.not_eq_false', Bool.not_eq_true, Bool.not_eq_false, Decidable.not_not, Nat.cast_ofNat, Int.natCast_add] <;> omega) | (simp <;> omega))); conv => whnf); try (refine hcut.go ?_; conv => whnf))
        refine hwrap_to (z' := ((A'.length : Nat) : Int)) (by show W (((A' ++ [s]).length : Int) - 1) = _; rw [W_fit (by omega) (by omega)]; omega) ?_; conv => whnf
        refine hobl_intro (by simp; omega) ?_; conv => whnf
        refine hrow_mid (show A' ++ [s] ++ ⟨n, n⟩ :: [] = A' ++ s :: ⟨n, n⟩ :: [] by simp) rfl ?_; conv => whnf
        refine hwrap_fit (z := n - 1) (W_fit (by omega) (by omega)) ?_; conv => whnf
        by_cases he : s.hi = n - 1
        · ((refine hif_true ?_ ?_; (· (first | rfl | assumption | omega | (simp only [gt_iff_lt, ge_iff_le, decide_eq_true_eq, decide_eq_false_iff_not, beq_iff_eq, bne_iff_ne, ne_eq, beq_eq_false_iff_ne, bne_eq_false_iff_eq, List.length_map, List.length_append, List.length_cons, List.length_nil, List.length_take, List.length_drop, Bool.not_eq_true', Bool.not_eq_false', Bool.not_eq_true, Bool.not_eq_false, Decidable.not_not, Nat.cast_ofNat, Int.natCast_add] <;> omega) | (simp <;> omega))); conv => whnf); try (refine hcut.go ?_; conv => whnf))
          refine hwrap_to (z' := ((A'.length : Nat) : Int)) (by show W (((A' ++ [s]).length : Int) - 1) = _; rw [W_fit (by omega) (by omega)]; omega) ?_; conv => whnf
          refine hobl_intro (by simp; omega) ?_; conv => whnf
          refine hrow_mid (show A' ++ [s] ++ ⟨n, n⟩ :: [] = (A' ++ [s]) ++ ⟨n, n⟩ :: [] from rfl) rfl ?_; conv => whnf
          refine hobl_intro (by simp; omega) ?_; conv => whnf
          refine hrow_mid (show A' ++ [s] ++ ⟨n, n⟩ :: [] = A' ++ s :: ⟨n, n⟩ :: [] by simp) (by simp) ?_; conv => whnf
          refine hwrap_to (z' := ((A'.length + 2 : Nat) : Int)) (by show W (((A' ++ [s]).length : Int) + 1) = _; rw [W_fit (by omega) (by omega)]; omega) ?_; conv => whnf
          refine hcall_give [] [(1000000, 24)] [(0, 84)] ?_; conv => whnf
          refine ⟨_, _, _, _, del_Span_one (A' ++ [⟨s.lo, n⟩]) ([]) ⟨n, n⟩ _ _ (by simp) (by simp; omega) (by simp at hAl hb ⊢; omega), ⟨rfl, rfl, rfl, ⟨⟨rfl, _, rfl, .inl ⟨rfl, ?_⟩⟩, trivial⟩, ⟨⟨rfl, rfl⟩, trivial⟩, rfl, rfl, rfl⟩, ?_⟩
          · exact row_setA (f := Span.row) (a := A') (b := ⟨n, n⟩ :: []) (x := s) (y := ⟨s.lo, n⟩) (by simp) rfl
          conv => whnf
          rw [cutL_snoc, if_pos he]
          refine hfin_of [(0, some 84)] rfl rfl trivial rfl rfl ⟨⟨rfl, .inl ⟨84, rfl, ?_⟩⟩, trivial⟩
          exact row_eq (by first | (simp; done) | (simp; rfl))
        · ((refine hif_false ?_ ?_; (· (first | rfl | assumption | omega | (simp only [gt_iff_lt, ge_iff_le, decide_eq_true_eq, decide_eq_false_iff_not, beq_iff_eq, bne_iff_ne, ne_eq, beq_eq_false_iff_ne, bne_eq_false_iff_eq, List.length_map, List.length_append, List.length_cons, List.length_nil, List.length_take, List.length_drop, Bool.not_eq_true', Bool.not_eq_false', Bool.not_eq_true, Bool.not_eq_false, Decidable.not_not, Nat.cast_ofNat, Int.natCast_add] <;> omega) | (simp <;> omega))); conv => whnf); try (refine hcut.go ?_; conv => whnf))
          rw [cutL_snoc, if_neg he]
          refine hfin_of [(0, some 24)] rfl rfl trivial rfl rfl ⟨⟨rfl, .inl ⟨24, rfl, rfl⟩⟩, trivial⟩
    | cons x B =>
      have hx := habv x (by simp)
      have hx2 := rise_mem hl x (by simp)
      have hbl : (x :: B).length = B.length + 1 := rfl
      refine hwrap_to (z' := ((A.length + 1 : Nat) : Int)) (by show W ((A.length : Int) + 1) = _; rw [W_fit (by omega) (by omega)]; push_cast; rfl) ?_; conv => whnf
      ((refine hif_true ?_ ?_; (· (first | rfl | assumption | omega | (simp only [gt_iff_lt, ge_iff_le, decide_eq_true_eq, decide_eq_false_iff_not, beq_iff_eq, bne_iff_ne, ne_eq, beq_eq_false_iff_ne, bne_eq_false_iff_eq, List.length_map, List.length_append, List.length_cons, List.length_nil, List.length_take, List.length_drop, Bool.not_eq_true', Bool.not_eq_false', Bool.not_eq_true, Bool.not_eq_false, Decidable.not_not, Nat.cast_ofNat, Int.natCast_add] <;> omega) | (simp <;> omega))); conv => whnf); try (refine hcut.go ?_; conv => whnf))
      refine hwrap_to (z' := ((A.length + 1 : Nat) : Int)) (by show W ((A.length : Int) + 1) = _; rw [W_fit (by omega) (by omega)]; push_cast; rfl) ?_; conv => whnf
      refine hobl_intro (by simp; omega) ?_; conv => whnf
      refine hrow_mid (show A ++ ⟨n, n⟩ :: x :: B = (A ++ [⟨n, n⟩]) ++ x :: B by simp) (by simp) ?_; conv => whnf
      refine hwrap_fit (z := n + 1) (W_fit (by omega) (by omega)) ?_; conv => whnf
      by_cases hr : x.lo = n + 1
      · ((refine hif_true ?_ ?_; (· (first | rfl | assumption | omega | (simp only [gt_iff_lt, ge_iff_le, decide_eq_true_eq, decide_eq_false_iff_not, beq_iff_eq, bne_iff_ne, ne_eq, beq_eq_false_iff_ne, bne_eq_false_iff_eq, List.length_map, List.length_append, List.length_cons, List.length_nil, List.length_take, List.length_drop, Bool.not_eq_true', Bool.not_eq_false', Bool.not_eq_true, Bool.not_eq_false, Decidable.not_not, Nat.cast_ofNat, Int.natCast_add] <;> omega) | (simp <;> omega))); conv => whnf); try (refine hcut.go ?_; conv => whnf))
        have hR : cutR n (x :: B) = (x.hi, B) := by simp [cutR, hr]
        rw [hR]
        refine hwrap_to (z' := ((A.length + 1 : Nat) : Int)) (by show W ((A.length : Int) + 1) = _; rw [W_fit (by omega) (by omega)]; push_cast; rfl) ?_; conv => whnf
        refine hobl_intro (by simp; omega) ?_; conv => whnf
        refine hrow_mid (show A ++ ⟨n, n⟩ :: x :: B = (A ++ [⟨n, n⟩]) ++ x :: B by simp) (by simp) ?_; conv => whnf
        refine hobl_intro (by simp; omega) ?_; conv => whnf
        refine hrow_mid (show A ++ ⟨n, n⟩ :: x :: B = A ++ ⟨n, n⟩ :: x :: B from rfl) (by simp) ?_; conv => whnf
        refine hwrap_to (z' := ((A.length + 1 : Nat) : Int)) (by show W ((A.length : Int) + 1) = _; rw [W_fit (by omega) (by omega)]; push_cast; rfl) ?_; conv => whnf
        refine hwrap_to (z' := ((A.length + 2 : Nat) : Int)) (by show W ((A.length : Int) + 2) = _; rw [W_fit (by omega) (by omega)]; push_cast; rfl) ?_; conv => whnf
        refine hcall_give [] [(1000000, 24)] [(0, 56)] ?_; conv => whnf
        refine ⟨_, _, _, _, del_Span_eq (out := A ++ ⟨n, x.hi⟩ :: B) (A ++ [⟨n, x.hi⟩]) B x _ _ rfl (by simp) (by simp) (by simp; omega) (by simp at hAl hb ⊢; omega), ⟨rfl, rfl, rfl, ⟨⟨rfl, _, rfl, .inl ⟨rfl, ?_⟩⟩, trivial⟩, ⟨⟨rfl, rfl⟩, trivial⟩, rfl, rfl, rfl⟩, ?_⟩
        · refine (row_set (f := Span.row) (a := A) (b := x :: B) (x := ⟨n, n⟩) (y := ⟨n, x.hi⟩) (by simp) rfl).symm.trans (row_eq (by simp))
        conv => whnf
        try (refine hcut.go ?_; conv => whnf)
        rcases nil_or_snoc A with rfl | ⟨A', s, rfl⟩
        · conv => whnf
          try (refine hcut.go ?_; conv => whnf)
          refine hfin_of [(0, some 56)] rfl rfl trivial rfl rfl ⟨⟨rfl, .inl ⟨56, rfl, rfl⟩⟩, trivial⟩
        · have hs : s.hi < n := hlow s (by simp)
          have hsl : (A' ++ [s]).length = A'.length + 1 := by simp
          have hs2 := rise_mem hl s (by simp)
          ((refine hif_true ?_ ?_; (· (first | rfl | assumption | omega | (simp only [gt_iff_lt, ge_iff_le, decide_eq_true_eq, decide_eq_false_iff_not, beq_iff_eq, bne_iff_ne, ne_eq, beq_eq_false_iff_ne, bne_eq_false_iff_eq, List.length_map, List.length_append, List.length_cons, List.length_nil, List.length_take, List.length_drop, Bool.not_eq_true', Bool.not_eq_false', Bool.not_eq_true, Bool.not_eq_false, Decidable.not_not, Nat.cast_ofNat, Int.natCast_add] <;> omega) | (simp <;> omega))); conv => whnf); try (refine hcut.go ?_; conv => whnf))
          refine hwrap_to (z' := ((A'.length : Nat) : Int)) (by show W (((A' ++ [s]).length : Int) - 1) = _; rw [W_fit (by omega) (by omega)]; omega) ?_; conv => whnf
          refine hobl_intro (by simp; omega) ?_; conv => whnf
          refine hrow_mid (show A' ++ [s] ++ ⟨n, x.hi⟩ :: B = A' ++ s :: ⟨n, x.hi⟩ :: B by simp) rfl ?_; conv => whnf
          refine hwrap_fit (z := n - 1) (W_fit (by omega) (by omega)) ?_; conv => whnf
          by_cases he : s.hi = n - 1
          · ((refine hif_true ?_ ?_; (· (first | rfl | assumption | omega | (simp only [gt_iff_lt, ge_iff_le, decide_eq_true_eq, decide_eq_false_iff_not, beq_iff_eq, bne_iff_ne, ne_eq, beq_eq_false_iff_ne, bne_eq_false_iff_eq, List.length_map, List.length_append, List.length_cons, List.length_nil, List.length_take, List.length_drop, Bool.not_eq_true', Bool.not_eq_false', Bool.not_eq_true, Bool.not_eq_false, Decidable.not_not, Nat.cast_ofNat, Int.natCast_add] <;> omega) | (simp <;> omega))); conv => whnf); try (refine hcut.go ?_; conv => whnf))
            refine hwrap_to (z' := ((A'.length : Nat) : Int)) (by show W (((A' ++ [s]).length : Int) - 1) = _; rw [W_fit (by omega) (by omega)]; omega) ?_; conv => whnf
            refine hobl_intro (by simp; omega) ?_; conv => whnf
            refine hrow_mid (show A' ++ [s] ++ ⟨n, x.hi⟩ :: B = (A' ++ [s]) ++ ⟨n, x.hi⟩ :: B from rfl) rfl ?_; conv => whnf
            refine hobl_intro (by simp; omega) ?_; conv => whnf
            refine hrow_mid (show A' ++ [s] ++ ⟨n, x.hi⟩ :: B = A' ++ s :: ⟨n, x.hi⟩ :: B by simp) (by simp) ?_; conv => whnf
            refine hwrap_to (z' := ((A'.length + 2 : Nat) : Int)) (by show W (((A' ++ [s]).length : Int) + 1) = _; rw [W_fit (by omega) (by omega)]; omega) ?_; conv => whnf
            refine hcall_give [] [(1000000, 56)] [(0, 84)] ?_; conv => whnf
            refine ⟨_, _, _, _, del_Span_one (A' ++ [⟨s.lo, x.hi⟩]) (B) ⟨n, x.hi⟩ _ _ (by simp) (by simp; omega) (by simp at hAl hb ⊢; omega), ⟨rfl, rfl, rfl, ⟨⟨rfl, _, rfl, .inl ⟨rfl, ?_⟩⟩, trivial⟩, ⟨⟨rfl, rfl⟩, trivial⟩, rfl, rfl, rfl⟩, ?_⟩
            · exact row_setA (f := Span.row) (a := A') (b := ⟨n, x.hi⟩ :: B) (x := s) (y := ⟨s.lo, x.hi⟩) (by simp) rfl
            conv => whnf
            rw [cutL_snoc, if_pos he]
            refine hfin_of [(0, some 84)] rfl rfl trivial rfl rfl ⟨⟨rfl, .inl ⟨84, rfl, ?_⟩⟩, trivial⟩
            exact row_eq (by first | (simp; done) | (simp; rfl))
          · ((refine hif_false ?_ ?_; (· (first | rfl | assumption | omega | (simp only [gt_iff_lt, ge_iff_le, decide_eq_true_eq, decide_eq_false_iff_not, beq_iff_eq, bne_iff_ne, ne_eq, beq_eq_false_iff_ne, bne_eq_false_iff_eq, List.length_map, List.length_append, List.length_cons, List.length_nil, List.length_take, List.length_drop, Bool.not_eq_true', Bool.not_eq_false', Bool.not_eq_true, Bool.not_eq_false, Decidable.not_not, Nat.cast_ofNat, Int.natCast_add] <;> omega) | (simp <;> omega))); conv => whnf); try (refine hcut.go ?_; conv => whnf))
            rw [cutL_snoc, if_neg he]
            refine hfin_of [(0, some 56)] rfl rfl trivial rfl rfl ⟨⟨rfl, .inl ⟨56, rfl, rfl⟩⟩, trivial⟩
      · ((refine hif_false ?_ ?_; (· (first | rfl | assumption | omega | (simp only [gt_iff_lt, ge_iff_le, decide_eq_true_eq, decide_eq_false_iff_not, beq_iff_eq, bne_iff_ne, ne_eq, beq_eq_false_iff_ne, bne_eq_false_iff_eq, List.length_map, List.length_append, List.length_cons, List.length_nil, List.length_take, List.length_drop, Bool.not_eq_true', Bool.not_eq_false', Bool.not_eq_true, Bool.not_eq_false, Decidable.not_not, Nat.cast_ofNat, Int.natCast_add] <;> omega) | (simp <;> omega))); conv => whnf); try (refine hcut.go ?_; conv => whnf))
        have hR : cutR n (x :: B) = (n, x :: B) := by simp [cutR, hr]
        rw [hR]
        rcases nil_or_snoc A with rfl | ⟨A', s, rfl⟩
        · conv => whnf
          try (refine hcut.go ?_; conv => whnf)
          refine hfin_of [(0, some 24)] rfl rfl trivial rfl rfl ⟨⟨rfl, .inl ⟨24, rfl, rfl⟩⟩, trivial⟩
        · have hs : s.hi < n := hlow s (by simp)
          have hsl : (A' ++ [s]).length = A'.length + 1 := by simp
          have hs2 := rise_mem hl s (by simp)
          ((refine hif_true ?_ ?_; (· (first | rfl | assumption | omega | (simp only [gt_iff_lt, ge_iff_le, decide_eq_true_eq, decide_eq_false_iff_not, beq_iff_eq, bne_iff_ne, ne_eq, beq_eq_false_iff_ne, bne_eq_false_iff_eq, List.length_map, List.length_append, List.length_cons, List.length_nil, List.length_take, List.length_drop, Bool.not_eq_true', Bool.not_eq_false', Bool.not_eq_true, Bool.not_eq_false, Decidable.not_not, Nat.cast_ofNat, Int.natCast_add] <;> omega) | (simp <;> omega))); conv => whnf); try (refine hcut.go ?_; conv => whnf))
          refine hwrap_to (z' := ((A'.length : Nat) : Int)) (by show W (((A' ++ [s]).length : Int) - 1) = _; rw [W_fit (by omega) (by omega)]; omega) ?_; conv => whnf
          refine hobl_intro (by simp; omega) ?_; conv => whnf
          refine hrow_mid (show A' ++ [s] ++ ⟨n, n⟩ :: x :: B = A' ++ s :: ⟨n, n⟩ :: x :: B by simp) rfl ?_; conv => whnf
          refine hwrap_fit (z := n - 1) (W_fit (by omega) (by omega)) ?_; conv => whnf
          by_cases he : s.hi = n - 1
          · ((refine hif_true ?_ ?_; (· (first | rfl | assumption | omega | (simp only [gt_iff_lt, ge_iff_le, decide_eq_true_eq, decide_eq_false_iff_not, beq_iff_eq, bne_iff_ne, ne_eq, beq_eq_false_iff_ne, bne_eq_false_iff_eq, List.length_map, List.length_append, List.length_cons, List.length_nil, List.length_take, List.length_drop, Bool.not_eq_true', Bool.not_eq_false', Bool.not_eq_true, Bool.not_eq_false, Decidable.not_not, Nat.cast_ofNat, Int.natCast_add] <;> omega) | (simp <;> omega))); conv => whnf); try (refine hcut.go ?_; conv => whnf))
            refine hwrap_to (z' := ((A'.length : Nat) : Int)) (by show W (((A' ++ [s]).length : Int) - 1) = _; rw [W_fit (by omega) (by omega)]; omega) ?_; conv => whnf
            refine hobl_intro (by simp; omega) ?_; conv => whnf
            refine hrow_mid (show A' ++ [s] ++ ⟨n, n⟩ :: x :: B = (A' ++ [s]) ++ ⟨n, n⟩ :: x :: B from rfl) rfl ?_; conv => whnf
            refine hobl_intro (by simp; omega) ?_; conv => whnf
            refine hrow_mid (show A' ++ [s] ++ ⟨n, n⟩ :: x :: B = A' ++ s :: ⟨n, n⟩ :: x :: B by simp) (by simp) ?_; conv => whnf
            refine hwrap_to (z' := ((A'.length + 2 : Nat) : Int)) (by show W (((A' ++ [s]).length : Int) + 1) = _; rw [W_fit (by omega) (by omega)]; omega) ?_; conv => whnf
            refine hcall_give [] [(1000000, 24)] [(0, 84)] ?_; conv => whnf
            refine ⟨_, _, _, _, del_Span_one (A' ++ [⟨s.lo, n⟩]) (x :: B) ⟨n, n⟩ _ _ (by simp) (by simp; omega) (by simp at hAl hb ⊢; omega), ⟨rfl, rfl, rfl, ⟨⟨rfl, _, rfl, .inl ⟨rfl, ?_⟩⟩, trivial⟩, ⟨⟨rfl, rfl⟩, trivial⟩, rfl, rfl, rfl⟩, ?_⟩
            · exact row_setA (f := Span.row) (a := A') (b := ⟨n, n⟩ :: x :: B) (x := s) (y := ⟨s.lo, n⟩) (by simp) rfl
            conv => whnf
            rw [cutL_snoc, if_pos he]
            refine hfin_of [(0, some 84)] rfl rfl trivial rfl rfl ⟨⟨rfl, .inl ⟨84, rfl, ?_⟩⟩, trivial⟩
            exact row_eq (by first | (simp; done) | (simp; rfl))
          · ((refine hif_false ?_ ?_; (· (first | rfl | assumption | omega | (simp only [gt_iff_lt, ge_iff_le, decide_eq_true_eq, decide_eq_false_iff_not, beq_iff_eq, bne_iff_ne, ne_eq, beq_eq_false_iff_ne, bne_eq_false_iff_eq, List.length_map, List.length_append, List.length_cons, List.length_nil, List.length_take, List.length_drop, Bool.not_eq_true', Bool.not_eq_false', Bool.not_eq_true, Bool.not_eq_false, Decidable.not_not, Nat.cast_ofNat, Int.natCast_add] <;> omega) | (simp <;> omega))); conv => whnf); try (refine hcut.go ?_; conv => whnf))
            rw [cutL_snoc, if_neg he]
            refine hfin_of [(0, some 24)] rfl rfl trivial rfl rfl ⟨⟨rfl, .inl ⟨24, rfl, rfl⟩⟩, trivial⟩
end Ser
end Go.HL
