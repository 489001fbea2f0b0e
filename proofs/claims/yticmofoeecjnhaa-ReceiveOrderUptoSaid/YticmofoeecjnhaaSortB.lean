/- The library's merging of two sorted runs in place, where the second one is of one element. -/
import Derived.Test.YticmofoeecjnhaaSort
namespace Go.HL
open Go.Proofs
namespace Srt
set_option maxHeartbeats 2000000
set_option maxRecDepth 100000
set_option linter.unusedSimpArgs false
theorem spec_sym_b {g : FuncId} (hg : CmpOK g) (P U V Q L L' : List Piece) (hL : L = P ++ U ++ V ++ Q) (hL' : L' = P ++ mrg ck U V ++ Q) (hU : U ≠ []) (hV : V ≠ []) (sU : Sd ck U) (sV : Sd ck V) (hb : L.length < 2 ^ 40) (a m b : Int) (ha : a = P.length) (hm : m = (P ++ U).length) (hb' : b = (P ++ U ++ V).length) (c1 : ¬ U.length = 1) (c2 : V.length = 1) :
    FunOK Try.prog 132 [.own 1000000, i64 a, i64 m, i64 b, .clo g []] (lk .free (H1 L)) (.tup []) (lk .free (H1 L')) := by
  have hU0 := List.length_pos_iff.2 hU
  have hV0 := List.length_pos_iff.2 hV
  rw [hL] at hb
  simp only [List.length_append] at hb hm hb'
  refine funOK_of mixed Try.func132 (by decide) [1000000] lk_pins ?_
  conv => whnf
  ((refine hwrap_fit (W_fit ?_ ?_) ?_; (· (first | omega | (simp only [List.length_map, List.length_append, List.length_take, List.length_drop, List.length_cons, List.length_nil] <;> omega) | (simp <;> omega))); (· (first | omega | (simp only [List.length_map, List.length_append, List.length_take, List.length_drop, List.length_cons, List.length_nil] <;> omega) | (simp <;> omega))); conv => whnf); try (refine hcut.go ?_; conv => whnf))
  ((refine hif_false ?_ ?_; (· (first | rfl | assumption | omega | (simp only [gt_iff_lt, ge_iff_le, decide_eq_true_eq, decide_eq_false_iff_not, beq_iff_eq, bne_iff_ne, ne_eq, beq_eq_false_iff_ne, bne_eq_false_iff_eq, List.length_map, List.length_append, List.length_cons, List.length_nil, List.length_take, List.length_drop, Bool.not_eq_true', Bool.not_eq_false', Bool.not_eq_true, Bool.not_eq_false, Decidable.not_not, Nat.cast_ofNat, Int.natCast_add] <;> omega) | (simp <;> omega))); conv => whnf); try (refine hcut.go ?_; conv => whnf))
  ((refine hwrap_fit (W_fit ?_ ?_) ?_; (· (first | omega | (simp only [List.length_map, List.length_append, List.length_take, List.length_drop, List.length_cons, List.length_nil] <;> omega) | (simp <;> omega))); (· (first | omega | (simp only [List.length_map, List.length_append, List.length_take, List.length_drop, List.length_cons, List.length_nil] <;> omega) | (simp <;> omega))); conv => whnf); try (refine hcut.go ?_; conv => whnf))
  ((refine hif_true ?_ ?_; (· (first | rfl | assumption | omega | (simp only [gt_iff_lt, ge_iff_le, decide_eq_true_eq, decide_eq_false_iff_not, beq_iff_eq, bne_iff_ne, ne_eq, beq_eq_false_iff_ne, bne_eq_false_iff_eq, List.length_map, List.length_append, List.length_cons, List.length_nil, List.length_take, List.length_drop, Bool.not_eq_true', Bool.not_eq_false', Bool.not_eq_true, Bool.not_eq_false, Decidable.not_not, Nat.cast_ofNat, Int.natCast_add] <;> omega) | (simp <;> omega))); conv => whnf); try (refine hcut.go ?_; conv => whnf))
  obtain ⟨y, rfl⟩ : ∃ y, V = [y] := List.length_eq_one_iff.1 c2
  obtain ⟨U1, U2, hUU, h1, h2⟩ := parted (fun z => ck z ≤ ck y) (V := U) fun i j hj hij hp => by
    have := sd_get sU hj hij; omega
  have hmrg : mrg ck U [y] = U1 ++ y :: U2 := by rw [hUU]; exact mrg_right h1 fun z hz => by have := h2 z hz; omega
  have hUl : U.length = U1.length + U2.length := by rw [hUU]; simp
  rw [List.length_singleton] at hb hb'
  refine ⟨{ x : Nat × Nat // x.1 ≤ U1.length ∧ U1.length ≤ x.2 ∧ x.2 ≤ U.length }, fun | ⟨(i, j), _⟩ => hsP [1000000] 220 [(0, .own 1000000), (1, i64 a), (2, i64 m), (3, i64 b), (4, .clo g []), (14, i64 (P.length + i : Nat)), (15, i64 (P.length + j : Nat))] (H1 L), fun x => x.1.2 - x.1.1, ⟨(0, U.length), by omega, by omega, Nat.le_refl _⟩, ?_, ?_⟩
  · exact (hle_of [(1000000, some 1000000)] rfl rfl rfl rfl (by repeat' (first | exact trivial | (refine ⟨rfl, ?_⟩))) (by repeat' (first | exact trivial | exact rfl | (refine ⟨⟨rfl, ?_⟩, ?_⟩) | (refine ⟨rfl, ?_⟩) | ((exact i64_eq (by (first | omega | (simp only [List.length_map, List.length_append, List.length_take, List.length_drop, List.length_cons, List.length_nil] <;> omega) | (simp <;> omega))))) | (simp; done) | (simp; rfl))) (by repeat' (first | exact trivial | exact rfl | exact .inl rfl | exact .inr rfl | (refine ⟨⟨rfl, .inl ⟨_, rfl, ?_⟩⟩, ?_⟩) | (refine ⟨⟨rfl, _, rfl, ?_⟩, ?_⟩) | (refine ⟨⟨rfl, .inr ⟨rfl, ?_⟩⟩, ?_⟩) | (refine ⟨rfl, ?_⟩) | ((exact i64_eq (by (first | omega | (simp only [List.length_map, List.length_append, List.length_take, List.length_drop, List.length_cons, List.length_nil] <;> omega) | (simp <;> omega))))) | (simp; done) | (simp; rfl))))
  rintro ⟨⟨i, j⟩, g1, g2, g3⟩
  dsimp only at g1 g2 g3
  conv => whnf
  by_cases c : i < j
  · have hlt : (i + j) / 2 < U.length := by omega
    ((refine hif_true ?_ ?_; (· (first | rfl | assumption | omega | (simp only [gt_iff_lt, ge_iff_le, decide_eq_true_eq, decide_eq_false_iff_not, beq_iff_eq, bne_iff_ne, ne_eq, beq_eq_false_iff_ne, bne_eq_false_iff_eq, List.length_map, List.length_append, List.length_cons, List.length_nil, List.length_take, List.length_drop, Bool.not_eq_true', Bool.not_eq_false', Bool.not_eq_true, Bool.not_eq_false, Decidable.not_not, Nat.cast_ofNat, Int.natCast_add] <;> omega) | (simp <;> omega))); conv => whnf); try (refine hcut.go ?_; conv => whnf))
    ((refine hwrap_fit (W_fit ?_ ?_) ?_; (· (first | omega | (simp only [List.length_map, List.length_append, List.length_take, List.length_drop, List.length_cons, List.length_nil] <;> omega) | (simp <;> omega))); (· (first | omega | (simp only [List.length_map, List.length_append, List.length_take, List.length_drop, List.length_cons, List.length_nil] <;> omega) | (simp <;> omega))); conv => whnf); try (refine hcut.go ?_; conv => whnf))
    refine hwrap_to (U64_fit (by omega) (by omega)) ?_; conv => whnf
    refine hobl_intro (by decide) ?_; conv => whnf
    refine hwrap_to (z' := ((P.length + (i + j) / 2 : Nat) : Int)) ?_ ?_
    · show W ((((P.length + i : Nat) : Int) + ((P.length + j : Nat) : Int)) / 2) = _
      rw [W_fit (by omega) (by omega)]; omega
    conv => whnf
    refine hobl_intro (by rw [hL]; simp; omega) ?_; conv => whnf
    refine hrow_mid (show L = (P ++ U) ++ y :: Q by rw [hL]; simp) (by (first | omega | (simp only [List.length_map, List.length_append, List.length_take, List.length_drop, List.length_cons, List.length_nil] <;> omega) | (simp <;> omega))) ?_; conv => whnf
    refine hobl_intro (by rw [hL]; simp; omega) ?_; conv => whnf
    refine hrow_in ((i + j) / 2) (show L = P ++ U ++ ([y] ++ Q) by rw [hL]; simp) hlt (by (first | omega | (simp only [List.length_map, List.length_append, List.length_take, List.length_drop, List.length_cons, List.length_nil] <;> omega) | (simp <;> omega))) ?_; conv => whnf
    ((refine hcall_lend0 ?_; (conv => whnf); refine ⟨_, hg y _, rfl, ?_⟩; conv => whnf); try (refine hcut.go ?_; conv => whnf))
    ((refine hdraw_intro ?_ ?_; (· kernel_rfl); conv => whnf); try (refine hcut.go ?_; conv => whnf))
    by_cases c2 : (i + j) / 2 < U1.length
    · have hk := h1 _ (mem_left hUU hlt c2)
      have hc : decide (cmp y U[(i + j) / 2] < 0) = false := decide_eq_false fun h => by have := cmp_neg.1 h; omega
      refine hif_true (by rw [hc]; rfl) ?_; conv => whnf
      try (refine hcut.go ?_; conv => whnf)
      ((refine hwrap_fit (W_fit ?_ ?_) ?_; (· (first | omega | (simp only [List.length_map, List.length_append, List.length_take, List.length_drop, List.length_cons, List.length_nil] <;> omega) | (simp <;> omega))); (· (first | omega | (simp only [List.length_map, List.length_append, List.length_take, List.length_drop, List.length_cons, List.length_nil] <;> omega) | (simp <;> omega))); conv => whnf); try (refine hcut.go ?_; conv => whnf))
      exact ⟨⟨((i + j) / 2 + 1, j), c2, g2, g3⟩, (hle_of [(1000000, some 1000000)] rfl rfl rfl rfl (by repeat' (first | exact trivial | (refine ⟨rfl, ?_⟩))) (by repeat' (first | exact trivial | exact rfl | (refine ⟨⟨rfl, ?_⟩, ?_⟩) | (refine ⟨rfl, ?_⟩) | ((exact i64_eq (by (first | omega | (simp only [List.length_map, List.length_append, List.length_take, List.length_drop, List.length_cons, List.length_nil] <;> omega) | (simp <;> omega))))) | (simp; done) | (simp; rfl))) (by repeat' (first | exact trivial | exact rfl | exact .inl rfl | exact .inr rfl | (refine ⟨⟨rfl, .inl ⟨_, rfl, ?_⟩⟩, ?_⟩) | (refine ⟨⟨rfl, _, rfl, ?_⟩, ?_⟩) | (refine ⟨⟨rfl, .inr ⟨rfl, ?_⟩⟩, ?_⟩) | (refine ⟨rfl, ?_⟩) | ((exact i64_eq (by (first | omega | (simp only [List.length_map, List.length_append, List.length_take, List.length_drop, List.length_cons, List.length_nil] <;> omega) | (simp <;> omega))))) | (simp; done) | (simp; rfl)))), by dsimp only; omega⟩
    · have hk := h2 _ (mem_right hUU hlt c2)
      have hc : decide (cmp y U[(i + j) / 2] < 0) = true := decide_eq_true (cmp_neg.2 (by omega))
      refine hif_false (by rw [hc]; rfl) ?_; conv => whnf
      try (refine hcut.go ?_; conv => whnf)
      exact ⟨⟨(i, (i + j) / 2), g1, by dsimp only; omega, by dsimp only; omega⟩, (hle_of [(1000000, some 1000000)] rfl rfl rfl rfl (by repeat' (first | exact trivial | (refine ⟨rfl, ?_⟩))) (by repeat' (first | exact trivial | exact rfl | (refine ⟨⟨rfl, ?_⟩, ?_⟩) | (refine ⟨rfl, ?_⟩) | (simp; done) | (simp; rfl))) (by repeat' (first | exact trivial | exact rfl | exact .inl rfl | exact .inr rfl | (refine ⟨⟨rfl, .inl ⟨_, rfl, ?_⟩⟩, ?_⟩) | (refine ⟨⟨rfl, _, rfl, ?_⟩, ?_⟩) | (refine ⟨⟨rfl, .inr ⟨rfl, ?_⟩⟩, ?_⟩) | (refine ⟨rfl, ?_⟩) | (simp; done) | (simp; rfl)))), by dsimp only; omega⟩
  · obtain rfl : i = U1.length := by omega
    ((refine hif_false ?_ ?_; (· (first | rfl | assumption | omega | (simp only [gt_iff_lt, ge_iff_le, decide_eq_true_eq, decide_eq_false_iff_not, beq_iff_eq, bne_iff_ne, ne_eq, beq_eq_false_iff_ne, bne_eq_false_iff_eq, List.length_map, List.length_append, List.length_cons, List.length_nil, List.length_take, List.length_drop, Bool.not_eq_true', Bool.not_eq_false', Bool.not_eq_true, Bool.not_eq_false, Decidable.not_not, Nat.cast_ofNat, Int.natCast_add] <;> omega) | (simp <;> omega))); conv => whnf); try (refine hcut.go ?_; conv => whnf))
    refine ⟨{ z : List Piece × List Piece // U2 = z.1 ++ z.2 }, fun | ⟨(W1, W2), _⟩ => hsP [1000000] 220 [(0, .own 1000000), (14, i64 (P.length + U1.length : Nat)), (17, i64 (P.length + U1.length + W1.length : Nat))] (H1 (P ++ U1 ++ W1 ++ y :: (W2 ++ Q))), fun z => z.1.1.length, ⟨(U2, []), by simp⟩, ?_, ?_⟩
    · exact (hle_of [(1000000, some 1000000)] rfl rfl rfl rfl (by repeat' (first | exact trivial | (refine ⟨rfl, ?_⟩))) (by repeat' (first | exact trivial | exact rfl | (refine ⟨⟨rfl, ?_⟩, ?_⟩) | (refine ⟨rfl, ?_⟩) | ((exact i64_eq (by (first | omega | (simp only [List.length_map, List.length_append, List.length_take, List.length_drop, List.length_cons, List.length_nil] <;> omega) | (simp <;> omega))))) | ((exact row_eqs (by rw [hL, hUU]; simp))) | (simp; done) | (simp; rfl))) (by repeat' (first | exact trivial | exact rfl | exact .inl rfl | exact .inr rfl | (refine ⟨⟨rfl, .inl ⟨_, rfl, ?_⟩⟩, ?_⟩) | (refine ⟨⟨rfl, _, rfl, ?_⟩, ?_⟩) | (refine ⟨⟨rfl, .inr ⟨rfl, ?_⟩⟩, ?_⟩) | (refine ⟨rfl, ?_⟩) | ((exact i64_eq (by (first | omega | (simp only [List.length_map, List.length_append, List.length_take, List.length_drop, List.length_cons, List.length_nil] <;> omega) | (simp <;> omega))))) | ((exact row_eqs (by rw [hL, hUU]; simp))) | (simp; done) | (simp; rfl))))
    rintro ⟨⟨W1, W2⟩, gw⟩
    dsimp only at gw
    have hW : U2.length = W1.length + W2.length := by rw [gw]; simp
    conv => whnf
    rcases nil_or_snoc W1 with rfl | ⟨W1, z, rfl⟩
    · rw [List.length_nil] at hW
      ((refine hif_false ?_ ?_; (· (first | rfl | assumption | omega | (simp only [gt_iff_lt, ge_iff_le, decide_eq_true_eq, decide_eq_false_iff_not, beq_iff_eq, bne_iff_ne, ne_eq, beq_eq_false_iff_ne, bne_eq_false_iff_eq, List.length_map, List.length_append, List.length_cons, List.length_nil, List.length_take, List.length_drop, Bool.not_eq_true', Bool.not_eq_false', Bool.not_eq_true, Bool.not_eq_false, Decidable.not_not, Nat.cast_ofNat, Int.natCast_add] <;> omega) | (simp <;> omega))); conv => whnf); try (refine hcut.go ?_; conv => whnf))
      refine hfin_of [(1000000, some 1000000)] rfl rfl ⟨rfl, trivial⟩ rfl rfl ⟨⟨rfl, .inl ⟨1000000, rfl, ?_⟩⟩, trivial⟩
      exact row_eqs (by rw [hL', hmrg, gw]; simp)
    · simp only [List.length_append, List.length_cons, List.length_nil] at hW
      have e1 : P ++ U1 ++ (W1 ++ [z]) ++ y :: (W2 ++ Q) = (P ++ U1 ++ W1) ++ z :: ([] ++ y :: (W2 ++ Q)) := by simp
      have e2 : P ++ U1 ++ (W1 ++ [z]) ++ y :: (W2 ++ Q) = (P ++ U1 ++ W1 ++ [z]) ++ y :: (W2 ++ Q) := by simp
      refine hif_true (by simp; omega) ?_; conv => whnf
      try (refine hcut.go ?_; conv => whnf)
      ((refine hwrap_fit (W_fit ?_ ?_) ?_; (· (first | omega | (simp only [List.length_map, List.length_append, List.length_take, List.length_drop, List.length_cons, List.length_nil] <;> omega) | (simp <;> omega))); (· (first | omega | (simp only [List.length_map, List.length_append, List.length_take, List.length_drop, List.length_cons, List.length_nil] <;> omega) | (simp <;> omega))); conv => whnf); try (refine hcut.go ?_; conv => whnf))
      ((refine hwrap_fit (W_fit ?_ ?_) ?_; (· (first | omega | (simp only [List.length_map, List.length_append, List.length_take, List.length_drop, List.length_cons, List.length_nil] <;> omega) | (simp <;> omega))); (· (first | omega | (simp only [List.length_map, List.length_append, List.length_take, List.length_drop, List.length_cons, List.length_nil] <;> omega) | (simp <;> omega))); conv => whnf); try (refine hcut.go ?_; conv => whnf))
      ((refine hobl_intro ?_ ?_; (· (first | omega | (simp only [List.length_map, List.length_append, List.length_take, List.length_drop, List.length_cons, List.length_nil] <;> omega) | (simp <;> omega))); conv => whnf); try (refine hcut.go ?_; conv => whnf))
      refine hrow_mid e1 (by simp; omega) ?_; conv => whnf
      ((refine hobl_intro ?_ ?_; (· (first | omega | (simp only [List.length_map, List.length_append, List.length_take, List.length_drop, List.length_cons, List.length_nil] <;> omega) | (simp <;> omega))); conv => whnf); try (refine hcut.go ?_; conv => whnf))
      refine hrow_mid e2 (by simp; omega) ?_; conv => whnf
      ((refine hobl_intro ?_ ?_; (· (first | omega | (simp only [List.length_map, List.length_append, List.length_take, List.length_drop, List.length_cons, List.length_nil] <;> omega) | (simp <;> omega))); conv => whnf); try (refine hcut.go ?_; conv => whnf))
      refine hrow_mid e2 (by simp; omega) ?_; conv => whnf
      ((refine hobl_intro ?_ ?_; (· (first | omega | (simp only [List.length_map, List.length_append, List.length_take, List.length_drop, List.length_cons, List.length_nil] <;> omega) | (simp <;> omega))); conv => whnf); try (refine hcut.go ?_; conv => whnf))
      refine hrow_set_mid e1 (by simp; omega) (by simp; omega) ?_; conv => whnf
      ((refine hdraw_intro ?_ ?_; (· kernel_rfl); conv => whnf); try (refine hcut.go ?_; conv => whnf))
      ((refine hwrap_fit (W_fit ?_ ?_) ?_; (· (first | omega | (simp only [List.length_map, List.length_append, List.length_take, List.length_drop, List.length_cons, List.length_nil] <;> omega) | (simp <;> omega))); (· (first | omega | (simp only [List.length_map, List.length_append, List.length_take, List.length_drop, List.length_cons, List.length_nil] <;> omega) | (simp <;> omega))); conv => whnf); try (refine hcut.go ?_; conv => whnf))
      exact ⟨⟨(W1, z :: W2), by rw [gw]; simp⟩, (hle_of [(1000000, some 1000000)] rfl rfl rfl rfl (by repeat' (first | exact trivial | (refine ⟨rfl, ?_⟩))) (by repeat' (first | exact trivial | exact rfl | (refine ⟨⟨rfl, ?_⟩, ?_⟩) | (refine ⟨rfl, ?_⟩) | ((exact i64_eq (by (first | omega | (simp only [List.length_map, List.length_append, List.length_take, List.length_drop, List.length_cons, List.length_nil] <;> omega) | (simp <;> omega))))) | ((refine row_swap2 e1 (by simp) ?_ ?_ rfl rfl <;> (simp; try omega))) | (simp; done) | (simp; rfl))) (by repeat' (first | exact trivial | exact rfl | exact .inl rfl | exact .inr rfl | (refine ⟨⟨rfl, .inl ⟨_, rfl, ?_⟩⟩, ?_⟩) | (refine ⟨⟨rfl, _, rfl, ?_⟩, ?_⟩) | (refine ⟨⟨rfl, .inr ⟨rfl, ?_⟩⟩, ?_⟩) | (refine ⟨rfl, ?_⟩) | ((exact i64_eq (by (first | omega | (simp only [List.length_map, List.length_append, List.length_take, List.length_drop, List.length_cons, List.length_nil] <;> omega) | (simp <;> omega))))) | ((refine row_swap2 e1 (by simp) ?_ ?_ rfl rfl <;> (simp; try omega))) | (simp; done) | (simp; rfl)))), by simp⟩
end Srt
end Go.HL
