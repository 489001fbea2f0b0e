/- The library's stable sort. -/
import Derived.Test.YticmofoeecjnhaaSortC
namespace Go.HL
open Go.Proofs
namespace Srt
set_option maxHeartbeats 2000000
set_option maxRecDepth 100000
set_option linter.unusedSimpArgs false
/-- runs of so many, each in order -/
def BS (s : Nat) (l : List Piece) : Prop := ∀ k, Sd ck ((l.drop (k * s)).take s)
theorem BS_nil (s : Nat) : BS s [] := fun k => by simp [Sd]
theorem BS_snoc {s k : Nat} {l blk : List Piece} (h : BS s l) (hl : l.length = k * s) (hb : blk.length ≤ s) (hd : Sd ck blk) : BS s (l ++ blk) := by
  intro j
  rcases Nat.lt_trichotomy j k with hj | rfl | hj
  · have : j * s + s ≤ l.length := by rw [hl]; have := Nat.mul_le_mul_right s (show j + 1 ≤ k by omega); rw [Nat.add_mul] at this; omega
    rw [List.drop_append_of_le_length (by omega), List.take_append_of_le_length (by simp; omega)]
    exact h j
  · rw [← hl, List.drop_left, List.take_of_length_le hb]; exact hd
  · have : l.length + blk.length ≤ j * s := by rw [hl]; have := Nat.mul_le_mul_right s (show k + 1 ≤ j by omega); rw [Nat.add_mul] at this; omega
    rw [List.drop_eq_nil_of_le (by simp; omega)]; simp [Sd]
theorem BS_drop {s : Nat} {l : List Piece} (h : BS s l) (n : Nat) : BS s (l.drop (n * s)) := fun k => by
  have := h (n + k); rwa [List.drop_drop, ← Nat.add_mul]
theorem BS_all {s : Nat} {l : List Piece} (h : BS s l) (hl : l.length ≤ s) : Sd ck l := by
  have := h 0; rwa [Nat.zero_mul, List.drop_zero, List.take_of_length_le hl] at this
theorem srt_congr {A B B' C : List Piece} (h : srt ck B = srt ck B') : srt ck (A ++ B ++ C) = srt ck (A ++ B' ++ C) := by
  rw [← mrg_srt C (A ++ B), ← mrg_srt C (A ++ B'), ← mrg_srt B A, ← mrg_srt B' A, h]
theorem srt_idem (l : List Piece) : srt ck (srt ck l) = srt ck l := srt_of_sd srt_sd
theorem srt_mrg {U V : List Piece} (hU : Sd ck U) (hV : Sd ck V) : srt ck (mrg ck U V) = srt ck (U ++ V) := by
  rw [srt_of_sd (mrg_sd U V hU hV), ← mrg_srt, srt_of_sd hU, srt_of_sd hV]
theorem spec_isort_eq {g : FuncId} (hg : CmpOK g) (P X Q L L' : List Piece) (h1 : L = P ++ X ++ Q) (h2 : L' = P ++ srt ck X ++ Q) (hb : L.length < 2 ^ 40) (a b : Int) (ha : a = P.length) (hb' : b = (P ++ X).length) :
    FunOK Try.prog 131 [.own 1000000, i64 a, i64 b, .clo g []] (lk .free (H1 L)) (.tup []) (lk .free (H1 L')) := by
  subst h1 h2; exact spec_isort hg P X Q hb a b ha hb'
theorem spec_stable {g : FuncId} (hg : CmpOK g) (l : List Piece) (hb : l.length < 2 ^ 39) (n : Int) (hn : n = l.length) :
    FunOK Try.prog 122 [.own 1000000, i64 n, .clo g []] (lk .free (H1 l)) (.tup []) (lk .free (H1 (srt ck l))) := by
  refine funOK_of mixed Try.func122 (by decide) [1000000] lk_pins ?_
  conv => whnf
  refine ⟨{ x : (List Piece × List Piece) × Nat // x.1.1.length = x.2 * 20 ∧ x.1.1.length + x.1.2.length = l.length ∧ BS 20 x.1.1 ∧ srt ck (x.1.1 ++ x.1.2) = srt ck l }, fun | ⟨((D, R), k), _⟩ => hsP [1000000] 63 [(0, .own 1000000), (1, i64 n), (2, .clo g []), (6, i64 20), (7, i64 D.length), (8, i64 (D.length + 20 : Nat))] (H1 (D ++ R)), fun x => x.1.1.2.length, ⟨(([], l), 0), by simp, by simp, BS_nil _, rfl⟩, ?_, ?_⟩
  · exact (hle_of [(1000000, some 1000000)] rfl rfl rfl rfl (by repeat' (first | exact trivial | (refine ⟨rfl, ?_⟩))) (by repeat' (first | exact trivial | exact rfl | (refine ⟨⟨rfl, ?_⟩, ?_⟩) | (refine ⟨rfl, ?_⟩) | (simp; done) | (simp; rfl))) (by repeat' (first | exact trivial | exact rfl | exact .inl rfl | exact .inr rfl | (refine ⟨⟨rfl, .inl ⟨_, rfl, ?_⟩⟩, ?_⟩) | (refine ⟨⟨rfl, _, rfl, ?_⟩, ?_⟩) | (refine ⟨⟨rfl, .inr ⟨rfl, ?_⟩⟩, ?_⟩) | (refine ⟨rfl, ?_⟩) | (simp; done) | (simp; rfl))))
  rintro ⟨⟨⟨D, R⟩, k⟩, h1, h2, h3, h4⟩
  dsimp only at h1 h2 h3 h4
  conv => whnf
  by_cases c : 20 ≤ R.length
  · obtain ⟨X, R, rfl, hX⟩ : ∃ X R', R = X ++ R' ∧ X.length = 20 := ⟨R.take 20, R.drop 20, by simp, by simp; omega⟩
    simp only [List.length_append] at h2 c
    have hsX := srt_length (key := ck) X
    ((refine hif_true ?_ ?_; (· (first | rfl | assumption | omega | (simp only [gt_iff_lt, ge_iff_le, decide_eq_true_eq, decide_eq_false_iff_not, beq_iff_eq, bne_iff_ne, ne_eq, beq_eq_false_iff_ne, bne_eq_false_iff_eq, List.length_map, List.length_append, List.length_cons, List.length_nil, List.length_take, List.length_drop, Bool.not_eq_true', Bool.not_eq_false', Bool.not_eq_true, Bool.not_eq_false, Decidable.not_not, Nat.cast_ofNat, Int.natCast_add] <;> omega) | (simp <;> omega))); conv => whnf); try (refine hcut.go ?_; conv => whnf))
    ((refine hcall_give [] [(1000000, 1000000)] [] ?_; (conv => whnf); refine ⟨_, _, _, _, spec_isort_eq hg D X R (D ++ (X ++ R)) (D ++ srt ck X ++ R) (by simp) rfl (by simp; omega) _ _ rfl (by simp; omega), ⟨rfl, rfl, rfl, ⟨⟨rfl, _, rfl, .inl ⟨rfl, rfl⟩⟩, trivial⟩, trivial, rfl, rfl, rfl⟩, ?_⟩; conv => whnf); try (refine hcut.go ?_; conv => whnf))
    ((refine hwrap_fit (W_fit ?_ ?_) ?_; (· (first | omega | (simp only [List.length_map, List.length_append, List.length_take, List.length_drop, List.length_cons, List.length_nil] <;> omega) | (simp <;> omega))); (· (first | omega | (simp only [List.length_map, List.length_append, List.length_take, List.length_drop, List.length_cons, List.length_nil] <;> omega) | (simp <;> omega))); conv => whnf); try (refine hcut.go ?_; conv => whnf))
    exact ⟨⟨((D ++ srt ck X, R), k + 1), by simp; omega, by simp; omega, BS_snoc h3 h1 (by omega) srt_sd, by dsimp only; rw [srt_congr (srt_idem X), List.append_assoc]; exact h4⟩, (hle_of [(1000000, some 1000000)] rfl rfl rfl rfl (by repeat' (first | exact trivial | (refine ⟨rfl, ?_⟩))) (by repeat' (first | exact trivial | exact rfl | (refine ⟨⟨rfl, ?_⟩, ?_⟩) | (refine ⟨rfl, ?_⟩) | ((exact i64_eq (by (first | omega | (simp only [List.length_map, List.length_append, List.length_take, List.length_drop, List.length_cons, List.length_nil] <;> omega) | (simp <;> omega))))) | (simp; done) | (simp; rfl))) (by repeat' (first | exact trivial | exact rfl | exact .inl rfl | exact .inr rfl | (refine ⟨⟨rfl, .inl ⟨_, rfl, ?_⟩⟩, ?_⟩) | (refine ⟨⟨rfl, _, rfl, ?_⟩, ?_⟩) | (refine ⟨⟨rfl, .inr ⟨rfl, ?_⟩⟩, ?_⟩) | (refine ⟨rfl, ?_⟩) | ((exact i64_eq (by (first | omega | (simp only [List.length_map, List.length_append, List.length_take, List.length_drop, List.length_cons, List.length_nil] <;> omega) | (simp <;> omega))))) | (simp; done) | (simp; rfl)))), by simp; omega⟩
  · have hsR := srt_length (key := ck) R
    ((refine hif_false ?_ ?_; (· (first | rfl | assumption | omega | (simp only [gt_iff_lt, ge_iff_le, decide_eq_true_eq, decide_eq_false_iff_not, beq_iff_eq, bne_iff_ne, ne_eq, beq_eq_false_iff_ne, bne_eq_false_iff_eq, List.length_map, List.length_append, List.length_cons, List.length_nil, List.length_take, List.length_drop, Bool.not_eq_true', Bool.not_eq_false', Bool.not_eq_true, Bool.not_eq_false, Decidable.not_not, Nat.cast_ofNat, Int.natCast_add] <;> omega) | (simp <;> omega))); conv => whnf); try (refine hcut.go ?_; conv => whnf))
    ((refine hcall_give [] [(1000000, 1000000)] [] ?_; (conv => whnf); refine ⟨_, _, _, _, spec_isort_eq hg D R [] (D ++ R) (D ++ srt ck R) (by simp) (by simp) (by simp; omega) _ _ rfl (by simp; omega), ⟨rfl, rfl, rfl, ⟨⟨rfl, _, rfl, .inl ⟨rfl, rfl⟩⟩, trivial⟩, trivial, rfl, rfl, rfl⟩, ?_⟩; conv => whnf); try (refine hcut.go ?_; conv => whnf))
    have hBS : BS 20 (D ++ srt ck R) := BS_snoc h3 h1 (by omega) srt_sd
    have hsr : srt ck (D ++ srt ck R) = srt ck l := by
      have := srt_congr (A := D) (C := []) (srt_idem R)
      rw [List.append_nil, List.append_nil] at this; rw [this]; exact h4
    have hlen : (D ++ srt ck R).length = l.length := by simp; omega
    obtain ⟨L, hL⟩ : ∃ L, L = D ++ srt ck R := ⟨_, rfl⟩
    rw [← hL] at hBS hsr hlen
    refine ⟨{ x : List Piece × Nat // BS x.2 x.1 ∧ srt ck x.1 = srt ck l ∧ x.1.length = l.length ∧ 0 < x.2 ∧ x.2 < 2 ^ 41 }, fun | ⟨(L, s), _⟩ => hsP [1000000] 63 [(0, .own 1000000), (1, i64 n), (2, .clo g []), (6, i64 s)] (H1 L), fun x => 2 ^ 41 - x.1.2, ⟨(L, 20), hBS, hsr, hlen, by omega, by omega⟩, ?_, ?_⟩
    · exact (hle_of [(1000000, some 1000000)] rfl rfl rfl rfl (by repeat' (first | exact trivial | (refine ⟨rfl, ?_⟩))) (by repeat' (first | exact trivial | exact rfl | (refine ⟨⟨rfl, ?_⟩, ?_⟩) | (refine ⟨rfl, ?_⟩) | ((exact row_eqs (by rw [hL]))) | (simp; done) | (simp; rfl))) (by repeat' (first | exact trivial | exact rfl | exact .inl rfl | exact .inr rfl | (refine ⟨⟨rfl, .inl ⟨_, rfl, ?_⟩⟩, ?_⟩) | (refine ⟨⟨rfl, _, rfl, ?_⟩, ?_⟩) | (refine ⟨⟨rfl, .inr ⟨rfl, ?_⟩⟩, ?_⟩) | (refine ⟨rfl, ?_⟩) | ((exact row_eqs (by rw [hL]))) | (simp; done) | (simp; rfl))))
    clear h1 h2 h3 h4 c hsR hBS hsr hlen hL
    rintro ⟨⟨L, s⟩, h1, h2, h3, h4, h5⟩
    dsimp only at h1 h2 h3 h4 h5
    conv => whnf
    by_cases c : s < l.length
    · ((refine hif_true ?_ ?_; (· (first | rfl | assumption | omega | (simp only [gt_iff_lt, ge_iff_le, decide_eq_true_eq, decide_eq_false_iff_not, beq_iff_eq, bne_iff_ne, ne_eq, beq_eq_false_iff_ne, bne_eq_false_iff_eq, List.length_map, List.length_append, List.length_cons, List.length_nil, List.length_take, List.length_drop, Bool.not_eq_true', Bool.not_eq_false', Bool.not_eq_true, Bool.not_eq_false, Decidable.not_not, Nat.cast_ofNat, Int.natCast_add] <;> omega) | (simp <;> omega))); conv => whnf); try (refine hcut.go ?_; conv => whnf))
      ((refine hwrap_fit (W_fit ?_ ?_) ?_; (· (first | omega | (simp only [List.length_map, List.length_append, List.length_take, List.length_drop, List.length_cons, List.length_nil] <;> omega) | (simp <;> omega))); (· (first | omega | (simp only [List.length_map, List.length_append, List.length_take, List.length_drop, List.length_cons, List.length_nil] <;> omega) | (simp <;> omega))); conv => whnf); try (refine hcut.go ?_; conv => whnf))
      refine ⟨{ x : (List Piece × List Piece) × Nat // x.1.1.length = x.2 * (2 * s) ∧ x.1.1.length + x.1.2.length = l.length ∧ BS (2 * s) x.1.1 ∧ BS s x.1.2 ∧ srt ck (x.1.1 ++ x.1.2) = srt ck l }, fun | ⟨((D, R), k), _⟩ => hsP [1000000] 63 [(0, .own 1000000), (1, i64 n), (2, .clo g []), (6, i64 s), (7, i64 D.length), (8, i64 (D.length + 2 * s : Nat))] (H1 (D ++ R)), fun x => x.1.1.2.length, ⟨(([], L), 0), by simp, by simpa using h3, BS_nil _, h1, h2⟩, ?_, ?_⟩
      · exact (hle_of [(1000000, some 1000000)] rfl rfl rfl rfl (by repeat' (first | exact trivial | (refine ⟨rfl, ?_⟩))) (by repeat' (first | exact trivial | exact rfl | (refine ⟨⟨rfl, ?_⟩, ?_⟩) | (refine ⟨rfl, ?_⟩) | ((exact i64_eq (by (first | omega | (simp only [List.length_map, List.length_append, List.length_take, List.length_drop, List.length_cons, List.length_nil] <;> omega) | (simp <;> omega))))) | (simp; done) | (simp; rfl))) (by repeat' (first | exact trivial | exact rfl | exact .inl rfl | exact .inr rfl | (refine ⟨⟨rfl, .inl ⟨_, rfl, ?_⟩⟩, ?_⟩) | (refine ⟨⟨rfl, _, rfl, ?_⟩, ?_⟩) | (refine ⟨⟨rfl, .inr ⟨rfl, ?_⟩⟩, ?_⟩) | (refine ⟨rfl, ?_⟩) | ((exact i64_eq (by (first | omega | (simp only [List.length_map, List.length_append, List.length_take, List.length_drop, List.length_cons, List.length_nil] <;> omega) | (simp <;> omega))))) | (simp; done) | (simp; rfl))))
      rintro ⟨⟨⟨D, R⟩, k⟩, h1, h2, h3, h6, h7⟩
      dsimp only at h1 h2 h3 h6 h7
      conv => whnf
      by_cases c2 : 2 * s ≤ R.length
      · obtain ⟨U, V, R, rfl, hU, hV⟩ : ∃ U V R', R = U ++ V ++ R' ∧ U.length = s ∧ V.length = s := ⟨R.take s, (R.drop s).take s, R.drop (2 * s), by
          rw [show 2 * s = s + s by omega, ← List.drop_drop, List.append_assoc, List.take_append_drop, List.take_append_drop], by simp; omega, by simp; omega⟩
        have sU : Sd ck U := by have := h6 0; rwa [Nat.zero_mul, List.drop_zero, List.append_assoc, List.take_append_of_le_length (by omega), List.take_of_length_le (by omega)] at this
        have sV : Sd ck V := by have := h6 1; rwa [Nat.one_mul, List.append_assoc, ← hU, List.drop_left, hU, List.take_append_of_le_length (by omega), List.take_of_length_le (by omega)] at this
        have hR : BS s R := by
          have := BS_drop h6 2
          rwa [List.drop_left' (by simp; omega)] at this
        have hm := mrg_len U V
        simp only [List.length_append] at h2 c2
        ((refine hif_true ?_ ?_; (· (first | rfl | assumption | omega | (simp only [gt_iff_lt, ge_iff_le, decide_eq_true_eq, decide_eq_false_iff_not, beq_iff_eq, bne_iff_ne, ne_eq, beq_eq_false_iff_ne, bne_eq_false_iff_eq, List.length_map, List.length_append, List.length_cons, List.length_nil, List.length_take, List.length_drop, Bool.not_eq_true', Bool.not_eq_false', Bool.not_eq_true, Bool.not_eq_false, Decidable.not_not, Nat.cast_ofNat, Int.natCast_add] <;> omega) | (simp <;> omega))); conv => whnf); try (refine hcut.go ?_; conv => whnf))
        ((refine hwrap_fit (W_fit ?_ ?_) ?_; (· (first | omega | (simp only [List.length_map, List.length_append, List.length_take, List.length_drop, List.length_cons, List.length_nil] <;> omega) | (simp <;> omega))); (· (first | omega | (simp only [List.length_map, List.length_append, List.length_take, List.length_drop, List.length_cons, List.length_nil] <;> omega) | (simp <;> omega))); conv => whnf); try (refine hcut.go ?_; conv => whnf))
        ((refine hcall_give [] [(1000000, 1000000)] [] ?_; (conv => whnf); refine ⟨_, _, _, _, spec_sym hg (2 * s) D U V R (D ++ (U ++ V ++ R)) (D ++ mrg ck U V ++ R) (by simp) rfl (by omega) (List.length_pos_iff.1 (by omega)) (List.length_pos_iff.1 (by omega)) sU sV (by simp; omega) _ _ _ rfl (by simp; omega) (by simp; omega), ⟨rfl, rfl, rfl, ⟨⟨rfl, _, rfl, .inl ⟨rfl, rfl⟩⟩, trivial⟩, trivial, rfl, rfl, rfl⟩, ?_⟩; conv => whnf); try (refine hcut.go ?_; conv => whnf))
        ((refine hwrap_fit (W_fit ?_ ?_) ?_; (· (first | omega | (simp only [List.length_map, List.length_append, List.length_take, List.length_drop, List.length_cons, List.length_nil] <;> omega) | (simp <;> omega))); (· (first | omega | (simp only [List.length_map, List.length_append, List.length_take, List.length_drop, List.length_cons, List.length_nil] <;> omega) | (simp <;> omega))); conv => whnf); try (refine hcut.go ?_; conv => whnf))
        ((refine hwrap_fit (W_fit ?_ ?_) ?_; (· (first | omega | (simp only [List.length_map, List.length_append, List.length_take, List.length_drop, List.length_cons, List.length_nil] <;> omega) | (simp <;> omega))); (· (first | omega | (simp only [List.length_map, List.length_append, List.length_take, List.length_drop, List.length_cons, List.length_nil] <;> omega) | (simp <;> omega))); conv => whnf); try (refine hcut.go ?_; conv => whnf))
        exact ⟨⟨((D ++ mrg ck U V, R), k + 1), by rw [Nat.add_mul]; simp; omega, by simp; omega, BS_snoc h3 h1 (by omega) (mrg_sd U V sU sV), hR, by dsimp only; rw [srt_congr (srt_mrg sU sV), List.append_assoc, List.append_assoc, ← List.append_assoc U]; exact h7⟩, (hle_of [(1000000, some 1000000)] rfl rfl rfl rfl (by repeat' (first | exact trivial | (refine ⟨rfl, ?_⟩))) (by repeat' (first | exact trivial | exact rfl | (refine ⟨⟨rfl, ?_⟩, ?_⟩) | (refine ⟨rfl, ?_⟩) | ((exact i64_eq (by (first | omega | (simp only [List.length_map, List.length_append, List.length_take, List.length_drop, List.length_cons, List.length_nil] <;> omega) | (simp <;> omega))))) | (simp; done) | (simp; rfl))) (by repeat' (first | exact trivial | exact rfl | exact .inl rfl | exact .inr rfl | (refine ⟨⟨rfl, .inl ⟨_, rfl, ?_⟩⟩, ?_⟩) | (refine ⟨⟨rfl, _, rfl, ?_⟩, ?_⟩) | (refine ⟨⟨rfl, .inr ⟨rfl, ?_⟩⟩, ?_⟩) | (refine ⟨rfl, ?_⟩) | ((exact i64_eq (by (first | omega | (simp only [List.length_map, List.length_append, List.length_take, List.length_drop, List.length_cons, List.length_nil] <;> omega) | (simp <;> omega))))) | (simp; done) | (simp; rfl)))), by simp; omega⟩
      · ((refine hif_false ?_ ?_; (· (first | rfl | assumption | omega | (simp only [gt_iff_lt, ge_iff_le, decide_eq_true_eq, decide_eq_false_iff_not, beq_iff_eq, bne_iff_ne, ne_eq, beq_eq_false_iff_ne, bne_eq_false_iff_eq, List.length_map, List.length_append, List.length_cons, List.length_nil, List.length_take, List.length_drop, Bool.not_eq_true', Bool.not_eq_false', Bool.not_eq_true, Bool.not_eq_false, Decidable.not_not, Nat.cast_ofNat, Int.natCast_add] <;> omega) | (simp <;> omega))); conv => whnf); try (refine hcut.go ?_; conv => whnf))
        ((refine hwrap_fit (W_fit ?_ ?_) ?_; (· (first | omega | (simp only [List.length_map, List.length_append, List.length_take, List.length_drop, List.length_cons, List.length_nil] <;> omega) | (simp <;> omega))); (· (first | omega | (simp only [List.length_map, List.length_append, List.length_take, List.length_drop, List.length_cons, List.length_nil] <;> omega) | (simp <;> omega))); conv => whnf); try (refine hcut.go ?_; conv => whnf))
        by_cases c3 : s < R.length
        · obtain ⟨U, V, rfl, hU⟩ : ∃ U V, R = U ++ V ∧ U.length = s := ⟨R.take s, R.drop s, by simp, by simp; omega⟩
          have sU : Sd ck U := by have := h6 0; rwa [Nat.zero_mul, List.drop_zero, List.take_append_of_le_length (by omega), List.take_of_length_le (by omega)] at this
          simp only [List.length_append] at h2 c2 c3
          have sV : Sd ck V := by have := h6 1; rwa [Nat.one_mul, ← hU, List.drop_left, hU, List.take_of_length_le (by omega)] at this
          have hm := mrg_len U V
          refine hif_true (by simp; omega) ?_; conv => whnf
          try (refine hcut.go ?_; conv => whnf)
          ((refine hcall_give [] [(1000000, 1000000)] [] ?_; (conv => whnf); refine ⟨_, _, _, _, spec_sym hg (2 * s) D U V [] (D ++ (U ++ V)) (D ++ mrg ck U V) (by simp) (by simp) (by omega) (List.length_pos_iff.1 (by omega)) (List.length_pos_iff.1 (by omega)) sU sV (by simp; omega) _ _ _ rfl (by simp; omega) (by simp; omega), ⟨rfl, rfl, rfl, ⟨⟨rfl, _, rfl, .inl ⟨rfl, rfl⟩⟩, trivial⟩, trivial, rfl, rfl, rfl⟩, ?_⟩; conv => whnf); try (refine hcut.go ?_; conv => whnf))
          ((refine hwrap_fit (W_fit ?_ ?_) ?_; (· (first | omega | (simp only [List.length_map, List.length_append, List.length_take, List.length_drop, List.length_cons, List.length_nil] <;> omega) | (simp <;> omega))); (· (first | omega | (simp only [List.length_map, List.length_append, List.length_take, List.length_drop, List.length_cons, List.length_nil] <;> omega) | (simp <;> omega))); conv => whnf); try (refine hcut.go ?_; conv => whnf))
          have e1 := srt_congr (A := D) (C := []) (srt_mrg sU sV)
          rw [List.append_nil, List.append_nil] at e1
          exact ⟨⟨(D ++ mrg ck U V, 2 * s), BS_snoc h3 h1 (by omega) (mrg_sd U V sU sV), by dsimp only; rw [e1]; exact h7, by simp; omega, by dsimp only; omega, by dsimp only; omega⟩, (hle_of [(1000000, some 1000000)] rfl rfl rfl rfl (by repeat' (first | exact trivial | (refine ⟨rfl, ?_⟩))) (by repeat' (first | exact trivial | exact rfl | (refine ⟨⟨rfl, ?_⟩, ?_⟩) | (refine ⟨rfl, ?_⟩) | ((exact i64_eq (by (first | omega | (simp only [List.length_map, List.length_append, List.length_take, List.length_drop, List.length_cons, List.length_nil] <;> omega) | (simp <;> omega))))) | (simp; done) | (simp; rfl))) (by repeat' (first | exact trivial | exact rfl | exact .inl rfl | exact .inr rfl | (refine ⟨⟨rfl, .inl ⟨_, rfl, ?_⟩⟩, ?_⟩) | (refine ⟨⟨rfl, _, rfl, ?_⟩, ?_⟩) | (refine ⟨⟨rfl, .inr ⟨rfl, ?_⟩⟩, ?_⟩) | (refine ⟨rfl, ?_⟩) | ((exact i64_eq (by (first | omega | (simp only [List.length_map, List.length_append, List.length_take, List.length_drop, List.length_cons, List.length_nil] <;> omega) | (simp <;> omega))))) | (simp; done) | (simp; rfl)))), by dsimp only; omega⟩
        · refine hif_false (by simp; omega) ?_; conv => whnf
          try (refine hcut.go ?_; conv => whnf)
          ((refine hwrap_fit (W_fit ?_ ?_) ?_; (· (first | omega | (simp only [List.length_map, List.length_append, List.length_take, List.length_drop, List.length_cons, List.length_nil] <;> omega) | (simp <;> omega))); (· (first | omega | (simp only [List.length_map, List.length_append, List.length_take, List.length_drop, List.length_cons, List.length_nil] <;> omega) | (simp <;> omega))); conv => whnf); try (refine hcut.go ?_; conv => whnf))
          exact ⟨⟨(D ++ R, 2 * s), BS_snoc h3 h1 (by omega) (BS_all h6 (by omega)), h7, by simp; omega, by dsimp only; omega, by dsimp only; omega⟩, (hle_of [(1000000, some 1000000)] rfl rfl rfl rfl (by repeat' (first | exact trivial | (refine ⟨rfl, ?_⟩))) (by repeat' (first | exact trivial | exact rfl | (refine ⟨⟨rfl, ?_⟩, ?_⟩) | (refine ⟨rfl, ?_⟩) | ((exact i64_eq (by (first | omega | (simp only [List.length_map, List.length_append, List.length_take, List.length_drop, List.length_cons, List.length_nil] <;> omega) | (simp <;> omega))))) | (simp; done) | (simp; rfl))) (by repeat' (first | exact trivial | exact rfl | exact .inl rfl | exact .inr rfl | (refine ⟨⟨rfl, .inl ⟨_, rfl, ?_⟩⟩, ?_⟩) | (refine ⟨⟨rfl, _, rfl, ?_⟩, ?_⟩) | (refine ⟨⟨rfl, .inr ⟨rfl, ?_⟩⟩, ?_⟩) | (refine ⟨rfl, ?_⟩) | ((exact i64_eq (by (first | omega | (simp only [List.length_map, List.length_append, List.length_take, List.length_drop, List.length_cons, List.length_nil] <;> omega) | (simp <;> omega))))) | (simp; done) | (simp; rfl)))), by dsimp only; omega⟩
    · have hsd := BS_all h1 (by omega)
      rw [srt_of_sd hsd] at h2
      ((refine hif_false ?_ ?_; (· (first | rfl | assumption | omega | (simp only [gt_iff_lt, ge_iff_le, decide_eq_true_eq, decide_eq_false_iff_not, beq_iff_eq, bne_iff_ne, ne_eq, beq_eq_false_iff_ne, bne_eq_false_iff_eq, List.length_map, List.length_append, List.length_cons, List.length_nil, List.length_take, List.length_drop, Bool.not_eq_true', Bool.not_eq_false', Bool.not_eq_true, Bool.not_eq_false, Decidable.not_not, Nat.cast_ofNat, Int.natCast_add] <;> omega) | (simp <;> omega))); conv => whnf); try (refine hcut.go ?_; conv => whnf))
      refine hfin_of [(1000000, some 1000000)] rfl rfl ⟨rfl, trivial⟩ rfl rfl ⟨⟨rfl, .inl ⟨1000000, rfl, ?_⟩⟩, trivial⟩
      exact row_eqs (by rw [h2])
theorem spec_sort {g : FuncId} (hg : CmpOK g) (l : List Piece) (hb : l.length < 2 ^ 39) :
    FunOK Try.prog 101 [.own 1000000, .clo g []] (lk .free (H1 l)) (.tup []) (lk .free (H1 (srt ck l))) := by
  refine funOK_of mixed Try.func101 (by decide) [1000000] lk_pins ?_
  conv => whnf
  ((refine hcall_give [] [(1000000, 1000000)] [] ?_; (conv => whnf); refine ⟨_, _, _, _, spec_stable hg l hb _ (by simp), ⟨rfl, rfl, rfl, ⟨⟨rfl, _, rfl, .inl ⟨rfl, rfl⟩⟩, trivial⟩, trivial, rfl, rfl, rfl⟩, ?_⟩; conv => whnf); try (refine hcut.go ?_; conv => whnf))
  refine hfin_of [(1000000, some 1000000)] rfl rfl ⟨rfl, trivial⟩ rfl rfl ⟨⟨rfl, .inl ⟨1000000, rfl, rfl⟩⟩, trivial⟩
end Srt
end Go.HL
