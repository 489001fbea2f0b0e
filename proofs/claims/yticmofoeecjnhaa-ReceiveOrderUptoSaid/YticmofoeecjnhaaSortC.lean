/- The library's merging of two sorted runs in place. -/
import Derived.Test.YticmofoeecjnhaaSortA
import Derived.Test.YticmofoeecjnhaaSortB
namespace Go.HL
open Go.Proofs
namespace Srt
set_option maxHeartbeats 2000000
set_option maxRecDepth 100000
set_option linter.unusedSimpArgs false
/-- where the runs part: the search's end -/
structure Part (U V : List Piece) (h s : Nat) : Prop where
  hs : s ≤ h
  hv : h - s ≤ V.length
  hu : s ≤ U.length
  lo : ∀ x ∈ U.take s, ∀ z ∈ V.drop (h - s), ck x ≤ ck z
  hi : ∀ z ∈ V.take (h - s), ∀ x ∈ U.drop s, ck z < ck x
theorem mem_take_get {α : Type} {l : List α} {n : Nat} {x : α} (h : x ∈ l.take n) : ∃ i, ∃ hi : i < l.length, i < n ∧ x = l[i] := by
  obtain ⟨i, hi, rfl⟩ := List.getElem_of_mem h
  rw [List.length_take] at hi
  exact ⟨i, by omega, by omega, by simp⟩
theorem mem_drop_get {α : Type} {l : List α} {n : Nat} {x : α} (h : x ∈ l.drop n) : ∃ i, ∃ hi : i < l.length, n ≤ i ∧ x = l[i] := by
  obtain ⟨i, hi, rfl⟩ := List.getElem_of_mem h
  rw [List.length_drop] at hi
  exact ⟨n + i, by omega, by omega, by simp⟩
def LoB (U V : List Piece) (h s : Nat) : Prop := ∃ i j, ∃ (h1 : i < U.length) (h2 : j < V.length), i + 1 = s ∧ j + s = h ∧ ck U[i] ≤ ck V[j]
def HiB (U V : List Piece) (h s : Nat) : Prop := ∃ i j, ∃ (h1 : i < U.length) (h2 : j < V.length), i = s ∧ j + 1 + s = h ∧ ck V[j] < ck U[i]
theorem part_of {U V : List Piece} {h s s0 r0 : Nat} (sU : Sd ck U) (sV : Sd ck V) (h0 : s0 ≤ s) (h1 : s ≤ r0) (hr : r0 ≤ h) (hru : r0 ≤ U.length) (hv : h - s0 ≤ V.length)
    (e0 : s0 = 0 ∨ h - s0 = V.length) (e1 : r0 = h ∨ r0 = U.length) (p0 : s = s0 ∨ LoB U V h s)
    (p1 : s = r0 ∨ HiB U V h s) : Part U V h s := by
  refine ⟨by omega, by omega, by omega, fun x hx z hz => ?_, fun z hz x hx => ?_⟩
  · obtain ⟨i, hi, hi2, rfl⟩ := mem_take_get hx
    obtain ⟨j, hj, hj2, rfl⟩ := mem_drop_get hz
    rcases p0 with p0 | ⟨i', j', k1, k2, k3, k4, k5⟩
    · rcases e0 with e0 | e0 <;> omega
    · have a1 := sd_get sU (i := i) k1 (by omega)
      have a2 := sd_get sV (i := j') hj (by omega)
      omega
  · obtain ⟨j, hj, hj2, rfl⟩ := mem_take_get hz
    obtain ⟨i, hi, hi2, rfl⟩ := mem_drop_get hx
    rcases p1 with p1 | ⟨i', j', k1, k2, k3, k4, k5⟩
    · rcases e1 with e1 | e1 <;> omega
    · have a1 := sd_get sU (i := i') hi (by omega)
      have a2 := sd_get sV (i := j) k2 (by omega)
      omega
theorem Part.merge {U V : List Piece} {h s : Nat} (p : Part U V h s) : mrg ck U V = mrg ck (U.take s) (V.take (h - s)) ++ mrg ck (U.drop s) (V.drop (h - s)) := by
  have := mrg_split (key := ck) (u2 := U.drop s) (v2 := V.drop (h - s)) (U.take s) (V.take (h - s)) p.lo p.hi
  rwa [List.take_append_drop, List.take_append_drop] at this
theorem sd_take {l : List Piece} (h : Sd ck l) (n : Nat) : Sd ck (l.take n) := by
  rw [← List.take_append_drop n l] at h; exact (sd_app.1 h).1
theorem sd_drop {l : List Piece} (h : Sd ck l) (n : Nat) : Sd ck (l.drop n) := by
  rw [← List.take_append_drop n l] at h; exact (sd_app.1 h).2.1
theorem spec_rotate_eq {g : FuncId} {L L' : List Piece} (P Q U V : List Piece) (h1 : L = P ++ U ++ V ++ Q) (h2 : L' = P ++ V ++ U ++ Q) (hU : U ≠ []) (hV : V ≠ []) (hb : L.length < 2 ^ 40) (a m b : Int) (ha : a = P.length) (hm : m = (P ++ U).length) (hb' : b = (P ++ U ++ V).length) :
    FunOK Try.prog 134 [.own 1000000, i64 a, i64 m, i64 b, .clo g []] (lk .free (H1 L)) (.tup []) (lk .free (H1 L')) := by
  subst h1 h2; exact spec_rotate P Q U V hU hV hb a m b ha hm hb'
theorem mrg_e1 {U V : List Piece} (h : U = [] ∨ V = []) : mrg ck U V = U ++ V := by
  rcases h with rfl | rfl
  · rw [mrg]; rfl
  · rw [mrg_nil]; simp
theorem mrg_len (U V : List Piece) : (mrg ck U V).length = U.length + V.length := by
  fun_induction mrg ck U V <;> simp_all <;> omega
theorem spec_sym {g : FuncId} (hg : CmpOK g) : ∀ (n : Nat) (P U V Q L L' : List Piece) (_ : L = P ++ U ++ V ++ Q) (_ : L' = P ++ mrg ck U V ++ Q) (_ : U.length + V.length ≤ n) (_ : U ≠ []) (_ : V ≠ []) (_ : Sd ck U) (_ : Sd ck V) (_ : L.length < 2 ^ 40) (a m b : Int) (_ : a = P.length) (_ : m = (P ++ U).length) (_ : b = (P ++ U ++ V).length),
    FunOK Try.prog 132 [.own 1000000, i64 a, i64 m, i64 b, .clo g []] (lk .free (H1 L)) (.tup []) (lk .free (H1 L'))
  | 0, P, U, V, Q, L, L', hL, hL', hn, hU, hV, sU, sV, hb, a, m, b, ha, hm, hb' => by
    have := List.length_pos_iff.2 hU; omega
  | n + 1, P, U, V, Q, L, L', hL, hL', hn, hU, hV, sU, sV, hb, a, m, b, ha, hm, hb' => by
    by_cases c1 : U.length = 1
    · exact spec_sym_a hg P U V Q L L' hL hL' hU hV sU sV hb a m b ha hm hb' c1
    by_cases c2 : V.length = 1
    · exact spec_sym_b hg P U V Q L L' hL hL' hU hV sU sV hb a m b ha hm hb' c1 c2
    have ih := spec_sym hg n
    have hU0 := List.length_pos_iff.2 hU
    have hV0 := List.length_pos_iff.2 hV
    have hLl : L.length = P.length + U.length + V.length + Q.length := by rw [hL]; simp; omega
    rw [hLl] at hb
    simp only [List.length_append] at hm hb'
    obtain ⟨h, hh⟩ : ∃ h, h = (U.length + V.length) / 2 := ⟨_, rfl⟩
    refine funOK_of mixed Try.func132 (by decide) [1000000] lk_pins ?_
    conv => whnf
    ((refine hwrap_fit (W_fit ?_ ?_) ?_; (· (first | omega | (simp only [List.length_map, List.length_append, List.length_take, List.length_drop, List.length_cons, List.length_nil] <;> omega) | (simp <;> omega))); (· (first | omega | (simp only [List.length_map, List.length_append, List.length_take, List.length_drop, List.length_cons, List.length_nil] <;> omega) | (simp <;> omega))); conv => whnf); try (refine hcut.go ?_; conv => whnf))
    ((refine hif_false ?_ ?_; (· (first | rfl | assumption | omega | (simp only [gt_iff_lt, ge_iff_le, decide_eq_true_eq, decide_eq_false_iff_not, beq_iff_eq, bne_iff_ne, ne_eq, beq_eq_false_iff_ne, bne_eq_false_iff_eq, List.length_map, List.length_append, List.length_cons, List.length_nil, List.length_take, List.length_drop, Bool.not_eq_true', Bool.not_eq_false', Bool.not_eq_true, Bool.not_eq_false, Decidable.not_not, Nat.cast_ofNat, Int.natCast_add] <;> omega) | (simp <;> omega))); conv => whnf); try (refine hcut.go ?_; conv => whnf))
    ((refine hwrap_fit (W_fit ?_ ?_) ?_; (· (first | omega | (simp only [List.length_map, List.length_append, List.length_take, List.length_drop, List.length_cons, List.length_nil] <;> omega) | (simp <;> omega))); (· (first | omega | (simp only [List.length_map, List.length_append, List.length_take, List.length_drop, List.length_cons, List.length_nil] <;> omega) | (simp <;> omega))); conv => whnf); try (refine hcut.go ?_; conv => whnf))
    ((refine hif_false ?_ ?_; (· (first | rfl | assumption | omega | (simp only [gt_iff_lt, ge_iff_le, decide_eq_true_eq, decide_eq_false_iff_not, beq_iff_eq, bne_iff_ne, ne_eq, beq_eq_false_iff_ne, bne_eq_false_iff_eq, List.length_map, List.length_append, List.length_cons, List.length_nil, List.length_take, List.length_drop, Bool.not_eq_true', Bool.not_eq_false', Bool.not_eq_true, Bool.not_eq_false, Decidable.not_not, Nat.cast_ofNat, Int.natCast_add] <;> omega) | (simp <;> omega))); conv => whnf); try (refine hcut.go ?_; conv => whnf))
    ((refine hwrap_fit (W_fit ?_ ?_) ?_; (· (first | omega | (simp only [List.length_map, List.length_append, List.length_take, List.length_drop, List.length_cons, List.length_nil] <;> omega) | (simp <;> omega))); (· (first | omega | (simp only [List.length_map, List.length_append, List.length_take, List.length_drop, List.length_cons, List.length_nil] <;> omega) | (simp <;> omega))); conv => whnf); try (refine hcut.go ?_; conv => whnf))
    refine hwrap_to (U64_fit (by omega) (by omega)) ?_; conv => whnf
    refine hobl_intro (by decide) ?_; conv => whnf
    refine hwrap_to (z' := ((P.length + h : Nat) : Int)) ?_ ?_
    · show W ((a + b) / 2) = _
      rw [W_fit (by omega) (by omega)]; omega
    conv => whnf
    (refine hwrap_fit (W_fit ?_ ?_) ?_; (· (first | omega | (simp only [List.length_map, List.length_append, List.length_take, List.length_drop, List.length_cons, List.length_nil] <;> omega) | (simp <;> omega))); (· (first | omega | (simp only [List.length_map, List.length_append, List.length_take, List.length_drop, List.length_cons, List.length_nil] <;> omega) | (simp <;> omega))); conv => whnf)
    refine hcut.meet { x : Nat × Nat // x.1 ≤ x.2 ∧ x.2 ≤ h ∧ x.2 ≤ U.length ∧ h - x.1 ≤ V.length ∧ (x.1 = 0 ∨ h - x.1 = V.length) ∧ (x.2 = h ∨ x.2 = U.length) } (fun | ⟨(s, r), _⟩ => hsP [1000000] 220 [(0, .own 1000000), (1, i64 a), (2, i64 m), (3, i64 b), (4, .clo g []), (18, i64 (P.length + h : Nat)), (19, i64 (2 * P.length + h + U.length : Nat)), (20, i64 (P.length + s : Nat)), (21, i64 (P.length + r : Nat))] (H1 L)) ?_ ?_
    · by_cases c3 : U.length > h
      · refine hif_true (by simp; omega) ?_; conv => whnf
        (refine hwrap_fit (W_fit ?_ ?_) ?_; (· (first | omega | (simp only [List.length_map, List.length_append, List.length_take, List.length_drop, List.length_cons, List.length_nil] <;> omega) | (simp <;> omega))); (· (first | omega | (simp only [List.length_map, List.length_append, List.length_take, List.length_drop, List.length_cons, List.length_nil] <;> omega) | (simp <;> omega))); conv => whnf)
        exact ⟨⟨(h - V.length, h), by dsimp only; omega⟩, (hle_of [(1000000, some 1000000)] rfl rfl rfl rfl (by repeat' (first | exact trivial | (refine ⟨rfl, ?_⟩))) (by repeat' (first | exact trivial | exact rfl | (refine ⟨⟨rfl, ?_⟩, ?_⟩) | (refine ⟨rfl, ?_⟩) | ((exact i64_eq (by (first | omega | (simp only [List.length_map, List.length_append, List.length_take, List.length_drop, List.length_cons, List.length_nil] <;> omega) | (simp <;> omega))))) | (simp; done) | (simp; rfl))) (by repeat' (first | exact trivial | exact rfl | exact .inl rfl | exact .inr rfl | (refine ⟨⟨rfl, .inl ⟨_, rfl, ?_⟩⟩, ?_⟩) | (refine ⟨⟨rfl, _, rfl, ?_⟩, ?_⟩) | (refine ⟨⟨rfl, .inr ⟨rfl, ?_⟩⟩, ?_⟩) | (refine ⟨rfl, ?_⟩) | ((exact i64_eq (by (first | omega | (simp only [List.length_map, List.length_append, List.length_take, List.length_drop, List.length_cons, List.length_nil] <;> omega) | (simp <;> omega))))) | (simp; done) | (simp; rfl))))⟩
      · refine hif_false (by simp; omega) ?_; conv => whnf
        exact ⟨⟨(0, U.length), by dsimp only; omega⟩, (hle_of [(1000000, some 1000000)] rfl rfl rfl rfl (by repeat' (first | exact trivial | (refine ⟨rfl, ?_⟩))) (by repeat' (first | exact trivial | exact rfl | (refine ⟨⟨rfl, ?_⟩, ?_⟩) | (refine ⟨rfl, ?_⟩) | ((exact i64_eq (by (first | omega | (simp only [List.length_map, List.length_append, List.length_take, List.length_drop, List.length_cons, List.length_nil] <;> omega) | (simp <;> omega))))) | (simp; done) | (simp; rfl))) (by repeat' (first | exact trivial | exact rfl | exact .inl rfl | exact .inr rfl | (refine ⟨⟨rfl, .inl ⟨_, rfl, ?_⟩⟩, ?_⟩) | (refine ⟨⟨rfl, _, rfl, ?_⟩, ?_⟩) | (refine ⟨⟨rfl, .inr ⟨rfl, ?_⟩⟩, ?_⟩) | (refine ⟨rfl, ?_⟩) | ((exact i64_eq (by (first | omega | (simp only [List.length_map, List.length_append, List.length_take, List.length_drop, List.length_cons, List.length_nil] <;> omega) | (simp <;> omega))))) | (simp; done) | (simp; rfl))))⟩
    rintro ⟨⟨s0, r0⟩, k1, k2, k3, k4, k5, k6⟩
    dsimp only at k1 k2 k3 k4 k5 k6
    conv => whnf
    ((refine hwrap_fit (W_fit ?_ ?_) ?_; (· (first | omega | (simp only [List.length_map, List.length_append, List.length_take, List.length_drop, List.length_cons, List.length_nil] <;> omega) | (simp <;> omega))); (· (first | omega | (simp only [List.length_map, List.length_append, List.length_take, List.length_drop, List.length_cons, List.length_nil] <;> omega) | (simp <;> omega))); conv => whnf); try (refine hcut.go ?_; conv => whnf))
    refine ⟨{ x : Nat × Nat // s0 ≤ x.1 ∧ x.1 ≤ x.2 ∧ x.2 ≤ r0 ∧ (x.1 = s0 ∨ LoB U V h x.1) ∧ (x.2 = r0 ∨ HiB U V h x.2) },
      fun | ⟨(s, r), _⟩ => hsP [1000000] 220 [(0, .own 1000000), (1, i64 a), (2, i64 m), (3, i64 b), (4, .clo g []), (18, i64 (P.length + h : Nat)), (19, i64 (2 * P.length + h + U.length : Nat)), (20, i64 (P.length + s : Nat)), (21, i64 (P.length + r : Nat)), (22, i64 ((2 * P.length + h + U.length : Nat) - 1))] (H1 L), fun x => x.1.2 - x.1.1, ⟨(s0, r0), Nat.le_refl _, k1, Nat.le_refl _, .inl rfl, .inl rfl⟩, ?_, ?_⟩
    · exact (hle_of [(1000000, some 1000000)] rfl rfl rfl rfl (by repeat' (first | exact trivial | (refine ⟨rfl, ?_⟩))) (by repeat' (first | exact trivial | exact rfl | (refine ⟨⟨rfl, ?_⟩, ?_⟩) | (refine ⟨rfl, ?_⟩) | (simp; done) | (simp; rfl))) (by repeat' (first | exact trivial | exact rfl | exact .inl rfl | exact .inr rfl | (refine ⟨⟨rfl, .inl ⟨_, rfl, ?_⟩⟩, ?_⟩) | (refine ⟨⟨rfl, _, rfl, ?_⟩, ?_⟩) | (refine ⟨⟨rfl, .inr ⟨rfl, ?_⟩⟩, ?_⟩) | (refine ⟨rfl, ?_⟩) | (simp; done) | (simp; rfl))))
    rintro ⟨⟨s, r⟩, g1, g2, g3, g4, g5⟩
    dsimp only at g1 g2 g3 g4 g5
    conv => whnf
    by_cases c : s < r
    · obtain ⟨k, hk⟩ : ∃ k, k = (s + r) / 2 := ⟨_, rfl⟩
      obtain ⟨j, hj⟩ : ∃ j, j + 1 + k = h := ⟨h - 1 - k, by omega⟩
      have hkU : k < U.length := by omega
      have hjV : j < V.length := by omega
      ((refine hif_true ?_ ?_; (· (first | rfl | assumption | omega | (simp only [gt_iff_lt, ge_iff_le, decide_eq_true_eq, decide_eq_false_iff_not, beq_iff_eq, bne_iff_ne, ne_eq, beq_eq_false_iff_ne, bne_eq_false_iff_eq, List.length_map, List.length_append, List.length_cons, List.length_nil, List.length_take, List.length_drop, Bool.not_eq_true', Bool.not_eq_false', Bool.not_eq_true, Bool.not_eq_false, Decidable.not_not, Nat.cast_ofNat, Int.natCast_add] <;> omega) | (simp <;> omega))); conv => whnf); try (refine hcut.go ?_; conv => whnf))
      ((refine hwrap_fit (W_fit ?_ ?_) ?_; (· (first | omega | (simp only [List.length_map, List.length_append, List.length_take, List.length_drop, List.length_cons, List.length_nil] <;> omega) | (simp <;> omega))); (· (first | omega | (simp only [List.length_map, List.length_append, List.length_take, List.length_drop, List.length_cons, List.length_nil] <;> omega) | (simp <;> omega))); conv => whnf); try (refine hcut.go ?_; conv => whnf))
      refine hwrap_to (U64_fit (by omega) (by omega)) ?_; conv => whnf
      refine hobl_intro (by decide) ?_; conv => whnf
      refine hwrap_to (z' := ((P.length + k : Nat) : Int)) ?_ ?_
      · show W ((((P.length + s : Nat) : Int) + ((P.length + r : Nat) : Int)) / 2) = _
        rw [W_fit (by omega) (by omega)]; omega
      conv => whnf
      ((refine hwrap_fit (W_fit ?_ ?_) ?_; (· (first | omega | (simp only [List.length_map, List.length_append, List.length_take, List.length_drop, List.length_cons, List.length_nil] <;> omega) | (simp <;> omega))); (· (first | omega | (simp only [List.length_map, List.length_append, List.length_take, List.length_drop, List.length_cons, List.length_nil] <;> omega) | (simp <;> omega))); conv => whnf); try (refine hcut.go ?_; conv => whnf))
      refine hobl_intro (by rw [hL]; simp; omega) ?_; conv => whnf
      refine hrow_in j (show L = (P ++ U) ++ V ++ Q from hL) hjV (by simp; omega) ?_; conv => whnf
      refine hobl_intro (by rw [hL]; simp; omega) ?_; conv => whnf
      refine hrow_in k (show L = P ++ U ++ (V ++ Q) by rw [hL]; simp) hkU (by omega) ?_; conv => whnf
      ((refine hcall_lend0 ?_; (conv => whnf); refine ⟨_, hg V[j] U[k], rfl, ?_⟩; conv => whnf); try (refine hcut.go ?_; conv => whnf))
      ((refine hdraw_intro ?_ ?_; (· kernel_rfl); conv => whnf); try (refine hcut.go ?_; conv => whnf))
      by_cases c3 : ck V[j] < ck U[k]
      · have hc : decide (cmp V[j] U[k] < 0) = true := decide_eq_true (cmp_neg.2 c3)
        refine hif_false (by rw [hc]; rfl) ?_; conv => whnf
        try (refine hcut.go ?_; conv => whnf)
        exact ⟨⟨(s, k), g1, by dsimp only; omega, by dsimp only; omega, g4, .inr ⟨k, j, hkU, hjV, rfl, hj, c3⟩⟩, (hle_of [(1000000, some 1000000)] rfl rfl rfl rfl (by repeat' (first | exact trivial | (refine ⟨rfl, ?_⟩))) (by repeat' (first | exact trivial | exact rfl | (refine ⟨⟨rfl, ?_⟩, ?_⟩) | (refine ⟨rfl, ?_⟩) | (simp; done) | (simp; rfl))) (by repeat' (first | exact trivial | exact rfl | exact .inl rfl | exact .inr rfl | (refine ⟨⟨rfl, .inl ⟨_, rfl, ?_⟩⟩, ?_⟩) | (refine ⟨⟨rfl, _, rfl, ?_⟩, ?_⟩) | (refine ⟨⟨rfl, .inr ⟨rfl, ?_⟩⟩, ?_⟩) | (refine ⟨rfl, ?_⟩) | (simp; done) | (simp; rfl)))), by dsimp only; omega⟩
      · have hc : decide (cmp V[j] U[k] < 0) = false := decide_eq_false fun h => c3 (cmp_neg.1 h)
        refine hif_true (by rw [hc]; rfl) ?_; conv => whnf
        try (refine hcut.go ?_; conv => whnf)
        ((refine hwrap_fit (W_fit ?_ ?_) ?_; (· (first | omega | (simp only [List.length_map, List.length_append, List.length_take, List.length_drop, List.length_cons, List.length_nil] <;> omega) | (simp <;> omega))); (· (first | omega | (simp only [List.length_map, List.length_append, List.length_take, List.length_drop, List.length_cons, List.length_nil] <;> omega) | (simp <;> omega))); conv => whnf); try (refine hcut.go ?_; conv => whnf))
        exact ⟨⟨(k + 1, r), by dsimp only; omega, by dsimp only; omega, g3, .inr ⟨k, j, hkU, hjV, rfl, by dsimp only; omega, by omega⟩, g5⟩, (hle_of [(1000000, some 1000000)] rfl rfl rfl rfl (by repeat' (first | exact trivial | (refine ⟨rfl, ?_⟩))) (by repeat' (first | exact trivial | exact rfl | (refine ⟨⟨rfl, ?_⟩, ?_⟩) | (refine ⟨rfl, ?_⟩) | ((exact i64_eq (by (first | omega | (simp only [List.length_map, List.length_append, List.length_take, List.length_drop, List.length_cons, List.length_nil] <;> omega) | (simp <;> omega))))) | (simp; done) | (simp; rfl))) (by repeat' (first | exact trivial | exact rfl | exact .inl rfl | exact .inr rfl | (refine ⟨⟨rfl, .inl ⟨_, rfl, ?_⟩⟩, ?_⟩) | (refine ⟨⟨rfl, _, rfl, ?_⟩, ?_⟩) | (refine ⟨⟨rfl, .inr ⟨rfl, ?_⟩⟩, ?_⟩) | (refine ⟨rfl, ?_⟩) | ((exact i64_eq (by (first | omega | (simp only [List.length_map, List.length_append, List.length_take, List.length_drop, List.length_cons, List.length_nil] <;> omega) | (simp <;> omega))))) | (simp; done) | (simp; rfl)))), by dsimp only; omega⟩
    · obtain rfl : s = r := by omega
      have hp := part_of sU sV g1 g3 k2 k3 k4 k5 k6 g4 g5
      have hmg := hp.merge
      obtain ⟨q1, q2, q3, -, -⟩ := hp
      have sU1 := sd_take sU s
      have sU2 := sd_drop sU s
      have sV1 := sd_take sV (h - s)
      have sV2 := sd_drop sV (h - s)
      have lU1 : (U.take s).length = s := by simp; omega
      have lU2 : (U.drop s).length = U.length - s := by simp
      have lV1 : (V.take (h - s)).length = h - s := by simp; omega
      have lV2 : (V.drop (h - s)).length = V.length - (h - s) := by simp
      have eU : U = U.take s ++ U.drop s := by simp
      have eV : V = V.take (h - s) ++ V.drop (h - s) := by simp
      generalize U.take s = U1 at *
      generalize U.drop s = U2 at *
      generalize V.take (h - s) = V1 at *
      generalize V.drop (h - s) = V2 at *
      ((refine hif_false ?_ ?_; (· (first | rfl | assumption | omega | (simp only [gt_iff_lt, ge_iff_le, decide_eq_true_eq, decide_eq_false_iff_not, beq_iff_eq, bne_iff_ne, ne_eq, beq_eq_false_iff_ne, bne_eq_false_iff_eq, List.length_map, List.length_append, List.length_cons, List.length_nil, List.length_take, List.length_drop, Bool.not_eq_true', Bool.not_eq_false', Bool.not_eq_true, Bool.not_eq_false, Decidable.not_not, Nat.cast_ofNat, Int.natCast_add] <;> omega) | (simp <;> omega))); conv => whnf); try (refine hcut.go ?_; conv => whnf))
      (refine hwrap_fit (W_fit ?_ ?_) ?_; (· (first | omega | (simp only [List.length_map, List.length_append, List.length_take, List.length_drop, List.length_cons, List.length_nil] <;> omega) | (simp <;> omega))); (· (first | omega | (simp only [List.length_map, List.length_append, List.length_take, List.length_drop, List.length_cons, List.length_nil] <;> omega) | (simp <;> omega))); conv => whnf)
      have hlL : ∀ A : List Piece, A.length = U.length + V.length → (P ++ A ++ Q).length < 2 ^ 40 := fun A hA => by simp; omega
      refine hcut.meet Unit (fun _ => hsP [1000000] 220 [(0, .own 1000000), (1, i64 a), (3, i64 b), (4, .clo g []), (18, i64 (P.length + h : Nat)), (20, i64 (P.length + s : Nat)), (24, i64 (P.length + U.length + (h - s) : Nat))] (H1 (P ++ U1 ++ V1 ++ U2 ++ V2 ++ Q))) ?_ fun _ => ?_
      · by_cases d1 : s < U.length
        · (refine hif_true ?_ ?_; (· (first | rfl | assumption | omega | (simp only [gt_iff_lt, ge_iff_le, decide_eq_true_eq, decide_eq_false_iff_not, beq_iff_eq, bne_iff_ne, ne_eq, beq_eq_false_iff_ne, bne_eq_false_iff_eq, List.length_map, List.length_append, List.length_cons, List.length_nil, List.length_take, List.length_drop, Bool.not_eq_true', Bool.not_eq_false', Bool.not_eq_true, Bool.not_eq_false, Decidable.not_not, Nat.cast_ofNat, Int.natCast_add] <;> omega) | (simp <;> omega))); conv => whnf)
          by_cases d2 : 0 < h - s
          · refine hif_true (by simp; omega) ?_; conv => whnf
            (refine hcall_give [] [(1000000, 1000000)] [] ?_; (conv => whnf); refine ⟨_, _, _, _, spec_rotate_eq (L := L) (L' := P ++ U1 ++ V1 ++ U2 ++ V2 ++ Q) (P ++ U1) (V2 ++ Q) U2 V1 (by rw [hL, eU, eV]; simp) (by simp) (List.length_pos_iff.1 (by omega)) (List.length_pos_iff.1 (by omega)) (by omega) _ _ _ (by simp; omega) (by simp; omega) (by simp; omega), ⟨rfl, rfl, rfl, ⟨⟨rfl, _, rfl, .inl ⟨rfl, rfl⟩⟩, trivial⟩, trivial, rfl, rfl, rfl⟩, ?_⟩; conv => whnf)
            exact ⟨(), (hle_of [(1000000, some 1000000)] rfl rfl rfl rfl (by repeat' (first | exact trivial | (refine ⟨rfl, ?_⟩))) (by repeat' (first | exact trivial | exact rfl | (refine ⟨⟨rfl, ?_⟩, ?_⟩) | (refine ⟨rfl, ?_⟩) | ((exact i64_eq (by (first | omega | (simp only [List.length_map, List.length_append, List.length_take, List.length_drop, List.length_cons, List.length_nil] <;> omega) | (simp <;> omega))))) | (simp; done) | (simp; rfl))) (by repeat' (first | exact trivial | exact rfl | exact .inl rfl | exact .inr rfl | (refine ⟨⟨rfl, .inl ⟨_, rfl, ?_⟩⟩, ?_⟩) | (refine ⟨⟨rfl, _, rfl, ?_⟩, ?_⟩) | (refine ⟨⟨rfl, .inr ⟨rfl, ?_⟩⟩, ?_⟩) | (refine ⟨rfl, ?_⟩) | ((exact i64_eq (by (first | omega | (simp only [List.length_map, List.length_append, List.length_take, List.length_drop, List.length_cons, List.length_nil] <;> omega) | (simp <;> omega))))) | (simp; done) | (simp; rfl))))⟩
          · have : V1 = [] := List.eq_nil_of_length_eq_zero (by omega)
            refine hif_false (by simp; omega) ?_; conv => whnf
            exact ⟨(), (hle_of [(1000000, some 1000000)] rfl rfl rfl rfl (by repeat' (first | exact trivial | (refine ⟨rfl, ?_⟩))) (by repeat' (first | exact trivial | exact rfl | (refine ⟨⟨rfl, ?_⟩, ?_⟩) | (refine ⟨rfl, ?_⟩) | ((exact i64_eq (by (first | omega | (simp only [List.length_map, List.length_append, List.length_take, List.length_drop, List.length_cons, List.length_nil] <;> omega) | (simp <;> omega))))) | ((exact row_eqs (by rw [hL, eU, eV, this]; simp))) | (simp; done) | (simp; rfl))) (by repeat' (first | exact trivial | exact rfl | exact .inl rfl | exact .inr rfl | (refine ⟨⟨rfl, .inl ⟨_, rfl, ?_⟩⟩, ?_⟩) | (refine ⟨⟨rfl, _, rfl, ?_⟩, ?_⟩) | (refine ⟨⟨rfl, .inr ⟨rfl, ?_⟩⟩, ?_⟩) | (refine ⟨rfl, ?_⟩) | ((exact i64_eq (by (first | omega | (simp only [List.length_map, List.length_append, List.length_take, List.length_drop, List.length_cons, List.length_nil] <;> omega) | (simp <;> omega))))) | ((exact row_eqs (by rw [hL, eU, eV, this]; simp))) | (simp; done) | (simp; rfl))))⟩
        · have : U2 = [] := List.eq_nil_of_length_eq_zero (by omega)
          (refine hif_false ?_ ?_; (· (first | rfl | assumption | omega | (simp only [gt_iff_lt, ge_iff_le, decide_eq_true_eq, decide_eq_false_iff_not, beq_iff_eq, bne_iff_ne, ne_eq, beq_eq_false_iff_ne, bne_eq_false_iff_eq, List.length_map, List.length_append, List.length_cons, List.length_nil, List.length_take, List.length_drop, Bool.not_eq_true', Bool.not_eq_false', Bool.not_eq_true, Bool.not_eq_false, Decidable.not_not, Nat.cast_ofNat, Int.natCast_add] <;> omega) | (simp <;> omega))); conv => whnf)
          exact ⟨(), (hle_of [(1000000, some 1000000)] rfl rfl rfl rfl (by repeat' (first | exact trivial | (refine ⟨rfl, ?_⟩))) (by repeat' (first | exact trivial | exact rfl | (refine ⟨⟨rfl, ?_⟩, ?_⟩) | (refine ⟨rfl, ?_⟩) | ((exact i64_eq (by (first | omega | (simp only [List.length_map, List.length_append, List.length_take, List.length_drop, List.length_cons, List.length_nil] <;> omega) | (simp <;> omega))))) | ((exact row_eqs (by rw [hL, eU, eV, this]; simp))) | (simp; done) | (simp; rfl))) (by repeat' (first | exact trivial | exact rfl | exact .inl rfl | exact .inr rfl | (refine ⟨⟨rfl, .inl ⟨_, rfl, ?_⟩⟩, ?_⟩) | (refine ⟨⟨rfl, _, rfl, ?_⟩, ?_⟩) | (refine ⟨⟨rfl, .inr ⟨rfl, ?_⟩⟩, ?_⟩) | (refine ⟨rfl, ?_⟩) | ((exact i64_eq (by (first | omega | (simp only [List.length_map, List.length_append, List.length_take, List.length_drop, List.length_cons, List.length_nil] <;> omega) | (simp <;> omega))))) | ((exact row_eqs (by rw [hL, eU, eV, this]; simp))) | (simp; done) | (simp; rfl))))⟩
      conv => whnf
      refine hcut.meet Unit (fun _ => hsP [1000000] 220 [(0, .own 1000000), (3, i64 b), (4, .clo g []), (18, i64 (P.length + h : Nat)), (24, i64 (P.length + U.length + (h - s) : Nat))] (H1 (P ++ mrg ck U1 V1 ++ U2 ++ V2 ++ Q))) ?_ fun _ => ?_
      · by_cases d1 : 0 < s
        · (refine hif_true ?_ ?_; (· (first | rfl | assumption | omega | (simp only [gt_iff_lt, ge_iff_le, decide_eq_true_eq, decide_eq_false_iff_not, beq_iff_eq, bne_iff_ne, ne_eq, beq_eq_false_iff_ne, bne_eq_false_iff_eq, List.length_map, List.length_append, List.length_cons, List.length_nil, List.length_take, List.length_drop, Bool.not_eq_true', Bool.not_eq_false', Bool.not_eq_true, Bool.not_eq_false, Decidable.not_not, Nat.cast_ofNat, Int.natCast_add] <;> omega) | (simp <;> omega))); conv => whnf)
          by_cases d2 : s < h
          · refine hif_true (by simp; omega) ?_; conv => whnf
            (refine hcall_give [] [(1000000, 1000000)] [] ?_; (conv => whnf); refine ⟨_, _, _, _, ih P U1 V1 (U2 ++ V2 ++ Q) (P ++ U1 ++ V1 ++ U2 ++ V2 ++ Q) (P ++ mrg ck U1 V1 ++ U2 ++ V2 ++ Q) (by simp) (by simp) (by omega) (List.length_pos_iff.1 (by omega)) (List.length_pos_iff.1 (by omega)) sU1 sV1 (by simp; omega) _ _ _ (by omega) (by simp; omega) (by simp; omega), ⟨rfl, rfl, rfl, ⟨⟨rfl, _, rfl, .inl ⟨rfl, rfl⟩⟩, trivial⟩, trivial, rfl, rfl, rfl⟩, ?_⟩; conv => whnf)
            exact ⟨(), (hle_of [(1000000, some 1000000)] rfl rfl rfl rfl (by repeat' (first | exact trivial | (refine ⟨rfl, ?_⟩))) (by repeat' (first | exact trivial | exact rfl | (refine ⟨⟨rfl, ?_⟩, ?_⟩) | (refine ⟨rfl, ?_⟩) | (simp; done) | (simp; rfl))) (by repeat' (first | exact trivial | exact rfl | exact .inl rfl | exact .inr rfl | (refine ⟨⟨rfl, .inl ⟨_, rfl, ?_⟩⟩, ?_⟩) | (refine ⟨⟨rfl, _, rfl, ?_⟩, ?_⟩) | (refine ⟨⟨rfl, .inr ⟨rfl, ?_⟩⟩, ?_⟩) | (refine ⟨rfl, ?_⟩) | (simp; done) | (simp; rfl))))⟩
          · have : V1 = [] := List.eq_nil_of_length_eq_zero (by omega)
            refine hif_false (by simp; omega) ?_; conv => whnf
            exact ⟨(), (hle_of [(1000000, some 1000000)] rfl rfl rfl rfl (by repeat' (first | exact trivial | (refine ⟨rfl, ?_⟩))) (by repeat' (first | exact trivial | exact rfl | (refine ⟨⟨rfl, ?_⟩, ?_⟩) | (refine ⟨rfl, ?_⟩) | ((exact row_eqs (by rw [mrg_e1 (.inr this)]; simp))) | (simp; done) | (simp; rfl))) (by repeat' (first | exact trivial | exact rfl | exact .inl rfl | exact .inr rfl | (refine ⟨⟨rfl, .inl ⟨_, rfl, ?_⟩⟩, ?_⟩) | (refine ⟨⟨rfl, _, rfl, ?_⟩, ?_⟩) | (refine ⟨⟨rfl, .inr ⟨rfl, ?_⟩⟩, ?_⟩) | (refine ⟨rfl, ?_⟩) | ((exact row_eqs (by rw [mrg_e1 (.inr this)]; simp))) | (simp; done) | (simp; rfl))))⟩
        · have : U1 = [] := List.eq_nil_of_length_eq_zero (by omega)
          (refine hif_false ?_ ?_; (· (first | rfl | assumption | omega | (simp only [gt_iff_lt, ge_iff_le, decide_eq_true_eq, decide_eq_false_iff_not, beq_iff_eq, bne_iff_ne, ne_eq, beq_eq_false_iff_ne, bne_eq_false_iff_eq, List.length_map, List.length_append, List.length_cons, List.length_nil, List.length_take, List.length_drop, Bool.not_eq_true', Bool.not_eq_false', Bool.not_eq_true, Bool.not_eq_false, Decidable.not_not, Nat.cast_ofNat, Int.natCast_add] <;> omega) | (simp <;> omega))); conv => whnf)
          exact ⟨(), (hle_of [(1000000, some 1000000)] rfl rfl rfl rfl (by repeat' (first | exact trivial | (refine ⟨rfl, ?_⟩))) (by repeat' (first | exact trivial | exact rfl | (refine ⟨⟨rfl, ?_⟩, ?_⟩) | (refine ⟨rfl, ?_⟩) | ((exact row_eqs (by rw [mrg_e1 (.inl this)]; simp))) | (simp; done) | (simp; rfl))) (by repeat' (first | exact trivial | exact rfl | exact .inl rfl | exact .inr rfl | (refine ⟨⟨rfl, .inl ⟨_, rfl, ?_⟩⟩, ?_⟩) | (refine ⟨⟨rfl, _, rfl, ?_⟩, ?_⟩) | (refine ⟨⟨rfl, .inr ⟨rfl, ?_⟩⟩, ?_⟩) | (refine ⟨rfl, ?_⟩) | ((exact row_eqs (by rw [mrg_e1 (.inl this)]; simp))) | (simp; done) | (simp; rfl))))⟩
      conv => whnf
      have hm1 := mrg_len U1 V1
      have hout : L' = P ++ mrg ck U1 V1 ++ mrg ck U2 V2 ++ Q := by rw [hL', hmg]; simp
      by_cases d1 : s < U.length
      · ((refine hif_true ?_ ?_; (· (first | rfl | assumption | omega | (simp only [gt_iff_lt, ge_iff_le, decide_eq_true_eq, decide_eq_false_iff_not, beq_iff_eq, bne_iff_ne, ne_eq, beq_eq_false_iff_ne, bne_eq_false_iff_eq, List.length_map, List.length_append, List.length_cons, List.length_nil, List.length_take, List.length_drop, Bool.not_eq_true', Bool.not_eq_false', Bool.not_eq_true, Bool.not_eq_false, Decidable.not_not, Nat.cast_ofNat, Int.natCast_add] <;> omega) | (simp <;> omega))); conv => whnf); try (refine hcut.go ?_; conv => whnf))
        by_cases d2 : h - s < V.length
        · refine hif_true (by simp; omega) ?_; conv => whnf
          ((refine hcall_give [] [(1000000, 1000000)] [] ?_; (conv => whnf); refine ⟨_, _, _, _, ih (P ++ mrg ck U1 V1) U2 V2 Q (P ++ mrg ck U1 V1 ++ U2 ++ V2 ++ Q) L' (by simp) hout (by omega) (List.length_pos_iff.1 (by omega)) (List.length_pos_iff.1 (by omega)) sU2 sV2 (by simp; omega) _ _ _ (by simp; omega) (by simp; omega) (by simp; omega), ⟨rfl, rfl, rfl, ⟨⟨rfl, _, rfl, .inl ⟨rfl, rfl⟩⟩, trivial⟩, trivial, rfl, rfl, rfl⟩, ?_⟩; conv => whnf); try (refine hcut.go ?_; conv => whnf))
          refine hfin_of [(1000000, some 1000000)] rfl rfl ⟨rfl, trivial⟩ rfl rfl ⟨⟨rfl, .inl ⟨1000000, rfl, rfl⟩⟩, trivial⟩
        · have : V2 = [] := List.eq_nil_of_length_eq_zero (by omega)
          refine hif_false (by simp; omega) ?_; conv => whnf
          refine hfin_of [(1000000, some 1000000)] rfl rfl ⟨rfl, trivial⟩ rfl rfl ⟨⟨rfl, .inl ⟨1000000, rfl, ?_⟩⟩, trivial⟩
          exact row_eqs (by rw [hout, mrg_e1 (.inr this)]; simp)
      · have : U2 = [] := List.eq_nil_of_length_eq_zero (by omega)
        ((refine hif_false ?_ ?_; (· (first | rfl | assumption | omega | (simp only [gt_iff_lt, ge_iff_le, decide_eq_true_eq, decide_eq_false_iff_not, beq_iff_eq, bne_iff_ne, ne_eq, beq_eq_false_iff_ne, bne_eq_false_iff_eq, List.length_map, List.length_append, List.length_cons, List.length_nil, List.length_take, List.length_drop, Bool.not_eq_true', Bool.not_eq_false', Bool.not_eq_true, Bool.not_eq_false, Decidable.not_not, Nat.cast_ofNat, Int.natCast_add] <;> omega) | (simp <;> omega))); conv => whnf); try (refine hcut.go ?_; conv => whnf))
        refine hfin_of [(1000000, some 1000000)] rfl rfl ⟨rfl, trivial⟩ rfl rfl ⟨⟨rfl, .inl ⟨1000000, rfl, ?_⟩⟩, trivial⟩
        exact row_eqs (by rw [hout, mrg_e1 (.inl this)]; simp)
end Srt
end Go.HL
