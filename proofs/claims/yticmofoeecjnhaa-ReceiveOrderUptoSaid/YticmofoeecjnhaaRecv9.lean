/- The receiver: the document's Tells. -/
import Derived.Test.YticmofoeecjnhaaRecv8
namespace Go.HL
open Go.Proofs
namespace Rcv
open Srt Jn Ser
set_option maxHeartbeats 4000000
set_option maxRecDepth 100000
set_option linter.unusedSimpArgs false
theorem spec_rtells (r : Receiver) (h1 : r.spans.length < 2 ^ 40) (h2 : r.pieces.length < 2 ^ 40) (h3 : tot r.pieces < 2 ^ 60) (hc : -(2 ^ 60) ≤ r.cum) (hc2 : r.cum ≤ 2 ^ 60) (hsp : ∀ s ∈ r.spans, -(2 ^ 61) ≤ s.lo ∧ s.lo ≤ 2 ^ 61 ∧ -(2 ^ 61) ≤ s.hi ∧ s.hi ≤ 2 ^ 61) :
    FunOK Try.prog 21 [r.hv] noHeap (tells r).hv noHeap := by
  by_cases c0 : 400 - (tot r.pieces : Int) > 0
  · have e : tells r = ⟨2, tag r.cum, 0, 0, 0, false, false, [], (r.spans.take 6).map (shift r.cum), 400 - (tot r.pieces : Int), []⟩ := by rw [tells, if_neg (by omega)]
    rw [e]
    refine funOK_pure mixed Try.func21 (by decide) ?_
    conv => whnf
    ((refine hcall_lend ?_; (conv => whnf); refine ⟨_, spec_rtag r.cum, rfl, ?_⟩; conv => whnf); try (refine hcut.go ?_; conv => whnf))
    ((refine hcall_lend ?_; (conv => whnf); refine ⟨_, spec_rheld r (by omega) (by omega), rfl, ?_⟩; conv => whnf); try (refine hcut.go ?_; conv => whnf))
    ((refine hwrap_fit (W_fit ?_ ?_) ?_; (· (first | omega | (simp only [List.length_map, List.length_append, List.length_take, List.length_drop, List.length_cons, List.length_nil] <;> omega) | (simp <;> omega))); (· (first | omega | (simp only [List.length_map, List.length_append, List.length_take, List.length_drop, List.length_cons, List.length_nil] <;> omega) | (simp <;> omega))); conv => whnf); try (refine hcut.go ?_; conv => whnf))
    refine hif_true (by simpa using c0) ?_; conv => whnf
    repeat (refine hcut.go ?_; conv => whnf)
    refine ⟨{ x : List Span × List Span // r.spans = x.1 ++ x.2 }, fun | ⟨(A, B), _⟩ => hs 46 [(1, .ptr 1 0), (2, .ptr 2 0), (3, .ptr 3 0), (19, spans r.spans), (20, i64 r.spans.length), (21, i64 A.length)] [(1, .live (.cells 35 (rcvC r (spans r.spans) (pieces r.pieces) (rints r.turn) (arrs r.log)))), (2, .live (.cells 29 [i64 0, i64 0, i64 0, i64 0, i64 0, hbool false, hbool false, hnil, hnil, i64 0, hnil])), (3, .live (.cells 29 [i64 2, i64 (tag r.cum), i64 0, i64 0, i64 0, hbool false, hbool false, hnil, .own 900, i64 (400 - (tot r.pieces : Int)), hnil])), (900, rowS ((A.take 6).map (shift r.cum)))], fun x => x.1.2.length, ⟨([], r.spans), rfl⟩, ?_, ?_⟩
    · exact (hle_hs [(1, some 1), (2, some 2), (3, some 3), (900, none)] rfl rfl rfl rfl (by repeat' (first | exact trivial | exact rfl | (refine ⟨⟨rfl, ?_⟩, ?_⟩) | (refine ⟨rfl, ?_⟩) | (simp; done) | (simp; rfl))) (by repeat' (first | exact trivial | exact rfl | exact .inl rfl | exact .inr rfl | (refine ⟨⟨rfl, .inl ⟨_, rfl, ?_⟩⟩, ?_⟩) | (refine ⟨⟨rfl, _, rfl, ?_⟩, ?_⟩) | (refine ⟨⟨rfl, .inr ⟨rfl, ?_⟩⟩, ?_⟩) | (refine ⟨rfl, ?_⟩) | (simp; done) | (simp; rfl))))
    rintro ⟨⟨A, B⟩, h⟩
    dsimp only at h
    have hl : r.spans.length = A.length + B.length := by rw [h]; simp
    conv => whnf
    cases B with
    | cons p B =>
      have hp := hsp p (by rw [h]; simp)
      rw [List.length_cons] at hl
      have hq : ((A.take 6).map (shift r.cum)).length = min 6 A.length := by simp
      ((refine hif_true ?_ ?_; (· (first | rfl | assumption | omega | (simp only [gt_iff_lt, ge_iff_le, decide_eq_true_eq, decide_eq_false_iff_not, beq_iff_eq, bne_iff_ne, ne_eq, beq_eq_false_iff_ne, bne_eq_false_iff_eq, List.length_map, List.length_append, List.length_cons, List.length_nil, List.length_take, List.length_drop, Bool.not_eq_true', Bool.not_eq_false', Bool.not_eq_true, Bool.not_eq_false, Decidable.not_not, Nat.cast_ofNat, Int.natCast_add] <;> omega) | (simp <;> omega))); conv => whnf); try (refine hcut.go ?_; conv => whnf))
      refine hrow_mid h rfl ?_; conv => whnf
      have hsn := take_snoc6 A p (shift r.cum)
      by_cases c : A.length < 6
      · rw [if_pos c] at hsn
        ((refine hif_true ?_ ?_; (· (first | rfl | assumption | omega | (simp only [gt_iff_lt, ge_iff_le, decide_eq_true_eq, decide_eq_false_iff_not, beq_iff_eq, bne_iff_ne, ne_eq, beq_eq_false_iff_ne, bne_eq_false_iff_eq, List.length_map, List.length_append, List.length_cons, List.length_nil, List.length_take, List.length_drop, Bool.not_eq_true', Bool.not_eq_false', Bool.not_eq_true, Bool.not_eq_false, Decidable.not_not, Nat.cast_ofNat, Int.natCast_add] <;> omega) | (simp <;> omega))); conv => whnf); try (refine hcut.go ?_; conv => whnf))
        ((refine hwrap_fit (W_fit ?_ ?_) ?_; (· (first | omega | (simp only [List.length_map, List.length_append, List.length_take, List.length_drop, List.length_cons, List.length_nil] <;> omega) | (simp <;> omega))); (· (first | omega | (simp only [List.length_map, List.length_append, List.length_take, List.length_drop, List.length_cons, List.length_nil] <;> omega) | (simp <;> omega))); conv => whnf); try (refine hcut.go ?_; conv => whnf))
        ((refine hwrap_fit (W_fit ?_ ?_) ?_; (· (first | omega | (simp only [List.length_map, List.length_append, List.length_take, List.length_drop, List.length_cons, List.length_nil] <;> omega) | (simp <;> omega))); (· (first | omega | (simp only [List.length_map, List.length_append, List.length_take, List.length_drop, List.length_cons, List.length_nil] <;> omega) | (simp <;> omega))); conv => whnf); try (refine hcut.go ?_; conv => whnf))
        refine hobl_intro (c := ((((A.take 6).map (shift r.cum)).map Span.row).length + 1) * 16 ≤ 140737488355328) (by simp; omega) ?_; conv => whnf
        try (refine hcut.go ?_; conv => whnf)
        ((refine hwrap_fit (W_fit ?_ ?_) ?_; (· (first | omega | (simp only [List.length_map, List.length_append, List.length_take, List.length_drop, List.length_cons, List.length_nil] <;> omega) | (simp <;> omega))); (· (first | omega | (simp only [List.length_map, List.length_append, List.length_take, List.length_drop, List.length_cons, List.length_nil] <;> omega) | (simp <;> omega))); conv => whnf); try (refine hcut.go ?_; conv => whnf))
        refine ⟨⟨(A ++ [p], B), by rw [h]; simp⟩, (hle_hs [(1, some 1), (2, some 2), (3, some 3), (900, some 42)] rfl rfl rfl rfl (by repeat' (first | exact trivial | exact rfl | (refine ⟨⟨rfl, ?_⟩, ?_⟩) | (refine ⟨rfl, ?_⟩) | ((exact row_app (f := Span.row) hsn rfl)) | (simp; done) | (simp; rfl))) (by repeat' (first | exact trivial | exact rfl | exact .inl rfl | exact .inr rfl | (refine ⟨⟨rfl, .inl ⟨_, rfl, ?_⟩⟩, ?_⟩) | (refine ⟨⟨rfl, _, rfl, ?_⟩, ?_⟩) | (refine ⟨⟨rfl, .inr ⟨rfl, ?_⟩⟩, ?_⟩) | (refine ⟨rfl, ?_⟩) | ((exact row_app (f := Span.row) hsn rfl)) | (simp; done) | (simp; rfl)))), by simp⟩
      · rw [if_neg c] at hsn
        ((refine hif_false ?_ ?_; (· (first | rfl | assumption | omega | (simp only [gt_iff_lt, ge_iff_le, decide_eq_true_eq, decide_eq_false_iff_not, beq_iff_eq, bne_iff_ne, ne_eq, beq_eq_false_iff_ne, bne_eq_false_iff_eq, List.length_map, List.length_append, List.length_cons, List.length_nil, List.length_take, List.length_drop, Bool.not_eq_true', Bool.not_eq_false', Bool.not_eq_true, Bool.not_eq_false, Decidable.not_not, Nat.cast_ofNat, Int.natCast_add] <;> omega) | (simp <;> omega))); conv => whnf); try (refine hcut.go ?_; conv => whnf))
        ((refine hwrap_fit (W_fit ?_ ?_) ?_; (· (first | omega | (simp only [List.length_map, List.length_append, List.length_take, List.length_drop, List.length_cons, List.length_nil] <;> omega) | (simp <;> omega))); (· (first | omega | (simp only [List.length_map, List.length_append, List.length_take, List.length_drop, List.length_cons, List.length_nil] <;> omega) | (simp <;> omega))); conv => whnf); try (refine hcut.go ?_; conv => whnf))
        refine ⟨⟨(A ++ [p], B), by rw [h]; simp⟩, (hle_hs [(1, some 1), (2, some 2), (3, some 3), (900, some 900)] rfl rfl rfl rfl (by repeat' (first | exact trivial | exact rfl | (refine ⟨⟨rfl, ?_⟩, ?_⟩) | (refine ⟨rfl, ?_⟩) | ((exact row_eqs (by rw [hsn]))) | (simp; done) | (simp; rfl))) (by repeat' (first | exact trivial | exact rfl | exact .inl rfl | exact .inr rfl | (refine ⟨⟨rfl, .inl ⟨_, rfl, ?_⟩⟩, ?_⟩) | (refine ⟨⟨rfl, _, rfl, ?_⟩, ?_⟩) | (refine ⟨⟨rfl, .inr ⟨rfl, ?_⟩⟩, ?_⟩) | (refine ⟨rfl, ?_⟩) | ((exact row_eqs (by rw [hsn]))) | (simp; done) | (simp; rfl)))), by simp⟩
    | nil =>
      rw [List.length_nil] at hl
      rw [List.append_nil] at h
      ((refine hif_false ?_ ?_; (· (first | rfl | assumption | omega | (simp only [gt_iff_lt, ge_iff_le, decide_eq_true_eq, decide_eq_false_iff_not, beq_iff_eq, bne_iff_ne, ne_eq, beq_eq_false_iff_ne, bne_eq_false_iff_eq, List.length_map, List.length_append, List.length_cons, List.length_nil, List.length_take, List.length_drop, Bool.not_eq_true', Bool.not_eq_false', Bool.not_eq_true, Bool.not_eq_false, Decidable.not_not, Nat.cast_ofNat, Int.natCast_add] <;> omega) | (simp <;> omega))); conv => whnf); try (refine hcut.go ?_; conv => whnf))
      rw [h]
      try rfl
  · have e : tells r = ⟨2, tag r.cum, 0, 0, 0, false, false, [], (r.spans.take 6).map (shift r.cum), 0, []⟩ := by
      rw [tells]
      congr 1
      split <;> omega
    rw [e]
    refine funOK_pure mixed Try.func21 (by decide) ?_
    conv => whnf
    ((refine hcall_lend ?_; (conv => whnf); refine ⟨_, spec_rtag r.cum, rfl, ?_⟩; conv => whnf); try (refine hcut.go ?_; conv => whnf))
    ((refine hcall_lend ?_; (conv => whnf); refine ⟨_, spec_rheld r (by omega) (by omega), rfl, ?_⟩; conv => whnf); try (refine hcut.go ?_; conv => whnf))
    ((refine hwrap_fit (W_fit ?_ ?_) ?_; (· (first | omega | (simp only [List.length_map, List.length_append, List.length_take, List.length_drop, List.length_cons, List.length_nil] <;> omega) | (simp <;> omega))); (· (first | omega | (simp only [List.length_map, List.length_append, List.length_take, List.length_drop, List.length_cons, List.length_nil] <;> omega) | (simp <;> omega))); conv => whnf); try (refine hcut.go ?_; conv => whnf))
    refine hif_false (by simpa using c0) ?_; conv => whnf
    repeat (refine hcut.go ?_; conv => whnf)
    refine ⟨{ x : List Span × List Span // r.spans = x.1 ++ x.2 }, fun | ⟨(A, B), _⟩ => hs 46 [(1, .ptr 1 0), (2, .ptr 2 0), (3, .ptr 3 0), (19, spans r.spans), (20, i64 r.spans.length), (21, i64 A.length)] [(1, .live (.cells 35 (rcvC r (spans r.spans) (pieces r.pieces) (rints r.turn) (arrs r.log)))), (2, .live (.cells 29 [i64 0, i64 0, i64 0, i64 0, i64 0, hbool false, hbool false, hnil, hnil, i64 0, hnil])), (3, .live (.cells 29 [i64 2, i64 (tag r.cum), i64 0, i64 0, i64 0, hbool false, hbool false, hnil, .own 900, i64 (0), hnil])), (900, rowS ((A.take 6).map (shift r.cum)))], fun x => x.1.2.length, ⟨([], r.spans), rfl⟩, ?_, ?_⟩
    · exact (hle_hs [(1, some 1), (2, some 2), (3, some 3), (900, none)] rfl rfl rfl rfl (by repeat' (first | exact trivial | exact rfl | (refine ⟨⟨rfl, ?_⟩, ?_⟩) | (refine ⟨rfl, ?_⟩) | (simp; done) | (simp; rfl))) (by repeat' (first | exact trivial | exact rfl | exact .inl rfl | exact .inr rfl | (refine ⟨⟨rfl, .inl ⟨_, rfl, ?_⟩⟩, ?_⟩) | (refine ⟨⟨rfl, _, rfl, ?_⟩, ?_⟩) | (refine ⟨⟨rfl, .inr ⟨rfl, ?_⟩⟩, ?_⟩) | (refine ⟨rfl, ?_⟩) | (simp; done) | (simp; rfl))))
    rintro ⟨⟨A, B⟩, h⟩
    dsimp only at h
    have hl : r.spans.length = A.length + B.length := by rw [h]; simp
    conv => whnf
    cases B with
    | cons p B =>
      have hp := hsp p (by rw [h]; simp)
      rw [List.length_cons] at hl
      have hq : ((A.take 6).map (shift r.cum)).length = min 6 A.length := by simp
      ((refine hif_true ?_ ?_; (· (first | rfl | assumption | omega | (simp only [gt_iff_lt, ge_iff_le, decide_eq_true_eq, decide_eq_false_iff_not, beq_iff_eq, bne_iff_ne, ne_eq, beq_eq_false_iff_ne, bne_eq_false_iff_eq, List.length_map, List.length_append, List.length_cons, List.length_nil, List.length_take, List.length_drop, Bool.not_eq_true', Bool.not_eq_false', Bool.not_eq_true, Bool.not_eq_false, Decidable.not_not, Nat.cast_ofNat, Int.natCast_add] <;> omega) | (simp <;> omega))); conv => whnf); try (refine hcut.go ?_; conv => whnf))
      refine hrow_mid h rfl ?_; conv => whnf
      have hsn := take_snoc6 A p (shift r.cum)
      by_cases c : A.length < 6
      · rw [if_pos c] at hsn
        ((refine hif_true ?_ ?_; (· (first | rfl | assumption | omega | (simp only [gt_iff_lt, ge_iff_le, decide_eq_true_eq, decide_eq_false_iff_not, beq_iff_eq, bne_iff_ne, ne_eq, beq_eq_false_iff_ne, bne_eq_false_iff_eq, List.length_map, List.length_append, List.length_cons, List.length_nil, List.length_take, List.length_drop, Bool.not_eq_true', Bool.not_eq_false', Bool.not_eq_true, Bool.not_eq_false, Decidable.not_not, Nat.cast_ofNat, Int.natCast_add] <;> omega) | (simp <;> omega))); conv => whnf); try (refine hcut.go ?_; conv => whnf))
        ((refine hwrap_fit (W_fit ?_ ?_) ?_; (· (first | omega | (simp only [List.length_map, List.length_append, List.length_take, List.length_drop, List.length_cons, List.length_nil] <;> omega) | (simp <;> omega))); (· (first | omega | (simp only [List.length_map, List.length_append, List.length_take, List.length_drop, List.length_cons, List.length_nil] <;> omega) | (simp <;> omega))); conv => whnf); try (refine hcut.go ?_; conv => whnf))
        ((refine hwrap_fit (W_fit ?_ ?_) ?_; (· (first | omega | (simp only [List.length_map, List.length_append, List.length_take, List.length_drop, List.length_cons, List.length_nil] <;> omega) | (simp <;> omega))); (· (first | omega | (simp only [List.length_map, List.length_append, List.length_take, List.length_drop, List.length_cons, List.length_nil] <;> omega) | (simp <;> omega))); conv => whnf); try (refine hcut.go ?_; conv => whnf))
        refine hobl_intro (c := ((((A.take 6).map (shift r.cum)).map Span.row).length + 1) * 16 ≤ 140737488355328) (by simp; omega) ?_; conv => whnf
        try (refine hcut.go ?_; conv => whnf)
        ((refine hwrap_fit (W_fit ?_ ?_) ?_; (· (first | omega | (simp only [List.length_map, List.length_append, List.length_take, List.length_drop, List.length_cons, List.length_nil] <;> omega) | (simp <;> omega))); (· (first | omega | (simp only [List.length_map, List.length_append, List.length_take, List.length_drop, List.length_cons, List.length_nil] <;> omega) | (simp <;> omega))); conv => whnf); try (refine hcut.go ?_; conv => whnf))
        refine ⟨⟨(A ++ [p], B), by rw [h]; simp⟩, (hle_hs [(1, some 1), (2, some 2), (3, some 3), (900, some 42)] rfl rfl rfl rfl (by repeat' (first | exact trivial | exact rfl | (refine ⟨⟨rfl, ?_⟩, ?_⟩) | (refine ⟨rfl, ?_⟩) | ((exact row_app (f := Span.row) hsn rfl)) | (simp; done) | (simp; rfl))) (by repeat' (first | exact trivial | exact rfl | exact .inl rfl | exact .inr rfl | (refine ⟨⟨rfl, .inl ⟨_, rfl, ?_⟩⟩, ?_⟩) | (refine ⟨⟨rfl, _, rfl, ?_⟩, ?_⟩) | (refine ⟨⟨rfl, .inr ⟨rfl, ?_⟩⟩, ?_⟩) | (refine ⟨rfl, ?_⟩) | ((exact row_app (f := Span.row) hsn rfl)) | (simp; done) | (simp; rfl)))), by simp⟩
      · rw [if_neg c] at hsn
        ((refine hif_false ?_ ?_; (· (first | rfl | assumption | omega | (simp only [gt_iff_lt, ge_iff_le, decide_eq_true_eq, decide_eq_false_iff_not, beq_iff_eq, bne_iff_ne, ne_eq, beq_eq_false_iff_ne, bne_eq_false_iff_eq, List.length_map, List.length_append, List.length_cons, List.length_nil, List.length_take, List.length_drop, Bool.not_eq_true', Bool.not_eq_false', Bool.not_eq_true, Bool.not_eq_false, Decidable.not_not, Nat.cast_ofNat, Int.natCast_add] <;> omega) | (simp <;> omega))); conv => whnf); try (refine hcut.go ?_; conv => whnf))
        ((refine hwrap_fit (W_fit ?_ ?_) ?_; (· (first | omega | (simp only [List.length_map, List.length_append, List.length_take, List.length_drop, List.length_cons, List.length_nil] <;> omega) | (simp <;> omega))); (· (first | omega | (simp only [List.length_map, List.length_append, List.length_take, List.length_drop, List.length_cons, List.length_nil] <;> omega) | (simp <;> omega))); conv => whnf); try (refine hcut.go ?_; conv => whnf))
        refine ⟨⟨(A ++ [p], B), by rw [h]; simp⟩, (hle_hs [(1, some 1), (2, some 2), (3, some 3), (900, some 900)] rfl rfl rfl rfl (by repeat' (first | exact trivial | exact rfl | (refine ⟨⟨rfl, ?_⟩, ?_⟩) | (refine ⟨rfl, ?_⟩) | ((exact row_eqs (by rw [hsn]))) | (simp; done) | (simp; rfl))) (by repeat' (first | exact trivial | exact rfl | exact .inl rfl | exact .inr rfl | (refine ⟨⟨rfl, .inl ⟨_, rfl, ?_⟩⟩, ?_⟩) | (refine ⟨⟨rfl, _, rfl, ?_⟩, ?_⟩) | (refine ⟨⟨rfl, .inr ⟨rfl, ?_⟩⟩, ?_⟩) | (refine ⟨rfl, ?_⟩) | ((exact row_eqs (by rw [hsn]))) | (simp; done) | (simp; rfl)))), by simp⟩
    | nil =>
      rw [List.length_nil] at hl
      rw [List.append_nil] at h
      ((refine hif_false ?_ ?_; (· (first | rfl | assumption | omega | (simp only [gt_iff_lt, ge_iff_le, decide_eq_true_eq, decide_eq_false_iff_not, beq_iff_eq, bne_iff_ne, ne_eq, beq_eq_false_iff_ne, bne_eq_false_iff_eq, List.length_map, List.length_append, List.length_cons, List.length_nil, List.length_take, List.length_drop, Bool.not_eq_true', Bool.not_eq_false', Bool.not_eq_true, Bool.not_eq_false, Decidable.not_not, Nat.cast_ofNat, Int.natCast_add] <;> omega) | (simp <;> omega))); conv => whnf); try (refine hcut.go ?_; conv => whnf))
      rw [h]
      try rfl
end Rcv
end Go.HL
