/- The receiver: what is gone without, by a chunk. -/
import Derived.Test.YticmofoeecjnhaaRecv4
namespace Go.HL
open Go.Proofs
namespace Rcv
open Srt Jn Ser
set_option maxHeartbeats 4000000
set_option maxRecDepth 100000
set_option linter.unusedSimpArgs false
theorem RFit.skip {N : Nat} {r : Receiver} (h : RFit N r) (hN : N ≤ 2 ^ 23) (s : Skip) : RFit (N + 1) (skip1 r s) :=
  h.goes (e := 1) (skip_goes r s fun t ht => by have := h.lo t ht; have := h.hi t ht; omega) (by omega)
theorem RFit.sfit {N : Nat} {r : Receiver} (h : RFit N r) (hN : N < 2 ^ 22) : SFit r := by
  obtain ⟨h1, h2, h3, h4, h5, h6, h7, h8, h9, h10, h11⟩ := h
  exact ⟨by omega, by omega, by omega, fun t ht => by have := h9 t ht; omega, fun t ht => by have := h10 t ht; omega⟩
/-- a receiver at a later number -/
def at_up (r : Receiver) (n : Int) : Receiver := { r with cum := (up r.spans n).1, spans := (up r.spans n).2 }
theorem RFit.up {N : Nat} {r : Receiver} (h : RFit N r) (hN : N ≤ 2 ^ 22) {n : Int} (n1 : r.cum < n) (n2 : n ≤ r.cum + 32768) : RFit (N + 1) (at_up r n) := by
  obtain ⟨h1, h2, h3, h4, h5, h6, h7, h8, h9, h10, h11⟩ := h
  obtain ⟨u1, u2, u3, u4, u5, u6⟩ := up_fact (n := n) h4
  unfold at_up
  refine ⟨by dsimp only; omega, by dsimp only; omega, by dsimp only; omega, u3, u5, fun s hs => ?_, by dsimp only; omega, ?_, h9, fun t htt => by have := h10 t htt; dsimp only; omega, h11⟩
  · have := h6 s (u4 s hs); dsimp only; omega
  · dsimp only
    rcases u6 with u6 | ⟨s, hs, u6⟩
    · omega
    · have := h6 s hs; omega
theorem spec_forward (r : Receiver) (c : Chunk) {N : Nat} (h : RFit N r) (hN : N ≤ 2 ^ 20) (hc : c.skips.length ≤ 2 ^ 20) :
    FunOK Try.prog 17 [r.hv, c.hv] noHeap (rcvO (forward r c) 0 1 2 3) (lk .free (rcvB (forward r c) 0 1 2 3 [])) := by
  have hfit := h.fit hN
  have h6 := h.his
  have h7 := h.cum1
  have h8 := h.cum2
  obtain ⟨n1, n2, n3⟩ := near_lo (a := r.cum) (t := c.tag) (by omega) (by omega)
  generalize hD : forward r c = D
  refine funOK_of mixed Try.func17 (by decide) [] (fun _ => .inl rfl) ?_
  conv => whnf
  ((refine hcall_own [(0, 910), (1, 911), (2, 912), (3, 913)]  ?_; (conv => whnf); refine ⟨_, _,  spec_own r hfit, ⟨⟨⟨rfl, rfl⟩, ⟨⟨rfl, rfl⟩, ⟨⟨rfl, rfl⟩, ⟨⟨rfl, rfl⟩, trivial⟩⟩⟩⟩, rfl, rfl, rfl⟩, ?_⟩; conv => whnf); try (refine hcut.go ?_; conv => whnf))
  ((refine hcall_lend ?_; (conv => whnf); refine ⟨_, spec_near r.cum c.tag, rfl, ?_⟩; conv => whnf); try (refine hcut.go ?_; conv => whnf))
  by_cases c1 : c.kind = 3
  case neg =>
    obtain rfl : r = D := by rw [← hD, forward, if_pos (.inl c1)]
    refine hif_true (by simpa using c1) ?_; conv => whnf
    try (refine hcut.go ?_; conv => whnf)
    (exact hfin_of [(0, some 910), (1, some 911), (2, some 912), (3, some 913)] rfl rfl (by repeat' (first | exact trivial | (refine ⟨rfl, ?_⟩))) rfl (by first | rfl ) (by repeat' (first | exact trivial | exact rfl | exact .inl rfl | exact .inr rfl | (refine ⟨⟨rfl, .inl ⟨_, rfl, ?_⟩⟩, ?_⟩) | (refine ⟨⟨rfl, _, rfl, ?_⟩, ?_⟩) | (refine ⟨⟨rfl, .inr ⟨rfl, ?_⟩⟩, ?_⟩) | (refine ⟨rfl, ?_⟩) | (simp; done) | (simp; rfl))))
  refine hif_false (by simp [c1]) ?_; conv => whnf
  by_cases c2 : near r.cum c.tag ≤ r.cum
  · obtain rfl : r = D := by rw [← hD, forward, if_pos (.inr c2)]
    refine hif_true (by simpa using c2) ?_; conv => whnf
    try (refine hcut.go ?_; conv => whnf)
    (exact hfin_of [(0, some 910), (1, some 911), (2, some 912), (3, some 913)] rfl rfl (by repeat' (first | exact trivial | (refine ⟨rfl, ?_⟩))) rfl (by first | rfl ) (by repeat' (first | exact trivial | exact rfl | exact .inl rfl | exact .inr rfl | (refine ⟨⟨rfl, .inl ⟨_, rfl, ?_⟩⟩, ?_⟩) | (refine ⟨⟨rfl, _, rfl, ?_⟩, ?_⟩) | (refine ⟨⟨rfl, .inr ⟨rfl, ?_⟩⟩, ?_⟩) | (refine ⟨rfl, ?_⟩) | (simp; done) | (simp; rfl))))
  refine hif_false (by simpa using c2) ?_; conv => whnf
  try (refine hcut.go ?_; conv => whnf)
  have hw := h.up (by omega) (n := near r.cum c.tag) (by omega) (by omega)
  have e : c.skips.foldl skip1 (at_up r (near r.cum c.tag)) = D := by rw [← hD, forward, if_neg (by simp [c1]; omega)]; rfl
  ((refine hcall_own [(0, 37)]  ?_; (conv => whnf); refine ⟨_, _,  spec_up r.spans (near r.cum c.tag) (fun s hs => by have := h6 s hs; omega) (by have := hfit.spans; omega) (by omega) (by omega), ⟨⟨⟨rfl, rfl⟩, trivial⟩, rfl, rfl, rfl⟩, ?_⟩; conv => whnf); try (refine hcut.go ?_; conv => whnf))
  refine ⟨{ x : Receiver × List Skip × List Skip // c.skips = x.2.1 ++ x.2.2 ∧ RFit (N + 1 + x.2.1.length) x.1 ∧ x.2.2.foldl skip1 x.1 = D }, fun | ⟨(x, a, b), _⟩ => hs 61 [(4, .ptr 4 0), (5, .ptr 12 0), (47, .p (.sl 3 (c.skips.map Skip.row))), (48, i64 c.skips.length), (49, i64 a.length)] ((4, .live (.cells 35 zeroR)) :: (12, .live (.cells 88 (rcvC x (.own 900) (.own 901) (.own 902) (.own 903)))) :: rcvB x 900 901 902 903 []), fun x => x.1.2.2.length, ⟨(at_up r (near r.cum c.tag), [], c.skips), rfl, hw, e⟩, ?_, ?_⟩
  · exact (hle_hs [(4, some 4), (12, some 12), (900, some 37), (901, some 911), (902, some 912), (903, some 913)] rfl rfl rfl rfl (by repeat' (first | exact trivial | exact rfl | (refine ⟨⟨rfl, ?_⟩, ?_⟩) | (refine ⟨rfl, ?_⟩) | (simp; done) | (simp; rfl))) (by repeat' (first | exact trivial | exact rfl | exact .inl rfl | exact .inr rfl | (refine ⟨⟨rfl, .inl ⟨_, rfl, ?_⟩⟩, ?_⟩) | (refine ⟨⟨rfl, _, rfl, ?_⟩, ?_⟩) | (refine ⟨⟨rfl, .inr ⟨rfl, ?_⟩⟩, ?_⟩) | (refine ⟨rfl, ?_⟩) | (simp; done) | (simp; rfl))))
  rintro ⟨⟨x, a, b⟩, h1, h2, h3⟩
  dsimp only at h1 h2 h3
  conv => whnf
  cases b with
  | cons s b =>
    have hz := zip_cons h1
    ((refine hif_true ?_ ?_; (· (first | rfl | assumption | omega | (simp only [gt_iff_lt, ge_iff_le, decide_eq_true_eq, decide_eq_false_iff_not, beq_iff_eq, bne_iff_ne, ne_eq, beq_eq_false_iff_ne, bne_eq_false_iff_eq, List.length_map, List.length_append, List.length_cons, List.length_nil, List.length_take, List.length_drop, Bool.not_eq_true', Bool.not_eq_false', Bool.not_eq_true, Bool.not_eq_false, Decidable.not_not, Nat.cast_ofNat, Int.natCast_add] <;> omega) | (simp <;> omega))); conv => whnf); try (refine hcut.go ?_; conv => whnf))
    refine hrow_mid h1 rfl ?_; conv => whnf
    ((refine hcall_give [] [(1000000, 12), (1000001, 900), (1000002, 901), (1000003, 902), (1000004, 903)] [(0, 910), (1, 911), (2, 912), (3, 913)] ?_; (conv => whnf); refine ⟨_, _, _, _, spec_skip x s (h2.sfit (by omega)), ⟨rfl, rfl, rfl, ⟨⟨rfl, _, rfl, .inl ⟨rfl, rfl⟩⟩, ⟨⟨rfl, _, rfl, .inl ⟨rfl, rfl⟩⟩, ⟨⟨rfl, _, rfl, .inl ⟨rfl, rfl⟩⟩, ⟨⟨rfl, _, rfl, .inl ⟨rfl, rfl⟩⟩, ⟨⟨rfl, _, rfl, .inl ⟨rfl, rfl⟩⟩, trivial⟩⟩⟩⟩⟩, ⟨⟨rfl, rfl⟩, ⟨⟨rfl, rfl⟩, ⟨⟨rfl, rfl⟩, ⟨⟨rfl, rfl⟩, trivial⟩⟩⟩⟩, rfl, rfl, rfl⟩, ?_⟩; conv => whnf); try (refine hcut.go ?_; conv => whnf))
    ((refine hwrap_fit (W_fit ?_ ?_) ?_; (· (first | omega | (simp only [List.length_map, List.length_append, List.length_take, List.length_drop, List.length_cons, List.length_nil] <;> omega) | (simp <;> omega))); (· (first | omega | (simp only [List.length_map, List.length_append, List.length_take, List.length_drop, List.length_cons, List.length_nil] <;> omega) | (simp <;> omega))); conv => whnf); try (refine hcut.go ?_; conv => whnf))
    exact ⟨⟨(skip1 x s, a ++ [s], b), zip_next h1, by have := h2.skip (by omega) s; simpa [Nat.add_assoc] using this, h3⟩, (hle_hs [(4, some 4), (12, some 12), (900, some 910), (901, some 911), (902, some 912), (903, some 913)] rfl rfl rfl rfl (by repeat' (first | exact trivial | exact rfl | (refine ⟨⟨rfl, ?_⟩, ?_⟩) | (refine ⟨rfl, ?_⟩) | (simp; done) | (simp; rfl))) (by repeat' (first | exact trivial | exact rfl | exact .inl rfl | exact .inr rfl | (refine ⟨⟨rfl, .inl ⟨_, rfl, ?_⟩⟩, ?_⟩) | (refine ⟨⟨rfl, _, rfl, ?_⟩, ?_⟩) | (refine ⟨⟨rfl, .inr ⟨rfl, ?_⟩⟩, ?_⟩) | (refine ⟨rfl, ?_⟩) | (simp; done) | (simp; rfl)))), by simp⟩
  | nil =>
    have hz := zip_nil h1
    have h3 : x = D := h3
    subst h3
    ((refine hif_false ?_ ?_; (· (first | rfl | assumption | omega | (simp only [gt_iff_lt, ge_iff_le, decide_eq_true_eq, decide_eq_false_iff_not, beq_iff_eq, bne_iff_ne, ne_eq, beq_eq_false_iff_ne, bne_eq_false_iff_eq, List.length_map, List.length_append, List.length_cons, List.length_nil, List.length_take, List.length_drop, Bool.not_eq_true', Bool.not_eq_false', Bool.not_eq_true, Bool.not_eq_false, Decidable.not_not, Nat.cast_ofNat, Int.natCast_add] <;> omega) | (simp <;> omega))); conv => whnf); try (refine hcut.go ?_; conv => whnf))
    (exact hfin_of [(0, some 900), (1, some 901), (2, some 902), (3, some 903)] rfl rfl (by repeat' (first | exact trivial | (refine ⟨rfl, ?_⟩))) rfl (by first | rfl ) (by repeat' (first | exact trivial | exact rfl | exact .inl rfl | exact .inr rfl | (refine ⟨⟨rfl, .inl ⟨_, rfl, ?_⟩⟩, ?_⟩) | (refine ⟨⟨rfl, _, rfl, ?_⟩, ?_⟩) | (refine ⟨⟨rfl, .inr ⟨rfl, ?_⟩⟩, ?_⟩) | (refine ⟨rfl, ?_⟩) | (simp; done) | (simp; rfl))))
/-! ### The document's answer -/
theorem spec_apart (l : List Piece) (c : Chunk) (hb : l.length < 2 ^ 36) : FunOK Try.prog 48 [pieces l, c.hv] noHeap (.tup [pieces (l.filter (mine c.stream c.mid c.ordered)), pieces (l.filter fun p => !mine c.stream c.mid c.ordered p)]) noHeap := by
  refine funOK_pure mixed Try.func48 (by decide) ?_
  conv => whnf
  refine ⟨{ x : List Piece × List Piece // l = x.1 ++ x.2 }, fun | ⟨(a, b), _⟩ => hs 49 [(3, .ptr 3 0), (6, .own 900), (7, .own 901), (10, pieces l), (11, i64 l.length), (12, i64 a.length)] [(3, .live (.cells 29 c.cells)), (900, rowP (a.filter (mine c.stream c.mid c.ordered))), (901, rowP (a.filter fun p => !mine c.stream c.mid c.ordered p))], fun x => x.1.2.length, ⟨([], l), rfl⟩, ?_, ?_⟩
  · exact (hle_hs [(3, some 3), (900, none), (901, none)] rfl rfl rfl rfl (by repeat' (first | exact trivial | exact rfl | (refine ⟨⟨rfl, ?_⟩, ?_⟩) | (refine ⟨rfl, ?_⟩) | (simp; done) | (simp; rfl))) (by repeat' (first | exact trivial | exact rfl | exact .inl rfl | exact .inr rfl | (refine ⟨⟨rfl, .inl ⟨_, rfl, ?_⟩⟩, ?_⟩) | (refine ⟨⟨rfl, _, rfl, ?_⟩, ?_⟩) | (refine ⟨⟨rfl, .inr ⟨rfl, ?_⟩⟩, ?_⟩) | (refine ⟨rfl, ?_⟩) | (simp; done) | (simp; rfl))))
  rintro ⟨⟨a, b⟩, h⟩
  dsimp only at h
  have hfa := List.length_filter_le (mine c.stream c.mid c.ordered) a
  have hfb := List.length_filter_le (fun p => !mine c.stream c.mid c.ordered p) a
  conv => whnf
  cases b with
  | cons p b =>
    have hz := zip_cons h
    ((refine hif_true ?_ ?_; (· (first | rfl | assumption | omega | (simp only [gt_iff_lt, ge_iff_le, decide_eq_true_eq, decide_eq_false_iff_not, beq_iff_eq, bne_iff_ne, ne_eq, beq_eq_false_iff_ne, bne_eq_false_iff_eq, List.length_map, List.length_append, List.length_cons, List.length_nil, List.length_take, List.length_drop, Bool.not_eq_true', Bool.not_eq_false', Bool.not_eq_true, Bool.not_eq_false, Decidable.not_not, Nat.cast_ofNat, Int.natCast_add] <;> omega) | (simp <;> omega))); conv => whnf); try (refine hcut.go ?_; conv => whnf))
    refine hrow_mid h rfl ?_; conv => whnf
    have e1 : (a ++ [p]).filter (mine c.stream c.mid c.ordered) = a.filter (mine c.stream c.mid c.ordered) ++ if mine c.stream c.mid c.ordered p then [p] else [] := by
      rw [List.filter_append, List.filter_cons]; rfl
    have e2 : (a ++ [p]).filter (fun p => !mine c.stream c.mid c.ordered p) = a.filter (fun p => !mine c.stream c.mid c.ordered p) ++ if mine c.stream c.mid c.ordered p then [] else [p] := by
      rw [List.filter_append, List.filter_cons]; cases mine c.stream c.mid c.ordered p <;> rfl
    by_cases c1 : p.chunk.stream = c.stream
    case neg =>
      have hm : mine c.stream c.mid c.ordered p = false := by simp [mine, c1]
      rw [hm] at e1 e2
      refine hif_false (by simpa using c1) ?_; conv => whnf
      try (refine hcut.go ?_; conv => whnf)
      refine hobl_intro (c := (((a.filter fun p => !mine c.stream c.mid c.ordered p).map Piece.row).length + 1) * 136 ≤ 140737488355328) (by simp; omega) ?_; conv => whnf
      try (refine hcut.go ?_; conv => whnf)
      ((refine hwrap_fit (W_fit ?_ ?_) ?_; (· (first | omega | (simp only [List.length_map, List.length_append, List.length_take, List.length_drop, List.length_cons, List.length_nil] <;> omega) | (simp <;> omega))); (· (first | omega | (simp only [List.length_map, List.length_append, List.length_take, List.length_drop, List.length_cons, List.length_nil] <;> omega) | (simp <;> omega))); conv => whnf); try (refine hcut.go ?_; conv => whnf))
      exact ⟨⟨(a ++ [p], b), zip_next h⟩, (hle_hs [(3, some 3), (900, some 900), (901, some 45)] rfl rfl rfl rfl (by repeat' (first | exact trivial | exact rfl | (refine ⟨⟨rfl, ?_⟩, ?_⟩) | (refine ⟨rfl, ?_⟩) | ((exact row_app (f := Piece.row) e2 rfl)) | ((exact row_eqs (by rw [e1]; simp))) | (simp; done) | (simp; rfl))) (by repeat' (first | exact trivial | exact rfl | exact .inl rfl | exact .inr rfl | (refine ⟨⟨rfl, .inl ⟨_, rfl, ?_⟩⟩, ?_⟩) | (refine ⟨⟨rfl, _, rfl, ?_⟩, ?_⟩) | (refine ⟨⟨rfl, .inr ⟨rfl, ?_⟩⟩, ?_⟩) | (refine ⟨rfl, ?_⟩) | ((exact row_app (f := Piece.row) e2 rfl)) | ((exact row_eqs (by rw [e1]; simp))) | (simp; done) | (simp; rfl)))), by simp⟩
    refine hif_true (by simpa using c1) ?_; conv => whnf
    by_cases c2 : p.chunk.mid = c.mid
    case neg =>
      have hm : mine c.stream c.mid c.ordered p = false := by simp [mine, c2]
      rw [hm] at e1 e2
      refine hif_false (by simpa using c2) ?_; conv => whnf
      try (refine hcut.go ?_; conv => whnf)
      refine hobl_intro (c := (((a.filter fun p => !mine c.stream c.mid c.ordered p).map Piece.row).length + 1) * 136 ≤ 140737488355328) (by simp; omega) ?_; conv => whnf
      try (refine hcut.go ?_; conv => whnf)
      ((refine hwrap_fit (W_fit ?_ ?_) ?_; (· (first | omega | (simp only [List.length_map, List.length_append, List.length_take, List.length_drop, List.length_cons, List.length_nil] <;> omega) | (simp <;> omega))); (· (first | omega | (simp only [List.length_map, List.length_append, List.length_take, List.length_drop, List.length_cons, List.length_nil] <;> omega) | (simp <;> omega))); conv => whnf); try (refine hcut.go ?_; conv => whnf))
      exact ⟨⟨(a ++ [p], b), zip_next h⟩, (hle_hs [(3, some 3), (900, some 900), (901, some 45)] rfl rfl rfl rfl (by repeat' (first | exact trivial | exact rfl | (refine ⟨⟨rfl, ?_⟩, ?_⟩) | (refine ⟨rfl, ?_⟩) | ((exact row_app (f := Piece.row) e2 rfl)) | ((exact row_eqs (by rw [e1]; simp))) | (simp; done) | (simp; rfl))) (by repeat' (first | exact trivial | exact rfl | exact .inl rfl | exact .inr rfl | (refine ⟨⟨rfl, .inl ⟨_, rfl, ?_⟩⟩, ?_⟩) | (refine ⟨⟨rfl, _, rfl, ?_⟩, ?_⟩) | (refine ⟨⟨rfl, .inr ⟨rfl, ?_⟩⟩, ?_⟩) | (refine ⟨rfl, ?_⟩) | ((exact row_app (f := Piece.row) e2 rfl)) | ((exact row_eqs (by rw [e1]; simp))) | (simp; done) | (simp; rfl)))), by simp⟩
    refine hif_true (by simpa using c2) ?_; conv => whnf
    by_cases c3 : p.chunk.ordered = c.ordered
    case neg =>
      have hm : mine c.stream c.mid c.ordered p = false := by simp [mine, c3]
      rw [hm] at e1 e2
      refine hif_false (by simpa using c3) ?_; conv => whnf
      try (refine hcut.go ?_; conv => whnf)
      refine hobl_intro (c := (((a.filter fun p => !mine c.stream c.mid c.ordered p).map Piece.row).length + 1) * 136 ≤ 140737488355328) (by simp; omega) ?_; conv => whnf
      try (refine hcut.go ?_; conv => whnf)
      ((refine hwrap_fit (W_fit ?_ ?_) ?_; (· (first | omega | (simp only [List.length_map, List.length_append, List.length_take, List.length_drop, List.length_cons, List.length_nil] <;> omega) | (simp <;> omega))); (· (first | omega | (simp only [List.length_map, List.length_append, List.length_take, List.length_drop, List.length_cons, List.length_nil] <;> omega) | (simp <;> omega))); conv => whnf); try (refine hcut.go ?_; conv => whnf))
      exact ⟨⟨(a ++ [p], b), zip_next h⟩, (hle_hs [(3, some 3), (900, some 900), (901, some 45)] rfl rfl rfl rfl (by repeat' (first | exact trivial | exact rfl | (refine ⟨⟨rfl, ?_⟩, ?_⟩) | (refine ⟨rfl, ?_⟩) | ((exact row_app (f := Piece.row) e2 rfl)) | ((exact row_eqs (by rw [e1]; simp))) | (simp; done) | (simp; rfl))) (by repeat' (first | exact trivial | exact rfl | exact .inl rfl | exact .inr rfl | (refine ⟨⟨rfl, .inl ⟨_, rfl, ?_⟩⟩, ?_⟩) | (refine ⟨⟨rfl, _, rfl, ?_⟩, ?_⟩) | (refine ⟨⟨rfl, .inr ⟨rfl, ?_⟩⟩, ?_⟩) | (refine ⟨rfl, ?_⟩) | ((exact row_app (f := Piece.row) e2 rfl)) | ((exact row_eqs (by rw [e1]; simp))) | (simp; done) | (simp; rfl)))), by simp⟩
    have hm : mine c.stream c.mid c.ordered p = true := by simp [mine, c1, c2, c3]
    rw [hm] at e1 e2
    refine hif_true (by simpa using c3) ?_; conv => whnf
    try (refine hcut.go ?_; conv => whnf)
    refine hobl_intro (c := (((a.filter (mine c.stream c.mid c.ordered)).map Piece.row).length + 1) * 136 ≤ 140737488355328) (by simp; omega) ?_; conv => whnf
    try (refine hcut.go ?_; conv => whnf)
    ((refine hwrap_fit (W_fit ?_ ?_) ?_; (· (first | omega | (simp only [List.length_map, List.length_append, List.length_take, List.length_drop, List.length_cons, List.length_nil] <;> omega) | (simp <;> omega))); (· (first | omega | (simp only [List.length_map, List.length_append, List.length_take, List.length_drop, List.length_cons, List.length_nil] <;> omega) | (simp <;> omega))); conv => whnf); try (refine hcut.go ?_; conv => whnf))
    exact ⟨⟨(a ++ [p], b), zip_next h⟩, (hle_hs [(3, some 3), (900, some 41), (901, some 901)] rfl rfl rfl rfl (by repeat' (first | exact trivial | exact rfl | (refine ⟨⟨rfl, ?_⟩, ?_⟩) | (refine ⟨rfl, ?_⟩) | ((exact row_app (f := Piece.row) e1 rfl)) | ((exact row_eqs (by rw [e2]; simp))) | (simp; done) | (simp; rfl))) (by repeat' (first | exact trivial | exact rfl | exact .inl rfl | exact .inr rfl | (refine ⟨⟨rfl, .inl ⟨_, rfl, ?_⟩⟩, ?_⟩) | (refine ⟨⟨rfl, _, rfl, ?_⟩, ?_⟩) | (refine ⟨⟨rfl, .inr ⟨rfl, ?_⟩⟩, ?_⟩) | (refine ⟨rfl, ?_⟩) | ((exact row_app (f := Piece.row) e1 rfl)) | ((exact row_eqs (by rw [e2]; simp))) | (simp; done) | (simp; rfl)))), by simp⟩
  | nil =>
    have hz := zip_nil h
    rw [List.append_nil] at h
    ((refine hif_false ?_ ?_; (· (first | rfl | assumption | omega | (simp only [gt_iff_lt, ge_iff_le, decide_eq_true_eq, decide_eq_false_iff_not, beq_iff_eq, bne_iff_ne, ne_eq, beq_eq_false_iff_ne, bne_eq_false_iff_eq, List.length_map, List.length_append, List.length_cons, List.length_nil, List.length_take, List.length_drop, Bool.not_eq_true', Bool.not_eq_false', Bool.not_eq_true, Bool.not_eq_false, Decidable.not_not, Nat.cast_ofNat, Int.natCast_add] <;> omega) | (simp <;> omega))); conv => whnf); try (refine hcut.go ?_; conv => whnf))
    rw [h]
    try rfl
end Rcv
end Go.HL
