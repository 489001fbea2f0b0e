/- The receiver: the document's Data, Forward and Tells. -/
import Derived.Test.YticmofoeecjnhaaRecv6
namespace Go.HL
open Go.Proofs
namespace Rcv
open Srt Jn Ser
set_option maxHeartbeats 4000000
set_option maxRecDepth 100000
set_option linter.unusedSimpArgs false
theorem spec_rup2 (l : List Span) (n : Int) (hr : rise l) (hl : ∀ s ∈ l, s.hi ≤ 1099511627776) (hb : l.length < 2 ^ 39) (h1 : -1099511627776 ≤ n) (h2 : n ≤ 1099511627776) :
    FunOK Try.prog 43 [spans l, i64 n] noHeap (.tup [i64 (up l n).1, spans (up l n).2]) noHeap := by
  refine funOK_freeze Try.func43 (spec_rup l n hr hl hb h1 h2) ?_
  conv => whnf
theorem spec_radd2 (l : List Span) (n : Int) (hn : has l n = false) (hl : rise l) (hb : l.length < 2 ^ 39) (h1 : -1099511627776 ≤ n) (h2 : n ≤ 1099511627776) :
    FunOK Try.prog 44 [spans l, i64 n] noHeap (spans (add l n)) noHeap := by
  refine funOK_freeze Try.func44 (spec_radd l n hn hl hb h1 h2) ?_
  conv => whnf
theorem spec_rturns_rows (r : Receiver) (k : Nat) (z : Int) (hz : z = k) {rows : List (List PV)} (hrows : rows = r.pieces.map Piece.row) (hf : TFit r k) (ht9 : r.turn.length < 2 ^ 30) :
    FunOK Try.prog 45 [.agg (rcvC r (spans r.spans) (.p (.sl 12 rows)) (rints r.turn) (arrs r.log)), i64 z] noHeap (turns r k).hv noHeap := by
  subst hz hrows; exact spec_rturns r k hf ht9
theorem spec_rdeliver_rows (r : Receiver) (c : Chunk) {rows : List (List PV)} (hrows : rows = r.pieces.map Piece.row) (h2 : r.pieces.length < 2 ^ 22) (h3 : tot r.pieces < 2 ^ 22) (h4 : r.log.length < 2 ^ 38) :
    FunOK Try.prog 46 [.agg (rcvC r (spans r.spans) (.p (.sl 12 rows)) (rints r.turn) (arrs r.log)), c.hv, hbool false] noHeap (.tup [(dlv r c.stream c.mid c.ordered).1.hv, hbool (dlv r c.stream c.mid c.ordered).2]) noHeap := by
  subst hrows
  have h := spec_rdeliver r c false h2 h3 h4
  rwa [rdlv_false] at h
theorem spec_rdata (r : Receiver) (c : Chunk) {N : Nat} (h : RFit N r) (hN : N ≤ 2 ^ 20) (hc : c.data.length ≤ 2 ^ 20) : FunOK Try.prog 16 [r.hv, c.hv] noHeap (data r c).hv noHeap := by
  obtain ⟨h1, h2, h3, h4, h5, h6, h7, h8, h9⟩ := h.dfit hN hc
  obtain ⟨n1, n2, n3⟩ := near_lo (a := r.cum) (t := c.tag) (by omega) (by omega)
  generalize hD : data r c = D
  refine funOK_pure mixed Try.func16 (by decide) ?_
  conv => whnf
  ((refine hcall_lend ?_; (conv => whnf); refine ⟨_, spec_rnear r.cum c.tag (by omega) (by omega), rfl, ?_⟩; conv => whnf); try (refine hcut.go ?_; conv => whnf))
  have no : ¬ Takes r c (near r.cum c.tag) → D = r := fun h => by rw [← hD, data, if_neg h]
  by_cases c1 : c.kind = 1
  case neg =>
    have e := no fun h => c1 h.1
    subst e
    refine hif_true (by simpa using c1) ?_; conv => whnf
    repeat (refine hcut.go ?_; conv => whnf)
    try rfl
  refine hif_false (by simp [c1]) ?_; conv => whnf
  by_cases c2 : c.stream < 0
  · have e := no fun h => by have := h.2; omega
    subst e
    refine hif_true (by simpa using c2) ?_; conv => whnf
    repeat (refine hcut.go ?_; conv => whnf)
    try rfl
  refine hif_false (by simpa using c2) ?_; conv => whnf
  by_cases c3 : c.stream ≥ r.turn.length
  · have e := no fun h => by have := h.3; omega
    subst e
    refine hif_true (by simpa using c3) ?_; conv => whnf
    repeat (refine hcut.go ?_; conv => whnf)
    try rfl
  refine hif_false (by simpa using c3) ?_; conv => whnf
  by_cases c4 : near r.cum c.tag ≤ r.cum
  · have e := no fun h => by have := h.4; omega
    subst e
    refine hif_true (by simpa using c4) ?_; conv => whnf
    repeat (refine hcut.go ?_; conv => whnf)
    try rfl
  refine hif_false (by simpa using c4) ?_; conv => whnf
  ((refine hcall_lend ?_; (conv => whnf); refine ⟨_, spec_in r.spans (near r.cum c.tag) (by have := h1.spans; omega), rfl, ?_⟩; conv => whnf); try (refine hcut.go ?_; conv => whnf))
  cases c5 : has r.spans (near r.cum c.tag) with
  | true =>
    have e := no fun h => by have := h.5; rw [c5] at this; cases this
    subst e
    conv => whnf
    repeat (refine hcut.go ?_; conv => whnf)
    try rfl
  | false =>
  conv => whnf
  repeat (refine hcut.go ?_; conv => whnf)
  ((refine hwrap_fit (W_fit ?_ ?_) ?_; (· (first | omega | (simp only [List.length_map, List.length_append, List.length_take, List.length_drop, List.length_cons, List.length_nil] <;> omega) | (simp <;> omega))); (· (first | omega | (simp only [List.length_map, List.length_append, List.length_take, List.length_drop, List.length_cons, List.length_nil] <;> omega) | (simp <;> omega))); conv => whnf); try (refine hcut.go ?_; conv => whnf))
  have g1 := h1.spans
  have g2 := h1.log
  have rest : Takes r c (near r.cum c.tag) → D = if c.ordered then turns (put r c) c.stream.toNat else (dlv (put r c) c.stream c.mid false).1 := fun h => by rw [← hD, data, if_pos h]
  have hput : tot (put r c).pieces = tot r.pieces + c.data.length := by show tot (r.pieces ++ [_]) = _; rw [tot_app, tot_cons]; rfl
  have hpl : (put r c).pieces.length = r.pieces.length + 1 := by show (r.pieces ++ [_]).length = _; simp
  have hadd := add_hi (n := near r.cum c.tag) (M := 1099511627776) h2 (by omega) (by omega) (fun s hs => by have := h3 s hs; omega) (by omega)
  have hal := add_len1 r.spans (near r.cum c.tag)
  have har := (add_rise h2 (n := near r.cum c.tag) (by omega) (by omega)).1
  by_cases c6 : near r.cum c.tag = r.cum + 1
  case' pos =>
    have ok : Takes r c (near r.cum c.tag) := ⟨c1, by omega, by omega, by omega, c5, .inl c6⟩
    refine hif_false (by rw [decide_eq_false_iff_not]; omega) ?_; conv => whnf
    ((refine hdraw_intro ?_ ?_; (· kernel_rfl); conv => whnf); try (refine hcut.go ?_; conv => whnf))
  case' neg =>
    refine hif_true (by rw [decide_eq_true_eq]; omega) ?_; conv => whnf
    ((refine hcall_lend ?_; (conv => whnf); refine ⟨_, spec_rheld r (by omega) (by omega), rfl, ?_⟩; conv => whnf); try (refine hcut.go ?_; conv => whnf))
    ((refine hwrap_fit (W_fit ?_ ?_) ?_; (· (first | omega | (simp only [List.length_map, List.length_append, List.length_take, List.length_drop, List.length_cons, List.length_nil] <;> omega) | (simp <;> omega))); (· (first | omega | (simp only [List.length_map, List.length_append, List.length_take, List.length_drop, List.length_cons, List.length_nil] <;> omega) | (simp <;> omega))); conv => whnf); try (refine hcut.go ?_; conv => whnf))
    by_cases c7 : (tot r.pieces : Int) + c.data.length > 400
    case pos =>
      have e := no fun h => by have := h.6; omega
      subst e
      ((refine hdraw_intro ?_ ?_; (· kernel_rfl); conv => whnf); try (refine hcut.go ?_; conv => whnf))
      refine hif_true (by simpa using c7) ?_; conv => whnf
      repeat (refine hcut.go ?_; conv => whnf)
      try rfl
    have ok : Takes r c (near r.cum c.tag) := ⟨c1, by omega, by omega, by omega, c5, .inr (by omega)⟩
    ((refine hdraw_intro ?_ ?_; (· kernel_rfl); conv => whnf); try (refine hcut.go ?_; conv => whnf))
    refine hif_false (by simpa using c7) ?_; conv => whnf
    repeat (refine hcut.go ?_; conv => whnf)
  all_goals (
    have rest := rest ok
    refine hobl_intro (c := (([] : List (List PV)).length + (r.pieces.map Piece.row).length) * 136 ≤ 140737488355328) (by simp; omega) ?_; conv => whnf
    try (refine hcut.go ?_; conv => whnf)
    refine hobl_intro (c := (([] ++ r.pieces.map Piece.row).length + 1) * 136 ≤ 140737488355328) (by simp; omega) ?_; conv => whnf
    ((refine hdraw_intro ?_ ?_; (· kernel_rfl); conv => whnf); try (refine hcut.go ?_; conv => whnf))
    ((refine hcall_pure ?_; (conv => whnf); refine ⟨_, spec_radd2 r.spans (near r.cum c.tag) c5 h2 (by omega) (by omega) (by omega), rfl, ?_⟩; conv => whnf); try (refine hcut.go ?_; conv => whnf))
    ((refine hcall_pure ?_; (conv => whnf); refine ⟨_, spec_rup2 (add r.spans (near r.cum c.tag)) r.cum har hadd (by omega) (by omega) (by omega), rfl, ?_⟩; conv => whnf); try (refine hcut.go ?_; conv => whnf))
    ((refine hdraw_intro ?_ ?_; (· kernel_rfl); conv => whnf); try (refine hcut.go ?_; conv => whnf))
    obtain ⟨k, hk⟩ : ∃ k : Nat, c.stream = k := ⟨c.stream.toNat, by omega⟩
    have hkl : k < r.turn.length := by omega
    have htk : (put r c).turn[k]?.getD 0 = r.turn[k] := by show r.turn[k]?.getD 0 = _; rw [List.getElem?_eq_getElem hkl]; rfl
    have htb := h6 _ (List.getElem_mem hkl)
    refine hif_intro (fun ho => ?_) (fun ho => ?_)
    · rw [if_pos ho, show c.stream.toNat = k by omega] at rest
      subst rest
      conv => whnf
      ((refine hcall_pure ?_; (conv => whnf); refine ⟨_, spec_rturns_rows (put r c) k _ hk (by simp [put]; rfl) ⟨by omega, by omega, by show r.log.length + _ < _; omega, hkl, by rw [htk]; omega, by rw [htk]; omega⟩ h.streams, rfl, ?_⟩; conv => whnf); try (refine hcut.go ?_; conv => whnf))
      try rfl
    · rw [if_neg (by rw [ho]; decide)] at rest
      subst rest
      conv => whnf
      ((refine hcall_pure ?_; (conv => whnf); refine ⟨_, spec_rdeliver_rows (put r c) c (by simp [put]; rfl) (by omega) (by omega) (by show r.log.length < _; omega), rfl, ?_⟩; conv => whnf); try (refine hcut.go ?_; conv => whnf))
      rw [ho]
      try rfl)
end Rcv
end Go.HL
