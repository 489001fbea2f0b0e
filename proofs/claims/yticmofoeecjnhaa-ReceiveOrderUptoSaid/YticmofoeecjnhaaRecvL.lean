/- The receiver: what the statements ask with. -/
import Derived.Test.YticmofoeecjnhaaRecv9
import Derived.Test.YticmofoeecjnhaaSame
namespace Go.HL
open Go.Proofs
namespace Rcv
open Srt Jn Ser
set_option maxHeartbeats 4000000
set_option maxRecDepth 100000
set_option linter.unusedSimpArgs false
def Small (r : Receiver) : Prop := ∀ p ∈ r.pieces, p.chunk.spans.length < 2 ^ 38 ∧ p.chunk.skips.length < 2 ^ 38
theorem Small.sub {r r' : Receiver} (h : Small r) (k : ∀ p ∈ r'.pieces, p ∈ r.pieces) : Small r' := fun p hp => h p (k p hp)
theorem drop_sub (r : Receiver) (s m : Int) (o : Bool) : ∀ p ∈ (dropR r s m o).pieces, p ∈ r.pieces := fun p hp => (List.mem_filter.1 hp).1
theorem dlv_sub (r : Receiver) (s m : Int) (o : Bool) : ∀ p ∈ (dlv r s m o).1.pieces, p ∈ r.pieces := by
  unfold dlv
  split
  · exact fun p hp => hp
  · exact drop_sub r s m o
theorem turns_sub : ∀ (n : Nat) (r : Receiver) (k : Nat), r.pieces.length < n → ∀ p ∈ (turns r k).pieces, p ∈ r.pieces
  | 0, r, k, h => by omega
  | n + 1, r, k, h => by
    rw [turns_step]
    have h1 := dlv_sub r k (tag (r.turn[k]?.getD 0)) true
    split
    · rename_i hd
      have h2 := dlv_less hd
      intro p hp
      exact h1 p (turns_sub n (bump (dlv r k (tag (r.turn[k]?.getD 0)) true).1 k) k (by show (dlv r k (tag (r.turn[k]?.getD 0)) true).1.pieces.length < n; omega) p hp)
    · exact h1
theorem pass_sub (r : Receiver) (k : Nat) : ∀ p ∈ (pass r k).pieces, p ∈ r.pieces := by
  have h1 := dlv_sub r k (tag (r.turn[k]?.getD 0)) true
  unfold pass
  split
  · exact h1
  · exact fun p hp => h1 p (drop_sub _ _ _ _ p hp)
theorem passes_sub : ∀ (n : Nat) (r : Receiver) (k : Nat), ∀ p ∈ (passes n r k).pieces, p ∈ r.pieces
  | 0, r, _ => fun p hp => hp
  | n + 1, r, k => fun p hp => pass_sub r k p (passes_sub n _ k p hp)
theorem skip_sub (r : Receiver) (s : Skip) : ∀ p ∈ (skip1 r s).pieces, p ∈ r.pieces := by
  unfold skip1
  split
  · exact fun p hp => hp
  split
  · exact drop_sub _ _ _ _
  · exact fun p hp => passes_sub _ _ _ p (turns_sub _ _ _ (Nat.lt_succ_self _) p hp)
theorem fold_sub : ∀ (l : List Skip) (r : Receiver), ∀ p ∈ (l.foldl skip1 r).pieces, p ∈ r.pieces
  | [], _ => fun p hp => hp
  | s :: l, r => fun p hp => skip_sub r s p (fold_sub l _ p hp)
theorem forward_sub (r : Receiver) (c : Chunk) : ∀ p ∈ (forward r c).pieces, p ∈ r.pieces := by
  unfold forward
  split
  · exact fun p hp => hp
  · exact fun p hp => fold_sub c.skips (at_up r (near r.cum c.tag)) p hp
theorem data_sub (r : Receiver) (c : Chunk) : ∀ p ∈ (data r c).pieces, p ∈ r.pieces ∨ p.chunk = c := by
  have hput : ∀ p ∈ (put r c).pieces, p ∈ r.pieces ∨ p.chunk = c := fun p hp => by
    rcases List.mem_append.1 (show p ∈ r.pieces ++ [_] from hp) with h | h
    · exact .inl h
    · rw [List.mem_singleton] at h; subst h; exact .inr rfl
  unfold data
  split
  · split
    · exact fun p hp => hput p (turns_sub _ _ _ (Nat.lt_succ_self _) p hp)
    · exact fun p hp => hput p (dlv_sub _ _ _ _ p hp)
  · exact fun p hp => .inl hp
theorem Small.data {r : Receiver} (h : Small r) {c : Chunk} (h1 : c.spans.length < 2 ^ 38) (h2 : c.skips.length < 2 ^ 38) : Small (Rcv.data r c) := fun p hp => by
  rcases data_sub r c p hp with k | k
  · exact h p k
  · rw [k]; exact ⟨h1, h2⟩
theorem Small.forward {r : Receiver} (h : Small r) (c : Chunk) : Small (Rcv.forward r c) := h.sub (forward_sub r c)
abbrev rcvL (r : Receiver) : HSlot := .live (.cells 35 (rcvC r (spans r.spans) (pieces r.pieces) (rints r.turn) (arrs r.log)))
theorem spec_sameReceiver (r : Receiver) (h1 : r.spans.length < 2 ^ 40) (h2 : r.pieces.length < 2 ^ 40) (h3 : r.turn.length < 2 ^ 40) (h4 : r.log.length < 2 ^ 40) (hsm : Small r) : FunOK Try.prog 9 [r.hv, r.hv] noHeap (hbool true) noHeap := by
  refine funOK_pure mixed Try.func9 (by decide) ?_
  conv => whnf
  repeat' (first | (refine hobl_intro ?_ ?_; (· kernel_rfl); conv => whnf) | (refine hif_false ?_ ?_; (· simp; done); conv => whnf) | (refine hcall_lend ?_; (conv => whnf); refine ⟨_, spec_sameSpans r.spans h1, rfl, ?_⟩; conv => whnf))
  repeat (refine hcut.go ?_; conv => whnf)
  refine ⟨{ x : List Piece × List Piece // r.pieces = x.1 ++ x.2 }, fun | ⟨(a, b), _⟩ => hs 156 [(2, .ptr 2 0), (3, .ptr 3 0), (59, i64 r.pieces.length), (60, i64 a.length)] [(2, rcvL r), (3, rcvL r)], fun x => x.1.2.length, ⟨([], r.pieces), rfl⟩, ?_, ?_⟩
  · exact (hle_hs [(2, some 2), (3, some 3)] rfl rfl rfl rfl (by repeat' (first | exact trivial | exact rfl | (refine ⟨⟨rfl, ?_⟩, ?_⟩) | (refine ⟨rfl, ?_⟩) | (simp; done) | (simp; rfl))) (by repeat' (first | exact trivial | exact rfl | exact .inl rfl | exact .inr rfl | (refine ⟨⟨rfl, .inl ⟨_, rfl, ?_⟩⟩, ?_⟩) | (refine ⟨⟨rfl, _, rfl, ?_⟩, ?_⟩) | (refine ⟨⟨rfl, .inr ⟨rfl, ?_⟩⟩, ?_⟩) | (refine ⟨rfl, ?_⟩) | (simp; done) | (simp; rfl))))
  rintro ⟨⟨a, b⟩, h⟩
  dsimp only at h
  refine hwp_gen fun Q hQ => ?_
  cases b with
  | cons p b =>
    have hz := zip_cons h
    obtain ⟨s1, s2⟩ := hsm p (zip_mem h)
    conv => whnf
    ((refine hif_true ?_ ?_; (· (first | rfl | assumption | omega | (simp only [gt_iff_lt, ge_iff_le, decide_eq_true_eq, decide_eq_false_iff_not, beq_iff_eq, bne_iff_ne, ne_eq, beq_eq_false_iff_ne, bne_eq_false_iff_eq, List.length_map, List.length_append, List.length_cons, List.length_nil, List.length_take, List.length_drop, Bool.not_eq_true', Bool.not_eq_false', Bool.not_eq_true, Bool.not_eq_false, Decidable.not_not, Nat.cast_ofNat, Int.natCast_add] <;> omega) | (simp <;> omega))); conv => whnf); try (refine hcut.go ?_; conv => whnf))
    refine hrow_mid h rfl ?_; conv => whnf
    refine hrow_mid h rfl ?_; conv => whnf
    refine hif_false (by simp) ?_; conv => whnf
    refine hrow_mid h rfl ?_; conv => whnf
    refine hrow_mid h rfl ?_; conv => whnf
    ((refine hcall_lend ?_; (conv => whnf); refine ⟨_, spec_same p.chunk (by omega) (by omega), rfl, ?_⟩; conv => whnf); try (refine hcut.go ?_; conv => whnf))
    ((refine hdraw_intro ?_ ?_; (· kernel_rfl); conv => whnf); try (refine hcut.go ?_; conv => whnf))
    repeat (refine hcut.go ?_; conv => whnf)
    ((refine hwrap_fit (W_fit ?_ ?_) ?_; (· (first | omega | (simp only [List.length_map, List.length_append, List.length_take, List.length_drop, List.length_cons, List.length_nil] <;> omega) | (simp <;> omega))); (· (first | omega | (simp only [List.length_map, List.length_append, List.length_take, List.length_drop, List.length_cons, List.length_nil] <;> omega) | (simp <;> omega))); conv => whnf); try (refine hcut.go ?_; conv => whnf))
    refine hQ _ _ ?_; conv => whnf
    exact ⟨⟨(a ++ [p], b), zip_next h⟩, (hle_hs [(2, some 2), (3, some 3)] rfl rfl rfl rfl (by repeat' (first | exact trivial | exact rfl | (refine ⟨⟨rfl, ?_⟩, ?_⟩) | (refine ⟨rfl, ?_⟩) | (simp; done) | (simp; rfl))) (by repeat' (first | exact trivial | exact rfl | exact .inl rfl | exact .inr rfl | (refine ⟨⟨rfl, .inl ⟨_, rfl, ?_⟩⟩, ?_⟩) | (refine ⟨⟨rfl, _, rfl, ?_⟩, ?_⟩) | (refine ⟨⟨rfl, .inr ⟨rfl, ?_⟩⟩, ?_⟩) | (refine ⟨rfl, ?_⟩) | (simp; done) | (simp; rfl)))), by simp⟩
  | nil =>
  have hz := zip_nil h
  conv => whnf
  ((refine hif_false ?_ ?_; (· (first | rfl | assumption | omega | (simp only [gt_iff_lt, ge_iff_le, decide_eq_true_eq, decide_eq_false_iff_not, beq_iff_eq, bne_iff_ne, ne_eq, beq_eq_false_iff_ne, bne_eq_false_iff_eq, List.length_map, List.length_append, List.length_cons, List.length_nil, List.length_take, List.length_drop, Bool.not_eq_true', Bool.not_eq_false', Bool.not_eq_true, Bool.not_eq_false, Decidable.not_not, Nat.cast_ofNat, Int.natCast_add] <;> omega) | (simp <;> omega))); conv => whnf); try (refine hcut.go ?_; conv => whnf))
  refine hQ _ _ ?_; conv => whnf
  refine ⟨{ x : List Int × List Int // r.turn = x.1 ++ x.2 }, fun | ⟨(a, b), _⟩ => hs 156 [(2, .ptr 2 0), (3, .ptr 3 0), (95, i64 r.turn.length), (96, i64 a.length)] [(2, rcvL r), (3, rcvL r)], fun x => x.1.2.length, ⟨([], r.turn), rfl⟩, ?_, ?_⟩
  · exact (hle_hs [(2, some 2), (3, some 3)] rfl rfl rfl rfl (by repeat' (first | exact trivial | exact rfl | (refine ⟨⟨rfl, ?_⟩, ?_⟩) | (refine ⟨rfl, ?_⟩) | (simp; done) | (simp; rfl))) (by repeat' (first | exact trivial | exact rfl | exact .inl rfl | exact .inr rfl | (refine ⟨⟨rfl, .inl ⟨_, rfl, ?_⟩⟩, ?_⟩) | (refine ⟨⟨rfl, _, rfl, ?_⟩, ?_⟩) | (refine ⟨⟨rfl, .inr ⟨rfl, ?_⟩⟩, ?_⟩) | (refine ⟨rfl, ?_⟩) | (simp; done) | (simp; rfl))))
  rintro ⟨⟨a, b⟩, h⟩
  dsimp only at h
  refine hwp_gen fun Q hQ => ?_
  cases b with
  | cons p b =>
    have hz := zip_cons h
    conv => whnf
    ((refine hif_true ?_ ?_; (· (first | rfl | assumption | omega | (simp only [gt_iff_lt, ge_iff_le, decide_eq_true_eq, decide_eq_false_iff_not, beq_iff_eq, bne_iff_ne, ne_eq, beq_eq_false_iff_ne, bne_eq_false_iff_eq, List.length_map, List.length_append, List.length_cons, List.length_nil, List.length_take, List.length_drop, Bool.not_eq_true', Bool.not_eq_false', Bool.not_eq_true, Bool.not_eq_false, Decidable.not_not, Nat.cast_ofNat, Int.natCast_add] <;> omega) | (simp <;> omega))); conv => whnf); try (refine hcut.go ?_; conv => whnf))
    refine hrow_mid h rfl ?_; conv => whnf
    refine hrow_mid h rfl ?_; conv => whnf
    ((refine hdraw_intro ?_ ?_; (· kernel_rfl); conv => whnf); try (refine hcut.go ?_; conv => whnf))
    refine hif_false (by simp) ?_; conv => whnf
    repeat (refine hcut.go ?_; conv => whnf)
    ((refine hwrap_fit (W_fit ?_ ?_) ?_; (· (first | omega | (simp only [List.length_map, List.length_append, List.length_take, List.length_drop, List.length_cons, List.length_nil] <;> omega) | (simp <;> omega))); (· (first | omega | (simp only [List.length_map, List.length_append, List.length_take, List.length_drop, List.length_cons, List.length_nil] <;> omega) | (simp <;> omega))); conv => whnf); try (refine hcut.go ?_; conv => whnf))
    refine hQ _ _ ?_; conv => whnf
    exact ⟨⟨(a ++ [p], b), zip_next h⟩, (hle_hs [(2, some 2), (3, some 3)] rfl rfl rfl rfl (by repeat' (first | exact trivial | exact rfl | (refine ⟨⟨rfl, ?_⟩, ?_⟩) | (refine ⟨rfl, ?_⟩) | (simp; done) | (simp; rfl))) (by repeat' (first | exact trivial | exact rfl | exact .inl rfl | exact .inr rfl | (refine ⟨⟨rfl, .inl ⟨_, rfl, ?_⟩⟩, ?_⟩) | (refine ⟨⟨rfl, _, rfl, ?_⟩, ?_⟩) | (refine ⟨⟨rfl, .inr ⟨rfl, ?_⟩⟩, ?_⟩) | (refine ⟨rfl, ?_⟩) | (simp; done) | (simp; rfl)))), by simp⟩
  | nil =>
  have hz := zip_nil h
  conv => whnf
  ((refine hif_false ?_ ?_; (· (first | rfl | assumption | omega | (simp only [gt_iff_lt, ge_iff_le, decide_eq_true_eq, decide_eq_false_iff_not, beq_iff_eq, bne_iff_ne, ne_eq, beq_eq_false_iff_ne, bne_eq_false_iff_eq, List.length_map, List.length_append, List.length_cons, List.length_nil, List.length_take, List.length_drop, Bool.not_eq_true', Bool.not_eq_false', Bool.not_eq_true, Bool.not_eq_false, Decidable.not_not, Nat.cast_ofNat, Int.natCast_add] <;> omega) | (simp <;> omega))); conv => whnf); try (refine hcut.go ?_; conv => whnf))
  refine hQ _ _ ?_; conv => whnf
  refine ⟨{ x : List Arrival × List Arrival // r.log = x.1 ++ x.2 }, fun | ⟨(a, b), _⟩ => hs 156 [(2, .ptr 2 0), (3, .ptr 3 0), (113, i64 r.log.length), (114, i64 a.length)] [(2, rcvL r), (3, rcvL r)], fun x => x.1.2.length, ⟨([], r.log), rfl⟩, ?_, ?_⟩
  · exact (hle_hs [(2, some 2), (3, some 3)] rfl rfl rfl rfl (by repeat' (first | exact trivial | exact rfl | (refine ⟨⟨rfl, ?_⟩, ?_⟩) | (refine ⟨rfl, ?_⟩) | (simp; done) | (simp; rfl))) (by repeat' (first | exact trivial | exact rfl | exact .inl rfl | exact .inr rfl | (refine ⟨⟨rfl, .inl ⟨_, rfl, ?_⟩⟩, ?_⟩) | (refine ⟨⟨rfl, _, rfl, ?_⟩, ?_⟩) | (refine ⟨⟨rfl, .inr ⟨rfl, ?_⟩⟩, ?_⟩) | (refine ⟨rfl, ?_⟩) | (simp; done) | (simp; rfl))))
  rintro ⟨⟨a, b⟩, h⟩
  dsimp only at h
  refine hwp_gen fun Q hQ => ?_
  cases b with
  | cons p b =>
    have hz := zip_cons h
    conv => whnf
    ((refine hif_true ?_ ?_; (· (first | rfl | assumption | omega | (simp only [gt_iff_lt, ge_iff_le, decide_eq_true_eq, decide_eq_false_iff_not, beq_iff_eq, bne_iff_ne, ne_eq, beq_eq_false_iff_ne, bne_eq_false_iff_eq, List.length_map, List.length_append, List.length_cons, List.length_nil, List.length_take, List.length_drop, Bool.not_eq_true', Bool.not_eq_false', Bool.not_eq_true, Bool.not_eq_false, Decidable.not_not, Nat.cast_ofNat, Int.natCast_add] <;> omega) | (simp <;> omega))); conv => whnf); try (refine hcut.go ?_; conv => whnf))
    refine hrow_mid h rfl ?_; conv => whnf
    refine hrow_mid h rfl ?_; conv => whnf
    ((refine hdraw_intro ?_ ?_; (· kernel_rfl); conv => whnf); try (refine hcut.go ?_; conv => whnf))
    repeat' (first | (refine hif_false ?_ ?_; (· simp; done); conv => whnf) | (refine hbytes_intro rfl ?_; conv => whnf))
    repeat (refine hcut.go ?_; conv => whnf)
    ((refine hwrap_fit (W_fit ?_ ?_) ?_; (· (first | omega | (simp only [List.length_map, List.length_append, List.length_take, List.length_drop, List.length_cons, List.length_nil] <;> omega) | (simp <;> omega))); (· (first | omega | (simp only [List.length_map, List.length_append, List.length_take, List.length_drop, List.length_cons, List.length_nil] <;> omega) | (simp <;> omega))); conv => whnf); try (refine hcut.go ?_; conv => whnf))
    refine hQ _ _ ?_; conv => whnf
    exact ⟨⟨(a ++ [p], b), zip_next h⟩, (hle_hs [(2, some 2), (3, some 3)] rfl rfl rfl rfl (by repeat' (first | exact trivial | exact rfl | (refine ⟨⟨rfl, ?_⟩, ?_⟩) | (refine ⟨rfl, ?_⟩) | (simp; done) | (simp; rfl))) (by repeat' (first | exact trivial | exact rfl | exact .inl rfl | exact .inr rfl | (refine ⟨⟨rfl, .inl ⟨_, rfl, ?_⟩⟩, ?_⟩) | (refine ⟨⟨rfl, _, rfl, ?_⟩, ?_⟩) | (refine ⟨⟨rfl, .inr ⟨rfl, ?_⟩⟩, ?_⟩) | (refine ⟨rfl, ?_⟩) | (simp; done) | (simp; rfl)))), by simp⟩
  | nil =>
  have hz := zip_nil h
  conv => whnf
  ((refine hif_false ?_ ?_; (· (first | rfl | assumption | omega | (simp only [gt_iff_lt, ge_iff_le, decide_eq_true_eq, decide_eq_false_iff_not, beq_iff_eq, bne_iff_ne, ne_eq, beq_eq_false_iff_ne, bne_eq_false_iff_eq, List.length_map, List.length_append, List.length_cons, List.length_nil, List.length_take, List.length_drop, Bool.not_eq_true', Bool.not_eq_false', Bool.not_eq_true, Bool.not_eq_false, Decidable.not_not, Nat.cast_ofNat, Int.natCast_add] <;> omega) | (simp <;> omega))); conv => whnf); try (refine hcut.go ?_; conv => whnf))
  refine hQ _ _ ?_; conv => whnf
def fine (c : Config) : Bool := decide (c.streams ≥ 1) && (decide (c.streams ≤ 4) && (decide (c.first ≥ 0) && decide (c.first < 65536)))
theorem fine_iff {c : Config} : fine c = true ↔ 1 ≤ c.streams ∧ c.streams ≤ 4 ∧ 0 ≤ c.first ∧ c.first < 65536 := by
  simp [fine]
theorem spec_fine (c : Config) : FunOK Try.prog 7 [c.hv] noHeap (hbool (fine c)) noHeap := by
  refine funOK_pure mixed Try.func7 (by decide) ?_
  unfold fine
  conv => whnf
  by_cases c1 : c.streams ≥ 1
  case neg =>
    refine hif_false (by simpa using c1) ?_; conv => whnf
    simp [c1]
  refine hif_true (by simpa using c1) ?_; conv => whnf
  by_cases c2 : c.streams ≤ 4
  case neg =>
    refine hif_false (by simpa using c2) ?_; conv => whnf
    simp [c1, c2]
  refine hif_true (by simpa using c2) ?_; conv => whnf
  by_cases c3 : c.first ≥ 0
  case neg =>
    refine hif_false (by simpa using c3) ?_; conv => whnf
    simp [c1, c2, c3]
  refine hif_true (by simpa using c3) ?_; conv => whnf
  simp [c1, c2, c3]
theorem spec_rnew2 (c : Config) (h1 : -9223372036854775808 < c.first) (h2 : c.first ≤ 9223372036854775807) (h3 : c.streams ≤ 1099511627776) : FunOK Try.prog 11 [c.hv] noHeap (newR c).hv noHeap := by
  refine funOK_freeze Try.func11 (spec_rnew c h1 h2 h3) ?_
  conv => whnf
  rfl
/-- a chunk comes -/
noncomputable def step (r : Receiver) (c : Chunk) : Receiver := if c.kind = 3 then forward r c else data r c
def wt (c : Chunk) : Nat := c.data.length + c.skips.length + 1
def wts (l : List Chunk) : Nat := (l.map wt).sum
theorem wts_app (a b : List Chunk) : wts (a ++ b) = wts a + wts b := by simp [wts]
theorem wts_cons (c : Chunk) (b : List Chunk) : wts (c :: b) = wt c + wts b := by simp [wts]
structure Bulk (c : Chunk) : Prop where
  spans : c.spans.length < 2 ^ 38
  skips : c.skips.length < 2 ^ 38
theorem step_fit {N : Nat} {r : Receiver} (h : RFit N r) (hN : N ≤ 2 ^ 21) (c : Chunk) (hc : wt c ≤ 2 ^ 21) : RFit (N + wt c) (step r c) := by
  unfold wt at hc ⊢
  unfold step
  split
  · exact (forward_fit h hN c (by omega)).more (by omega)
  · exact (data_fit h hN c).more (by omega)
theorem step_small {r : Receiver} (h : Small r) {c : Chunk} (hc : Bulk c) : Small (step r c) := by
  unfold step
  split
  · exact h.forward c
  · exact h.data hc.spans hc.skips
theorem new_fit {c : Config} (h : fine c = true) : RFit 0 (newR c) := by
  obtain ⟨h1, h2, h3, h4⟩ := fine_iff.1 h
  have hl : (newR c).turn.length ≤ 4 := by simp [newR]; omega
  have ht : ∀ t ∈ (newR c).turn, t = 0 := fun t ht => (List.mem_replicate.1 ht).2
  refine ⟨Nat.le_refl _, Nat.le_refl _, Nat.le_refl _, trivial, by simp [newR], by simp [newR], by show -1 ≤ c.first - 1; omega, by show c.first - 1 ≤ _; omega, fun t htt => by rw [ht t htt]; decide, fun t htt => by rw [ht t htt]; simp [newR], by omega⟩
theorem new_small (c : Config) : Small (newR c) := fun p hp => by simp [newR] at hp
theorem spec_build (c : Config) (l : List Chunk) (hf : fine c = true) (hl : wts l ≤ 2 ^ 20) (hb : ∀ x ∈ l, Bulk x) (hll : l.length < 2 ^ 40) :
    FunOK Try.prog 8 [c.hv, .p (.sl 11 (l.map Chunk.row))] noHeap (l.foldl step (newR c)).hv noHeap := by
  obtain ⟨h1, h2, h3, h4⟩ := fine_iff.1 hf
  generalize hD : l.foldl step (newR c) = D
  refine funOK_pure mixed Try.func8 (by decide) ?_
  conv => whnf
  ((refine hcall_pure ?_; (conv => whnf); refine ⟨_, spec_rnew2 c (by omega) (by omega) (by omega), rfl, ?_⟩; conv => whnf); try (refine hcut.go ?_; conv => whnf))
  refine ⟨{ x : Receiver × List Chunk × List Chunk // l = x.2.1 ++ x.2.2 ∧ RFit (wts x.2.1) x.1 ∧ x.2.2.foldl step x.1 = D }, fun | ⟨(x, a, b), _⟩ => hs 27 [(4, .ptr 4 0), (5, .ptr 5 0), (10, .p (.sl 11 (l.map Chunk.row))), (11, i64 l.length), (12, i64 a.length)] [(4, .live (.cells 35 zeroR)), (5, rcvL x)], fun x => x.1.2.2.length, ⟨(newR c, [], l), rfl, new_fit hf, hD⟩, ?_, ?_⟩
  · exact (hle_hs [(4, some 4), (5, some 5)] rfl rfl rfl rfl (by repeat' (first | exact trivial | exact rfl | (refine ⟨⟨rfl, ?_⟩, ?_⟩) | (refine ⟨rfl, ?_⟩) | (simp; done) | (simp; rfl))) (by repeat' (first | exact trivial | exact rfl | exact .inl rfl | exact .inr rfl | (refine ⟨⟨rfl, .inl ⟨_, rfl, ?_⟩⟩, ?_⟩) | (refine ⟨⟨rfl, _, rfl, ?_⟩, ?_⟩) | (refine ⟨⟨rfl, .inr ⟨rfl, ?_⟩⟩, ?_⟩) | (refine ⟨rfl, ?_⟩) | (simp; done) | (simp; rfl))))
  rintro ⟨⟨x, a, b⟩, k1, k2, k3⟩
  dsimp only at k1 k2 k3
  refine hwp_gen fun Q hQ => ?_
  cases b with
  | nil =>
    have hz := zip_nil k1
    have k3 : x = D := k3
    subst k3
    conv => whnf
    ((refine hif_false ?_ ?_; (· (first | rfl | assumption | omega | (simp only [gt_iff_lt, ge_iff_le, decide_eq_true_eq, decide_eq_false_iff_not, beq_iff_eq, bne_iff_ne, ne_eq, beq_eq_false_iff_ne, bne_eq_false_iff_eq, List.length_map, List.length_append, List.length_cons, List.length_nil, List.length_take, List.length_drop, Bool.not_eq_true', Bool.not_eq_false', Bool.not_eq_true, Bool.not_eq_false, Decidable.not_not, Nat.cast_ofNat, Int.natCast_add] <;> omega) | (simp <;> omega))); conv => whnf); try (refine hcut.go ?_; conv => whnf))
    refine hQ _ _ ?_; conv => whnf
    try rfl
  | cons y b =>
    have hz := zip_cons k1
    have hw : wts l = wts a + (wt y + wts b) := by rw [k1, wts_app, wts_cons]
    have hwy : wt y = y.data.length + y.skips.length + 1 := rfl
    have next : RFit (wts (a ++ [y])) (step x y) := by
      rw [wts_app, wts_cons, show wts [] = 0 from rfl, Nat.add_zero]
      exact step_fit k2 (by omega) y (by omega)
    have k3 : b.foldl step (step x y) = D := k3
    conv => whnf
    ((refine hif_true ?_ ?_; (· (first | rfl | assumption | omega | (simp only [gt_iff_lt, ge_iff_le, decide_eq_true_eq, decide_eq_false_iff_not, beq_iff_eq, bne_iff_ne, ne_eq, beq_eq_false_iff_ne, bne_eq_false_iff_eq, List.length_map, List.length_append, List.length_cons, List.length_nil, List.length_take, List.length_drop, Bool.not_eq_true', Bool.not_eq_false', Bool.not_eq_true, Bool.not_eq_false, Decidable.not_not, Nat.cast_ofNat, Int.natCast_add] <;> omega) | (simp <;> omega))); conv => whnf); try (refine hcut.go ?_; conv => whnf))
    refine hrow_mid k1 rfl ?_; conv => whnf
    by_cases c3 : y.kind = 3
    · rw [step, if_pos c3] at next k3
      refine hif_true (by simpa using c3) ?_; conv => whnf
      repeat (refine hcut.go ?_; conv => whnf)
      ((refine hcall_pure ?_; (conv => whnf); refine ⟨_, spec_rforward x y k2 (by omega) (by omega), rfl, ?_⟩; conv => whnf); try (refine hcut.go ?_; conv => whnf))
      ((refine hwrap_fit (W_fit ?_ ?_) ?_; (· (first | omega | (simp only [List.length_map, List.length_append, List.length_take, List.length_drop, List.length_cons, List.length_nil] <;> omega) | (simp <;> omega))); (· (first | omega | (simp only [List.length_map, List.length_append, List.length_take, List.length_drop, List.length_cons, List.length_nil] <;> omega) | (simp <;> omega))); conv => whnf); try (refine hcut.go ?_; conv => whnf))
      refine hQ _ _ ?_; conv => whnf
      exact ⟨⟨(forward x y, a ++ [y], b), zip_next k1, next, k3⟩, (hle_hs [(4, some 4), (5, some 5)] rfl rfl rfl rfl (by repeat' (first | exact trivial | exact rfl | (refine ⟨⟨rfl, ?_⟩, ?_⟩) | (refine ⟨rfl, ?_⟩) | (simp; done) | (simp; rfl))) (by repeat' (first | exact trivial | exact rfl | exact .inl rfl | exact .inr rfl | (refine ⟨⟨rfl, .inl ⟨_, rfl, ?_⟩⟩, ?_⟩) | (refine ⟨⟨rfl, _, rfl, ?_⟩, ?_⟩) | (refine ⟨⟨rfl, .inr ⟨rfl, ?_⟩⟩, ?_⟩) | (refine ⟨rfl, ?_⟩) | (simp; done) | (simp; rfl)))), by simp⟩
    · rw [step, if_neg c3] at next k3
      refine hif_false (by simpa using c3) ?_; conv => whnf
      repeat (refine hcut.go ?_; conv => whnf)
      ((refine hcall_pure ?_; (conv => whnf); refine ⟨_, spec_rdata x y k2 (by omega) (by omega), rfl, ?_⟩; conv => whnf); try (refine hcut.go ?_; conv => whnf))
      ((refine hwrap_fit (W_fit ?_ ?_) ?_; (· (first | omega | (simp only [List.length_map, List.length_append, List.length_take, List.length_drop, List.length_cons, List.length_nil] <;> omega) | (simp <;> omega))); (· (first | omega | (simp only [List.length_map, List.length_append, List.length_take, List.length_drop, List.length_cons, List.length_nil] <;> omega) | (simp <;> omega))); conv => whnf); try (refine hcut.go ?_; conv => whnf))
      refine hQ _ _ ?_; conv => whnf
      exact ⟨⟨(data x y, a ++ [y], b), zip_next k1, next, k3⟩, (hle_hs [(4, some 4), (5, some 5)] rfl rfl rfl rfl (by repeat' (first | exact trivial | exact rfl | (refine ⟨⟨rfl, ?_⟩, ?_⟩) | (refine ⟨rfl, ?_⟩) | (simp; done) | (simp; rfl))) (by repeat' (first | exact trivial | exact rfl | exact .inl rfl | exact .inr rfl | (refine ⟨⟨rfl, .inl ⟨_, rfl, ?_⟩⟩, ?_⟩) | (refine ⟨⟨rfl, _, rfl, ?_⟩, ?_⟩) | (refine ⟨⟨rfl, .inr ⟨rfl, ?_⟩⟩, ?_⟩) | (refine ⟨rfl, ?_⟩) | (simp; done) | (simp; rfl)))), by simp⟩
theorem spec_full (r : Receiver) (c : Chunk) (h2 : r.pieces.length < 2 ^ 40) (h3 : tot r.pieces < 2 ^ 60) (h4 : c.data.length < 2 ^ 60) : FunOK Try.prog 23 [r.hv, c.hv] noHeap (hbool (decide ((tot r.pieces : Int) + c.data.length > 400))) noHeap := by
  refine funOK_pure mixed Try.func23 (by decide) ?_
  conv => whnf
  ((refine hcall_lend ?_; (conv => whnf); refine ⟨_, spec_rheld r (by omega) (by omega), rfl, ?_⟩; conv => whnf); try (refine hcut.go ?_; conv => whnf))
  ((refine hwrap_fit (W_fit ?_ ?_) ?_; (· (first | omega | (simp only [List.length_map, List.length_append, List.length_take, List.length_drop, List.length_cons, List.length_nil] <;> omega) | (simp <;> omega))); (· (first | omega | (simp only [List.length_map, List.length_append, List.length_take, List.length_drop, List.length_cons, List.length_nil] <;> omega) | (simp <;> omega))); conv => whnf); try (refine hcut.go ?_; conv => whnf))
  ((refine hdraw_intro ?_ ?_; (· kernel_rfl); conv => whnf); try (refine hcut.go ?_; conv => whnf))
  rw [List.length_map]
  try rfl
theorem spec_config : FunOK Try.prog 24 [] noHeap (Config.mk 2 4 60 1 1 5 7).hv noHeap := by
  refine funOK_pure mixed Try.func24 (by decide) ?_
  conv => whnf
  rfl
end Rcv
end Go.HL
