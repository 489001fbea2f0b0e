/- The law ReceiveTells. -/
import Derived.Test.YticmofoeecjnhaaRecvL
namespace Go.HL
open Go.Proofs
namespace Rcv
open Srt Jn Ser
set_option maxHeartbeats 4000000
set_option maxRecDepth 100000
set_option linter.unusedSimpArgs false
theorem fold_fit : ∀ (l : List Chunk) {N : Nat} {r : Receiver}, RFit N r → Small r → N + wts l ≤ 2 ^ 21 → (∀ x ∈ l, Bulk x) → RFit (N + wts l) (l.foldl step r) ∧ Small (l.foldl step r)
  | [], N, r, h, hs, _, _ => ⟨h, hs⟩
  | c :: l, N, r, h, hs, hN, hb => by
    rw [wts_cons] at hN ⊢
    have h1 := step_fit h (by omega) c (by omega)
    have h2 := fold_fit l h1 (step_small hs (hb c (by simp))) (by omega) fun x hx => hb x (by simp [hx])
    rw [← Nat.add_assoc]; exact h2
theorem RFit.cumB {N : Nat} {r : Receiver} (h : RFit N r) (hN : N ≤ 2 ^ 20) : -(2 ^ 60) ≤ r.cum ∧ r.cum ≤ 2 ^ 60 := by
  have := h.cum1; have := h.cum2; omega
theorem RFit.spansB {N : Nat} {r : Receiver} (h : RFit N r) (hN : N ≤ 2 ^ 20) : ∀ s ∈ r.spans, -(2 ^ 61) ≤ s.lo ∧ s.lo ≤ 2 ^ 61 ∧ -(2 ^ 61) ≤ s.hi ∧ s.hi ≤ 2 ^ 61 := fun s hs => by
  have h1 := h.above s hs
  have h2 := h.his s hs
  have h3 := h.cum1
  have h4 := h.cum2
  have h5 := (rise_mem h.rise s hs).1
  omega
theorem spec_sameR {N : Nat} {r : Receiver} (h : RFit N r) (hN : N ≤ 2 ^ 20) (hsm : Small r) : FunOK Try.prog 9 [r.hv, r.hv] noHeap (hbool true) noHeap := by
  obtain ⟨h1, h2, h3, h4, h5, h6⟩ := h.fit hN
  exact spec_sameReceiver r (by omega) (by omega) (by omega) (by omega) hsm
theorem tellslaw (c : Config) (l : List Chunk) (x : Chunk) (hl : wts l + wt x ≤ 2 ^ 20) (hb : ∀ x ∈ l, Bulk x) (hx : Bulk x) (hll : l.length < 2 ^ 40) : FunOK Try.prog 3 [c.hv, .p (.sl 11 (l.map Chunk.row)), x.hv] noHeap (hbool true) noHeap := by
  refine funOK_pure mixed Try.func3 (by decide) ?_
  conv => whnf
  ((refine hcall_lend ?_; (conv => whnf); refine ⟨_, spec_fine c, rfl, ?_⟩; conv => whnf); try (refine hcut.go ?_; conv => whnf))
  cases hf : fine c with
  | false =>
    conv => whnf
    repeat (refine hcut.go ?_; conv => whnf)
    try rfl
  | true =>
  obtain ⟨f1, f2, f3, f4⟩ := fine_iff.1 hf
  conv => whnf
  repeat (refine hcut.go ?_; conv => whnf)
  have hwx : wt x = x.data.length + x.skips.length + 1 := rfl
  obtain ⟨g1, g2⟩ := fold_fit l (new_fit hf) (new_small c) (by omega) hb
  rw [Nat.zero_add] at g1
  have hd := data_fit g1 (by omega) x
  have hw := forward_fit g1 (by omega) x (by omega)
  have hsd := g2.data hx.spans hx.skips
  have hsw := g2.forward x
  ((refine hcall_pure ?_; (conv => whnf); refine ⟨_, spec_build c l hf (by omega) hb hll, rfl, ?_⟩; conv => whnf); try (refine hcut.go ?_; conv => whnf))
  generalize l.foldl step (newR c) = r at g1 g2 hd hw hsd hsw ⊢
  have hfit := g1.fit (by omega)
  obtain ⟨r1, r2, r3, r4, r5, r6⟩ := hfit
  have hcb := g1.cumB (by omega)
  ((refine hcall_own [(0, 910), (1, 911), (2, 912), (3, 913)]  ?_; (conv => whnf); refine ⟨_, _,  spec_new c (by omega) (by omega) (by omega), ⟨⟨⟨rfl, rfl⟩, ⟨⟨rfl, rfl⟩, ⟨⟨rfl, rfl⟩, ⟨⟨rfl, rfl⟩, trivial⟩⟩⟩⟩, rfl, rfl, rfl⟩, ?_⟩; conv => whnf); try (refine hcut.go ?_; conv => whnf))
  ((refine hcall_pure ?_; (conv => whnf); refine ⟨_, spec_rnew2 c (by omega) (by omega) (by omega), rfl, ?_⟩; conv => whnf); try (refine hcut.go ?_; conv => whnf))
  ((refine hcall_lend ?_; (conv => whnf); refine ⟨_, spec_sameR (new_fit hf) (by omega) (new_small c), rfl, ?_⟩; conv => whnf); try (refine hcut.go ?_; conv => whnf))
  ((refine hcall_own [(0, 920), (1, 921), (2, 922), (3, 923)]  ?_; (conv => whnf); refine ⟨_, _,  spec_own r (g1.fit (by omega)), ⟨⟨⟨rfl, rfl⟩, ⟨⟨rfl, rfl⟩, ⟨⟨rfl, rfl⟩, ⟨⟨rfl, rfl⟩, trivial⟩⟩⟩⟩, rfl, rfl, rfl⟩, ?_⟩; conv => whnf); try (refine hcut.go ?_; conv => whnf))
  ((refine hcall_lend ?_; (conv => whnf); refine ⟨_, spec_sameR g1 (by omega) g2, rfl, ?_⟩; conv => whnf); try (refine hcut.go ?_; conv => whnf))
  ((refine hcall_lend ?_; (conv => whnf); refine ⟨_, spec_held r (by omega) (by omega), rfl, ?_⟩; conv => whnf); try (refine hcut.go ?_; conv => whnf))
  ((refine hcall_lend ?_; (conv => whnf); refine ⟨_, spec_rheld r (by omega) (by omega), rfl, ?_⟩; conv => whnf); try (refine hcut.go ?_; conv => whnf))
  refine hif_true (by simp) ?_; conv => whnf
  ((refine hcall_own [(0, 930), (1, 931), (2, 932), (3, 933)]  ?_; (conv => whnf); refine ⟨_, _,  spec_data r x (g1.dfit (by omega) (by omega)), ⟨⟨⟨rfl, rfl⟩, ⟨⟨rfl, rfl⟩, ⟨⟨rfl, rfl⟩, ⟨⟨rfl, rfl⟩, trivial⟩⟩⟩⟩, rfl, rfl, rfl⟩, ?_⟩; conv => whnf); try (refine hcut.go ?_; conv => whnf))
  ((refine hcall_pure ?_; (conv => whnf); refine ⟨_, spec_rdata r x g1 (by omega) (by omega), rfl, ?_⟩; conv => whnf); try (refine hcut.go ?_; conv => whnf))
  ((refine hcall_lend ?_; (conv => whnf); refine ⟨_, spec_sameR hd (by omega) hsd, rfl, ?_⟩; conv => whnf); try (refine hcut.go ?_; conv => whnf))
  ((refine hcall_own [(0, 940), (1, 941), (2, 942), (3, 943)]  ?_; (conv => whnf); refine ⟨_, _,  spec_forward r x g1 (by omega) (by omega), ⟨⟨⟨rfl, rfl⟩, ⟨⟨rfl, rfl⟩, ⟨⟨rfl, rfl⟩, ⟨⟨rfl, rfl⟩, trivial⟩⟩⟩⟩, rfl, rfl, rfl⟩, ?_⟩; conv => whnf); try (refine hcut.go ?_; conv => whnf))
  ((refine hcall_pure ?_; (conv => whnf); refine ⟨_, spec_rforward r x g1 (by omega) (by omega), rfl, ?_⟩; conv => whnf); try (refine hcut.go ?_; conv => whnf))
  ((refine hcall_lend ?_; (conv => whnf); refine ⟨_, spec_sameR hw (by omega) hsw, rfl, ?_⟩; conv => whnf); try (refine hcut.go ?_; conv => whnf))
  ((refine hcall_own [(0, 950)]  ?_; (conv => whnf); refine ⟨_, _,  spec_sack r (by omega) (by omega) (by omega) hcb.1 hcb.2 (g1.spansB (by omega)), ⟨⟨⟨rfl, rfl⟩, trivial⟩, rfl, rfl, rfl⟩, ?_⟩; conv => whnf); try (refine hcut.go ?_; conv => whnf))
  ((refine hcall_pure ?_; (conv => whnf); refine ⟨_, spec_rtells r (by omega) (by omega) (by omega) hcb.1 hcb.2 (g1.spansB (by omega)), rfl, ?_⟩; conv => whnf); try (refine hcut.go ?_; conv => whnf))
  ((refine hcall_lend ?_; (conv => whnf); refine ⟨_, spec_same (tells r) (by simp [tells]; omega) (by simp [tells]), rfl, ?_⟩; conv => whnf); try (refine hcut.go ?_; conv => whnf))
  ((refine hdraw_intro ?_ ?_; (· kernel_rfl); conv => whnf); try (refine hcut.go ?_; conv => whnf))
  try rfl
theorem bulk_c (c : Chunk) : wt c ≤ bulkL c.row ∧ c.spans.length ≤ bulkL c.row := by
  have h1 := len_bulk (f := bRow) (fun x => by simp [bRow, bulkL, PV.bulk]) c.data
  have h2 := len_bulk (f := Span.row) (fun x => by simp [Span.row, bulkL, PV.bulk]) c.spans
  have h3 := len_bulk (f := Skip.row) (fun x => by simp [Skip.row, bulkL, PV.bulk]) c.skips
  unfold wt
  simp only [Chunk.row, bulkL, PV.bulk]; omega
theorem bulk_l (l : List Chunk) : wts l ≤ bulkR (l.map Chunk.row) ∧ l.length ≤ bulkR (l.map Chunk.row) :=
  ⟨sum_bulk (f := Chunk.row) (g := wt) (fun c => (bulk_c c).1) l, len_bulk (f := Chunk.row) (fun c => by have := (bulk_c c).1; unfold wt at this; omega) l⟩
theorem bulk_all {l : List Chunk} (h : bulkR (l.map Chunk.row) ≤ 1048576) : ∀ x ∈ l, Bulk x := fun x hx => by
  have h1 := mem_bulk (f := Chunk.row) hx
  have h2 := bulk_c x
  unfold wt at h2
  exact ⟨by omega, by omega⟩
theorem bulk_one {x : Chunk} (h : bulkL x.row ≤ 1048576) : Bulk x := by
  have h2 := bulk_c x
  unfold wt at h2
  exact ⟨by omega, by omega⟩
end Rcv
end Go.HL
