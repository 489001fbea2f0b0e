/- The law ReceiveTwice. -/
import Derived.Test.YticmofoeecjnhaaRecvT
namespace Go.HL
open Go.Proofs
namespace Rcv
open Srt Jn Ser
set_option maxHeartbeats 4000000
set_option maxRecDepth 100000
set_option linter.unusedSimpArgs false
theorem spec_newp (c : Config) (h1 : -9223372036854775808 < c.first) (h2 : c.first ≤ 9223372036854775807) (h3 : c.streams ≤ 1099511627776) : FunOK Try.prog 10 [c.hv] noHeap (newR c).hv noHeap := by
  refine funOK_freeze Try.func10 (spec_new c h1 h2 h3) ?_
  conv => whnf
  rfl
theorem spec_datap (r : Receiver) (c : Chunk) (hf : DFit r c) : FunOK Try.prog 15 [r.hv, c.hv] noHeap (data r c).hv noHeap := by
  refine funOK_freeze Try.func15 (spec_data r c hf) ?_
  generalize data r c = d
  conv => whnf
  rfl
theorem spec_forwardp (r : Receiver) (c : Chunk) {N : Nat} (h : RFit N r) (hN : N ≤ 2 ^ 20) (hc : c.skips.length ≤ 2 ^ 20) : FunOK Try.prog 17 [r.hv, c.hv] noHeap (forward r c).hv noHeap := by
  refine funOK_freeze Try.func17 (spec_forward r c h hN hc) ?_
  generalize forward r c = d
  conv => whnf
  rfl
theorem spec_sackp (r : Receiver) (h1 : r.spans.length < 2 ^ 40) (h2 : r.pieces.length < 2 ^ 40) (h3 : tot r.pieces < 2 ^ 60) (hc : -(2 ^ 60) ≤ r.cum) (hc2 : r.cum ≤ 2 ^ 60) (hsp : ∀ s ∈ r.spans, -(2 ^ 61) ≤ s.lo ∧ s.lo ≤ 2 ^ 61 ∧ -(2 ^ 61) ≤ s.hi ∧ s.hi ≤ 2 ^ 61) :
    FunOK Try.prog 20 [r.hv] noHeap (tells r).hv noHeap := by
  refine funOK_freeze Try.func20 (spec_sack r h1 h2 h3 hc hc2 hsp) ?_
  conv => whnf
  rfl
theorem spec_ownp (r : Receiver) (hr : Fit r) : FunOK Try.prog 12 [r.hv] noHeap r.hv noHeap := by
  refine funOK_freeze Try.func12 (spec_own r hr) ?_
  conv => whnf
  rfl
def cfg8 : Config := ⟨2, 4, 60, 1, 1, 5, 7⟩
def a8 : Chunk := ⟨1, 8, 0, 1, 0, true, true, [98], [], 0, []⟩
def a7 : Chunk := ⟨1, 7, 0, 0, 0, true, true, [97], [], 0, []⟩
def f7 : Chunk := ⟨3, 7, 0, 0, 0, false, false, [], [], 0, [⟨0, 0, true⟩]⟩
def r0 : Receiver := ⟨cfg8, 6, [], [], [0, 0], []⟩
def r1 : Receiver := ⟨cfg8, 6, [⟨8, 8⟩], [⟨8, a8⟩], [0, 0], []⟩
def r2 : Receiver := ⟨cfg8, 8, [], [], [2, 0], [⟨0, 0, true, [97]⟩, ⟨0, 1, true, [98]⟩]⟩
def r3 : Receiver := ⟨cfg8, 8, [], [], [2, 0], [⟨0, 1, true, [98]⟩]⟩
theorem new8 : newR cfg8 = r0 := by kernel_rfl
theorem data8 : data r0 a8 = r1 := by
  rw [data, if_pos ⟨rfl, by decide, by decide, by decide +kernel, by decide +kernel, .inr (by decide +kernel)⟩]
  kernel_rfl
theorem data7 : data r1 a7 = r2 := by
  rw [data, if_pos ⟨rfl, by decide, by decide, by decide +kernel, by decide +kernel, .inl (by decide +kernel)⟩]
  kernel_rfl
theorem fwd7 : forward r1 f7 = r3 := by kernel_rfl
theorem alive_gen {R0 R1 R2 R3 : Receiver} {S : Chunk} {u q : Arrival} (p0 : FunOK Try.prog 10 [cfg8.hv] noHeap R0.hv noHeap) (p1 : FunOK Try.prog 15 [R0.hv, a8.hv] noHeap R1.hv noHeap)
    (p2 : FunOK Try.prog 15 [R1.hv, a7.hv] noHeap R2.hv noHeap) (p3 : FunOK Try.prog 17 [R1.hv, f7.hv] noHeap R3.hv noHeap) (p4 : FunOK Try.prog 20 [R1.hv] noHeap S.hv noHeap)
    (p5 : FunOK Try.prog 12 [R2.hv] noHeap R2.hv noHeap) (p6 : FunOK Try.prog 13 [R1.hv] noHeap (i64 1) noHeap)
    (e1 : R1.log = []) (e2 : R2.log = [u, q]) (eq : q.data = [98]) (e3 : R2.cum = 8) (e4 : R3.log.length = 1) (e6 : S.tag = 6) (e7 : S.spans.length = 1) : FunOK Try.prog 22 [] noHeap (hbool true) noHeap := by
  refine funOK_pure mixed Try.func22 (by decide) ?_
  conv => whnf
  ((refine hcall_pure ?_; (conv => whnf); refine ⟨_, spec_config, rfl, ?_⟩; conv => whnf); try (refine hcut.go ?_; conv => whnf))
  ((refine hcall_pure ?_; (conv => whnf); refine ⟨_, p0, rfl, ?_⟩; conv => whnf); try (refine hcut.go ?_; conv => whnf))
  ((refine hobl_intro ?_ ?_; (· first | kernel_rfl | (first | omega | (simp only [List.length_map, List.length_append, List.length_take, List.length_drop, List.length_cons, List.length_nil] <;> omega) | (simp <;> omega))); conv => whnf); try (refine hcut.go ?_; conv => whnf))
  ((refine hcall_pure ?_; (conv => whnf); refine ⟨_, p1, rfl, ?_⟩; conv => whnf); try (refine hcut.go ?_; conv => whnf))
  ((refine hobl_intro ?_ ?_; (· first | kernel_rfl | (first | omega | (simp only [List.length_map, List.length_append, List.length_take, List.length_drop, List.length_cons, List.length_nil] <;> omega) | (simp <;> omega))); conv => whnf); try (refine hcut.go ?_; conv => whnf))
  ((refine hcall_pure ?_; (conv => whnf); refine ⟨_, p2, rfl, ?_⟩; conv => whnf); try (refine hcut.go ?_; conv => whnf))
  ((refine hcall_pure ?_; (conv => whnf); refine ⟨_, p3, rfl, ?_⟩; conv => whnf); try (refine hcut.go ?_; conv => whnf))
  ((refine hcall_pure ?_; (conv => whnf); refine ⟨_, p4, rfl, ?_⟩; conv => whnf); try (refine hcut.go ?_; conv => whnf))
  refine hif_true (by simp [e1]) ?_; conv => whnf
  refine hif_true (by simp [e2]) ?_; conv => whnf
  refine hrow_intro (r := q.row) (by decide) (by rw [e2]; rfl) ?_; conv => whnf
  refine hbytes_intro rfl ?_; conv => whnf
  refine hif_true (by rw [eq]; decide +kernel) ?_; conv => whnf
  refine hif_true (by simp [e3]) ?_; conv => whnf
  refine hif_true (by simp [e4]) ?_; conv => whnf
  ((refine hcall_lend ?_; (conv => whnf); refine ⟨_, p6, rfl, ?_⟩; conv => whnf); try (refine hcut.go ?_; conv => whnf))
  refine hif_true (by simp [e6]) ?_; conv => whnf
  refine hif_true (by simp [e7]) ?_; conv => whnf
  ((refine hcall_pure ?_; (conv => whnf); refine ⟨_, p5, rfl, ?_⟩; conv => whnf); try (refine hcut.go ?_; conv => whnf))
  rw [e2]
  try rfl
theorem spec_alive8 : FunOK Try.prog 22 [] noHeap (hbool true) noHeap := by
  have g0 : RFit 0 r0 := new8 ▸ new_fit (by decide)
  have g1 : RFit 2 r1 := data8 ▸ data_fit g0 (by decide) a8
  have g2 : RFit 4 r2 := data7 ▸ data_fit g1 (by decide) a7
  have p0 := spec_newp cfg8 (by decide) (by decide) (by decide)
  have p1 := spec_datap r0 a8 (g0.dfit (by decide) (by decide))
  have p2 := spec_datap r1 a7 (g1.dfit (by decide) (by decide))
  have p3 := spec_forwardp r1 f7 g1 (by decide) (by decide)
  have p4 := spec_sackp r1 (by decide) (by decide) (by decide) (by decide) (by decide) (g1.spansB (by decide))
  have p5 := spec_ownp r2 (g2.fit (by decide))
  rw [new8] at p0
  rw [data8] at p1
  rw [data7] at p2
  rw [fwd7] at p3
  exact alive_gen p0 p1 p2 p3 p4 p5 (spec_held r1 (by decide) (by decide)) rfl rfl rfl rfl rfl rfl rfl
theorem step_spec (x : Receiver) (y : Chunk) {N : Nat} (h : RFit N x) (hN : N ≤ 2 ^ 20) (h1 : y.data.length ≤ 2 ^ 20) (h2 : y.skips.length ≤ 2 ^ 20) :
    FunOK Try.prog (if y.kind = 3 then 17 else 15) [x.hv, y.hv] noHeap (step x y).hv noHeap := by
  unfold step
  split
  · exact spec_forwardp x y h hN h2
  · exact spec_datap x y (h.dfit hN h1)
/-- a chunk that comes again does nothing -/
theorem step_twice {N : Nat} {r : Receiver} (h : RFit N r) (hN : N ≤ 2 ^ 21) (c : Chunk) (hc : c.skips.length ≤ 2 ^ 21) : step (step r c) c = step r c ∧ r.cum ≤ (step r c).cum ∧ r.log <+: (step r c).log := by
  unfold step
  split
  · exact forward_twice h hN c hc
  · exact data_twice h hN c
def twSt (l : List Chunk) : (Receiver × List Chunk × List Chunk) → HS
  | (x, a, b) => hs 101 [(5, .ptr 5 0), (20, .p (.sl 11 (l.map Chunk.row))), (21, i64 l.length), (22, i64 a.length)] [(5, rcvL x)]
theorem twicelaw (c : Config) (l : List Chunk) (hl : wts l ≤ 2 ^ 20) (hb : ∀ x ∈ l, Bulk x) (hll : l.length < 2 ^ 40) : FunOK Try.prog 4 [c.hv, .p (.sl 11 (l.map Chunk.row))] noHeap (hbool true) noHeap := by
  refine funOK_pure mixed Try.func4 (by decide) ?_
  conv => whnf
  ((refine hcall_lend ?_; (conv => whnf); refine ⟨_, spec_alive8, rfl, ?_⟩; conv => whnf); try (refine hcut.go ?_; conv => whnf))
  ((refine hcall_lend ?_; (conv => whnf); refine ⟨_, spec_fine c, rfl, ?_⟩; conv => whnf); try (refine hcut.go ?_; conv => whnf))
  cases hf : fine c with
  | false =>
    conv => whnf
    repeat (refine hcut.go ?_; conv => whnf)
    try rfl
  | true =>
  obtain ⟨h1, h2, h3, h4⟩ := fine_iff.1 hf
  conv => whnf
  repeat (refine hcut.go ?_; conv => whnf)
  ((refine hcall_pure ?_; (conv => whnf); refine ⟨_, spec_newp c (by omega) (by omega) (by omega), rfl, ?_⟩; conv => whnf); try (refine hcut.go ?_; conv => whnf))
  refine ⟨{ x : Receiver × List Chunk × List Chunk // l = x.2.1 ++ x.2.2 ∧ RFit (wts x.2.1) x.1 ∧ Small x.1 }, fun x => twSt l x.1, fun x => x.1.2.2.length, ⟨(newR c, [], l), rfl, new_fit hf, new_small c⟩, ?_, ?_⟩
  · exact (hle_hs [(5, some 5)] rfl rfl rfl rfl (by repeat' (first | exact trivial | exact rfl | (refine ⟨⟨rfl, ?_⟩, ?_⟩) | (refine ⟨rfl, ?_⟩) | (simp; done) | (simp; rfl))) (by repeat' (first | exact trivial | exact rfl | exact .inl rfl | exact .inr rfl | (refine ⟨⟨rfl, .inl ⟨_, rfl, ?_⟩⟩, ?_⟩) | (refine ⟨⟨rfl, _, rfl, ?_⟩, ?_⟩) | (refine ⟨⟨rfl, .inr ⟨rfl, ?_⟩⟩, ?_⟩) | (refine ⟨rfl, ?_⟩) | (simp; done) | (simp; rfl))))
  rintro ⟨⟨x, a, b⟩, k1, k2, k3⟩
  dsimp only at k1 k2 k3
  refine hwp_gen fun Q hQ => ?_
  cases b with
  | nil =>
    have hz := zip_nil k1
    conv => whnf
    ((refine hif_false ?_ ?_; (· (first | rfl | assumption | omega | (simp only [gt_iff_lt, ge_iff_le, decide_eq_true_eq, decide_eq_false_iff_not, beq_iff_eq, bne_iff_ne, ne_eq, beq_eq_false_iff_ne, bne_eq_false_iff_eq, List.length_map, List.length_append, List.length_cons, List.length_nil, List.length_take, List.length_drop, Bool.not_eq_true', Bool.not_eq_false', Bool.not_eq_true, Bool.not_eq_false, Decidable.not_not, Nat.cast_ofNat, Int.natCast_add] <;> omega) | (simp <;> omega))); conv => whnf); try (refine hcut.go ?_; conv => whnf))
    refine hQ _ _ ?_; conv => whnf
    try rfl
  | cons y b =>
    have hz := zip_cons k1
    have hw : wts l = wts a + (wt y + wts b) := by rw [k1, wts_app, wts_cons]
    have hxl := k2.log
    have hwy : wt y = y.data.length + y.skips.length + 1 := rfl
    have next : RFit (wts (a ++ [y])) (step x y) := by
      rw [wts_app, wts_cons, show wts [] = 0 from rfl, Nat.add_zero]
      exact step_fit k2 (by omega) y (by omega)
    have snext : Small (step x y) := step_small k3 (hb y (zip_mem k1))
    obtain ⟨t1, t2, t3⟩ := step_twice k2 (by omega) y (by omega)
    obtain ⟨E, hE⟩ := t3
    have hlenE : (step x y).log.length = x.log.length + E.length := by rw [← hE]; simp
    have hsum : wts (a ++ [y]) ≤ 2 ^ 20 := by rw [wts_app, wts_cons, show wts [] = 0 from rfl]; omega
    have ps := spec_sameR next hsum snext
    have pd1 := step_spec x y k2 (by omega) (by omega) (by omega)
    have pd2 := step_spec (step x y) y next hsum (by omega) (by omega)
    rw [t1] at pd2
    generalize step x y = z at *
    conv => whnf
    ((refine hif_true ?_ ?_; (· (first | rfl | assumption | omega | (simp only [gt_iff_lt, ge_iff_le, decide_eq_true_eq, decide_eq_false_iff_not, beq_iff_eq, bne_iff_ne, ne_eq, beq_eq_false_iff_ne, bne_eq_false_iff_eq, List.length_map, List.length_append, List.length_cons, List.length_nil, List.length_take, List.length_drop, Bool.not_eq_true', Bool.not_eq_false', Bool.not_eq_true, Bool.not_eq_false, Decidable.not_not, Nat.cast_ofNat, Int.natCast_add] <;> omega) | (simp <;> omega))); conv => whnf); try (refine hcut.go ?_; conv => whnf))
    refine hrow_mid k1 rfl ?_; conv => whnf
    refine hcut.go ?_; conv => whnf
    by_cases c3 : y.kind = 3
    · rw [if_pos c3] at pd1 pd2
      refine hif_true (by simpa using c3) ?_; conv => whnf
      repeat (refine hcut.go ?_; conv => whnf)
      ((refine hcall_pure ?_; (conv => whnf); refine ⟨_, pd1, rfl, ?_⟩; conv => whnf); try (refine hcut.go ?_; conv => whnf))
      ((refine hcall_pure ?_; (conv => whnf); refine ⟨_, pd2, rfl, ?_⟩; conv => whnf); try (refine hcut.go ?_; conv => whnf))
      refine hif_false (by simp; omega) ?_; conv => whnf
      refine hif_false (by simp; omega) ?_; conv => whnf
      ((refine hcall_lend ?_; (conv => whnf); refine ⟨_, ps, rfl, ?_⟩; conv => whnf); try (refine hcut.go ?_; conv => whnf))
      repeat (refine hcut.go ?_; conv => whnf)
      refine ⟨{ w : List Arrival × List Arrival // x.log = w.1 ++ w.2 }, fun | ⟨(A, B), _⟩ => hs 101 [(5, .ptr 5 0), (10, .ptr 10 0), (20, .p (.sl 11 (l.map Chunk.row))), (21, i64 l.length), (22, i64 a.length), (64, i64 x.log.length), (65, i64 A.length)] [(5, rcvL x), (10, rcvL z)], fun w => w.1.2.length, ⟨([], x.log), rfl⟩, ?_, ?_⟩
      · exact (hle_hs [(5, some 5), (10, some 10)] rfl rfl rfl rfl (by repeat' (first | exact trivial | exact rfl | (refine ⟨⟨rfl, ?_⟩, ?_⟩) | (refine ⟨rfl, ?_⟩) | (simp; done) | (simp; rfl))) (by repeat' (first | exact trivial | exact rfl | exact .inl rfl | exact .inr rfl | (refine ⟨⟨rfl, .inl ⟨_, rfl, ?_⟩⟩, ?_⟩) | (refine ⟨⟨rfl, _, rfl, ?_⟩, ?_⟩) | (refine ⟨⟨rfl, .inr ⟨rfl, ?_⟩⟩, ?_⟩) | (refine ⟨rfl, ?_⟩) | (simp; done) | (simp; rfl))))
      rintro ⟨⟨A, B⟩, g⟩
      dsimp only at g
      refine hwp_gen fun Q2 hQ2 => ?_
      cases B with
      | nil =>
        have gz := zip_nil g
        conv => whnf
        ((refine hif_false ?_ ?_; (· (first | rfl | assumption | omega | (simp only [gt_iff_lt, ge_iff_le, decide_eq_true_eq, decide_eq_false_iff_not, beq_iff_eq, bne_iff_ne, ne_eq, beq_eq_false_iff_ne, bne_eq_false_iff_eq, List.length_map, List.length_append, List.length_cons, List.length_nil, List.length_take, List.length_drop, Bool.not_eq_true', Bool.not_eq_false', Bool.not_eq_true, Bool.not_eq_false, Decidable.not_not, Nat.cast_ofNat, Int.natCast_add] <;> omega) | (simp <;> omega))); conv => whnf); try (refine hcut.go ?_; conv => whnf))
        refine hQ2 _ _ ?_; conv => whnf
        ((refine hwrap_fit (W_fit ?_ ?_) ?_; (· (first | omega | (simp only [List.length_map, List.length_append, List.length_take, List.length_drop, List.length_cons, List.length_nil] <;> omega) | (simp <;> omega))); (· (first | omega | (simp only [List.length_map, List.length_append, List.length_take, List.length_drop, List.length_cons, List.length_nil] <;> omega) | (simp <;> omega))); conv => whnf); try (refine hcut.go ?_; conv => whnf))
        refine hQ _ _ ?_; conv => whnf
        exact ⟨⟨(z, a ++ [y], b), zip_next k1, next, snext⟩, (hle_hs [(5, some 5)] rfl rfl rfl rfl (by repeat' (first | exact trivial | exact rfl | (refine ⟨⟨rfl, ?_⟩, ?_⟩) | (refine ⟨rfl, ?_⟩) | (simp; done) | (simp; rfl))) (by repeat' (first | exact trivial | exact rfl | exact .inl rfl | exact .inr rfl | (refine ⟨⟨rfl, .inl ⟨_, rfl, ?_⟩⟩, ?_⟩) | (refine ⟨⟨rfl, _, rfl, ?_⟩, ?_⟩) | (refine ⟨⟨rfl, .inr ⟨rfl, ?_⟩⟩, ?_⟩) | (refine ⟨rfl, ?_⟩) | (simp; done) | (simp; rfl)))), by simp⟩
      | cons q B =>
        have gz := zip_cons g
        have g2 : z.log = A ++ q :: (B ++ E) := by rw [← hE, g]; simp
        conv => whnf
        ((refine hif_true ?_ ?_; (· (first | rfl | assumption | omega | (simp only [gt_iff_lt, ge_iff_le, decide_eq_true_eq, decide_eq_false_iff_not, beq_iff_eq, bne_iff_ne, ne_eq, beq_eq_false_iff_ne, bne_eq_false_iff_eq, List.length_map, List.length_append, List.length_cons, List.length_nil, List.length_take, List.length_drop, Bool.not_eq_true', Bool.not_eq_false', Bool.not_eq_true, Bool.not_eq_false, Decidable.not_not, Nat.cast_ofNat, Int.natCast_add] <;> omega) | (simp <;> omega))); conv => whnf); try (refine hcut.go ?_; conv => whnf))
        refine hrow_mid g2 rfl ?_; conv => whnf
        refine hbytes_intro rfl ?_; conv => whnf
        refine hrow_mid g rfl ?_; conv => whnf
        refine hbytes_intro rfl ?_; conv => whnf
        try (refine hif_false ?_ ?_; (· simp); conv => whnf)
        refine hrow_mid g2 rfl ?_; conv => whnf
        refine hrow_mid g rfl ?_; conv => whnf
        ((refine hdraw_intro ?_ ?_; (· kernel_rfl); conv => whnf); try (refine hcut.go ?_; conv => whnf))
        refine hif_false (by simp) ?_; conv => whnf
        ((refine hwrap_fit (W_fit ?_ ?_) ?_; (· (first | omega | (simp only [List.length_map, List.length_append, List.length_take, List.length_drop, List.length_cons, List.length_nil] <;> omega) | (simp <;> omega))); (· (first | omega | (simp only [List.length_map, List.length_append, List.length_take, List.length_drop, List.length_cons, List.length_nil] <;> omega) | (simp <;> omega))); conv => whnf); try (refine hcut.go ?_; conv => whnf))
        refine hQ2 _ _ ?_; conv => whnf
        exact ⟨⟨(A ++ [q], B), zip_next g⟩, (hle_hs [(5, some 5), (10, some 10)] rfl rfl rfl rfl (by repeat' (first | exact trivial | exact rfl | (refine ⟨⟨rfl, ?_⟩, ?_⟩) | (refine ⟨rfl, ?_⟩) | (simp; done) | (simp; rfl))) (by repeat' (first | exact trivial | exact rfl | exact .inl rfl | exact .inr rfl | (refine ⟨⟨rfl, .inl ⟨_, rfl, ?_⟩⟩, ?_⟩) | (refine ⟨⟨rfl, _, rfl, ?_⟩, ?_⟩) | (refine ⟨⟨rfl, .inr ⟨rfl, ?_⟩⟩, ?_⟩) | (refine ⟨rfl, ?_⟩) | (simp; done) | (simp; rfl)))), by simp⟩
    · rw [if_neg c3] at pd1 pd2
      refine hif_false (by simpa using c3) ?_; conv => whnf
      repeat (refine hcut.go ?_; conv => whnf)
      ((refine hcall_pure ?_; (conv => whnf); refine ⟨_, pd1, rfl, ?_⟩; conv => whnf); try (refine hcut.go ?_; conv => whnf))
      ((refine hcall_pure ?_; (conv => whnf); refine ⟨_, pd2, rfl, ?_⟩; conv => whnf); try (refine hcut.go ?_; conv => whnf))
      refine hif_false (by simp; omega) ?_; conv => whnf
      refine hif_false (by simp; omega) ?_; conv => whnf
      ((refine hcall_lend ?_; (conv => whnf); refine ⟨_, ps, rfl, ?_⟩; conv => whnf); try (refine hcut.go ?_; conv => whnf))
      repeat (refine hcut.go ?_; conv => whnf)
      refine ⟨{ w : List Arrival × List Arrival // x.log = w.1 ++ w.2 }, fun | ⟨(A, B), _⟩ => hs 101 [(5, .ptr 5 0), (10, .ptr 10 0), (20, .p (.sl 11 (l.map Chunk.row))), (21, i64 l.length), (22, i64 a.length), (64, i64 x.log.length), (65, i64 A.length)] [(5, rcvL x), (10, rcvL z)], fun w => w.1.2.length, ⟨([], x.log), rfl⟩, ?_, ?_⟩
      · exact (hle_hs [(5, some 5), (10, some 10)] rfl rfl rfl rfl (by repeat' (first | exact trivial | exact rfl | (refine ⟨⟨rfl, ?_⟩, ?_⟩) | (refine ⟨rfl, ?_⟩) | (simp; done) | (simp; rfl))) (by repeat' (first | exact trivial | exact rfl | exact .inl rfl | exact .inr rfl | (refine ⟨⟨rfl, .inl ⟨_, rfl, ?_⟩⟩, ?_⟩) | (refine ⟨⟨rfl, _, rfl, ?_⟩, ?_⟩) | (refine ⟨⟨rfl, .inr ⟨rfl, ?_⟩⟩, ?_⟩) | (refine ⟨rfl, ?_⟩) | (simp; done) | (simp; rfl))))
      rintro ⟨⟨A, B⟩, g⟩
      dsimp only at g
      refine hwp_gen fun Q2 hQ2 => ?_
      cases B with
      | nil =>
        have gz := zip_nil g
        conv => whnf
        ((refine hif_false ?_ ?_; (· (first | rfl | assumption | omega | (simp only [gt_iff_lt, ge_iff_le, decide_eq_true_eq, decide_eq_false_iff_not, beq_iff_eq, bne_iff_ne, ne_eq, beq_eq_false_iff_ne, bne_eq_false_iff_eq, List.length_map, List.length_append, List.length_cons, List.length_nil, List.length_take, List.length_drop, Bool.not_eq_true', Bool.not_eq_false', Bool.not_eq_true, Bool.not_eq_false, Decidable.not_not, Nat.cast_ofNat, Int.natCast_add] <;> omega) | (simp <;> omega))); conv => whnf); try (refine hcut.go ?_; conv => whnf))
        refine hQ2 _ _ ?_; conv => whnf
        ((refine hwrap_fit (W_fit ?_ ?_) ?_; (· (first | omega | (simp only [List.length_map, List.length_append, List.length_take, List.length_drop, List.length_cons, List.length_nil] <;> omega) | (simp <;> omega))); (· (first | omega | (simp only [List.length_map, List.length_append, List.length_take, List.length_drop, List.length_cons, List.length_nil] <;> omega) | (simp <;> omega))); conv => whnf); try (refine hcut.go ?_; conv => whnf))
        refine hQ _ _ ?_; conv => whnf
        exact ⟨⟨(z, a ++ [y], b), zip_next k1, next, snext⟩, (hle_hs [(5, some 5)] rfl rfl rfl rfl (by repeat' (first | exact trivial | exact rfl | (refine ⟨⟨rfl, ?_⟩, ?_⟩) | (refine ⟨rfl, ?_⟩) | (simp; done) | (simp; rfl))) (by repeat' (first | exact trivial | exact rfl | exact .inl rfl | exact .inr rfl | (refine ⟨⟨rfl, .inl ⟨_, rfl, ?_⟩⟩, ?_⟩) | (refine ⟨⟨rfl, _, rfl, ?_⟩, ?_⟩) | (refine ⟨⟨rfl, .inr ⟨rfl, ?_⟩⟩, ?_⟩) | (refine ⟨rfl, ?_⟩) | (simp; done) | (simp; rfl)))), by simp⟩
      | cons q B =>
        have gz := zip_cons g
        have g2 : z.log = A ++ q :: (B ++ E) := by rw [← hE, g]; simp
        conv => whnf
        ((refine hif_true ?_ ?_; (· (first | rfl | assumption | omega | (simp only [gt_iff_lt, ge_iff_le, decide_eq_true_eq, decide_eq_false_iff_not, beq_iff_eq, bne_iff_ne, ne_eq, beq_eq_false_iff_ne, bne_eq_false_iff_eq, List.length_map, List.length_append, List.length_cons, List.length_nil, List.length_take, List.length_drop, Bool.not_eq_true', Bool.not_eq_false', Bool.not_eq_true, Bool.not_eq_false, Decidable.not_not, Nat.cast_ofNat, Int.natCast_add] <;> omega) | (simp <;> omega))); conv => whnf); try (refine hcut.go ?_; conv => whnf))
        refine hrow_mid g2 rfl ?_; conv => whnf
        refine hbytes_intro rfl ?_; conv => whnf
        refine hrow_mid g rfl ?_; conv => whnf
        refine hbytes_intro rfl ?_; conv => whnf
        try (refine hif_false ?_ ?_; (· simp); conv => whnf)
        refine hrow_mid g2 rfl ?_; conv => whnf
        refine hrow_mid g rfl ?_; conv => whnf
        ((refine hdraw_intro ?_ ?_; (· kernel_rfl); conv => whnf); try (refine hcut.go ?_; conv => whnf))
        refine hif_false (by simp) ?_; conv => whnf
        ((refine hwrap_fit (W_fit ?_ ?_) ?_; (· (first | omega | (simp only [List.length_map, List.length_append, List.length_take, List.length_drop, List.length_cons, List.length_nil] <;> omega) | (simp <;> omega))); (· (first | omega | (simp only [List.length_map, List.length_append, List.length_take, List.length_drop, List.length_cons, List.length_nil] <;> omega) | (simp <;> omega))); conv => whnf); try (refine hcut.go ?_; conv => whnf))
        refine hQ2 _ _ ?_; conv => whnf
        exact ⟨⟨(A ++ [q], B), zip_next g⟩, (hle_hs [(5, some 5), (10, some 10)] rfl rfl rfl rfl (by repeat' (first | exact trivial | exact rfl | (refine ⟨⟨rfl, ?_⟩, ?_⟩) | (refine ⟨rfl, ?_⟩) | (simp; done) | (simp; rfl))) (by repeat' (first | exact trivial | exact rfl | exact .inl rfl | exact .inr rfl | (refine ⟨⟨rfl, .inl ⟨_, rfl, ?_⟩⟩, ?_⟩) | (refine ⟨⟨rfl, _, rfl, ?_⟩, ?_⟩) | (refine ⟨⟨rfl, .inr ⟨rfl, ?_⟩⟩, ?_⟩) | (refine ⟨rfl, ?_⟩) | (simp; done) | (simp; rfl)))), by simp⟩
end Rcv
end Go.HL
