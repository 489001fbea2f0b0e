/- The receiver: the document's Forward. -/
import Derived.Test.YticmofoeecjnhaaRecv7
namespace Go.HL
open Go.Proofs
namespace Rcv
open Srt Jn Ser
set_option maxHeartbeats 4000000
set_option maxRecDepth 100000
set_option linter.unusedSimpArgs false
theorem pass_rdlv {r : Receiver} {k : Nat} {t : Int} (h : r.turn[k]?.getD 0 = t) : pass r k = bump (rdlv r k (tag t) true true).1 k := by
  subst h
  unfold pass rdlv
  cases hd : (dlv r k (tag (r.turn[k]?.getD 0)) true).2 with
  | true => rfl
  | false => rw [dlv_no hd]; rfl
theorem rdlv_turn (r : Receiver) (s m : Int) (o any : Bool) : (rdlv r s m o any).1.turn = r.turn := by
  unfold rdlv
  split
  · exact (dlv_keeps r s m o).1
  · split <;> rfl
theorem spec_rdlvT (r : Receiver) (s m z : Int) (hz : z = m) (h2 : r.pieces.length < 2 ^ 22) (h3 : tot r.pieces < 2 ^ 22) (h4 : r.log.length < 2 ^ 38) :
    FunOK Try.prog 46 [r.hv, (Chunk.mk 0 0 s z 0 false true [] [] 0 []).hv, hbool true] noHeap (.tup [(rdlv r s m true true).1.hv, hbool (rdlv r s m true true).2]) noHeap := by
  subst hz
  exact spec_rdeliver r (Chunk.mk 0 0 s z 0 false true [] [] 0 []) true h2 h3 h4
/-- the inner loop's states -/
def fwIn (k : Nat) (n : Int) (T : Receiver) (y : Bool × Receiver × Int) : Prop := TFit y.2.1 k ∧ y.2.1.turn[k]?.getD 0 = y.2.2 ∧ y.2.2 ≤ 2 ^ 58 ∧ turns (upto y.2.1 k n) k = T ∧ y.2.1.turn.length < 2 ^ 30
def fwSt (c : Chunk) (s : Skip) (L : Nat) (n : Int) : Bool × Receiver × Int → HS
  | (false, y, m) => hs 118 [(2, .ptr 2 0), (4, .ptr 4 0), (7, .ptr 7 0), (10, i64 n), (11, i64 m), (37, .p (.sl 3 (c.skips.map Skip.row))), (38, i64 c.skips.length), (39, i64 L)] [(2, .live (.cells 35 (rcvC y (spans y.spans) (pieces y.pieces) (rints y.turn) (arrs y.log)))), (4, .live (.cells 35 zeroR)), (7, .live (.cells 100 [i64 s.stream, i64 s.mid, hbool s.ordered]))]
  | (true, y, m) => hs 118 [(2, .ptr 2 0), (4, .ptr 4 0), (7, .ptr 7 0), (10, i64 n), (11, i64 m), (37, .p (.sl 3 (c.skips.map Skip.row))), (38, i64 c.skips.length), (39, i64 L)] [(2, .live (.cells 35 (rcvC y (spans y.spans) (pieces y.pieces) (.own 900) (arrs y.log)))), (4, .live (.cells 35 zeroR)), (7, .live (.cells 100 [i64 s.stream, i64 s.mid, hbool s.ordered])), (900, rowT y.turn)]
def fwOut (c : Chunk) (L : Nat) (x : Receiver) : HS := hs 118 [(2, .ptr 2 0), (4, .ptr 4 0), (37, .p (.sl 3 (c.skips.map Skip.row))), (38, i64 c.skips.length), (39, i64 L)] [(2, .live (.cells 35 (rcvC x (spans x.spans) (pieces x.pieces) (rints x.turn) (arrs x.log)))), (4, .live (.cells 35 zeroR))]
theorem spec_rforward (r : Receiver) (c : Chunk) {N : Nat} (h : RFit N r) (hN : N ≤ 2 ^ 20) (hc : c.skips.length ≤ 2 ^ 20) : FunOK Try.prog 18 [r.hv, c.hv] noHeap (forward r c).hv noHeap := by
  have hfit := h.fit hN
  have h4 := h.rise
  have h6 := h.his
  have h7 := h.cum1
  have h8 := h.cum2
  obtain ⟨n1, n2, n3⟩ := near_lo (a := r.cum) (t := c.tag) (by omega) (by omega)
  generalize hD : forward r c = D
  refine funOK_pure mixed Try.func18 (by decide) ?_
  conv => whnf
  ((refine hcall_lend ?_; (conv => whnf); refine ⟨_, spec_rnear r.cum c.tag (by omega) (by omega), rfl, ?_⟩; conv => whnf); try (refine hcut.go ?_; conv => whnf))
  by_cases c1 : c.kind = 3
  case neg =>
    obtain rfl : r = D := by rw [← hD, forward, if_pos (.inl c1)]
    refine hif_true (by simpa using c1) ?_; conv => whnf
    repeat (refine hcut.go ?_; conv => whnf)
    try rfl
  refine hif_false (by simp [c1]) ?_; conv => whnf
  by_cases c2 : near r.cum c.tag ≤ r.cum
  · obtain rfl : r = D := by rw [← hD, forward, if_pos (.inr c2)]
    refine hif_true (by simpa using c2) ?_; conv => whnf
    repeat (refine hcut.go ?_; conv => whnf)
    try rfl
  refine hif_false (by simpa using c2) ?_; conv => whnf
  repeat (refine hcut.go ?_; conv => whnf)
  have hw := h.up (by omega) (n := near r.cum c.tag) (by omega) (by omega)
  have e : c.skips.foldl skip1 (at_up r (near r.cum c.tag)) = D := by rw [← hD, forward, if_neg (by simp [c1]; omega)]; rfl
  ((refine hcall_pure ?_; (conv => whnf); refine ⟨_, spec_rup2 r.spans (near r.cum c.tag) h4 (fun s hs => by have := h6 s hs; omega) (by have := hfit.spans; omega) (by omega) (by omega), rfl, ?_⟩; conv => whnf); try (refine hcut.go ?_; conv => whnf))
  refine ⟨{ x : Receiver × List Skip × List Skip // c.skips = x.2.1 ++ x.2.2 ∧ RFit (N + 1 + x.2.1.length) x.1 ∧ x.2.2.foldl skip1 x.1 = D }, fun x => fwOut c x.1.2.1.length x.1.1, fun x => x.1.2.2.length, ⟨(at_up r (near r.cum c.tag), [], c.skips), rfl, hw, e⟩, ?_, ?_⟩
  · exact (hle_hs [(2, some 2), (4, some 4)] rfl rfl rfl rfl (by repeat' (first | exact trivial | exact rfl | (refine ⟨⟨rfl, ?_⟩, ?_⟩) | (refine ⟨rfl, ?_⟩) | (simp; done) | (simp; rfl))) (by repeat' (first | exact trivial | exact rfl | exact .inl rfl | exact .inr rfl | (refine ⟨⟨rfl, .inl ⟨_, rfl, ?_⟩⟩, ?_⟩) | (refine ⟨⟨rfl, _, rfl, ?_⟩, ?_⟩) | (refine ⟨⟨rfl, .inr ⟨rfl, ?_⟩⟩, ?_⟩) | (refine ⟨rfl, ?_⟩) | (simp; done) | (simp; rfl))))
  rintro ⟨⟨x, a, b⟩, h1, h2, h3⟩
  dsimp only at h1 h2 h3
  refine hwp_gen fun Q0 hQ0 => ?_
  conv => whnf
  cases b with
  | nil =>
    have hz := zip_nil h1
    have h3 : x = D := h3
    subst h3
    ((refine hif_false ?_ ?_; (· (first | rfl | assumption | omega | (simp only [gt_iff_lt, ge_iff_le, decide_eq_true_eq, decide_eq_false_iff_not, beq_iff_eq, bne_iff_ne, ne_eq, beq_eq_false_iff_ne, bne_eq_false_iff_eq, List.length_map, List.length_append, List.length_cons, List.length_nil, List.length_take, List.length_drop, Bool.not_eq_true', Bool.not_eq_false', Bool.not_eq_true, Bool.not_eq_false, Decidable.not_not, Nat.cast_ofNat, Int.natCast_add] <;> omega) | (simp <;> omega))); conv => whnf); try (refine hcut.go ?_; conv => whnf))
    refine hQ0 _ _ ?_; conv => whnf
    try rfl
  | cons s b =>
    have hz := zip_cons h1
    have hsf := h2.sfit (by omega)
    obtain ⟨f1, f2, f3, f4, f5⟩ := hsf
    have next : RFit (N + 1 + (a ++ [s]).length) (skip1 x s) := by have := h2.skip (by omega) s; simpa [Nat.add_assoc] using this
    have h2h := h2.hi
    have h2l := h2.lo
    have h2s := h2.streams
    have h3 : b.foldl skip1 (skip1 x s) = D := h3
    generalize hT : skip1 x s = T at next h3
    ((refine hif_true ?_ ?_; (· (first | rfl | assumption | omega | (simp only [gt_iff_lt, ge_iff_le, decide_eq_true_eq, decide_eq_false_iff_not, beq_iff_eq, bne_iff_ne, ne_eq, beq_eq_false_iff_ne, bne_eq_false_iff_eq, List.length_map, List.length_append, List.length_cons, List.length_nil, List.length_take, List.length_drop, Bool.not_eq_true', Bool.not_eq_false', Bool.not_eq_true, Bool.not_eq_false, Decidable.not_not, Nat.cast_ofNat, Int.natCast_add] <;> omega) | (simp <;> omega))); conv => whnf); try (refine hcut.go ?_; conv => whnf))
    refine hrow_mid h1 rfl ?_; conv => whnf
    by_cases c3 : s.stream < 0
    · rw [skip1, if_pos (.inl c3)] at hT
      subst hT
      refine hif_true (by simpa using c3) ?_; conv => whnf
      repeat (refine hcut.go ?_; conv => whnf)
      ((refine hwrap_fit (W_fit ?_ ?_) ?_; (· (first | omega | (simp only [List.length_map, List.length_append, List.length_take, List.length_drop, List.length_cons, List.length_nil] <;> omega) | (simp <;> omega))); (· (first | omega | (simp only [List.length_map, List.length_append, List.length_take, List.length_drop, List.length_cons, List.length_nil] <;> omega) | (simp <;> omega))); conv => whnf); try (refine hcut.go ?_; conv => whnf))
      refine hQ0 _ _ ?_; conv => whnf
      exact ⟨⟨(x, a ++ [s], b), zip_next h1, next, h3⟩, (hle_hs [(2, some 2), (4, some 4)] rfl rfl rfl rfl (by repeat' (first | exact trivial | exact rfl | (refine ⟨⟨rfl, ?_⟩, ?_⟩) | (refine ⟨rfl, ?_⟩) | (simp; done) | (simp; rfl))) (by repeat' (first | exact trivial | exact rfl | exact .inl rfl | exact .inr rfl | (refine ⟨⟨rfl, .inl ⟨_, rfl, ?_⟩⟩, ?_⟩) | (refine ⟨⟨rfl, _, rfl, ?_⟩, ?_⟩) | (refine ⟨⟨rfl, .inr ⟨rfl, ?_⟩⟩, ?_⟩) | (refine ⟨rfl, ?_⟩) | (simp; done) | (simp; rfl)))), by simp⟩
    refine hif_false (by simpa using c3) ?_; conv => whnf
    by_cases c4 : (x.turn.length : Int) ≤ s.stream
    · rw [skip1, if_pos (.inr c4)] at hT
      subst hT
      refine hif_true (by simpa using c4) ?_; conv => whnf
      repeat (refine hcut.go ?_; conv => whnf)
      ((refine hwrap_fit (W_fit ?_ ?_) ?_; (· (first | omega | (simp only [List.length_map, List.length_append, List.length_take, List.length_drop, List.length_cons, List.length_nil] <;> omega) | (simp <;> omega))); (· (first | omega | (simp only [List.length_map, List.length_append, List.length_take, List.length_drop, List.length_cons, List.length_nil] <;> omega) | (simp <;> omega))); conv => whnf); try (refine hcut.go ?_; conv => whnf))
      refine hQ0 _ _ ?_; conv => whnf
      exact ⟨⟨(x, a ++ [s], b), zip_next h1, next, h3⟩, (hle_hs [(2, some 2), (4, some 4)] rfl rfl rfl rfl (by repeat' (first | exact trivial | exact rfl | (refine ⟨⟨rfl, ?_⟩, ?_⟩) | (refine ⟨rfl, ?_⟩) | (simp; done) | (simp; rfl))) (by repeat' (first | exact trivial | exact rfl | exact .inl rfl | exact .inr rfl | (refine ⟨⟨rfl, .inl ⟨_, rfl, ?_⟩⟩, ?_⟩) | (refine ⟨⟨rfl, _, rfl, ?_⟩, ?_⟩) | (refine ⟨⟨rfl, .inr ⟨rfl, ?_⟩⟩, ?_⟩) | (refine ⟨rfl, ?_⟩) | (simp; done) | (simp; rfl)))), by simp⟩
    refine hif_false (by simpa using c4) ?_; conv => whnf
    repeat (refine hcut.go ?_; conv => whnf)
    refine hif_intro (fun ho => ?_) (fun ho => ?_)
    · have ho : s.ordered = false := by simpa using ho
      rw [skip1, if_neg (by omega), if_pos ho] at hT
      conv => whnf
      repeat (refine hcut.go ?_; conv => whnf)
      ((refine hcall_pure ?_; (conv => whnf); refine ⟨_, spec_apart x.pieces (Chunk.mk 0 0 s.stream s.mid 0 false false [] [] 0 []) (by omega), rfl, ?_⟩; conv => whnf); try (refine hcut.go ?_; conv => whnf))
      subst hT
      ((refine hwrap_fit (W_fit ?_ ?_) ?_; (· (first | omega | (simp only [List.length_map, List.length_append, List.length_take, List.length_drop, List.length_cons, List.length_nil] <;> omega) | (simp <;> omega))); (· (first | omega | (simp only [List.length_map, List.length_append, List.length_take, List.length_drop, List.length_cons, List.length_nil] <;> omega) | (simp <;> omega))); conv => whnf); try (refine hcut.go ?_; conv => whnf))
      refine hQ0 _ _ ?_; conv => whnf
      exact ⟨⟨(dropR x s.stream s.mid false, a ++ [s], b), zip_next h1, next, h3⟩, (hle_hs [(2, some 2), (4, some 4)] rfl rfl rfl rfl (by repeat' (first | exact trivial | exact rfl | (refine ⟨⟨rfl, ?_⟩, ?_⟩) | (refine ⟨rfl, ?_⟩) | (simp; done) | (simp; rfl))) (by repeat' (first | exact trivial | exact rfl | exact .inl rfl | exact .inr rfl | (refine ⟨⟨rfl, .inl ⟨_, rfl, ?_⟩⟩, ?_⟩) | (refine ⟨⟨rfl, _, rfl, ?_⟩, ?_⟩) | (refine ⟨⟨rfl, .inr ⟨rfl, ?_⟩⟩, ?_⟩) | (refine ⟨rfl, ?_⟩) | (simp; done) | (simp; rfl)))), by simp⟩
    have ho : s.ordered = true := by simpa using ho
    rw [skip1, if_neg (by omega), if_neg (by rw [ho]; decide)] at hT
    obtain ⟨k, hk⟩ : ∃ k : Nat, s.stream = k := ⟨s.stream.toNat, by omega⟩
    have hkl : k < x.turn.length := by omega
    have hg : x.turn[k]?.getD 0 = x.turn[k] := by simp [hkl]
    have b1 := h2l _ (List.getElem_mem hkl)
    have b2 := h2h _ (List.getElem_mem hkl)
    have b3 := f5 _ (List.getElem_mem hkl)
    rw [show s.stream.toNat = k by omega, hg] at hT
    conv => whnf
    repeat (refine hcut.go ?_; conv => whnf)
    refine hrow_at k (by omega) hkl ?_; conv => whnf
    ((refine hcall_lend ?_; (conv => whnf); refine ⟨_, spec_rnear x.turn[k] s.mid (by omega) (by omega), rfl, ?_⟩; conv => whnf); try (refine hcut.go ?_; conv => whnf))
    ((refine hdraw_intro ?_ ?_; (· kernel_rfl); conv => whnf); try (refine hcut.go ?_; conv => whnf))
    obtain ⟨m1, m2, m3⟩ := near_lo (a := x.turn[k]) (t := s.mid) (by omega) (by omega)
    generalize near x.turn[k] s.mid = n at hT m1 m2 m3 ⊢
    refine hrow_at k (by omega) hkl ?_; conv => whnf
    have start : fwIn k n T (false, x, x.turn[k]) := ⟨⟨f1, f2, f3, hkl, by show _ < x.turn[k]?.getD 0; rw [hg]; omega, by show x.turn[k]?.getD 0 + (x.pieces.length : Int) < _; rw [hg]; omega⟩, hg, by dsimp only; omega, hT, h2s⟩
    refine ⟨{ y : Bool × Receiver × Int // fwIn k n T y }, fun y => fwSt c s a.length n y.1, fun y => (n + 1 - y.1.2.2).toNat, ⟨(false, x, x.turn[k]), start⟩, ?_, ?_⟩
    · exact (hle_hs [(2, some 2), (4, some 4), (7, some 7)] rfl rfl rfl rfl (by repeat' (first | exact trivial | exact rfl | (refine ⟨⟨rfl, ?_⟩, ?_⟩) | (refine ⟨rfl, ?_⟩) | (simp; done) | (simp; rfl))) (by repeat' (first | exact trivial | exact rfl | exact .inl rfl | exact .inr rfl | (refine ⟨⟨rfl, .inl ⟨_, rfl, ?_⟩⟩, ?_⟩) | (refine ⟨⟨rfl, _, rfl, ?_⟩, ?_⟩) | (refine ⟨⟨rfl, .inr ⟨rfl, ?_⟩⟩, ?_⟩) | (refine ⟨rfl, ?_⟩) | (simp; done) | (simp; rfl))))
    rintro ⟨⟨bb, y, m⟩, ⟨g1, g2, g3, g4, g5, g6⟩, gm, g7, he, g9⟩
    dsimp only at g1 g2 g3 g4 g5 g6 gm g7 he g9
    rw [gm] at g5 g6
    refine hwp_gen fun Q hQ => ?_
    cases bb with
    | false =>
      conv => whnf
      by_cases c5 : m ≤ n
      · rw [upto_step g4 (by rw [gm]; exact c5)] at he
        obtain ⟨k1, k2, k3, k4, k5, k6, k7⟩ := pass_keeps y k
        have hgt : (pass y k).turn[k]?.getD 0 = m + 1 := by rw [k1, List.getElem?_set_self g4, gm]; rfl
        have nx : TFit (pass y k) k ∧ (pass y k).turn[k]?.getD 0 = m + 1 ∧ m + 1 ≤ 2 ^ 58 ∧ turns (upto (pass y k) k n) k = T ∧ (pass y k).turn.length < 2 ^ 30 := ⟨⟨by omega, by omega, by omega, by rw [k1, List.length_set]; exact g4, by rw [hgt]; omega, by rw [hgt]; omega⟩, hgt, by omega, he, by rw [k1, List.length_set]; exact g9⟩
        have hpas := pass_rdlv (r := y) (k := k) gm
        have hrt := rdlv_turn y k (tag m) true true
        ((refine hif_true ?_ ?_; (· (first | rfl | assumption | omega | (simp only [gt_iff_lt, ge_iff_le, decide_eq_true_eq, decide_eq_false_iff_not, beq_iff_eq, bne_iff_ne, ne_eq, beq_eq_false_iff_ne, bne_eq_false_iff_eq, List.length_map, List.length_append, List.length_cons, List.length_nil, List.length_take, List.length_drop, Bool.not_eq_true', Bool.not_eq_false', Bool.not_eq_true, Bool.not_eq_false, Decidable.not_not, Nat.cast_ofNat, Int.natCast_add] <;> omega) | (simp <;> omega))); conv => whnf); try (refine hcut.go ?_; conv => whnf))
        ((refine hcall_lend ?_; (conv => whnf); refine ⟨_, spec_rtag m, rfl, ?_⟩; conv => whnf); try (refine hcut.go ?_; conv => whnf))
        rw [← hk] at hpas hrt
        ((refine hcall_pure ?_; (conv => whnf); refine ⟨_, spec_rdlvT y s.stream (tag m) (tag m) rfl (by omega) (by omega) (by omega), rfl, ?_⟩; conv => whnf); try (refine hcut.go ?_; conv => whnf))
        generalize rdlv y s.stream (tag m) true true = D' at hpas hrt ⊢
        obtain ⟨w, okk⟩ := D'
        dsimp only at hpas hrt
        have hwl : k < w.turn.length := by rw [hrt]; exact g4
        ((refine hdraw_intro ?_ ?_; (· kernel_rfl); conv => whnf); try (refine hcut.go ?_; conv => whnf))
        refine hobl_intro (c := (([] : List (List PV)).length + (w.turn.map fun n => [pi n]).length) * 8 ≤ 140737488355328) (by rw [List.length_map, hrt]; simp; omega) ?_; conv => whnf
        repeat (refine hcut.go ?_; conv => whnf)
        ((refine hwrap_fit (W_fit ?_ ?_) ?_; (· (first | omega | (simp only [List.length_map, List.length_append, List.length_take, List.length_drop, List.length_cons, List.length_nil] <;> omega) | (simp <;> omega))); (· (first | omega | (simp only [List.length_map, List.length_append, List.length_take, List.length_drop, List.length_cons, List.length_nil] <;> omega) | (simp <;> omega))); conv => whnf); try (refine hcut.go ?_; conv => whnf))
        ((refine hobl_intro ?_ ?_; (· (first | omega | (simp only [List.length_map, List.length_append, List.length_take, List.length_drop, List.length_cons, List.length_nil] <;> omega) | (simp <;> omega))); conv => whnf); try (refine hcut.go ?_; conv => whnf))
        refine hrow_at k (by omega) hwl ?_; conv => whnf
        ((refine hwrap_fit (W_fit ?_ ?_) ?_; (· (first | omega | (simp only [List.length_map, List.length_append, List.length_take, List.length_drop, List.length_cons, List.length_nil] <;> omega) | (simp <;> omega))); (· (first | omega | (simp only [List.length_map, List.length_append, List.length_take, List.length_drop, List.length_cons, List.length_nil] <;> omega) | (simp <;> omega))); conv => whnf); try (refine hcut.go ?_; conv => whnf))
        rw [hpas] at nx
        refine hQ _ _ ?_; conv => whnf
        have nx : fwIn k n T (true, bump w k, m + 1) := nx
        exact ⟨⟨(true, bump w k, m + 1), nx⟩, (hle_hs [(2, some 2), (4, some 4), (7, some 7), (900, some 103)] rfl rfl rfl rfl (by repeat' (first | exact trivial | exact rfl | (refine ⟨⟨rfl, ?_⟩, ?_⟩) | (refine ⟨rfl, ?_⟩) | ((refine row_eqs ?_; show _ = (w.turn.set k (w.turn[k]?.getD 0 + 1)).map _; rw [List.map_set, show (w.turn[k]?.getD 0) = m by rw [hrt, gm]]; (try rw [hk]); (try rfl))) | (simp; done) | (simp; rfl))) (by repeat' (first | exact trivial | exact rfl | exact .inl rfl | exact .inr rfl | (refine ⟨⟨rfl, .inl ⟨_, rfl, ?_⟩⟩, ?_⟩) | (refine ⟨⟨rfl, _, rfl, ?_⟩, ?_⟩) | (refine ⟨⟨rfl, .inr ⟨rfl, ?_⟩⟩, ?_⟩) | (refine ⟨rfl, ?_⟩) | ((refine row_eqs ?_; show _ = (w.turn.set k (w.turn[k]?.getD 0 + 1)).map _; rw [List.map_set, show (w.turn[k]?.getD 0) = m by rw [hrt, gm]]; (try rw [hk]); (try rfl))) | (simp; done) | (simp; rfl)))), by dsimp only; omega⟩
      · rw [upto_end (by rw [gm]; omega)] at he
        subst he
        ((refine hif_false ?_ ?_; (· (first | rfl | assumption | omega | (simp only [gt_iff_lt, ge_iff_le, decide_eq_true_eq, decide_eq_false_iff_not, beq_iff_eq, bne_iff_ne, ne_eq, beq_eq_false_iff_ne, bne_eq_false_iff_eq, List.length_map, List.length_append, List.length_cons, List.length_nil, List.length_take, List.length_drop, Bool.not_eq_true', Bool.not_eq_false', Bool.not_eq_true, Bool.not_eq_false, Decidable.not_not, Nat.cast_ofNat, Int.natCast_add] <;> omega) | (simp <;> omega))); conv => whnf); try (refine hcut.go ?_; conv => whnf))
        refine hQ _ _ ?_; conv => whnf
        ((refine hcall_pure ?_; (conv => whnf); refine ⟨_, spec_rturns_rows y k _ hk rfl ⟨g1, g2, g3, g4, by rw [gm]; omega, by rw [gm]; omega⟩ g9, rfl, ?_⟩; conv => whnf); try (refine hcut.go ?_; conv => whnf))
        ((refine hwrap_fit (W_fit ?_ ?_) ?_; (· (first | omega | (simp only [List.length_map, List.length_append, List.length_take, List.length_drop, List.length_cons, List.length_nil] <;> omega) | (simp <;> omega))); (· (first | omega | (simp only [List.length_map, List.length_append, List.length_take, List.length_drop, List.length_cons, List.length_nil] <;> omega) | (simp <;> omega))); conv => whnf); try (refine hcut.go ?_; conv => whnf))
        refine hQ0 _ _ ?_; conv => whnf
        exact ⟨⟨(turns y k, a ++ [s], b), zip_next h1, next, h3⟩, (hle_hs [(2, some 2), (4, some 4)] rfl rfl rfl rfl (by repeat' (first | exact trivial | exact rfl | (refine ⟨⟨rfl, ?_⟩, ?_⟩) | (refine ⟨rfl, ?_⟩) | (simp; done) | (simp; rfl))) (by repeat' (first | exact trivial | exact rfl | exact .inl rfl | exact .inr rfl | (refine ⟨⟨rfl, .inl ⟨_, rfl, ?_⟩⟩, ?_⟩) | (refine ⟨⟨rfl, _, rfl, ?_⟩, ?_⟩) | (refine ⟨⟨rfl, .inr ⟨rfl, ?_⟩⟩, ?_⟩) | (refine ⟨rfl, ?_⟩) | (simp; done) | (simp; rfl)))), by simp⟩
    | true =>
      conv => whnf
      by_cases c5 : m ≤ n
      · rw [upto_step g4 (by rw [gm]; exact c5)] at he
        obtain ⟨k1, k2, k3, k4, k5, k6, k7⟩ := pass_keeps y k
        have hgt : (pass y k).turn[k]?.getD 0 = m + 1 := by rw [k1, List.getElem?_set_self g4, gm]; rfl
        have nx : TFit (pass y k) k ∧ (pass y k).turn[k]?.getD 0 = m + 1 ∧ m + 1 ≤ 2 ^ 58 ∧ turns (upto (pass y k) k n) k = T ∧ (pass y k).turn.length < 2 ^ 30 := ⟨⟨by omega, by omega, by omega, by rw [k1, List.length_set]; exact g4, by rw [hgt]; omega, by rw [hgt]; omega⟩, hgt, by omega, he, by rw [k1, List.length_set]; exact g9⟩
        have hpas := pass_rdlv (r := y) (k := k) gm
        have hrt := rdlv_turn y k (tag m) true true
        ((refine hif_true ?_ ?_; (· (first | rfl | assumption | omega | (simp only [gt_iff_lt, ge_iff_le, decide_eq_true_eq, decide_eq_false_iff_not, beq_iff_eq, bne_iff_ne, ne_eq, beq_eq_false_iff_ne, bne_eq_false_iff_eq, List.length_map, List.length_append, List.length_cons, List.length_nil, List.length_take, List.length_drop, Bool.not_eq_true', Bool.not_eq_false', Bool.not_eq_true, Bool.not_eq_false, Decidable.not_not, Nat.cast_ofNat, Int.natCast_add] <;> omega) | (simp <;> omega))); conv => whnf); try (refine hcut.go ?_; conv => whnf))
        ((refine hcall_lend ?_; (conv => whnf); refine ⟨_, spec_rtag m, rfl, ?_⟩; conv => whnf); try (refine hcut.go ?_; conv => whnf))
        rw [← hk] at hpas hrt
        ((refine hcall_pure ?_; (conv => whnf); refine ⟨_, spec_rdlvT y s.stream (tag m) (tag m) rfl (by omega) (by omega) (by omega), rfl, ?_⟩; conv => whnf); try (refine hcut.go ?_; conv => whnf))
        generalize rdlv y s.stream (tag m) true true = D' at hpas hrt ⊢
        obtain ⟨w, okk⟩ := D'
        dsimp only at hpas hrt
        have hwl : k < w.turn.length := by rw [hrt]; exact g4
        ((refine hdraw_intro ?_ ?_; (· kernel_rfl); conv => whnf); try (refine hcut.go ?_; conv => whnf))
        refine hobl_intro (c := (([] : List (List PV)).length + (w.turn.map fun n => [pi n]).length) * 8 ≤ 140737488355328) (by rw [List.length_map, hrt]; simp; omega) ?_; conv => whnf
        repeat (refine hcut.go ?_; conv => whnf)
        ((refine hwrap_fit (W_fit ?_ ?_) ?_; (· (first | omega | (simp only [List.length_map, List.length_append, List.length_take, List.length_drop, List.length_cons, List.length_nil] <;> omega) | (simp <;> omega))); (· (first | omega | (simp only [List.length_map, List.length_append, List.length_take, List.length_drop, List.length_cons, List.length_nil] <;> omega) | (simp <;> omega))); conv => whnf); try (refine hcut.go ?_; conv => whnf))
        ((refine hobl_intro ?_ ?_; (· (first | omega | (simp only [List.length_map, List.length_append, List.length_take, List.length_drop, List.length_cons, List.length_nil] <;> omega) | (simp <;> omega))); conv => whnf); try (refine hcut.go ?_; conv => whnf))
        refine hrow_at k (by omega) hwl ?_; conv => whnf
        ((refine hwrap_fit (W_fit ?_ ?_) ?_; (· (first | omega | (simp only [List.length_map, List.length_append, List.length_take, List.length_drop, List.length_cons, List.length_nil] <;> omega) | (simp <;> omega))); (· (first | omega | (simp only [List.length_map, List.length_append, List.length_take, List.length_drop, List.length_cons, List.length_nil] <;> omega) | (simp <;> omega))); conv => whnf); try (refine hcut.go ?_; conv => whnf))
        rw [hpas] at nx
        refine hQ _ _ ?_; conv => whnf
        have nx : fwIn k n T (true, bump w k, m + 1) := nx
        exact ⟨⟨(true, bump w k, m + 1), nx⟩, (hle_hs [(2, some 2), (4, some 4), (7, some 7), (900, some 103)] rfl rfl rfl rfl (by repeat' (first | exact trivial | exact rfl | (refine ⟨⟨rfl, ?_⟩, ?_⟩) | (refine ⟨rfl, ?_⟩) | ((refine row_eqs ?_; show _ = (w.turn.set k (w.turn[k]?.getD 0 + 1)).map _; rw [List.map_set, show (w.turn[k]?.getD 0) = m by rw [hrt, gm]]; (try rw [hk]); (try rfl))) | (simp; done) | (simp; rfl))) (by repeat' (first | exact trivial | exact rfl | exact .inl rfl | exact .inr rfl | (refine ⟨⟨rfl, .inl ⟨_, rfl, ?_⟩⟩, ?_⟩) | (refine ⟨⟨rfl, _, rfl, ?_⟩, ?_⟩) | (refine ⟨⟨rfl, .inr ⟨rfl, ?_⟩⟩, ?_⟩) | (refine ⟨rfl, ?_⟩) | ((refine row_eqs ?_; show _ = (w.turn.set k (w.turn[k]?.getD 0 + 1)).map _; rw [List.map_set, show (w.turn[k]?.getD 0) = m by rw [hrt, gm]]; (try rw [hk]); (try rfl))) | (simp; done) | (simp; rfl)))), by dsimp only; omega⟩
      · rw [upto_end (by rw [gm]; omega)] at he
        subst he
        ((refine hif_false ?_ ?_; (· (first | rfl | assumption | omega | (simp only [gt_iff_lt, ge_iff_le, decide_eq_true_eq, decide_eq_false_iff_not, beq_iff_eq, bne_iff_ne, ne_eq, beq_eq_false_iff_ne, bne_eq_false_iff_eq, List.length_map, List.length_append, List.length_cons, List.length_nil, List.length_take, List.length_drop, Bool.not_eq_true', Bool.not_eq_false', Bool.not_eq_true, Bool.not_eq_false, Decidable.not_not, Nat.cast_ofNat, Int.natCast_add] <;> omega) | (simp <;> omega))); conv => whnf); try (refine hcut.go ?_; conv => whnf))
        refine hQ _ _ ?_; conv => whnf
        ((refine hcall_pure ?_; (conv => whnf); refine ⟨_, spec_rturns_rows y k _ hk rfl ⟨g1, g2, g3, g4, by rw [gm]; omega, by rw [gm]; omega⟩ g9, rfl, ?_⟩; conv => whnf); try (refine hcut.go ?_; conv => whnf))
        ((refine hwrap_fit (W_fit ?_ ?_) ?_; (· (first | omega | (simp only [List.length_map, List.length_append, List.length_take, List.length_drop, List.length_cons, List.length_nil] <;> omega) | (simp <;> omega))); (· (first | omega | (simp only [List.length_map, List.length_append, List.length_take, List.length_drop, List.length_cons, List.length_nil] <;> omega) | (simp <;> omega))); conv => whnf); try (refine hcut.go ?_; conv => whnf))
        refine hQ0 _ _ ?_; conv => whnf
        exact ⟨⟨(turns y k, a ++ [s], b), zip_next h1, next, h3⟩, (hle_hs [(2, some 2), (4, some 4)] rfl rfl rfl rfl (by repeat' (first | exact trivial | exact rfl | (refine ⟨⟨rfl, ?_⟩, ?_⟩) | (refine ⟨rfl, ?_⟩) | (simp; done) | (simp; rfl))) (by repeat' (first | exact trivial | exact rfl | exact .inl rfl | exact .inr rfl | (refine ⟨⟨rfl, .inl ⟨_, rfl, ?_⟩⟩, ?_⟩) | (refine ⟨⟨rfl, _, rfl, ?_⟩, ?_⟩) | (refine ⟨⟨rfl, .inr ⟨rfl, ?_⟩⟩, ?_⟩) | (refine ⟨rfl, ?_⟩) | (simp; done) | (simp; rfl)))), by simp⟩
end Rcv
end Go.HL
