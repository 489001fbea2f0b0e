/- The receiver: what is gone without. -/
import Derived.Test.YticmofoeecjnhaaRecv2
namespace Go.HL
open Go.Proofs
namespace Rcv
open Srt Jn Ser
set_option maxHeartbeats 4000000
set_option maxRecDepth 100000
set_option linter.unusedSimpArgs false
/-- one message is gone without, or delivered as far as it came -/
def pass (r : Receiver) (k : Nat) : Receiver := bump (if (dlv r k (tag (r.turn[k]?.getD 0)) true).2 then (dlv r k (tag (r.turn[k]?.getD 0)) true).1 else dropR (dlv r k (tag (r.turn[k]?.getD 0)) true).1 k (tag (r.turn[k]?.getD 0)) true) k
def passes : Nat → Receiver → Nat → Receiver
  | 0, r, _ => r
  | n + 1, r, k => passes n (pass r k) k
def upto (r : Receiver) (k : Nat) (n : Int) : Receiver := passes (n + 1 - r.turn[k]?.getD 0).toNat r k
def skip1 (r : Receiver) (s : Skip) : Receiver :=
  if s.stream < 0 ∨ (r.turn.length : Int) ≤ s.stream then r else if s.ordered = false then dropR r s.stream s.mid false
  else turns (upto r s.stream.toNat (near (r.turn[s.stream.toNat]?.getD 0) s.mid)) s.stream.toNat
/-- bounds within which skips go -/
structure SFit (r : Receiver) : Prop where
  pieces : r.pieces.length < 2 ^ 22
  bytes : tot r.pieces < 2 ^ 22
  log : r.log.length + r.pieces.length < 2 ^ 37
  lo : ∀ t ∈ r.turn, -(2 ^ 57) < t
  hi : ∀ t ∈ r.turn, t < 2 ^ 57
theorem pass_keeps (r : Receiver) (k : Nat) : (pass r k).turn = r.turn.set k (r.turn[k]?.getD 0 + 1) ∧ (pass r k).cum = r.cum ∧ (pass r k).spans = r.spans ∧ (pass r k).config = r.config ∧ (pass r k).pieces.length ≤ r.pieces.length ∧ tot (pass r k).pieces ≤ tot r.pieces ∧
    (pass r k).log.length + (pass r k).pieces.length ≤ r.log.length + r.pieces.length := by
  obtain ⟨h1, h2, h3, h4, h5, h6, h7⟩ := dlv_keeps r k (tag (r.turn[k]?.getD 0)) true
  unfold pass
  generalize dlv r k (tag (r.turn[k]?.getD 0)) true = D at *
  obtain ⟨y, ok⟩ := D
  dsimp only at h1 h2 h3 h4 h5 h6 h7 ⊢
  cases ok with
  | true => exact ⟨by show y.turn.set _ (y.turn[k]?.getD 0 + 1) = _; rw [h1], h2, h3, h4, h5, h6, h7⟩
  | false =>
    have f1 := List.length_filter_le (fun p => !mine k (tag (r.turn[k]?.getD 0)) true p) y.pieces
    have f2 := tot_filter (fun p => !mine k (tag (r.turn[k]?.getD 0)) true p) y.pieces
    refine ⟨by show y.turn.set _ (y.turn[k]?.getD 0 + 1) = _; rw [h1], h2, h3, h4, ?_, ?_, ?_⟩
    · show (List.filter _ _).length ≤ _; omega
    · show tot (List.filter _ _) ≤ _; omega
    · show _ + (List.filter _ _).length ≤ _; show y.log.length + _ ≤ _; omega
theorem upto_step {r : Receiver} {k : Nat} {n : Int} (h : k < r.turn.length) (hn : r.turn[k]?.getD 0 ≤ n) : upto r k n = upto (pass r k) k n := by
  obtain ⟨h1, _⟩ := pass_keeps r k
  unfold upto
  rw [h1, List.getElem?_set_self h]
  show passes _ _ _ = passes (n + 1 - (r.turn[k]?.getD 0 + 1)).toNat _ _
  obtain ⟨j, hj⟩ : ∃ j, (n + 1 - r.turn[k]?.getD 0).toNat = j + 1 := ⟨(n + 1 - r.turn[k]?.getD 0).toNat - 1, by omega⟩
  rw [hj, passes, show (n + 1 - (r.turn[k]?.getD 0 + 1)).toNat = j by omega]
theorem upto_end {r : Receiver} {k : Nat} {n : Int} (hn : n < r.turn[k]?.getD 0) : upto r k n = r := by
  unfold upto
  rw [show (n + 1 - r.turn[k]?.getD 0).toNat = 0 by omega]; rfl
theorem spec_skip (r : Receiver) (s : Skip) (hf : SFit r) :
    FunOK Try.prog 47 [.ptr 1000000 0, s.hv] (lk .free (tkH r)) (.tup []) (lk .free (tkD (skip1 r s))) := by
  obtain ⟨f1, f2, f3, f4, f5⟩ := hf
  generalize hT : skip1 r s = T
  refine funOK_of mixed Try.func47 (by decide) [1000000, 1000001, 1000002, 1000003, 1000004] lk_pins ?_
  conv => whnf
  by_cases c1 : s.stream < 0
  · rw [skip1, if_pos (.inl c1)] at hT
    subst hT
    refine hif_true (by simpa using c1) ?_; conv => whnf
    ((refine hdraw_intro ?_ ?_; (· kernel_rfl); conv => whnf); try (refine hcut.go ?_; conv => whnf))
    (exact hfin_of [(1000000, some 1000000), (1000001, some 1000001), (1000002, some 1000002), (1000003, some 1000003), (1000004, some 1000004), (0, some 1000001), (1, some 1000002), (2, some 1000003), (3, some 1000004)] rfl rfl (by repeat' (first | exact trivial | (refine ⟨rfl, ?_⟩))) rfl (by first | rfl ) (by repeat' (first | exact trivial | exact rfl | exact .inl rfl | exact .inr rfl | (refine ⟨⟨rfl, .inl ⟨_, rfl, ?_⟩⟩, ?_⟩) | (refine ⟨⟨rfl, _, rfl, ?_⟩, ?_⟩) | (refine ⟨⟨rfl, .inr ⟨rfl, ?_⟩⟩, ?_⟩) | (refine ⟨rfl, ?_⟩) | (simp; done) | (simp; rfl))))
  refine hif_false (by simpa using c1) ?_; conv => whnf
  ((refine hdraw_intro ?_ ?_; (· kernel_rfl); conv => whnf); try (refine hcut.go ?_; conv => whnf))
  by_cases c2 : (r.turn.length : Int) ≤ s.stream
  · rw [skip1, if_pos (.inr c2)] at hT
    subst hT
    refine hif_true (by simpa using c2) ?_; conv => whnf
    (exact hfin_of [(1000000, some 1000000), (1000001, some 1000001), (1000002, some 1000002), (1000003, some 1000003), (1000004, some 1000004), (0, some 1000001), (1, some 1000002), (2, some 1000003), (3, some 1000004)] rfl rfl (by repeat' (first | exact trivial | (refine ⟨rfl, ?_⟩))) rfl (by first | rfl ) (by repeat' (first | exact trivial | exact rfl | exact .inl rfl | exact .inr rfl | (refine ⟨⟨rfl, .inl ⟨_, rfl, ?_⟩⟩, ?_⟩) | (refine ⟨⟨rfl, _, rfl, ?_⟩, ?_⟩) | (refine ⟨⟨rfl, .inr ⟨rfl, ?_⟩⟩, ?_⟩) | (refine ⟨rfl, ?_⟩) | (simp; done) | (simp; rfl))))
  refine hif_false (by simpa using c2) ?_; conv => whnf
  cases hs3 : s.ordered with
  | false =>
    rw [skip1, if_neg (by omega), if_pos hs3] at hT
    subst hT
    conv => whnf
    try (refine hcut.go ?_; conv => whnf)
    ((refine hcall_give [] [(1000000, 1000000), (1000001, 1000001), (1000002, 1000002), (1000003, 1000003), (1000004, 1000004)] [(0, 910), (1, 911), (2, 912), (3, 913)] ?_; (conv => whnf); refine ⟨_, _, _, _, spec_drop r s.stream s.mid false (by omega), ⟨rfl, rfl, rfl, ⟨⟨rfl, _, rfl, .inl ⟨rfl, rfl⟩⟩, ⟨⟨rfl, _, rfl, .inl ⟨rfl, rfl⟩⟩, ⟨⟨rfl, _, rfl, .inl ⟨rfl, rfl⟩⟩, ⟨⟨rfl, _, rfl, .inl ⟨rfl, rfl⟩⟩, ⟨⟨rfl, _, rfl, .inl ⟨rfl, rfl⟩⟩, trivial⟩⟩⟩⟩⟩, ⟨⟨rfl, rfl⟩, ⟨⟨rfl, rfl⟩, ⟨⟨rfl, rfl⟩, ⟨⟨rfl, rfl⟩, trivial⟩⟩⟩⟩, rfl, rfl, rfl⟩, ?_⟩; conv => whnf); try (refine hcut.go ?_; conv => whnf))
    (exact hfin_of [(1000000, some 1000000), (1000001, some 1000001), (1000002, some 1000002), (1000003, some 1000003), (1000004, some 1000004), (0, some 910), (1, some 911), (2, some 912), (3, some 913)] rfl rfl (by repeat' (first | exact trivial | (refine ⟨rfl, ?_⟩))) rfl (by first | rfl ) (by repeat' (first | exact trivial | exact rfl | exact .inl rfl | exact .inr rfl | (refine ⟨⟨rfl, .inl ⟨_, rfl, ?_⟩⟩, ?_⟩) | (refine ⟨⟨rfl, _, rfl, ?_⟩, ?_⟩) | (refine ⟨⟨rfl, .inr ⟨rfl, ?_⟩⟩, ?_⟩) | (refine ⟨rfl, ?_⟩) | (simp; done) | (simp; rfl))))
  | true =>
  rw [skip1, if_neg (by omega), if_neg (by rw [hs3]; decide)] at hT
  obtain ⟨k, hk⟩ : ∃ k : Nat, s.stream = k := ⟨s.stream.toNat, by omega⟩
  have hkl : k < r.turn.length := by omega
  have hg : r.turn[k]?.getD 0 = r.turn[k] := by simp [hkl]
  have b1 := f4 _ (List.getElem_mem hkl)
  have b2 := f5 _ (List.getElem_mem hkl)
  rw [show s.stream.toNat = k by omega, hg] at hT
  conv => whnf
  try (refine hcut.go ?_; conv => whnf)
  ((refine hobl_intro ?_ ?_; (· (first | omega | (simp only [List.length_map, List.length_append, List.length_take, List.length_drop, List.length_cons, List.length_nil] <;> omega) | (simp <;> omega))); conv => whnf); try (refine hcut.go ?_; conv => whnf))
  refine hrow_at k (by omega) hkl ?_; conv => whnf
  ((refine hcall_lend ?_; (conv => whnf); refine ⟨_, spec_near r.turn[k] s.mid, rfl, ?_⟩; conv => whnf); try (refine hcut.go ?_; conv => whnf))
  ((refine hdraw_intro ?_ ?_; (· kernel_rfl); conv => whnf); try (refine hcut.go ?_; conv => whnf))
  obtain ⟨n1, n2, n3⟩ := near_lo (a := r.turn[k]) (t := s.mid) (by omega) (by omega)
  generalize near r.turn[k] s.mid = n at hT n1 n2 n3 ⊢
  refine ⟨{ x : Receiver // TFit x k ∧ x.turn[k]?.getD 0 ≤ 2 ^ 58 ∧ turns (upto x k n) k = T }, fun | ⟨x, _⟩ => hsP [1000000, 1000001, 1000002, 1000003, 1000004] 88 [(0, .ptr 1000000 0), (3, .ptr 3 0), (4, i64 n)] ((1000000, .live (.cells 88 (rcvC x (.own 900) (.own 901) (.own 902) (.own 903)))) :: rcvB x 900 901 902 903 [(3, .live (.cells 100 [i64 s.stream, i64 s.mid, hbool true])), (1000001, .dead), (1000002, .dead), (1000003, .dead), (1000004, .dead)]), fun x => (n + 1 - x.1.turn[k]?.getD 0).toNat, ⟨r, ⟨f1, f2, f3, hkl, by rw [hg]; omega, by rw [hg]; omega⟩, by rw [hg]; omega, hT⟩, ?_, ?_⟩
  · exact (hle_of [(1000000, some 1000000), (1000001, some 1000001), (1000002, some 1000002), (1000003, some 1000003), (1000004, some 1000004), (900, some 1000001), (901, some 1000002), (902, some 1000003), (903, some 1000004), (3, some 3)] rfl rfl rfl rfl (by repeat' (first | exact trivial | (refine ⟨rfl, ?_⟩))) (by repeat' (first | exact trivial | exact rfl | (refine ⟨⟨rfl, ?_⟩, ?_⟩) | (refine ⟨rfl, ?_⟩) | (simp; done) | (simp; rfl))) (by repeat' (first | exact trivial | exact rfl | exact .inl rfl | exact .inr rfl | (refine ⟨⟨rfl, .inl ⟨_, rfl, ?_⟩⟩, ?_⟩) | (refine ⟨⟨rfl, _, rfl, ?_⟩, ?_⟩) | (refine ⟨⟨rfl, .inr ⟨rfl, ?_⟩⟩, ?_⟩) | (refine ⟨rfl, ?_⟩) | (simp; done) | (simp; rfl))))
  rintro ⟨x, ⟨h1, h2, h3, h4, h5, h6⟩, h7, he⟩
  conv => whnf
  ((refine hobl_intro ?_ ?_; (· (first | omega | (simp only [List.length_map, List.length_append, List.length_take, List.length_drop, List.length_cons, List.length_nil] <;> omega) | (simp <;> omega))); conv => whnf); try (refine hcut.go ?_; conv => whnf))
  refine hrow_at k (by omega) h4 ?_; conv => whnf
  ((refine hdraw_intro ?_ ?_; (· kernel_rfl); conv => whnf); try (refine hcut.go ?_; conv => whnf))
  have hx : x.turn[k]?.getD 0 = x.turn[k] := by simp [h4]
  rw [hx] at h5 h6 h7
  by_cases c3 : x.turn[k] ≤ n
  · rw [upto_step h4 (by omega)] at he
    obtain ⟨k1, k2, k3, k4, k5, k6, k7⟩ := pass_keeps x k
    rw [hx] at k1
    have hpas : pass x k = bump (if (dlv x k (tag x.turn[k]) true).2 then (dlv x k (tag x.turn[k]) true).1 else dropR (dlv x k (tag x.turn[k]) true).1 k (tag x.turn[k]) true) k := by rw [pass, hx]
    obtain ⟨d1, d2, d3, d4, d5, d6, d7⟩ := dlv_keeps x k (tag x.turn[k]) true
    have hgt : (pass x k).turn[k]?.getD 0 = x.turn[k] + 1 := by rw [k1, List.getElem?_set_self h4]; rfl
    have next : TFit (pass x k) k ∧ (pass x k).turn[k]?.getD 0 ≤ 2 ^ 58 ∧ turns (upto (pass x k) k n) k = T := ⟨⟨by omega, by omega, by omega, by rw [k1, List.length_set]; exact h4, by rw [hgt]; omega, by rw [hgt]; omega⟩, by rw [hgt]; omega, he⟩
    have less : (n + 1 - (pass x k).turn[k]?.getD 0).toNat < (n + 1 - x.turn[k]?.getD 0).toNat := by rw [hgt, hx]; omega
    ((refine hif_true ?_ ?_; (· (first | rfl | assumption | omega | (simp only [gt_iff_lt, ge_iff_le, decide_eq_true_eq, decide_eq_false_iff_not, beq_iff_eq, bne_iff_ne, ne_eq, beq_eq_false_iff_ne, bne_eq_false_iff_eq, List.length_map, List.length_append, List.length_cons, List.length_nil, List.length_take, List.length_drop, Bool.not_eq_true', Bool.not_eq_false', Bool.not_eq_true, Bool.not_eq_false, Decidable.not_not, Nat.cast_ofNat, Int.natCast_add] <;> omega) | (simp <;> omega))); conv => whnf); try (refine hcut.go ?_; conv => whnf))
    ((refine hobl_intro ?_ ?_; (· (first | omega | (simp only [List.length_map, List.length_append, List.length_take, List.length_drop, List.length_cons, List.length_nil] <;> omega) | (simp <;> omega))); conv => whnf); try (refine hcut.go ?_; conv => whnf))
    refine hrow_at k (by omega) h4 ?_; conv => whnf
    ((refine hcall_lend ?_; (conv => whnf); refine ⟨_, spec_tag _, rfl, ?_⟩; conv => whnf); try (refine hcut.go ?_; conv => whnf))
    ((refine hdraw_intro ?_ ?_; (· kernel_rfl); conv => whnf); try (refine hcut.go ?_; conv => whnf))
    ((refine hcall_give [] [(1000000, 1000000), (1000001, 900), (1000002, 901), (1000003, 902), (1000004, 903)] [(0, 910), (1, 911), (2, 912), (3, 913)] ?_; (conv => whnf); refine ⟨_, _, _, _, spec_deliver x s.stream (tag x.turn[k]) true (by omega) (by omega) (by omega), ⟨rfl, rfl, rfl, ⟨⟨rfl, _, rfl, .inl ⟨rfl, rfl⟩⟩, ⟨⟨rfl, _, rfl, .inl ⟨rfl, rfl⟩⟩, ⟨⟨rfl, _, rfl, .inl ⟨rfl, rfl⟩⟩, ⟨⟨rfl, _, rfl, .inl ⟨rfl, rfl⟩⟩, ⟨⟨rfl, _, rfl, .inl ⟨rfl, rfl⟩⟩, trivial⟩⟩⟩⟩⟩, ⟨⟨rfl, rfl⟩, ⟨⟨rfl, rfl⟩, ⟨⟨rfl, rfl⟩, ⟨⟨rfl, rfl⟩, trivial⟩⟩⟩⟩, rfl, rfl, rfl⟩, ?_⟩; conv => whnf); try (refine hcut.go ?_; conv => whnf))
    rw [← hk] at hpas d1 d2 d3 d4 d5 d6 d7
    have hbm : ∀ (y : Receiver) (z : Int), y.turn = x.turn → z = x.turn[k] + 1 → HSlot.live (.row 3 1 ((bump y k).turn.map fun n => [pi n])) = HSlot.live (.row 3 1 ((y.turn.map fun n => [pi n]).set s.stream.toNat [pi z])) := fun y z hy hz => by
      refine row_eqs ?_
      show (y.turn.set k (y.turn[k]?.getD 0 + 1)).map _ = _
      rw [hy, hx, List.map_set, hz, show s.stream.toNat = k by omega]
    generalize dlv x s.stream (tag x.turn[k]) true = D at *
    obtain ⟨y, ok⟩ := D
    dsimp only at d1 d2 d3 d4 d5 d6 d7 hpas
    have h4y : k < y.turn.length := by rw [d1]; exact h4
    have hyk : y.turn[k] = x.turn[k] := by simp only [d1]
    cases ok with
    | true =>
      have hpas : pass x k = bump y k := hpas
      conv => whnf
      try (refine hcut.go ?_; conv => whnf)
      ((refine hobl_intro ?_ ?_; (· (first | omega | (simp only [List.length_map, List.length_append, List.length_take, List.length_drop, List.length_cons, List.length_nil] <;> omega) | (simp <;> omega))); conv => whnf); try (refine hcut.go ?_; conv => whnf))
      refine hrow_at k (by omega) h4y ?_; conv => whnf
      rw [hyk]
      ((refine hwrap_fit (W_fit ?_ ?_) ?_; (· (first | omega | (simp only [List.length_map, List.length_append, List.length_take, List.length_drop, List.length_cons, List.length_nil] <;> omega) | (simp <;> omega))); (· (first | omega | (simp only [List.length_map, List.length_append, List.length_take, List.length_drop, List.length_cons, List.length_nil] <;> omega) | (simp <;> omega))); conv => whnf); try (refine hcut.go ?_; conv => whnf))
      ((refine hobl_intro ?_ ?_; (· (first | omega | (simp only [List.length_map, List.length_append, List.length_take, List.length_drop, List.length_cons, List.length_nil] <;> omega) | (simp <;> omega))); conv => whnf); try (refine hcut.go ?_; conv => whnf))
      refine hrow_at k (by omega) h4y ?_; conv => whnf
      ((refine hdraw_intro ?_ ?_; (· kernel_rfl); conv => whnf); try (refine hcut.go ?_; conv => whnf))
      rw [hpas] at next less
      refine ⟨⟨_, next⟩, (hle_of [(1000000, some 1000000), (1000001, some 1000001), (1000002, some 1000002), (1000003, some 1000003), (1000004, some 1000004), (3, some 3), (900, some 910), (901, some 911), (902, some 912), (903, some 913)] rfl rfl rfl rfl (by repeat' (first | exact trivial | (refine ⟨rfl, ?_⟩))) (by repeat' (first | exact trivial | exact rfl | (refine ⟨⟨rfl, ?_⟩, ?_⟩) | (refine ⟨rfl, ?_⟩) | ((exact hbm y (x.turn[k] + 1) d1 rfl)) | ((exact (hbm y (x.turn[k] + 1) d1 rfl).symm)) | (simp; done) | (simp; rfl))) (by repeat' (first | exact trivial | exact rfl | exact .inl rfl | exact .inr rfl | (refine ⟨⟨rfl, .inl ⟨_, rfl, ?_⟩⟩, ?_⟩) | (refine ⟨⟨rfl, _, rfl, ?_⟩, ?_⟩) | (refine ⟨⟨rfl, .inr ⟨rfl, ?_⟩⟩, ?_⟩) | (refine ⟨rfl, ?_⟩) | ((exact hbm y (x.turn[k] + 1) d1 rfl)) | ((exact (hbm y (x.turn[k] + 1) d1 rfl).symm)) | (simp; done) | (simp; rfl)))), less⟩
    | false =>
      have hpas : pass x k = bump (dropR y s.stream (tag x.turn[k]) true) k := by rw [hpas, hk]; rfl
      conv => whnf
      try (refine hcut.go ?_; conv => whnf)
      ((refine hcall_give [] [(1000000, 1000000), (1000001, 910), (1000002, 911), (1000003, 912), (1000004, 913)] [(0, 920), (1, 921), (2, 922), (3, 923)] ?_; (conv => whnf); refine ⟨_, _, _, _, spec_drop y s.stream (tag x.turn[k]) true (by omega), ⟨rfl, rfl, rfl, ⟨⟨rfl, _, rfl, .inl ⟨rfl, rfl⟩⟩, ⟨⟨rfl, _, rfl, .inl ⟨rfl, rfl⟩⟩, ⟨⟨rfl, _, rfl, .inl ⟨rfl, rfl⟩⟩, ⟨⟨rfl, _, rfl, .inl ⟨rfl, rfl⟩⟩, ⟨⟨rfl, _, rfl, .inl ⟨rfl, rfl⟩⟩, trivial⟩⟩⟩⟩⟩, ⟨⟨rfl, rfl⟩, ⟨⟨rfl, rfl⟩, ⟨⟨rfl, rfl⟩, ⟨⟨rfl, rfl⟩, trivial⟩⟩⟩⟩, rfl, rfl, rfl⟩, ?_⟩; conv => whnf); try (refine hcut.go ?_; conv => whnf))
      have e1 : (dropR y s.stream (tag x.turn[k]) true).turn = x.turn := d1
      generalize dropR y s.stream (tag x.turn[k]) true = w at hpas e1 ⊢
      have h4w : k < w.turn.length := by rw [e1]; exact h4
      have hwk : w.turn[k] = x.turn[k] := by simp only [e1]
      ((refine hobl_intro ?_ ?_; (· (first | omega | (simp only [List.length_map, List.length_append, List.length_take, List.length_drop, List.length_cons, List.length_nil] <;> omega) | (simp <;> omega))); conv => whnf); try (refine hcut.go ?_; conv => whnf))
      refine hrow_at k (by omega) h4w ?_; conv => whnf
      rw [hwk]
      ((refine hwrap_fit (W_fit ?_ ?_) ?_; (· (first | omega | (simp only [List.length_map, List.length_append, List.length_take, List.length_drop, List.length_cons, List.length_nil] <;> omega) | (simp <;> omega))); (· (first | omega | (simp only [List.length_map, List.length_append, List.length_take, List.length_drop, List.length_cons, List.length_nil] <;> omega) | (simp <;> omega))); conv => whnf); try (refine hcut.go ?_; conv => whnf))
      ((refine hobl_intro ?_ ?_; (· (first | omega | (simp only [List.length_map, List.length_append, List.length_take, List.length_drop, List.length_cons, List.length_nil] <;> omega) | (simp <;> omega))); conv => whnf); try (refine hcut.go ?_; conv => whnf))
      refine hrow_at k (by omega) h4w ?_; conv => whnf
      ((refine hdraw_intro ?_ ?_; (· kernel_rfl); conv => whnf); try (refine hcut.go ?_; conv => whnf))
      rw [hpas] at next less
      refine ⟨⟨_, next⟩, (hle_of [(1000000, some 1000000), (1000001, some 1000001), (1000002, some 1000002), (1000003, some 1000003), (1000004, some 1000004), (3, some 3), (900, some 920), (901, some 921), (902, some 922), (903, some 923)] rfl rfl rfl rfl (by repeat' (first | exact trivial | (refine ⟨rfl, ?_⟩))) (by repeat' (first | exact trivial | exact rfl | (refine ⟨⟨rfl, ?_⟩, ?_⟩) | (refine ⟨rfl, ?_⟩) | ((exact hbm w (x.turn[k] + 1) e1 rfl)) | ((exact (hbm w (x.turn[k] + 1) e1 rfl).symm)) | (simp; done) | (simp; rfl))) (by repeat' (first | exact trivial | exact rfl | exact .inl rfl | exact .inr rfl | (refine ⟨⟨rfl, .inl ⟨_, rfl, ?_⟩⟩, ?_⟩) | (refine ⟨⟨rfl, _, rfl, ?_⟩, ?_⟩) | (refine ⟨⟨rfl, .inr ⟨rfl, ?_⟩⟩, ?_⟩) | (refine ⟨rfl, ?_⟩) | ((exact hbm w (x.turn[k] + 1) e1 rfl)) | ((exact (hbm w (x.turn[k] + 1) e1 rfl).symm)) | (simp; done) | (simp; rfl)))), less⟩
  · rw [upto_end (by omega)] at he
    subst he
    ((refine hif_false ?_ ?_; (· (first | rfl | assumption | omega | (simp only [gt_iff_lt, ge_iff_le, decide_eq_true_eq, decide_eq_false_iff_not, beq_iff_eq, bne_iff_ne, ne_eq, beq_eq_false_iff_ne, bne_eq_false_iff_eq, List.length_map, List.length_append, List.length_cons, List.length_nil, List.length_take, List.length_drop, Bool.not_eq_true', Bool.not_eq_false', Bool.not_eq_true, Bool.not_eq_false, Decidable.not_not, Nat.cast_ofNat, Int.natCast_add] <;> omega) | (simp <;> omega))); conv => whnf); try (refine hcut.go ?_; conv => whnf))
    ((refine hcall_give [] [(1000000, 1000000), (1000001, 900), (1000002, 901), (1000003, 902), (1000004, 903)] [(0, 910), (1, 911), (2, 912), (3, 913)] ?_; (conv => whnf); refine ⟨_, _, _, _, spec_turn_z x k _ hk ⟨h1, h2, h3, h4, by omega, by omega⟩, ⟨rfl, rfl, rfl, ⟨⟨rfl, _, rfl, .inl ⟨rfl, rfl⟩⟩, ⟨⟨rfl, _, rfl, .inl ⟨rfl, rfl⟩⟩, ⟨⟨rfl, _, rfl, .inl ⟨rfl, rfl⟩⟩, ⟨⟨rfl, _, rfl, .inl ⟨rfl, rfl⟩⟩, ⟨⟨rfl, _, rfl, .inl ⟨rfl, rfl⟩⟩, trivial⟩⟩⟩⟩⟩, ⟨⟨rfl, rfl⟩, ⟨⟨rfl, rfl⟩, ⟨⟨rfl, rfl⟩, ⟨⟨rfl, rfl⟩, trivial⟩⟩⟩⟩, rfl, rfl, rfl⟩, ?_⟩; conv => whnf); try (refine hcut.go ?_; conv => whnf))
    (exact hfin_of [(1000000, some 1000000), (1000001, some 1000001), (1000002, some 1000002), (1000003, some 1000003), (1000004, some 1000004), (0, some 910), (1, some 911), (2, some 912), (3, some 913)] rfl rfl (by repeat' (first | exact trivial | (refine ⟨rfl, ?_⟩))) rfl (by first | rfl ) (by repeat' (first | exact trivial | exact rfl | exact .inl rfl | exact .inr rfl | (refine ⟨⟨rfl, .inl ⟨_, rfl, ?_⟩⟩, ?_⟩) | (refine ⟨⟨rfl, _, rfl, ?_⟩, ?_⟩) | (refine ⟨⟨rfl, .inr ⟨rfl, ?_⟩⟩, ?_⟩) | (refine ⟨rfl, ?_⟩) | (simp; done) | (simp; rfl))))
end Rcv
end Go.HL
