/- The document's Point. -/
import Derived.Test.YtmdhpdeelnlhkaaScore4
namespace Go.HL
open Go.Proofs
namespace Sco
open Ser
set_option maxHeartbeats 4000000
set_option maxRecDepth 100000
set_option linter.unusedSimpArgs false
def lastFrom (c : Chunk) (k at' : Nat) : List Skip → Nat
  | [] => at'
  | s :: r => lastFrom c (k + 1) (if skMatch c s then k else at') r
def sameSk (a b : Skip) : Prop := a.stream = b.stream ∧ a.ordered = b.ordered ∧ (a.ordered = true ∨ a.mid = b.mid)
def U (l : List Skip) : Prop := l.Pairwise fun a b => ¬ sameSk a b
theorem match_iff {c : Chunk} {s : Skip} : skMatch c s = true ↔ s.stream = c.stream ∧ s.ordered = c.ordered ∧ (c.ordered = true ∨ s.mid = c.mid) := by
  simp only [skMatch, Bool.and_eq_true, beq_iff_eq, Bool.or_eq_true, and_assoc]
theorem same_of {c : Chunk} {s t : Skip} (h : skMatch c s = true) (k : skMatch c t = true) : sameSk s t := by
  obtain ⟨h1, h2, h3⟩ := match_iff.1 h
  obtain ⟨k1, k2, k3⟩ := match_iff.1 k
  refine ⟨h1.trans k1.symm, h2.trans k2.symm, ?_⟩
  rcases h3 with h3 | h3
  · exact .inl (h2.trans h3)
  · rcases k3 with k3 | k3
    · exact .inl (h2.trans k3)
    · exact .inr (h3.trans k3.symm)
theorem last_none {c : Chunk} : ∀ {l : List Skip} {k a : Nat}, (∀ s ∈ l, skMatch c s = false) → lastFrom c k a l = a
  | [], _, _, _ => rfl
  | s :: r, k, a, h => by
    rw [lastFrom, if_neg (by rw [h s (by simp)]; decide)]; exact last_none fun x hx => h x (by simp [hx])
theorem last_app {c : Chunk} : ∀ {a b : List Skip} {k z : Nat}, lastFrom c k z (a ++ b) = lastFrom c (k + a.length) (lastFrom c k z a) b
  | [], b, k, z => rfl
  | s :: r, b, k, z => by
    rw [List.cons_append, lastFrom, last_app, lastFrom]; congr 1; simp; omega
/-- where a part's message is told of, or would be -/
theorem find_skip {c : Chunk} {l : List Skip} (hu : U l) : (lastFrom c 0 l.length l = l.length ∧ skip c l = l ++ [⟨c.stream, c.mid, c.ordered⟩] ∧ U (skip c l)) ∨
    ∃ a s b, l = a ++ s :: b ∧ lastFrom c 0 l.length l = a.length ∧ skip c l = a ++ ⟨c.stream, c.mid, c.ordered⟩ :: b ∧ U (skip c l) := by
  by_cases hn : ∀ s ∈ l, skMatch c s = false
  · left
    have h1 := skip_none hn []
    rw [List.append_nil] at h1
    have h2 : skip c l = l ++ [⟨c.stream, c.mid, c.ordered⟩] := h1
    refine ⟨last_none hn, h2, ?_⟩
    rw [h2]
    refine List.pairwise_append.2 ⟨hu, List.pairwise_singleton _ _, fun x hx y hy => ?_⟩
    rw [List.mem_singleton.1 hy]
    rintro ⟨e1, e2, e3⟩
    have := hn x hx
    have h4 : skMatch c x = true := match_iff.2 ⟨e1, e2, by rcases e3 with e3 | e3; exact .inl (e2.symm.trans e3); exact .inr e3⟩
    rw [h4] at this; cases this
  · right
    obtain ⟨s0, hs0, hm0⟩ : ∃ s ∈ l, skMatch c s = true := by
      apply Classical.byContradiction
      intro hc
      exact hn fun s hs => by
        cases hm : skMatch c s with
        | false => rfl
        | true => exact absurd ⟨s, hs, hm⟩ hc
    have gen : ∀ l : List Skip, (∃ s ∈ l, skMatch c s = true) → ∃ a s b, l = a ++ s :: b ∧ skMatch c s = true ∧ ∀ x ∈ a, skMatch c x = false := by
      intro l
      induction l with
      | nil => rintro ⟨s, hs, _⟩; simp at hs
      | cons x r ih =>
        rintro ⟨s, hs, hm⟩
        cases hx : skMatch c x with
        | true => exact ⟨[], x, r, rfl, hx, by simp⟩
        | false =>
          have : ∃ s ∈ r, skMatch c s = true := by
            rcases List.mem_cons.1 hs with rfl | hs
            · rw [hx] at hm; cases hm
            · exact ⟨s, hs, hm⟩
          obtain ⟨a, t, b, h1, h2, h3⟩ := ih this
          refine ⟨x :: a, t, b, by rw [h1]; rfl, h2, fun y hy => ?_⟩
          rcases List.mem_cons.1 hy with rfl | hy
          · exact hx
          · exact h3 y hy
    obtain ⟨a, s, b, rfl, hm, ha⟩ := gen l ⟨s0, hs0, hm0⟩
    obtain ⟨u1, u2, u3⟩ := List.pairwise_append.1 hu
    obtain ⟨u4, u5⟩ := List.pairwise_cons.1 u2
    have hb : ∀ x ∈ b, skMatch c x = false := by
      intro x hx
      cases hxm : skMatch c x with
      | false => rfl
      | true => exact absurd (same_of hm hxm) (u4 x hx)
    obtain ⟨m1, m2, m3⟩ := match_iff.1 hm
    have h2 : skip c (a ++ s :: b) = a ++ ⟨c.stream, c.mid, c.ordered⟩ :: b := by
      rw [skip_none ha, skip, if_pos hm, m1, m2]
    have tr : ∀ x : Skip, sameSk ⟨c.stream, c.mid, c.ordered⟩ x → sameSk s x := by
      rintro x ⟨e1, e2, e3⟩
      refine ⟨m1.trans e1, m2.trans e2, ?_⟩
      rcases e3 with e3 | e3
      · exact .inl (m2.trans e3)
      · rcases m3 with m3 | m3
        · exact .inl (m2.trans m3)
        · exact .inr (m3.trans e3)
    have sy : ∀ x y : Skip, sameSk x y → sameSk y x := fun x y ⟨e1, e2, e3⟩ => ⟨e1.symm, e2.symm, by rcases e3 with e3 | e3; exact .inl (e2.symm.trans e3); exact .inr e3.symm⟩
    refine ⟨a, s, b, rfl, ?_, h2, ?_⟩
    · rw [last_app, last_none ha, lastFrom, if_pos hm, last_none hb]; omega
    · rw [h2]
      refine List.pairwise_append.2 ⟨u1, List.pairwise_cons.2 ⟨fun x hx h => u4 x hx (tr x h), u5⟩, fun x hx y hy => ?_⟩
      rcases List.mem_cons.1 hy with rfl | hy
      · intro h; exact u3 x hx s (by simp) (sy _ _ (tr _ (sy _ _ h)))
      · exact u3 x hx y (by simp [hy])

theorem spec_rpoint (l : List Sent) (cum : Int) (hl : l.length < 2 ^ 38) : FunOK Try.prog 15 [sents l, i64 cum] noHeap (.tup [i64 (point l cum).1, skips (point l cum).2]) noHeap := by
  refine funOK_pure mixed Try.func15 (by decide) ?_
  generalize hR : point l cum = R
  conv => whnf
  refine ⟨{ x : List Sent × List Sent × Int × List Skip // l = x.1 ++ x.2.1 ∧ x.2.2.2.length ≤ 8 ∧ pointFrom x.2.2.1 x.2.2.2 x.2.1 = R ∧ U x.2.2.2 }, fun | ⟨(a, b, z, sk), _⟩ => hs 107 [(1, i64 z), (6, .own 900), (14, sents l), (15, i64 l.length), (16, i64 a.length)] [(900, skipB sk)], fun x => x.1.2.1.length, ⟨([], l, cum, []), rfl, by simp, hR, List.Pairwise.nil⟩, ?_, ?_⟩
  · exact (hle_hs [(900, none)] rfl rfl rfl rfl (by repeat' (first | exact trivial | exact rfl | (refine ⟨⟨rfl, ?_⟩, ?_⟩) | (refine ⟨rfl, ?_⟩) | (simp; done) | (simp; rfl))) (by repeat' (first | exact trivial | exact rfl | exact .inl rfl | exact .inr rfl | (refine ⟨⟨rfl, .inl ⟨_, rfl, ?_⟩⟩, ?_⟩) | (refine ⟨⟨rfl, _, rfl, ?_⟩, ?_⟩) | (refine ⟨⟨rfl, .inr ⟨rfl, ?_⟩⟩, ?_⟩) | (simp; done) | (simp; rfl))))
  rintro ⟨⟨a, b, z, sk⟩, h, hsk, hi, hu⟩
  dsimp only at h hsk hi hu
  cases b with
  | nil =>
    have hz := zip_nil h
    simp only [pointFrom] at hi
    subst hi
    conv => whnf
    ((refine hif_false ?_ ?_; (· (first | rfl | assumption | omega | (simp only [gt_iff_lt, ge_iff_le, decide_eq_true_eq, decide_eq_false_iff_not, beq_iff_eq, bne_iff_ne, ne_eq, beq_eq_false_iff_ne, bne_eq_false_iff_eq, List.length_map, List.length_append, List.length_cons, List.length_nil, List.length_take, List.length_drop, Bool.not_eq_true', Bool.not_eq_false', Bool.not_eq_true, Bool.not_eq_false, Decidable.not_not, Nat.cast_ofNat, Int.natCast_add] <;> omega) | (simp <;> omega))); conv => whnf); try (refine hcut.go ?_; conv => whnf))
    try rfl
  | cons s b =>
    have hz := zip_cons h
    simp only [pointFrom] at hi
    have fs := find_skip (c := s.chunk) hu
    have sl := skip_len s.chunk sk
    conv => whnf
    ((refine hif_true ?_ ?_; (· (first | rfl | assumption | omega | (simp only [gt_iff_lt, ge_iff_le, decide_eq_true_eq, decide_eq_false_iff_not, beq_iff_eq, bne_iff_ne, ne_eq, beq_eq_false_iff_ne, bne_eq_false_iff_eq, List.length_map, List.length_append, List.length_cons, List.length_nil, List.length_take, List.length_drop, Bool.not_eq_true', Bool.not_eq_false', Bool.not_eq_true, Bool.not_eq_false, Decidable.not_not, Nat.cast_ofNat, Int.natCast_add] <;> omega) | (simp <;> omega))); conv => whnf); try (refine hcut.go ?_; conv => whnf))
    refine hrow_mid h rfl ?_; conv => whnf
    by_cases c2 : s.state = 4
    · ((refine hif_false ?_ ?_; (· (first | rfl | assumption | omega | (simp only [gt_iff_lt, ge_iff_le, decide_eq_true_eq, decide_eq_false_iff_not, beq_iff_eq, bne_iff_ne, ne_eq, beq_eq_false_iff_ne, bne_eq_false_iff_eq, List.length_map, List.length_append, List.length_cons, List.length_nil, List.length_take, List.length_drop, Bool.not_eq_true', Bool.not_eq_false', Bool.not_eq_true, Bool.not_eq_false, Decidable.not_not, Nat.cast_ofNat, Int.natCast_add] <;> omega) | (simp <;> omega))); conv => whnf); try (refine hcut.go ?_; conv => whnf))
      ((first | refine hwrap_W ?_ | refine hwrap_raw ?_); (conv => whnf); try (refine hcut.go ?_; conv => whnf))
      by_cases c1 : s.number = W (z + 1)
      · rw [if_neg (by rintro (h1 | h1); exact h1 c1; exact h1.1 c2), if_pos c2] at hi
        ((refine hif_false ?_ ?_; (· (first | rfl | assumption | omega | (simp only [gt_iff_lt, ge_iff_le, decide_eq_true_eq, decide_eq_false_iff_not, beq_iff_eq, bne_iff_ne, ne_eq, beq_eq_false_iff_ne, bne_eq_false_iff_eq, List.length_map, List.length_append, List.length_cons, List.length_nil, List.length_take, List.length_drop, Bool.not_eq_true', Bool.not_eq_false', Bool.not_eq_true, Bool.not_eq_false, Decidable.not_not, Nat.cast_ofNat, Int.natCast_add] <;> omega) | (simp <;> omega))); conv => whnf); try (refine hcut.go ?_; conv => whnf))
        ((refine hif_true ?_ ?_; (· (first | rfl | assumption | omega | (simp only [gt_iff_lt, ge_iff_le, decide_eq_true_eq, decide_eq_false_iff_not, beq_iff_eq, bne_iff_ne, ne_eq, beq_eq_false_iff_ne, bne_eq_false_iff_eq, List.length_map, List.length_append, List.length_cons, List.length_nil, List.length_take, List.length_drop, Bool.not_eq_true', Bool.not_eq_false', Bool.not_eq_true, Bool.not_eq_false, Decidable.not_not, Nat.cast_ofNat, Int.natCast_add] <;> omega) | (simp <;> omega))); conv => whnf); try (refine hcut.go ?_; conv => whnf))
        generalize hA : lastFrom s.chunk 0 sk.length sk = A at fs
        refine ⟨{ x : List Skip × List Skip × Nat // sk = x.1 ++ x.2.1 ∧ lastFrom s.chunk x.1.length x.2.2 x.2.1 = A }, fun | ⟨(c, d, t), _⟩ => hs 107 [(1, i64 z), (6, .own 900), (9, .ptr 9 0), (10, i64 t), (14, sents l), (15, i64 l.length), (16, i64 a.length), (44, .own 900), (45, i64 sk.length), (46, i64 c.length)] [(9, .live (.cells 27 s.chunk.cells)), (900, skipB sk)], fun x => x.1.2.1.length, ⟨([], sk, sk.length), rfl, hA⟩, ?_, ?_⟩
        · exact (hle_hs [(9, some 9), (900, some 900)] rfl rfl rfl rfl (by repeat' (first | exact trivial | exact rfl | (refine ⟨⟨rfl, ?_⟩, ?_⟩) | (refine ⟨rfl, ?_⟩) | (simp; done) | (simp; rfl))) (by repeat' (first | exact trivial | exact rfl | exact .inl rfl | exact .inr rfl | (refine ⟨⟨rfl, .inl ⟨_, rfl, ?_⟩⟩, ?_⟩) | (refine ⟨⟨rfl, _, rfl, ?_⟩, ?_⟩) | (refine ⟨⟨rfl, .inr ⟨rfl, ?_⟩⟩, ?_⟩) | (simp; done) | (simp; rfl))))
        rintro ⟨⟨c, d, t⟩, hcd, hlast⟩
        dsimp only at hcd hlast
        cases d with
        | nil =>
          have hz2 := zip_nil hcd
          simp only [lastFrom] at hlast
          subst hlast
          conv => whnf
          ((refine hif_false ?_ ?_; (· (first | rfl | assumption | omega | (simp only [gt_iff_lt, ge_iff_le, decide_eq_true_eq, decide_eq_false_iff_not, beq_iff_eq, bne_iff_ne, ne_eq, beq_eq_false_iff_ne, bne_eq_false_iff_eq, List.length_map, List.length_append, List.length_cons, List.length_nil, List.length_take, List.length_drop, Bool.not_eq_true', Bool.not_eq_false', Bool.not_eq_true, Bool.not_eq_false, Decidable.not_not, Nat.cast_ofNat, Int.natCast_add] <;> omega) | (simp <;> omega))); conv => whnf); try (refine hcut.go ?_; conv => whnf))
          rcases fs with ⟨f1, f2, f3⟩ | ⟨p, y, q, f0, f1, f2, f3⟩
          · have f4 : (skip s.chunk sk).length = sk.length + 1 := by rw [f2]; simp
            by_cases c8 : sk.length = 8
            · rw [if_pos (by omega)] at hi
              subst hi
              ((refine hif_true ?_ ?_; (· (first | rfl | assumption | omega | (simp only [gt_iff_lt, ge_iff_le, decide_eq_true_eq, decide_eq_false_iff_not, beq_iff_eq, bne_iff_ne, ne_eq, beq_eq_false_iff_ne, bne_eq_false_iff_eq, List.length_map, List.length_append, List.length_cons, List.length_nil, List.length_take, List.length_drop, Bool.not_eq_true', Bool.not_eq_false', Bool.not_eq_true, Bool.not_eq_false, Decidable.not_not, Nat.cast_ofNat, Int.natCast_add] <;> omega) | (simp <;> omega))); conv => whnf); try (refine hcut.go ?_; conv => whnf))
              try rfl
            · rw [if_neg (by omega)] at hi
              ((refine hif_false ?_ ?_; (· (first | rfl | assumption | omega | (simp only [gt_iff_lt, ge_iff_le, decide_eq_true_eq, decide_eq_false_iff_not, beq_iff_eq, bne_iff_ne, ne_eq, beq_eq_false_iff_ne, bne_eq_false_iff_eq, List.length_map, List.length_append, List.length_cons, List.length_nil, List.length_take, List.length_drop, Bool.not_eq_true', Bool.not_eq_false', Bool.not_eq_true, Bool.not_eq_false, Decidable.not_not, Nat.cast_ofNat, Int.natCast_add] <;> omega) | (simp <;> omega))); conv => whnf); try (refine hcut.go ?_; conv => whnf))
              refine hobl_intro (c := (([] : List (List PV)).length + (sk.map Skip.row).length) * 24 ≤ 140737488355328) (by (first | omega | (simp only [List.length_map, List.length_append, List.length_take, List.length_drop, List.length_cons, List.length_nil] <;> omega) | (simp <;> omega))) ?_; conv => whnf
              (try (refine hcut.go ?_; conv => whnf))
              ((refine hif_true ?_ ?_; (· (first | rfl | assumption | omega | (simp only [gt_iff_lt, ge_iff_le, decide_eq_true_eq, decide_eq_false_iff_not, beq_iff_eq, bne_iff_ne, ne_eq, beq_eq_false_iff_ne, bne_eq_false_iff_eq, List.length_map, List.length_append, List.length_cons, List.length_nil, List.length_take, List.length_drop, Bool.not_eq_true', Bool.not_eq_false', Bool.not_eq_true, Bool.not_eq_false, Decidable.not_not, Nat.cast_ofNat, Int.natCast_add] <;> omega) | (simp <;> omega))); conv => whnf); try (refine hcut.go ?_; conv => whnf))
              refine hobl_intro (c := ((([] : List (List PV)) ++ sk.map Skip.row).length + 1) * 24 ≤ 140737488355328) (by simp; omega) ?_; conv => whnf
              ((refine hobl_intro ?_ ?_; (· (first | omega | (simp only [List.length_map, List.length_append, List.length_take, List.length_drop, List.length_cons, List.length_nil] <;> omega) | (simp <;> omega))); conv => whnf); try (refine hcut.go ?_; conv => whnf))
              refine hrow_intro (r := [pi 0, pi 0, pb false]) ?_ ?_ ?_
              · omega
              · rw [f1]
                show ([] ++ sk.map Skip.row ++ [[pi 0, pi 0, pb false]])[_]? = _
                rw [List.nil_append, List.getElem?_append_right (by simp)]; simp
              conv => whnf
              have e1 : HSlot.live (.row 47 3 ((sk.map Skip.row ++ [[pi 0, pi 0, pb false]]).set t [pi s.chunk.stream, pi s.chunk.mid, pb s.chunk.ordered])) = skipB (skip s.chunk sk) := by
                rw [f2, f1]
                have := (row_set (t := 47) (n := 3) (f := Skip.row) (a := sk) (b := []) (x := ⟨0, 0, false⟩) (y := ⟨s.chunk.stream, s.chunk.mid, s.chunk.ordered⟩) (k := sk.length) (r := [pi s.chunk.stream, pi s.chunk.mid, pb s.chunk.ordered]) rfl rfl).symm
                rw [List.map_append] at this
                exact this
              ((first | refine hwrap_W ?_ | refine hwrap_raw ?_); (conv => whnf); try (refine hcut.go ?_; conv => whnf))
              ((refine hwrap_fit (W_fit ?_ ?_) ?_; (· (first | omega | (simp only [List.length_map, List.length_append, List.length_take, List.length_drop, List.length_cons, List.length_nil] <;> omega) | (simp <;> omega))); (· (first | omega | (simp only [List.length_map, List.length_append, List.length_take, List.length_drop, List.length_cons, List.length_nil] <;> omega) | (simp <;> omega))); conv => whnf); try (refine hcut.go ?_; conv => whnf))
              exact ⟨⟨(a ++ [s], b, W (z + 1), skip s.chunk sk), zip_next h, by dsimp only; omega, by rw [← c1]; exact hi, f3⟩, (hle_hs [(900, some 90)] rfl rfl rfl rfl (by repeat' (first | exact trivial | exact rfl | (refine ⟨⟨rfl, ?_⟩, ?_⟩) | (refine ⟨rfl, ?_⟩) | (exact e1) | (simp; done) | (simp; rfl))) (by repeat' (first | exact trivial | exact rfl | exact .inl rfl | exact .inr rfl | (refine ⟨⟨rfl, .inl ⟨_, rfl, ?_⟩⟩, ?_⟩) | (refine ⟨⟨rfl, _, rfl, ?_⟩, ?_⟩) | (refine ⟨⟨rfl, .inr ⟨rfl, ?_⟩⟩, ?_⟩) | (exact e1) | (simp; done) | (simp; rfl)))), by simp⟩
          · have f4 : (skip s.chunk sk).length = sk.length := by rw [f2, f0]; simp
            have f5 : sk.length = p.length + q.length + 1 := by rw [f0]; simp; omega
            rw [if_neg (by omega)] at hi
            ((refine hif_false ?_ ?_; (· (first | rfl | assumption | omega | (simp only [gt_iff_lt, ge_iff_le, decide_eq_true_eq, decide_eq_false_iff_not, beq_iff_eq, bne_iff_ne, ne_eq, beq_eq_false_iff_ne, bne_eq_false_iff_eq, List.length_map, List.length_append, List.length_cons, List.length_nil, List.length_take, List.length_drop, Bool.not_eq_true', Bool.not_eq_false', Bool.not_eq_true, Bool.not_eq_false, Decidable.not_not, Nat.cast_ofNat, Int.natCast_add] <;> omega) | (simp <;> omega))); conv => whnf); try (refine hcut.go ?_; conv => whnf))
            refine hobl_intro (c := (([] : List (List PV)).length + (sk.map Skip.row).length) * 24 ≤ 140737488355328) (by (first | omega | (simp only [List.length_map, List.length_append, List.length_take, List.length_drop, List.length_cons, List.length_nil] <;> omega) | (simp <;> omega))) ?_; conv => whnf
            (try (refine hcut.go ?_; conv => whnf))
            ((refine hif_false ?_ ?_; (· (first | rfl | assumption | omega | (simp only [gt_iff_lt, ge_iff_le, decide_eq_true_eq, decide_eq_false_iff_not, beq_iff_eq, bne_iff_ne, ne_eq, beq_eq_false_iff_ne, bne_eq_false_iff_eq, List.length_map, List.length_append, List.length_cons, List.length_nil, List.length_take, List.length_drop, Bool.not_eq_true', Bool.not_eq_false', Bool.not_eq_true, Bool.not_eq_false, Decidable.not_not, Nat.cast_ofNat, Int.natCast_add] <;> omega) | (simp <;> omega))); conv => whnf); try (refine hcut.go ?_; conv => whnf))
            ((refine hobl_intro ?_ ?_; (· (first | omega | (simp only [List.length_map, List.length_append, List.length_take, List.length_drop, List.length_cons, List.length_nil] <;> omega) | (simp <;> omega))); conv => whnf); try (refine hcut.go ?_; conv => whnf))
            refine hrow_mid (f := Skip.row) (l := sk) (a := p) (b := q) (s := y) f0 (by rw [f1]; simp) ?_; conv => whnf
            have e1 : HSlot.live (.row 47 3 ((sk.map Skip.row).set t [pi s.chunk.stream, pi s.chunk.mid, pb s.chunk.ordered])) = skipB (skip s.chunk sk) := by
              rw [f2, f0, f1]
              exact (row_set (f := Skip.row) (a := p) (b := q) (x := y) (y := ⟨s.chunk.stream, s.chunk.mid, s.chunk.ordered⟩) rfl rfl).symm
            ((first | refine hwrap_W ?_ | refine hwrap_raw ?_); (conv => whnf); try (refine hcut.go ?_; conv => whnf))
            ((refine hwrap_fit (W_fit ?_ ?_) ?_; (· (first | omega | (simp only [List.length_map, List.length_append, List.length_take, List.length_drop, List.length_cons, List.length_nil] <;> omega) | (simp <;> omega))); (· (first | omega | (simp only [List.length_map, List.length_append, List.length_take, List.length_drop, List.length_cons, List.length_nil] <;> omega) | (simp <;> omega))); conv => whnf); try (refine hcut.go ?_; conv => whnf))
            exact ⟨⟨(a ++ [s], b, W (z + 1), skip s.chunk sk), zip_next h, by dsimp only; omega, by rw [← c1]; exact hi, f3⟩, (hle_hs [(900, some 82)] rfl rfl rfl rfl (by repeat' (first | exact trivial | exact rfl | (refine ⟨⟨rfl, ?_⟩, ?_⟩) | (refine ⟨rfl, ?_⟩) | (exact e1) | (simp; done) | (simp; rfl))) (by repeat' (first | exact trivial | exact rfl | exact .inl rfl | exact .inr rfl | (refine ⟨⟨rfl, .inl ⟨_, rfl, ?_⟩⟩, ?_⟩) | (refine ⟨⟨rfl, _, rfl, ?_⟩, ?_⟩) | (refine ⟨⟨rfl, .inr ⟨rfl, ?_⟩⟩, ?_⟩) | (exact e1) | (simp; done) | (simp; rfl)))), by simp⟩
        | cons x d =>
          have hz2 := zip_cons hcd
          simp only [lastFrom] at hlast
          conv => whnf
          ((refine hif_true ?_ ?_; (· (first | rfl | assumption | omega | (simp only [gt_iff_lt, ge_iff_le, decide_eq_true_eq, decide_eq_false_iff_not, beq_iff_eq, bne_iff_ne, ne_eq, beq_eq_false_iff_ne, bne_eq_false_iff_eq, List.length_map, List.length_append, List.length_cons, List.length_nil, List.length_take, List.length_drop, Bool.not_eq_true', Bool.not_eq_false', Bool.not_eq_true, Bool.not_eq_false, Decidable.not_not, Nat.cast_ofNat, Int.natCast_add] <;> omega) | (simp <;> omega))); conv => whnf); try (refine hcut.go ?_; conv => whnf))
          ((refine hobl_intro ?_ ?_; (· (first | omega | (simp only [List.length_map, List.length_append, List.length_take, List.length_drop, List.length_cons, List.length_nil] <;> omega) | (simp <;> omega))); conv => whnf); try (refine hcut.go ?_; conv => whnf))
          refine hrow_mid hcd rfl ?_; conv => whnf
          refine hif_intro (fun k1 => ?_) (fun k1 => ?_)
          · conv => whnf
            refine hif_intro (fun k2 => ?_) (fun k2 => ?_)
            · conv => whnf
              have e2 : x.ordered = s.chunk.ordered := by simpa using k2
              refine hif_intro (fun k3 => ?_) (fun k3 => ?_)
              · have hm : skMatch s.chunk x = true := match_iff.2 ⟨by simpa using k1, e2, .inl (by rw [← e2]; exact k3)⟩
                rw [if_pos hm] at hlast
                conv => whnf
                ((refine hwrap_fit (W_fit ?_ ?_) ?_; (· (first | omega | (simp only [List.length_map, List.length_append, List.length_take, List.length_drop, List.length_cons, List.length_nil] <;> omega) | (simp <;> omega))); (· (first | omega | (simp only [List.length_map, List.length_append, List.length_take, List.length_drop, List.length_cons, List.length_nil] <;> omega) | (simp <;> omega))); conv => whnf); try (refine hcut.go ?_; conv => whnf))
                exact ⟨⟨(c ++ [x], d, c.length), zip_next hcd, by simpa using hlast⟩, (hle_hs [(9, some 9), (900, some 900)] rfl rfl rfl rfl (by repeat' (first | exact trivial | exact rfl | (refine ⟨⟨rfl, ?_⟩, ?_⟩) | (refine ⟨rfl, ?_⟩) | (simp; done) | (simp; rfl))) (by repeat' (first | exact trivial | exact rfl | exact .inl rfl | exact .inr rfl | (refine ⟨⟨rfl, .inl ⟨_, rfl, ?_⟩⟩, ?_⟩) | (refine ⟨⟨rfl, _, rfl, ?_⟩, ?_⟩) | (refine ⟨⟨rfl, .inr ⟨rfl, ?_⟩⟩, ?_⟩) | (simp; done) | (simp; rfl)))), by simp⟩
              · conv => whnf
                refine hif_intro (fun k4 => ?_) (fun k4 => ?_)
                · have hm : skMatch s.chunk x = true := match_iff.2 ⟨by simpa using k1, e2, .inr (by simpa using k4)⟩
                  rw [if_pos hm] at hlast
                  conv => whnf
                  ((refine hwrap_fit (W_fit ?_ ?_) ?_; (· (first | omega | (simp only [List.length_map, List.length_append, List.length_take, List.length_drop, List.length_cons, List.length_nil] <;> omega) | (simp <;> omega))); (· (first | omega | (simp only [List.length_map, List.length_append, List.length_take, List.length_drop, List.length_cons, List.length_nil] <;> omega) | (simp <;> omega))); conv => whnf); try (refine hcut.go ?_; conv => whnf))
                  exact ⟨⟨(c ++ [x], d, c.length), zip_next hcd, by simpa using hlast⟩, (hle_hs [(9, some 9), (900, some 900)] rfl rfl rfl rfl (by repeat' (first | exact trivial | exact rfl | (refine ⟨⟨rfl, ?_⟩, ?_⟩) | (refine ⟨rfl, ?_⟩) | (simp; done) | (simp; rfl))) (by repeat' (first | exact trivial | exact rfl | exact .inl rfl | exact .inr rfl | (refine ⟨⟨rfl, .inl ⟨_, rfl, ?_⟩⟩, ?_⟩) | (refine ⟨⟨rfl, _, rfl, ?_⟩, ?_⟩) | (refine ⟨⟨rfl, .inr ⟨rfl, ?_⟩⟩, ?_⟩) | (simp; done) | (simp; rfl)))), by simp⟩
                · have hm : ¬ skMatch s.chunk x = true := by
                    intro h; obtain ⟨_, _, h3⟩ := match_iff.1 h
                    rcases h3 with h3 | h3
                    · rw [e2, h3] at k3; cases k3
                    · simp [h3] at k4
                  rw [if_neg hm] at hlast
                  conv => whnf
                  ((refine hwrap_fit (W_fit ?_ ?_) ?_; (· (first | omega | (simp only [List.length_map, List.length_append, List.length_take, List.length_drop, List.length_cons, List.length_nil] <;> omega) | (simp <;> omega))); (· (first | omega | (simp only [List.length_map, List.length_append, List.length_take, List.length_drop, List.length_cons, List.length_nil] <;> omega) | (simp <;> omega))); conv => whnf); try (refine hcut.go ?_; conv => whnf))
                  exact ⟨⟨(c ++ [x], d, t), zip_next hcd, by simpa using hlast⟩, (hle_hs [(9, some 9), (900, some 900)] rfl rfl rfl rfl (by repeat' (first | exact trivial | exact rfl | (refine ⟨⟨rfl, ?_⟩, ?_⟩) | (refine ⟨rfl, ?_⟩) | (simp; done) | (simp; rfl))) (by repeat' (first | exact trivial | exact rfl | exact .inl rfl | exact .inr rfl | (refine ⟨⟨rfl, .inl ⟨_, rfl, ?_⟩⟩, ?_⟩) | (refine ⟨⟨rfl, _, rfl, ?_⟩, ?_⟩) | (refine ⟨⟨rfl, .inr ⟨rfl, ?_⟩⟩, ?_⟩) | (simp; done) | (simp; rfl)))), by simp⟩
            · have hm : ¬ skMatch s.chunk x = true := by
                intro h; obtain ⟨_, h3, _⟩ := match_iff.1 h; simp [h3] at k2
              rw [if_neg hm] at hlast
              conv => whnf
              ((refine hwrap_fit (W_fit ?_ ?_) ?_; (· (first | omega | (simp only [List.length_map, List.length_append, List.length_take, List.length_drop, List.length_cons, List.length_nil] <;> omega) | (simp <;> omega))); (· (first | omega | (simp only [List.length_map, List.length_append, List.length_take, List.length_drop, List.length_cons, List.length_nil] <;> omega) | (simp <;> omega))); conv => whnf); try (refine hcut.go ?_; conv => whnf))
              exact ⟨⟨(c ++ [x], d, t), zip_next hcd, by simpa using hlast⟩, (hle_hs [(9, some 9), (900, some 900)] rfl rfl rfl rfl (by repeat' (first | exact trivial | exact rfl | (refine ⟨⟨rfl, ?_⟩, ?_⟩) | (refine ⟨rfl, ?_⟩) | (simp; done) | (simp; rfl))) (by repeat' (first | exact trivial | exact rfl | exact .inl rfl | exact .inr rfl | (refine ⟨⟨rfl, .inl ⟨_, rfl, ?_⟩⟩, ?_⟩) | (refine ⟨⟨rfl, _, rfl, ?_⟩, ?_⟩) | (refine ⟨⟨rfl, .inr ⟨rfl, ?_⟩⟩, ?_⟩) | (simp; done) | (simp; rfl)))), by simp⟩
          · have hm : ¬ skMatch s.chunk x = true := by
              intro h; obtain ⟨h3, _, _⟩ := match_iff.1 h; simp [h3] at k1
            rw [if_neg hm] at hlast
            conv => whnf
            ((refine hwrap_fit (W_fit ?_ ?_) ?_; (· (first | omega | (simp only [List.length_map, List.length_append, List.length_take, List.length_drop, List.length_cons, List.length_nil] <;> omega) | (simp <;> omega))); (· (first | omega | (simp only [List.length_map, List.length_append, List.length_take, List.length_drop, List.length_cons, List.length_nil] <;> omega) | (simp <;> omega))); conv => whnf); try (refine hcut.go ?_; conv => whnf))
            exact ⟨⟨(c ++ [x], d, t), zip_next hcd, by simpa using hlast⟩, (hle_hs [(9, some 9), (900, some 900)] rfl rfl rfl rfl (by repeat' (first | exact trivial | exact rfl | (refine ⟨⟨rfl, ?_⟩, ?_⟩) | (refine ⟨rfl, ?_⟩) | (simp; done) | (simp; rfl))) (by repeat' (first | exact trivial | exact rfl | exact .inl rfl | exact .inr rfl | (refine ⟨⟨rfl, .inl ⟨_, rfl, ?_⟩⟩, ?_⟩) | (refine ⟨⟨rfl, _, rfl, ?_⟩, ?_⟩) | (refine ⟨⟨rfl, .inr ⟨rfl, ?_⟩⟩, ?_⟩) | (simp; done) | (simp; rfl)))), by simp⟩
      · rw [if_pos (.inl c1)] at hi
        subst hi
        ((refine hif_true ?_ ?_; (· (first | rfl | assumption | omega | (simp only [gt_iff_lt, ge_iff_le, decide_eq_true_eq, decide_eq_false_iff_not, beq_iff_eq, bne_iff_ne, ne_eq, beq_eq_false_iff_ne, bne_eq_false_iff_eq, List.length_map, List.length_append, List.length_cons, List.length_nil, List.length_take, List.length_drop, Bool.not_eq_true', Bool.not_eq_false', Bool.not_eq_true, Bool.not_eq_false, Decidable.not_not, Nat.cast_ofNat, Int.natCast_add] <;> omega) | (simp <;> omega))); conv => whnf); try (refine hcut.go ?_; conv => whnf))
        try rfl
    · ((refine hif_true ?_ ?_; (· (first | rfl | assumption | omega | (simp only [gt_iff_lt, ge_iff_le, decide_eq_true_eq, decide_eq_false_iff_not, beq_iff_eq, bne_iff_ne, ne_eq, beq_eq_false_iff_ne, bne_eq_false_iff_eq, List.length_map, List.length_append, List.length_cons, List.length_nil, List.length_take, List.length_drop, Bool.not_eq_true', Bool.not_eq_false', Bool.not_eq_true, Bool.not_eq_false, Decidable.not_not, Nat.cast_ofNat, Int.natCast_add] <;> omega) | (simp <;> omega))); conv => whnf); try (refine hcut.go ?_; conv => whnf))
      by_cases c3 : s.state = 2
      · ((refine hif_false ?_ ?_; (· (first | rfl | assumption | omega | (simp only [gt_iff_lt, ge_iff_le, decide_eq_true_eq, decide_eq_false_iff_not, beq_iff_eq, bne_iff_ne, ne_eq, beq_eq_false_iff_ne, bne_eq_false_iff_eq, List.length_map, List.length_append, List.length_cons, List.length_nil, List.length_take, List.length_drop, Bool.not_eq_true', Bool.not_eq_false', Bool.not_eq_true, Bool.not_eq_false, Decidable.not_not, Nat.cast_ofNat, Int.natCast_add] <;> omega) | (simp <;> omega))); conv => whnf); try (refine hcut.go ?_; conv => whnf))
        ((first | refine hwrap_W ?_ | refine hwrap_raw ?_); (conv => whnf); try (refine hcut.go ?_; conv => whnf))
        by_cases c1 : s.number = W (z + 1)
        · rw [if_neg (by rintro (h1 | h1); exact h1 c1; exact h1.2 c3), if_neg c2] at hi
          ((refine hif_false ?_ ?_; (· (first | rfl | assumption | omega | (simp only [gt_iff_lt, ge_iff_le, decide_eq_true_eq, decide_eq_false_iff_not, beq_iff_eq, bne_iff_ne, ne_eq, beq_eq_false_iff_ne, bne_eq_false_iff_eq, List.length_map, List.length_append, List.length_cons, List.length_nil, List.length_take, List.length_drop, Bool.not_eq_true', Bool.not_eq_false', Bool.not_eq_true, Bool.not_eq_false, Decidable.not_not, Nat.cast_ofNat, Int.natCast_add] <;> omega) | (simp <;> omega))); conv => whnf); try (refine hcut.go ?_; conv => whnf))
          ((refine hif_false ?_ ?_; (· (first | rfl | assumption | omega | (simp only [gt_iff_lt, ge_iff_le, decide_eq_true_eq, decide_eq_false_iff_not, beq_iff_eq, bne_iff_ne, ne_eq, beq_eq_false_iff_ne, bne_eq_false_iff_eq, List.length_map, List.length_append, List.length_cons, List.length_nil, List.length_take, List.length_drop, Bool.not_eq_true', Bool.not_eq_false', Bool.not_eq_true, Bool.not_eq_false, Decidable.not_not, Nat.cast_ofNat, Int.natCast_add] <;> omega) | (simp <;> omega))); conv => whnf); try (refine hcut.go ?_; conv => whnf))
          ((first | refine hwrap_W ?_ | refine hwrap_raw ?_); (conv => whnf); try (refine hcut.go ?_; conv => whnf))
          ((refine hwrap_fit (W_fit ?_ ?_) ?_; (· (first | omega | (simp only [List.length_map, List.length_append, List.length_take, List.length_drop, List.length_cons, List.length_nil] <;> omega) | (simp <;> omega))); (· (first | omega | (simp only [List.length_map, List.length_append, List.length_take, List.length_drop, List.length_cons, List.length_nil] <;> omega) | (simp <;> omega))); conv => whnf); try (refine hcut.go ?_; conv => whnf))
          exact ⟨⟨(a ++ [s], b, W (z + 1), sk), zip_next h, hsk, by rw [← c1]; exact hi, hu⟩, (hle_hs [(900, some 900)] rfl rfl rfl rfl (by repeat' (first | exact trivial | exact rfl | (refine ⟨⟨rfl, ?_⟩, ?_⟩) | (refine ⟨rfl, ?_⟩) | (simp; done) | (simp; rfl))) (by repeat' (first | exact trivial | exact rfl | exact .inl rfl | exact .inr rfl | (refine ⟨⟨rfl, .inl ⟨_, rfl, ?_⟩⟩, ?_⟩) | (refine ⟨⟨rfl, _, rfl, ?_⟩, ?_⟩) | (refine ⟨⟨rfl, .inr ⟨rfl, ?_⟩⟩, ?_⟩) | (simp; done) | (simp; rfl)))), by simp⟩
        · rw [if_pos (.inl c1)] at hi
          subst hi
          ((refine hif_true ?_ ?_; (· (first | rfl | assumption | omega | (simp only [gt_iff_lt, ge_iff_le, decide_eq_true_eq, decide_eq_false_iff_not, beq_iff_eq, bne_iff_ne, ne_eq, beq_eq_false_iff_ne, bne_eq_false_iff_eq, List.length_map, List.length_append, List.length_cons, List.length_nil, List.length_take, List.length_drop, Bool.not_eq_true', Bool.not_eq_false', Bool.not_eq_true, Bool.not_eq_false, Decidable.not_not, Nat.cast_ofNat, Int.natCast_add] <;> omega) | (simp <;> omega))); conv => whnf); try (refine hcut.go ?_; conv => whnf))
          try rfl
      · rw [if_pos (.inr ⟨c2, c3⟩)] at hi
        subst hi
        ((refine hif_true ?_ ?_; (· (first | rfl | assumption | omega | (simp only [gt_iff_lt, ge_iff_le, decide_eq_true_eq, decide_eq_false_iff_not, beq_iff_eq, bne_iff_ne, ne_eq, beq_eq_false_iff_ne, bne_eq_false_iff_eq, List.length_map, List.length_append, List.length_cons, List.length_nil, List.length_take, List.length_drop, Bool.not_eq_true', Bool.not_eq_false', Bool.not_eq_true, Bool.not_eq_false, Decidable.not_not, Nat.cast_ofNat, Int.natCast_add] <;> omega) | (simp <;> omega))); conv => whnf); try (refine hcut.go ?_; conv => whnf))
        try rfl
end Sco
end Go.HL
