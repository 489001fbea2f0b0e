/- The document's Point. -/
import Derived.Test.YtciifagmpoagpaaScore4
namespace Go.HL
open Go.Proofs
namespace Sco
open Ser
set_option maxHeartbeats 4000000
set_option maxRecDepth 100000
set_option linter.unusedSimpArgs false
def lastFrom (c : Chunk) (k at' : Nat) : List Skip → Nat
  | [] => at'
  | s :: r => lastFrom c (k + 1) (if skMatch c s then k else at') r
def sameSk (a b : Skip) : Prop := a.stream = b.stream ∧ a.ordered = b.ordered ∧ (a.ordered = true ∨ a.mid = b.mid)
def U (l : List Skip) : Prop := l.Pairwise fun a b => ¬ sameSk a b
theorem match_iff {c : Chunk} {s : Skip} : skMatch c s = true ↔ s.stream = c.stream ∧ s.ordered = c.ordered ∧ (c.ordered = true ∨ s.mid = c.mid) := by
  simp only [skMatch, Bool.and_eq_true, beq_iff_eq, Bool.or_eq_true, and_assoc]
theorem same_of {c : Chunk} {s t : Skip} (h : skMatch c s = true) (k : skMatch c t = true) : sameSk s t := by
  obtain ⟨h1, h2, h3⟩ := match_iff.1 h
  obtain ⟨k1, k2, k3⟩ := match_iff.1 k
  refine ⟨h1.trans k1.symm, h2.trans k2.symm, ?_⟩
  rcases h3 with h3 | h3
  · exact .inl (h2.trans h3)
  · rcases k3 with k3 | k3
    · exact .inl (h2.trans k3)
    · exact .inr (h3.trans k3.symm)
theorem last_none {c : Chunk} : ∀ {l : List Skip} {k a : Nat}, (∀ s ∈ l, skMatch c s = false) → lastFrom c k a l = a
  | [], _, _, _ => rfl
  | s :: r, k, a, h => by
    rw [lastFrom, if_neg (by rw [h s (by simp)]; decide)]; exact last_none fun x hx => h x (by simp [hx])
theorem last_app {c : Chunk} : ∀ {a b : List Skip} {k z : Nat}, lastFrom c k z (a ++ b) = lastFrom c (k + a.length) (lastFrom c k z a) b
  | [], b, k, z => rfl
  | s :: r, b, k, z => by
    rw [List.cons_append, lastFrom, last_app, lastFrom]; congr 1; simp; omega
/-- where a part's message is told of, or would be -/
theorem find_skip {c : Chunk} {l : List Skip} (hu : U l) : (lastFrom c 0 l.length l = l.length ∧ skip c l = l ++ [⟨c.stream, c.mid, c.ordered⟩] ∧ U (skip c l)) ∨
    ∃ a s b, l = a ++ s :: b ∧ lastFrom c 0 l.length l = a.length ∧ skip c l = a ++ ⟨c.stream, c.mid, c.ordered⟩ :: b ∧ U (skip c l) := by
  by_cases hn : ∀ s ∈ l, skMatch c s = false
  · left
    have h1 := skip_none hn []
    rw [List.append_nil] at h1
    have h2 : skip c l = l ++ [⟨c.stream, c.mid, c.ordered⟩] := h1
    refine ⟨last_none hn, h2, ?_⟩
    rw [h2]
    refine List.pairwise_append.2 ⟨hu, List.pairwise_singleton _ _, fun x hx y hy => ?_⟩
    rw [List.mem_singleton.1 hy]
    rintro ⟨e1, e2, e3⟩
    have := hn x hx
    have h4 : skMatch c x = true := match_iff.2 ⟨e1, e2, by rcases e3 with e3 | e3; exact .inl (e2.symm.trans e3); exact .inr e3⟩
    rw [h4] at this; cases this
  · right
    obtain ⟨s0, hs0, hm0⟩ : ∃ s ∈ l, skMatch c s = true := by
      apply Classical.byContradiction
      intro hc
      exact hn fun s hs => by
        cases hm : skMatch c s with
        | false => rfl
        | true => exact absurd ⟨s, hs, hm⟩ hc
    have gen : ∀ l : List Skip, (∃ s ∈ l, skMatch c s = true) → ∃ a s b, l = a ++ s :: b ∧ skMatch c s = true ∧ ∀ x ∈ a, skMatch c x = false := by
      intro l
      induction l with
      | nil => rintro ⟨s, hs, _⟩; simp at hs
      | cons x r ih =>
        rintro ⟨s, hs, hm⟩
        cases hx : skMatch c x with
        | true => exact ⟨[], x, r, rfl, hx, by simp⟩
        | false =>
          have : ∃ s ∈ r, skMatch c s = true := by
            rcases List.mem_cons.1 hs with rfl | hs
            · rw [hx] at hm; cases hm
            · exact ⟨s, hs, hm⟩
          obtain ⟨a, t, b, h1, h2, h3⟩ := ih this
          refine ⟨x :: a, t, b, by rw [h1]; rfl, h2, fun y hy => ?_⟩
          rcases List.mem_cons.1 hy with rfl | hy
          · exact hx
          · exact h3 y hy
    obtain ⟨a, s, b, rfl, hm, ha⟩ := gen l ⟨s0, hs0, hm0⟩
    obtain ⟨u1, u2, u3⟩ := List.pairwise_append.1 hu
    obtain ⟨u4, u5⟩ := List.pairwise_cons.1 u2
    have hb : ∀ x ∈ b, skMatch c x = false := by
      intro x hx
      cases hxm : skMatch c x with
      | false => rfl
      | true => exact absurd (same_of hm hxm) (u4 x hx)
    obtain ⟨m1, m2, m3⟩ := match_iff.1 hm
    have h2 : skip c (a ++ s :: b) = a ++ ⟨c.stream, c.mid, c.ordered⟩ :: b := by
      rw [skip_none ha, skip, if_pos hm, m1, m2]
    have tr : ∀ x : Skip, sameSk ⟨c.stream, c.mid, c.ordered⟩ x → sameSk s x := by
      rintro x ⟨e1, e2, e3⟩
      refine ⟨m1.trans e1, m2.trans e2, ?_⟩
      rcases e3 with e3 | e3
      · exact .inl (m2.trans e3)
      · rcases m3 with m3 | m3
        · exact .inl (m2.trans m3)
        · exact .inr (m3.trans e3)
    have sy : ∀ x y : Skip, sameSk x y → sameSk y x := fun x y ⟨e1, e2, e3⟩ => ⟨e1.symm, e2.symm, by rcases e3 with e3 | e3; exact .inl (e2.symm.trans e3); exact .inr e3.symm⟩
    refine ⟨a, s, b, rfl, ?_, h2, ?_⟩
    · rw [last_app, last_none ha, lastFrom, if_pos hm, last_none hb]; omega
    · rw [h2]
      refine List.pairwise_append.2 ⟨u1, List.pairwise_cons.2 ⟨fun x hx h => u4 x hx (tr x h), u5⟩, fun x hx y hy => ?_⟩
      rcases List.mem_cons.1 hy with rfl | hy
      · intro h; exact u3 x hx s (by simp) (sy _ _ (tr _ (sy _ _ h)))
      · exact u3 x hx y (by simp [hy])

end Sco
end Go.HL
