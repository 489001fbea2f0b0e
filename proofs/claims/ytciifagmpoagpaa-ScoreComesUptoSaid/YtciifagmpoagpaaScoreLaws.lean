/- The law ScoreTells: what it hands back is true. -/
import Derived.Test.YtciifagmpoagpaaScore5
namespace Go.HL
open Go.Proofs
namespace Sco
open Ser
set_option maxHeartbeats 4000000
set_option maxRecDepth 100000
set_option linter.unusedSimpArgs false
structure Big (l : List Sent) : Prop where
  sized : Sized l
  parts : ∀ s ∈ l, s.chunk.spans.length < 2 ^ 38 ∧ s.chunk.skips.length < 2 ^ 38
theorem big_sub {l l' : List Sent} (h : Big l) (hl : l'.length ≤ l.length) (ht : total l' ≤ total l) (hm : ∀ s ∈ l', ∃ t ∈ l, s.chunk = t.chunk) : Big l' :=
  ⟨⟨by have := h.sized.len; omega, by have := h.sized.bytes; omega⟩, fun s hs => by obtain ⟨t, ht, e⟩ := hm s hs; rw [e]; exact h.parts t ht⟩
theorem total_map {f : Sent → Sent} (hf : ∀ s, (f s).chunk = s.chunk) : ∀ l : List Sent, total (l.map f) = total l
  | [] => rfl
  | s :: r => by rw [List.map_cons, total_cons, total_cons, total_map hf r, hf]
theorem total_filter (p : Sent → Bool) : ∀ l : List Sent, total (l.filter p) ≤ total l
  | [] => Nat.le_refl _
  | s :: r => by
    have := total_filter p r
    rw [List.filter_cons, total_cons]
    split
    · rw [total_cons]; omega
    · omega
theorem turn_chunk (c : Chunk) (n : Int) (s : Sent) : (turn c n s).chunk = s.chunk := by unfold turn; split <;> rfl
theorem age_chunk (h : Int) (s : Sent) : (age h s).chunk = s.chunk := by unfold age; (repeat' split) <;> rfl
theorem give_chunk (id : Int) (s : Sent) : (give id s).chunk = s.chunk := by unfold give; split <;> rfl
theorem late_chunk (p : Int) (s : Sent) : (late p s).chunk = s.chunk := by unfold late; split <;> rfl
theorem big_map {f : Sent → Sent} (hf : ∀ s, (f s).chunk = s.chunk) {l : List Sent} (h : Big l) : Big (l.map f) :=
  big_sub h (by simp) (by rw [total_map hf]; exact Nat.le_refl _) fun s hs => by obtain ⟨t, ht, rfl⟩ := List.mem_map.1 hs; exact ⟨t, ht, hf t⟩
theorem left_big {l : List Sent} (h : Big l) (c : Chunk) (n : Int) : Big (left c n l) :=
  big_map (turn_chunk c n) (big_sub h (List.length_filter_le _ _) (total_filter _ _) fun s hs => ⟨s, (List.mem_filter.1 hs).1, rfl⟩)
theorem sack_big {l : List Sent} (h : Big l) (cum : Int) (c : Chunk) (paths : Int) : Big (sack l cum c paths).1 := by
  unfold sack
  split
  · exact h
  · exact big_map (age_chunk _) (left_big h _ _)
theorem point_len (cum : Int) : ∀ (l : List Sent) (z : Int) (sk : List Skip), sk.length ≤ 8 → (pointFrom z sk l).2.length ≤ 8
  | [], z, sk, h => h
  | s :: r, z, sk, h => by
    rw [pointFrom]
    split
    · exact h
    split
    · split
      · exact h
      · exact point_len cum r _ _ (by omega)
    · exact point_len cum r _ _ h
theorem lost_len (h : Int) (l : List Sent) : (lost h l).length ≤ l.length := by rw [lost, List.length_map]; exact List.length_filter_le _ _
theorem sack_len (l : List Sent) (cum : Int) (c : Chunk) (paths : Int) (hp : paths ≤ 2) : (sack l cum c paths).2.2.1.length ≤ 2 ∧ (sack l cum c paths).2.2.2.length ≤ l.length := by
  unfold sack
  split
  · simp; omega
  · rw [comeOf_len]
    have h1 := lost_len (highOf c (near cum c.tag) l) (left c (near cum c.tag) l)
    have h2 : (left c (near cum c.tag) l).length ≤ l.length := by rw [left, List.length_map]; exact List.length_filter_le _ _
    dsimp only; omega

end Sco
end Go.HL
