/- Packets read; the laws of chapter 3. -/
import Derived.Test.YticmofoeecjnhaaPacket
namespace Go.HL
open Go.Proofs
namespace Pck
open Chk
set_option maxHeartbeats 2000000
set_option maxRecDepth 100000
set_option linter.unusedSimpArgs false
theorem firstWrong_succ {l : List Chunk} {k : Nat} (h : k < l.length) (h0 : firstWrong (l.take k) = 0) : firstWrong (l.take (k + 1)) = wrong l[k] := by
  rw [← List.take_append_getElem h]
  generalize l.take k = a at h0 ⊢
  generalize l[k] = c
  induction a with
  | nil => simp only [List.nil_append, firstWrong]; split <;> omega
  | cons x r ih =>
    simp only [firstWrong] at h0
    split at h0
    · contradiction
    · rename_i hx
      simp only [List.cons_append, firstWrong]
      rw [if_neg hx]
      exact ih h0
structure Fits (l : List Chunk) (most : Int) (k : Nat) : Prop where
  le : k ≤ l.length
  fine : firstWrong (l.take k) = 0
  much : ((allBytes (l.take k)).length : Int) ≤ most ∨ k = 0
theorem Fits.zero (l : List Chunk) (most : Int) : Fits l most 0 := ⟨by omega, by simp [firstWrong], .inr rfl⟩
theorem fit_step {l : List Chunk} {most : Int} {k : Nat} (h : k < l.length) (hf : Fits l most k) :
    ((pbytes (l.take (k + 1)) most).2 ≠ 0 ↔ (wrong l[k] ≠ 0 ∨ ((Chk.bytes l[k]).length : Int) > most - (allBytes (l.take k)).length)) := by
  have h1 := firstWrong_succ h hf.fine
  have h2 : (allBytes (l.take (k + 1))).length = (allBytes (l.take k)).length + (Chk.bytes l[k]).length := by rw [allBytes_succ h]; simp
  have h3 : ¬ (l.take (k + 1)).length = 0 := by rw [List.length_take]; omega
  rw [pbytes, if_neg h3, h1]
  by_cases hw : wrong l[k] ≠ 0
  · rw [if_pos hw]
    exact ⟨fun h => .inl hw, fun _ => hw⟩
  · rw [if_neg hw]
    split
    · exact ⟨fun _ => .inr (by omega), fun _ => by decide⟩
    · exact ⟨fun h => absurd rfl h, fun h => by rcases h with h | h; exact absurd h hw; omega⟩
theorem Fits.next {l : List Chunk} {most : Int} {k : Nat} (h : k < l.length) (hf : Fits l most k) (hn : ¬ (wrong l[k] ≠ 0 ∨ ((Chk.bytes l[k]).length : Int) > most - (allBytes (l.take k)).length)) : Fits l most (k + 1) := by
  have h1 := firstWrong_succ h hf.fine
  have h2 : (allBytes (l.take (k + 1))).length = (allBytes (l.take k)).length + (Chk.bytes l[k]).length := by rw [allBytes_succ h]; simp
  refine ⟨h, ?_, .inl ?_⟩
  · rw [h1]; rcases Int.decEq (wrong l[k]) 0 with h | h; exact absurd (.inl h) hn; exact h
  · have : ¬ ((Chk.bytes l[k]).length : Int) > most - (allBytes (l.take k)).length := fun h => hn (.inr h)
    omega
theorem fit_spec {l : List Chunk} {most : Int} : ∀ {j k : Nat}, l.length - k = j → Fits l most k → ∃ r, fitFrom most (allBytes (l.take k)).length k (l.drop k) = (r : Nat) ∧ Fits l most r ∧ (r < l.length → (pbytes (l.take (r + 1)) most).2 ≠ 0)
  | 0, k, hj, hf => by
    have hk : k = l.length := by have := hf.le; omega
    refine ⟨k, ?_, hf, fun h => absurd h (by omega)⟩
    rw [List.drop_eq_nil_of_le (by omega)]; rfl
  | j + 1, k, hj, hf => by
    have hlt : k < l.length := by omega
    have hs := fit_step hlt hf
    rw [List.drop_eq_getElem_cons hlt]
    simp only [fitFrom]
    by_cases hc : wrong l[k] ≠ 0 ∨ ((Chk.bytes l[k]).length : Int) > most - (allBytes (l.take k)).length
    · rw [if_pos hc]
      exact ⟨k, rfl, hf, fun _ => hs.2 hc⟩
    · rw [if_neg hc]
      obtain ⟨r, h1, h2, h3⟩ := fit_spec (j := j) (k := k + 1) (by omega) (hf.next hlt hc)
      rw [allBytes_succ hlt, List.length_append] at h1
      exact ⟨r, h1, h2, h3⟩
theorem fit_all (l : List Chunk) (most : Int) : ∃ r, fitFrom most 0 0 l = (r : Nat) ∧ Fits l most r ∧ (r < l.length → (pbytes (l.take (r + 1)) most).2 ≠ 0) := by
  have := fit_spec (l := l) (most := most) rfl (Fits.zero l most)
  simpa [allBytes] using this
theorem Fits.bytes {l : List Chunk} {most : Int} {k : Nat} (hf : Fits l most k) (hk : 0 < k) : (pbytes (l.take k) most).2 = 0 := by
  have hle := hf.le
  rw [pbytes, if_neg (by rw [List.length_take]; omega), if_neg (fun h => h hf.fine), if_neg (by rcases hf.much with h | h <;> omega)]
theorem Sized.take {l : List Chunk} (h : Sized l) (k : Nat) : Sized (l.take k) := ⟨by have := h.1; simp; omega, fun c hc => h.2 c (List.mem_of_mem_take hc)⟩
end Pck
end Go.HL
