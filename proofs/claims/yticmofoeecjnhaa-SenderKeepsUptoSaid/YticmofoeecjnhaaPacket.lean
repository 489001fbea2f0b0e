/- The functions of package packet, and the document's, as what they compute. -/
import Derived.Test.YticmofoeecjnhaaChunkTurns
namespace Go.HL
open Go.Proofs
namespace Pck
open Chk
set_option maxHeartbeats 2000000
set_option maxRecDepth 100000
set_option linter.unusedSimpArgs false
abbrev chunks (l : List Chunk) : HV := .p (.sl 11 (l.map Chunk.row))
def Sized (l : List Chunk) : Prop := l.length < 2 ^ 38 ∧ ∀ c ∈ l, c.spans.length < 2 ^ 38 ∧ c.skips.length < 2 ^ 38
def firstWrong : List Chunk → Int
  | [] => 0
  | c :: r => if wrong c ≠ 0 then wrong c else firstWrong r
def allBytes (l : List Chunk) : List UInt8 := l.flatMap Chk.bytes
def pbytes (l : List Chunk) (most : Int) : List UInt8 × Int :=
  if l.length = 0 then ([], 5) else if firstWrong l ≠ 0 then ([], firstWrong l) else if ((allBytes l).length : Int) > most then ([], 4) else (allBytes l, 0)
theorem bytes_len (c : Chunk) : (Chk.bytes c).length ≤ 36 := by
  unfold Chk.bytes
  split
  · rename_i h; have := body_len h; simp; omega
  · simp
theorem allBytes_len : ∀ l : List Chunk, (allBytes l).length ≤ 36 * l.length
  | [] => by simp [allBytes]
  | c :: r => by
    have h1 := bytes_len c
    have h2 := allBytes_len r
    simp only [allBytes, List.flatMap_cons, List.length_append, List.length_cons] at h2 ⊢
    omega
theorem allBytes_succ {l : List Chunk} {k : Nat} (h : k < l.length) : allBytes (l.take (k + 1)) = allBytes (l.take k) ++ Chk.bytes l[k] := by
  rw [← List.take_append_getElem h, allBytes, List.flatMap_append]; simp [allBytes]
theorem spec_pbytes (l : List Chunk) (most : Int) (hl : Sized l) : FunOK Try.prog 96 [chunks l, i64 most] noHeap (.tup [byts (pbytes l most).1, i64 (pbytes l most).2]) noHeap := by
  obtain ⟨hl1, hl2⟩ := hl
  refine funOK_pure mixed Try.func96 (by decide) ?_
  conv => whnf
  refine hif_intro (fun c1 => ?_) (fun c1 => ?_)
  · have c1 : l.length = 0 := by simpa using c1
    rw [pbytes, if_pos c1]
    conv => whnf
    rfl
  have c1 : ¬ l.length = 0 := by simpa using c1
  rw [pbytes, if_neg c1]
  conv => whnf
  refine ⟨{ k : Nat // k ≤ l.length ∧ firstWrong l = firstWrong (l.drop k) }, fun | ⟨k, _⟩ => hs 37 [(1, i64 most), (6, .own 900), (14, chunks l), (15, i64 l.length), (16, i64 k)] [(900, row8 (allBytes (l.take k)))], fun x => l.length - x.1, ⟨0, by omega, rfl⟩, ?_, ?_⟩
  · exact hle_hs [(900, none)] rfl rfl rfl rfl ⟨⟨rfl, rfl⟩, ⟨rfl, rfl⟩, ⟨rfl, rfl⟩, ⟨rfl, by simp; rfl⟩, ⟨rfl, rfl⟩, trivial⟩ ⟨⟨rfl, .inr ⟨rfl, rfl⟩⟩, trivial⟩
  rintro ⟨k, hk, hi⟩
  conv => whnf
  refine hif_intro (fun c2 => ?_) (fun c2 => ?_)
  · have hlt : k < l.length := by simpa using c2
    have hab := allBytes_len (l.take k)
    have hab2 : (l.take k).length ≤ k := by simp; omega
    obtain ⟨s1, s2⟩ := hl2 l[k] (List.getElem_mem hlt)
    have hsucc := allBytes_succ hlt
    have hbl := bytes_len l[k]
    rw [List.drop_eq_getElem_cons hlt] at hi
    simp only [firstWrong] at hi
    conv => whnf
    refine hrow_at (f := Chunk.row) (l := l) k rfl hlt ?_
    generalize l[k] = c at s1 s2 hi hsucc hbl ⊢
    conv => whnf
    refine hcall_pure ?_; conv => whnf
    refine ⟨_, spec_bytes c (by omega) (by omega), rfl, ?_⟩; conv => whnf
    refine hif_intro (fun c3 => ?_) (fun c3 => ?_)
    · have c3 : wrong c ≠ 0 := by simpa using c3
      rw [if_pos c3] at hi
      conv => whnf
      rw [hi, if_pos c3]
      rfl
    have c3 : wrong c = 0 := by simpa using c3
    rw [if_neg (fun h => h c3)] at hi
    conv => whnf
    refine hobl_intro (c := (((allBytes (l.take k)).map bRow).length + ((Chk.bytes c).map bRow).length) * 1 ≤ 140737488355328) (by simp; omega) ?_; conv => whnf
    refine hwrap_fit (W_fit (by omega) (by omega)) ?_; conv => whnf
    refine ⟨⟨k + 1, hlt, hi⟩, hle_hs [(900, some 30)] rfl rfl rfl rfl ⟨⟨rfl, rfl⟩, ⟨rfl, rfl⟩, ⟨rfl, rfl⟩, ⟨rfl, rfl⟩, ⟨rfl, by simp; rfl⟩, trivial⟩ ⟨⟨rfl, .inl ⟨30, rfl, ?_⟩⟩, trivial⟩, by dsimp only; omega⟩
    show HSlot.live (.row _ 1 ((allBytes (l.take k)).map bRow ++ (Chk.bytes c).map bRow)) = row8 (allBytes (l.take (k + 1)))
    rw [hsucc, row8, List.map_append]
  · have hge : l.length ≤ k := by simpa using c2
    rw [List.drop_eq_nil_of_le hge] at hi
    have hi : firstWrong l = 0 := hi
    have ht : l.take k = l := List.take_of_length_le hge
    have hab := allBytes_len l
    conv => whnf
    refine hif_intro (fun c3 => ?_) (fun c3 => ?_)
    · have c3 : ((allBytes l).length : Int) > most := by rw [ht] at c3; simpa using c3
      conv => whnf
      rw [if_neg (fun h => h hi), if_pos c3]
      rfl
    · have c3 : ¬ ((allBytes l).length : Int) > most := by rw [ht] at c3; simpa using c3
      conv => whnf
      rw [if_neg (fun h => h hi), if_neg c3, ht]
def fitFrom (most : Int) (n : Nat) (k : Nat) : List Chunk → Int
  | [] => k
  | c :: r => if wrong c ≠ 0 ∨ ((Chk.bytes c).length : Int) > most - n then k else fitFrom most (n + (Chk.bytes c).length) (k + 1) r
theorem spec_fit (l : List Chunk) (most : Int) (hl : Sized l) (hm : inI most) : FunOK Try.prog 95 [chunks l, i64 most] noHeap (i64 (fitFrom most 0 0 l)) noHeap := by
  obtain ⟨hl1, hl2⟩ := hl
  refine funOK_pure mixed Try.func95 (by decide) ?_
  conv => whnf
  refine ⟨{ x : Nat × Nat // x.1 ≤ l.length ∧ x.2 = (allBytes (l.take x.1)).length ∧ ((x.2 : Int) ≤ most ∨ x.2 = 0) ∧ fitFrom most x.2 x.1 (l.drop x.1) = fitFrom most 0 0 l }, fun | ⟨(k, n), _⟩ => hs 40 [(0, chunks l), (1, i64 most), (5, i64 n), (10, chunks l), (11, i64 l.length), (12, i64 k)] [], fun x => l.length - x.1.1, ⟨(0, 0), by simp, by simp [allBytes], .inr rfl, rfl⟩, ?_, ?_⟩
  · exact hle_hs [] rfl rfl rfl rfl ⟨⟨rfl, rfl⟩, ⟨rfl, rfl⟩, ⟨rfl, rfl⟩, ⟨rfl, rfl⟩, ⟨rfl, by simp; rfl⟩, ⟨rfl, rfl⟩, trivial⟩ trivial
  rintro ⟨⟨k, n⟩, hk, hn, hmost, hi⟩
  dsimp only at hk hn hmost hi
  conv => whnf
  refine hif_intro (fun c1 => ?_) (fun c1 => ?_)
  · have hlt : k < l.length := by simpa using c1
    have hab := allBytes_len (l.take k)
    have hab2 : (l.take k).length ≤ k := by simp; omega
    obtain ⟨s1, s2⟩ := hl2 l[k] (List.getElem_mem hlt)
    rw [List.drop_eq_getElem_cons hlt] at hi
    simp only [fitFrom] at hi
    conv => whnf
    refine hrow_at (f := Chunk.row) (l := l) k rfl hlt ?_; conv => whnf
    have hbl := bytes_len l[k]
    have hsucc := allBytes_succ hlt
    generalize l[k] = c at s1 s2 hi hbl hsucc ⊢
    refine hcall_pure ?_; conv => whnf
    refine ⟨_, spec_bytes c (by omega) (by omega), rfl, ?_⟩; conv => whnf
    refine hif_intro (fun c2 => ?_) (fun c2 => ?_)
    · have c2 : wrong c ≠ 0 := by simpa using c2
      rw [if_pos (.inl c2)] at hi
      conv => whnf
      rw [← hi]
    have c2 : wrong c = 0 := by simpa using c2
    obtain ⟨hm1, hm2⟩ := hm
    conv => whnf
    refine hwrap_fit (z := most - n) (W_fit (by omega) (by omega)) ?_; conv => whnf
    refine hif_intro (fun c3 => ?_) (fun c3 => ?_)
    · have c3 : ((Chk.bytes c).length : Int) > most - n := by simpa using c3
      rw [if_pos (.inr c3)] at hi
      conv => whnf
      rw [← hi]
    have c3 : ¬ ((Chk.bytes c).length : Int) > most - n := by simpa using c3
    rw [if_neg (by rintro (h | h); exact h c2; exact c3 h)] at hi
    conv => whnf
    refine hwrap_fit (z := (n : Int) + ((Chk.bytes c).map bRow).length) (W_fit (by simp; omega) (by simp; omega)) ?_; conv => whnf
    refine hwrap_fit (W_fit (by omega) (by omega)) ?_; conv => whnf
    exact ⟨⟨(k + 1, n + (Chk.bytes c).length), hlt, by dsimp only; rw [hsucc]; simp; omega, by dsimp only; left; push_cast; omega, hi⟩, hle_hs [] rfl rfl rfl rfl ⟨⟨rfl, rfl⟩, ⟨rfl, rfl⟩, ⟨rfl, by simp; rfl⟩, ⟨rfl, rfl⟩, ⟨rfl, rfl⟩, ⟨rfl, by simp; rfl⟩, trivial⟩ trivial, by dsimp only; omega⟩
  · have hge : l.length ≤ k := by simpa using c1
    rw [List.drop_eq_nil_of_le hge] at hi
    conv => whnf
    have hkl : k = l.length := by omega
    simp only [fitFrom] at hi
    rw [← hi, hkl]
    simp
end Pck
end Go.HL
