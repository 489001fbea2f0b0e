/- Packets read; the laws of chapter 3. -/
import Derived.Test.YtgigdnakgoefcaaPacket
namespace Go.HL
open Go.Proofs
namespace Pck
open Chk
set_option maxHeartbeats 2000000
set_option maxRecDepth 100000
set_option linter.unusedSimpArgs false
/-! ### Fit -/
theorem firstWrong_succ {l : List Chunk} {k : Nat} (h : k < l.length) (h0 : firstWrong (l.take k) = 0) : firstWrong (l.take (k + 1)) = wrong l[k] := by
  rw [← List.take_append_getElem h]
  generalize l.take k = a at h0 ⊢
  generalize l[k] = c
  induction a with
  | nil => simp only [List.nil_append, firstWrong]; split <;> omega
  | cons x r ih =>
    simp only [firstWrong] at h0
    split at h0
    · contradiction
    · rename_i hx
      simp only [List.cons_append, firstWrong]
      rw [if_neg hx]
      exact ih h0
/-- how far a count is -/
structure Fits (l : List Chunk) (most : Int) (k : Nat) : Prop where
  le : k ≤ l.length
  fine : firstWrong (l.take k) = 0
  much : ((allBytes (l.take k)).length : Int) ≤ most ∨ k = 0
theorem Fits.zero (l : List Chunk) (most : Int) : Fits l most 0 := ⟨by omega, by simp [firstWrong], .inr rfl⟩
theorem fit_step {l : List Chunk} {most : Int} {k : Nat} (h : k < l.length) (hf : Fits l most k) :
    ((pbytes (l.take (k + 1)) most).2 ≠ 0 ↔ (wrong l[k] ≠ 0 ∨ ((Chk.bytes l[k]).length : Int) > most - (allBytes (l.take k)).length)) := by
  have h1 := firstWrong_succ h hf.fine
  have h2 : (allBytes (l.take (k + 1))).length = (allBytes (l.take k)).length + (Chk.bytes l[k]).length := by rw [allBytes_succ h]; simp
  have h3 : ¬ (l.take (k + 1)).length = 0 := by rw [List.length_take]; omega
  rw [pbytes, if_neg h3, h1]
  by_cases hw : wrong l[k] ≠ 0
  · rw [if_pos hw]
    exact ⟨fun h => .inl hw, fun _ => hw⟩
  · rw [if_neg hw]
    split
    · exact ⟨fun _ => .inr (by omega), fun _ => by decide⟩
    · exact ⟨fun h => absurd rfl h, fun h => by rcases h with h | h; exact absurd h hw; omega⟩
theorem Fits.next {l : List Chunk} {most : Int} {k : Nat} (h : k < l.length) (hf : Fits l most k) (hn : ¬ (wrong l[k] ≠ 0 ∨ ((Chk.bytes l[k]).length : Int) > most - (allBytes (l.take k)).length)) : Fits l most (k + 1) := by
  have h1 := firstWrong_succ h hf.fine
  have h2 : (allBytes (l.take (k + 1))).length = (allBytes (l.take k)).length + (Chk.bytes l[k]).length := by rw [allBytes_succ h]; simp
  refine ⟨h, ?_, .inl ?_⟩
  · rw [h1]; rcases Int.decEq (wrong l[k]) 0 with h | h; exact absurd (.inl h) hn; exact h
  · have : ¬ ((Chk.bytes l[k]).length : Int) > most - (allBytes (l.take k)).length := fun h => hn (.inr h)
    omega
theorem fit_spec {l : List Chunk} {most : Int} : ∀ {j k : Nat}, l.length - k = j → Fits l most k → ∃ r, fitFrom most (allBytes (l.take k)).length k (l.drop k) = (r : Nat) ∧ Fits l most r ∧ (r < l.length → (pbytes (l.take (r + 1)) most).2 ≠ 0)
  | 0, k, hj, hf => by
    have hk : k = l.length := by have := hf.le; omega
    refine ⟨k, ?_, hf, fun h => absurd h (by omega)⟩
    rw [List.drop_eq_nil_of_le (by omega)]; rfl
  | j + 1, k, hj, hf => by
    have hlt : k < l.length := by omega
    have hs := fit_step hlt hf
    rw [List.drop_eq_getElem_cons hlt]
    simp only [fitFrom]
    by_cases hc : wrong l[k] ≠ 0 ∨ ((Chk.bytes l[k]).length : Int) > most - (allBytes (l.take k)).length
    · rw [if_pos hc]
      exact ⟨k, rfl, hf, fun _ => hs.2 hc⟩
    · rw [if_neg hc]
      obtain ⟨r, h1, h2, h3⟩ := fit_spec (j := j) (k := k + 1) (by omega) (hf.next hlt hc)
      rw [allBytes_succ hlt, List.length_append] at h1
      exact ⟨r, h1, h2, h3⟩
theorem fit_all (l : List Chunk) (most : Int) : ∃ r, fitFrom most 0 0 l = (r : Nat) ∧ Fits l most r ∧ (r < l.length → (pbytes (l.take (r + 1)) most).2 ≠ 0) := by
  have := fit_spec (l := l) (most := most) rfl (Fits.zero l most)
  simpa [allBytes] using this
theorem Fits.bytes {l : List Chunk} {most : Int} {k : Nat} (hf : Fits l most k) (hk : 0 < k) : (pbytes (l.take k) most).2 = 0 := by
  have hle := hf.le
  rw [pbytes, if_neg (by rw [List.length_take]; omega), if_neg (fun h => h hf.fine), if_neg (by rcases hf.much with h | h <;> omega)]
theorem Sized.take {l : List Chunk} (h : Sized l) (k : Nat) : Sized (l.take k) := ⟨by have := h.1; simp; omega, fun c hc => h.2 c (List.mem_of_mem_take hc)⟩

theorem spec_rfit (l : List Chunk) (most : Int) (hl : Sized l) : FunOK Try.prog 20 [chunks l, i64 most] noHeap (i64 (fitFrom most 0 0 l)) noHeap := by
  have hl1 := hl.1
  refine funOK_pure mixed Try.func20 (by decide) ?_
  conv => whnf
  refine hcut.go ?_; conv => whnf
  refine ⟨{ k : Nat // Fits l most k ∧ fitFrom most (allBytes (l.take k)).length k (l.drop k) = fitFrom most 0 0 l }, fun | ⟨k, _⟩ => hs 26 [(0, chunks l), (1, i64 most), (5, i64 k)] [], fun x => l.length - x.1, ⟨0, Fits.zero l most, by simp [allBytes]⟩, ?_, ?_⟩
  · exact hle_hs [] rfl rfl rfl rfl ⟨⟨rfl, rfl⟩, ⟨rfl, rfl⟩, ⟨rfl, rfl⟩, trivial⟩ trivial
  rintro ⟨k, hf, hi⟩
  conv => whnf
  refine hif_intro (fun c1 => ?_) (fun c1 => ?_)
  · have hlt : k < l.length := by simpa using c1
    have hstep := fit_step hlt hf
    have hnext := hf.next hlt
    have hsucc := allBytes_succ hlt
    rw [List.drop_eq_getElem_cons hlt] at hi
    simp only [fitFrom] at hi
    conv => whnf
    refine hwrap_fit (W_fit (by omega) (by omega)) ?_; conv => whnf
    refine hobl_intro (by simp; omega) ?_; conv => whnf
    refine hsub_eq (o' := 0) (n' := k + 1) rfl (by omega) ?_
    refine hsub_at (l := l) (by omega) ?_
    rw [List.drop_zero]
    conv => whnf
    refine hcall_pure ?_; conv => whnf
    refine ⟨_, spec_rpbytes (l.take (k + 1)) most (hl.take _), rfl, ?_⟩; conv => whnf
    refine hif_intro (fun c2 => ?_) (fun c2 => ?_)
    · have c2 : (pbytes (l.take (k + 1)) most).2 ≠ 0 := by simpa using c2
      rw [if_pos (hstep.1 c2)] at hi
      conv => whnf
      rw [← hi]
    · have c2 : (pbytes (l.take (k + 1)) most).2 = 0 := by simpa using c2
      have hn : ¬ (wrong l[k] ≠ 0 ∨ ((Chk.bytes l[k]).length : Int) > most - (allBytes (l.take k)).length) := fun h => hstep.2 h c2
      rw [if_neg hn] at hi
      conv => whnf
      refine hwrap_fit (W_fit (by omega) (by omega)) ?_; conv => whnf
      exact ⟨⟨k + 1, hnext hn, by rw [hsucc, List.length_append]; exact hi⟩, hle_hs [] rfl rfl rfl rfl ⟨⟨rfl, rfl⟩, ⟨rfl, rfl⟩, ⟨rfl, by simp; rfl⟩, trivial⟩ trivial, by dsimp only; omega⟩
  · have hge : l.length ≤ k := by simpa using c1
    rw [List.drop_eq_nil_of_le hge] at hi
    conv => whnf
    rw [← hi]
    rfl

/-! ### Parse -/
def parseN : Nat → List UInt8 → List Chunk × Int
  | 0, _ => ([], 0)
  | f + 1, b => if b.length = 0 then ([], 0) else if (parse b).2.2 ≠ 0 then ([], (parse b).2.2) else
      if (parseN f (b.drop (parse b).2.1.toNat)).2 ≠ 0 then ([], (parseN f (b.drop (parse b).2.1.toNat)).2) else ((parse b).1 :: (parseN f (b.drop (parse b).2.1.toNat)).1, 0)
def pparse (b : List UInt8) : List Chunk × Int := if b.length = 0 then ([], 5) else parseN b.length b
theorem parse_n {b : List UInt8} (h : (parse b).2.2 = 0) : 2 ≤ (parse b).2.1 := by
  unfold parse at h ⊢
  (repeat' split at h) <;> first | contradiction | skip
  all_goals (repeat' split) <;> first | contradiction | (dsimp only; omega)
theorem parseN_nil : ∀ (f : Nat) (b : List UInt8), (parseN f b).2 ≠ 0 → (parseN f b).1 = []
  | 0, b, h => rfl
  | f + 1, b, h => by
    rw [parseN] at h ⊢
    split
    · rfl
    split
    · rfl
    split
    · rfl
    · rename_i h1 h2 h3
      rw [if_neg h1, if_neg h2, if_neg h3] at h
      exact absurd rfl h
theorem spec_pparse (b : List UInt8) (hb : b.length < 2 ^ 37) : FunOK Try.prog 21 [byts b] noHeap (.tup [chunks (pparse b).1, i64 (pparse b).2]) noHeap := by
  refine funOK_pure mixed Try.func21 (by decide) ?_
  conv => whnf
  refine hif_intro (fun c1 => ?_) (fun c1 => ?_)
  · have c1 : b.length = 0 := by simpa using c1
    rw [pparse, if_pos c1]
    conv => whnf
    rfl
  have c1 : ¬ b.length = 0 := by simpa using c1
  rw [pparse, if_neg c1]
  generalize hR : parseN b.length b = R
  conv => whnf
  refine ⟨{ x : Nat × List UInt8 × List Chunk // x.2.1.length ≤ x.1 ∧ x.2.2.length + x.2.1.length ≤ b.length ∧ R.2 = (parseN x.1 x.2.1).2 ∧ ((parseN x.1 x.2.1).2 = 0 → R.1 = x.2.2 ++ (parseN x.1 x.2.1).1) ∧ (R.2 ≠ 0 → R.1 = []) }, fun | ⟨(f, b', acc), _⟩ => hs 31 [(0, byts b'), (4, .own 900)] [(900, .live (.row 26 11 (acc.map Chunk.row)))], fun x => x.1.2.1.length, ⟨(b.length, b, []), by dsimp only; omega, by simp, by dsimp only; rw [hR], fun _ => by dsimp only; rw [hR]; rfl, by rw [← hR]; exact parseN_nil _ _⟩, ?_, ?_⟩
  · exact hle_hs [(900, none)] rfl rfl rfl rfl ⟨⟨rfl, rfl⟩, ⟨rfl, rfl⟩, trivial⟩ ⟨⟨rfl, .inr ⟨rfl, rfl⟩⟩, trivial⟩
  rintro ⟨⟨f, b', acc⟩, hf, hlen, h1, h2, h3⟩
  dsimp only at hf hlen h1 h2 h3
  conv => whnf
  refine hif_intro (fun c2 => ?_) (fun c2 => ?_)
  · have c2 : 0 < b'.length := by have := of_decide_eq_true c2; rw [List.length_map] at this; omega
    obtain ⟨g, rfl⟩ : ∃ g, f = g + 1 := ⟨f - 1, by omega⟩
    rw [parseN, if_neg (by omega)] at h1 h2
    have hn := parse_n (b := b')
    have hg := parse_good (b := b')
    obtain ⟨q1, q2⟩ := parse_len b'
    conv => whnf
    refine hcall_pure ?_; conv => whnf
    refine ⟨_, spec_parse b' (by omega), rfl, ?_⟩
    generalize parse b' = p at h1 h2 hn hg q1 q2 ⊢
    obtain ⟨c, n, e⟩ := p
    dsimp only at h1 h2 hn hg q1 q2
    conv => whnf
    refine hif_intro (fun c3 => ?_) (fun c3 => ?_)
    · have c3 : e ≠ 0 := by simpa using c3
      rw [if_pos c3] at h1
      dsimp only at h1
      have h4 := h3 (by rw [h1]; exact c3)
      conv => whnf
      rw [h4, h1]
      try rfl
    have c3 : e = 0 := by simpa using c3
    rw [if_neg (fun h => h c3)] at h1 h2
    have hn := hn c3
    obtain ⟨g1, g2, g3, g4⟩ := hg c3
    conv => whnf
    refine hobl_intro (c := ((acc.map Chunk.row).length + 1) * 128 ≤ 140737488355328) (by simp; omega) ?_; conv => whnf
    refine hobl_intro ⟨g2, by rw [List.length_map]; exact g3, by omega⟩ ?_; conv => whnf
    refine hsub_from (l := b') (by rw [List.length_map]; show n.toNat + ((b'.length : Int) - n).toNat = b'.length; omega) ?_
    conv => whnf
    try (refine hdraw_intro ?_ ?_; · kernel_rfl)
    try conv => whnf
    refine ⟨⟨(g, b'.drop n.toNat, acc ++ [c]), by dsimp only; rw [List.length_drop]; omega, by dsimp only; rw [List.length_drop, List.length_append]; simp; omega, ?_, ?_, h3⟩, hle_hs [(900, some 26)] rfl rfl rfl rfl ⟨⟨rfl, rfl⟩, ⟨rfl, rfl⟩, trivial⟩ ⟨⟨rfl, .inl ⟨26, rfl, ?_⟩⟩, trivial⟩, by dsimp only; rw [List.length_drop]; omega⟩
    · dsimp only
      rw [h1]
      split
      · rfl
      · rename_i h; exact (Decidable.of_not_not h).symm
    · dsimp only
      intro h
      rw [if_neg (fun h' => h' h)] at h2
      have := h2 rfl
      rw [this]; simp
    · show HSlot.live (.row _ 11 (acc.map Chunk.row ++ [c.row])) = HSlot.live (.row _ 11 ((acc ++ [c]).map Chunk.row))
      rw [List.map_append]
      rfl
  · have c2 : b'.length = 0 := by have := of_decide_eq_false c2; rw [List.length_map] at this; omega
    have h4 : parseN f b' = ([], 0) := by
      cases f with
      | zero => rfl
      | succ f => rw [parseN, if_pos c2]
    rw [h4] at h1 h2
    have h5 := h2 rfl
    rw [List.append_nil] at h5
    have h1 : R.2 = 0 := h1
    conv => whnf
    rw [h5, h1]
    try rfl

theorem spec_rpparse (b : List UInt8) (hb : b.length < 2 ^ 37) : FunOK Try.prog 22 [byts b] noHeap (.tup [chunks (pparse b).1, i64 (pparse b).2]) noHeap := by
  refine funOK_pure mixed Try.func22 (by decide) ?_
  conv => whnf
  refine hif_intro (fun c1 => ?_) (fun c1 => ?_)
  · have c1 : b.length = 0 := by simpa using c1
    rw [pparse, if_pos c1]
    conv => whnf
    rfl
  have c1 : ¬ b.length = 0 := by simpa using c1
  rw [pparse, if_neg c1]
  generalize hR : parseN b.length b = R
  conv => whnf
  refine ⟨{ x : Nat × List UInt8 × List Chunk // x.2.1.length ≤ x.1 ∧ x.2.2.length + x.2.1.length ≤ b.length ∧ R.2 = (parseN x.1 x.2.1).2 ∧ ((parseN x.1 x.2.1).2 = 0 → R.1 = x.2.2 ++ (parseN x.1 x.2.1).1) ∧ (R.2 ≠ 0 → R.1 = []) }, fun | ⟨(f, b', acc), _⟩ => hs 31 [(0, byts b'), (4, .own 900)] [(900, .live (.row 26 11 (acc.map Chunk.row)))], fun x => x.1.2.1.length, ⟨(b.length, b, []), by dsimp only; omega, by simp, by dsimp only; rw [hR], fun _ => by dsimp only; rw [hR]; rfl, by rw [← hR]; exact parseN_nil _ _⟩, ?_, ?_⟩
  · exact hle_hs [(900, none)] rfl rfl rfl rfl ⟨⟨rfl, rfl⟩, ⟨rfl, rfl⟩, trivial⟩ ⟨⟨rfl, .inr ⟨rfl, rfl⟩⟩, trivial⟩
  rintro ⟨⟨f, b', acc⟩, hf, hlen, h1, h2, h3⟩
  dsimp only at hf hlen h1 h2 h3
  conv => whnf
  refine hif_intro (fun c2 => ?_) (fun c2 => ?_)
  · have c2 : 0 < b'.length := by have := of_decide_eq_true c2; rw [List.length_map] at this; omega
    obtain ⟨g, rfl⟩ : ∃ g, f = g + 1 := ⟨f - 1, by omega⟩
    rw [parseN, if_neg (by omega)] at h1 h2
    have hn := parse_n (b := b')
    have hg := parse_good (b := b')
    obtain ⟨q1, q2⟩ := parse_len b'
    conv => whnf
    refine hcall_pure ?_; conv => whnf
    refine ⟨_, spec_rparse b' (by omega), rfl, ?_⟩
    generalize parse b' = p at h1 h2 hn hg q1 q2 ⊢
    obtain ⟨c, n, e⟩ := p
    dsimp only at h1 h2 hn hg q1 q2
    conv => whnf
    refine hif_intro (fun c3 => ?_) (fun c3 => ?_)
    · have c3 : e ≠ 0 := by simpa using c3
      rw [if_pos c3] at h1
      dsimp only at h1
      have h4 := h3 (by rw [h1]; exact c3)
      conv => whnf
      rw [h4, h1]
      try rfl
    have c3 : e = 0 := by simpa using c3
    rw [if_neg (fun h => h c3)] at h1 h2
    have hn := hn c3
    obtain ⟨g1, g2, g3, g4⟩ := hg c3
    conv => whnf
    refine hobl_intro (c := ((acc.map Chunk.row).length + 1) * 128 ≤ 140737488355328) (by simp; omega) ?_; conv => whnf
    refine hobl_intro ⟨g2, by rw [List.length_map]; exact g3, by omega⟩ ?_; conv => whnf
    refine hsub_from (l := b') (by rw [List.length_map]; show n.toNat + ((b'.length : Int) - n).toNat = b'.length; omega) ?_
    conv => whnf
    try (refine hdraw_intro ?_ ?_; · kernel_rfl)
    try conv => whnf
    refine ⟨⟨(g, b'.drop n.toNat, acc ++ [c]), by dsimp only; rw [List.length_drop]; omega, by dsimp only; rw [List.length_drop, List.length_append]; simp; omega, ?_, ?_, h3⟩, hle_hs [(900, some 26)] rfl rfl rfl rfl ⟨⟨rfl, rfl⟩, ⟨rfl, rfl⟩, trivial⟩ ⟨⟨rfl, .inl ⟨26, rfl, ?_⟩⟩, trivial⟩, by dsimp only; rw [List.length_drop]; omega⟩
    · dsimp only
      rw [h1]
      split
      · rfl
      · rename_i h; exact (Decidable.of_not_not h).symm
    · dsimp only
      intro h
      rw [if_neg (fun h' => h' h)] at h2
      have := h2 rfl
      rw [this]; simp
    · show HSlot.live (.row _ 11 (acc.map Chunk.row ++ [c.row])) = HSlot.live (.row _ 11 ((acc ++ [c]).map Chunk.row))
      rw [List.map_append]
      rfl
  · have c2 : b'.length = 0 := by have := of_decide_eq_false c2; rw [List.length_map] at this; omega
    have h4 : parseN f b' = ([], 0) := by
      cases f with
      | zero => rfl
      | succ f => rw [parseN, if_pos c2]
    rw [h4] at h1 h2
    have h5 := h2 rfl
    rw [List.append_nil] at h5
    have h1 : R.2 = 0 := h1
    conv => whnf
    rw [h5, h1]
    try rfl

theorem parseN_sized : ∀ (f : Nat) (b : List UInt8), (parseN f b).1.length ≤ b.length ∧ ∀ c ∈ (parseN f b).1, c.spans.length ≤ b.length ∧ c.skips.length ≤ b.length
  | 0, b => by simp [parseN]
  | f + 1, b => by
    rw [parseN]
    split
    · simp
    split
    · simp
    split
    · simp
    rename_i h1 h2 h3
    have hn := parse_n (b := b) (by omega)
    have hp := parse_len b
    obtain ⟨h4, h5⟩ := parseN_sized f (b.drop (parse b).2.1.toNat)
    simp only [List.length_drop] at h4 h5
    refine ⟨by simp; omega, fun c hc => ?_⟩
    rcases List.mem_cons.1 hc with rfl | hc
    · exact hp
    · have := h5 c hc; omega
theorem pparse_sized {b : List UInt8} (hb : b.length < 2 ^ 37) : Sized (pparse b).1 := by
  unfold pparse
  split
  · exact ⟨by simp, by simp⟩
  · obtain ⟨h1, h2⟩ := parseN_sized b.length b
    exact ⟨by omega, fun c hc => by have := h2 c hc; omega⟩
theorem spec_sameChunks (l : List Chunk) (hl : Sized l) : FunOK Try.prog 23 [chunks l, chunks l] noHeap (hbool true) noHeap := by
  obtain ⟨hl1, hl2⟩ := hl
  refine funOK_pure mixed Try.func23 (by decide) ?_
  conv => whnf
  refine hif_false ?_ ?_
  · simp
  conv => whnf
  refine ⟨{ k : Nat // k ≤ l.length }, fun | ⟨k, _⟩ => hs 27 [(0, chunks l), (1, chunks l), (12, i64 l.length), (13, i64 k)] [], fun x => l.length - x.1, ⟨0, by omega⟩, ?_, ?_⟩
  · exact hle_hs [] rfl rfl rfl rfl ⟨⟨rfl, rfl⟩, ⟨rfl, rfl⟩, ⟨rfl, by simp; rfl⟩, ⟨rfl, rfl⟩, trivial⟩ trivial
  rintro ⟨k, hk⟩
  conv => whnf
  refine hif_intro (fun c => ?_) (fun c => ?_)
  · have hlt : k < l.length := by simpa using c
    obtain ⟨s1, s2⟩ := hl2 l[k] (List.getElem_mem hlt)
    conv => whnf
    refine hrow_at (f := Chunk.row) (l := l) k rfl hlt ?_; conv => whnf
    refine hrow_at (f := Chunk.row) (l := l) k rfl hlt ?_; conv => whnf
    refine hcall_lend ?_; conv => whnf
    refine ⟨_, spec_same l[k] (by omega) (by omega), rfl, ?_⟩; conv => whnf
    refine hdraw_intro ?_ ?_
    · kernel_rfl
    conv => whnf
    refine hwrap_fit (W_fit (by omega) (by omega)) ?_; conv => whnf
    exact ⟨⟨k + 1, hlt⟩, hle_hs [] rfl rfl rfl rfl ⟨⟨rfl, rfl⟩, ⟨rfl, rfl⟩, ⟨rfl, rfl⟩, ⟨rfl, by simp; rfl⟩, trivial⟩ trivial, by dsimp only; omega⟩
  · conv => whnf

theorem tells (l : List Chunk) (most : Int) (b : List UInt8) (hl : Sized l) (hm : inI most) (hb : b.length < 2 ^ 37) : FunOK Try.prog 5 [chunks l, i64 most, byts b] noHeap (hbool true) noHeap := by
  refine funOK_pure mixed Try.func5 (by decide) ?_
  conv => whnf
  refine hcall_pure ?_; conv => whnf
  refine ⟨_, spec_pbytes l most hl, rfl, ?_⟩; conv => whnf
  refine hcall_pure ?_; conv => whnf
  refine ⟨_, spec_rpbytes l most hl, rfl, ?_⟩; conv => whnf
  refine hif_false ?_ ?_
  · simp
  conv => whnf
  refine hbytes_intro rfl ?_; conv => whnf
  refine hbytes_intro rfl ?_; conv => whnf
  refine hif_false ?_ ?_
  · simp
  conv => whnf
  refine hcall_lend ?_; conv => whnf
  refine ⟨_, spec_fit l most hl hm, rfl, ?_⟩; conv => whnf
  refine hcall_lend ?_; conv => whnf
  refine ⟨_, spec_rfit l most hl, rfl, ?_⟩; conv => whnf
  refine hif_false ?_ ?_
  · simp
  conv => whnf
  refine hcall_pure ?_; conv => whnf
  refine ⟨_, spec_pparse b hb, rfl, ?_⟩; conv => whnf
  refine hcall_pure ?_; conv => whnf
  refine ⟨_, spec_rpparse b hb, rfl, ?_⟩; conv => whnf
  refine hif_true ?_ ?_
  · simp
  conv => whnf
  refine hcall_lend ?_; conv => whnf
  refine ⟨_, spec_sameChunks (pparse b).1 (pparse_sized hb), rfl, ?_⟩; conv => whnf
end Pck
end Go.HL
