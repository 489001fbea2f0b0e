/- SameChunk of equal chunks; ChunkTells. -/
import Derived.Test.YtgigdnakgoefcaaChunk4
namespace Go.HL
open Go.Proofs
namespace Chk
set_option maxHeartbeats 1000000
set_option maxRecDepth 100000
set_option linter.unusedSimpArgs false
theorem spec_sameSpans (l : List Span) (hb : l.length < 2 ^ 40) : FunOK Try.prog 34 [spansHV l, spansHV l] noHeap (hbool true) noHeap := by
  refine funOK_pure mixed Try.func34 (by decide) ?_
  conv => whnf
  refine hif_false ?_ ?_
  · simp
  conv => whnf
  refine ⟨{ k : Nat // k ≤ l.length }, fun | ⟨k, _⟩ => hs 26 [(0, spansHV l), (1, spansHV l), (12, i64 l.length), (13, i64 k)] [], fun x => l.length - x.1, ⟨0, by omega⟩, ?_, ?_⟩
  · exact hle_hs [] rfl rfl rfl rfl ⟨⟨rfl, rfl⟩, ⟨rfl, rfl⟩, ⟨rfl, by simp; rfl⟩, ⟨rfl, rfl⟩, trivial⟩ trivial
  rintro ⟨k, hk⟩
  conv => whnf
  refine hif_intro (fun c => ?_) (fun c => ?_)
  · have hlt : k < l.length := by simpa using c
    conv => whnf
    refine hrow_at k rfl hlt ?_; conv => whnf
    refine hrow_at k rfl hlt ?_; conv => whnf
    refine hobl_intro ?_ ?_
    · kernel_rfl
    conv => whnf
    refine hdraw_intro ?_ ?_
    · kernel_rfl
    conv => whnf
    refine hif_false ?_ ?_
    · simp
    conv => whnf
    refine hwrap_fit (W_fit (by omega) (by omega)) ?_; conv => whnf
    exact ⟨⟨k + 1, hlt⟩, hle_hs [] rfl rfl rfl rfl ⟨⟨rfl, rfl⟩, ⟨rfl, rfl⟩, ⟨rfl, rfl⟩, ⟨rfl, by simp; rfl⟩, trivial⟩ trivial, by dsimp only; omega⟩
  · conv => whnf
theorem spec_same (c : Chunk) (h9 : c.spans.length < 2 ^ 40) (h8 : c.skips.length < 2 ^ 40) : FunOK Try.prog 15 [c.hv, c.hv] noHeap (hbool true) noHeap := by
  refine funOK_pure mixed Try.func15 (by decide) ?_
  conv => whnf
  repeat' (first | (refine hif_false ?_ ?_; · simp; done
                    conv => whnf) | (refine hbytes_intro rfl ?_; conv => whnf) | (refine hcall_lend ?_; (conv => whnf); refine ⟨_, spec_sameSpans c.spans h9, rfl, ?_⟩; conv => whnf))
  refine ⟨{ k : Nat // k ≤ c.skips.length }, fun | ⟨k, _⟩ => hs 104 [(2, .ptr 2 0), (3, .ptr 3 0), (88, i64 c.skips.length), (89, i64 k)] [(2, .live (.cells 26 c.cells)), (3, .live (.cells 26 c.cells))], fun x => c.skips.length - x.1, ⟨0, by omega⟩, ?_, ?_⟩
  · exact hle_hs [(2, some 2), (3, some 3)] rfl rfl rfl rfl ⟨⟨rfl, rfl⟩, ⟨rfl, rfl⟩, ⟨rfl, by simp; rfl⟩, ⟨rfl, rfl⟩, trivial⟩ ⟨⟨rfl, .inl ⟨2, rfl, rfl⟩⟩, ⟨rfl, .inl ⟨3, rfl, rfl⟩⟩, trivial⟩
  rintro ⟨k, hk⟩
  conv => whnf
  refine hif_intro (fun c1 => ?_) (fun c1 => ?_)
  · have hlt : k < c.skips.length := by simpa using c1
    conv => whnf
    refine hrow_at k rfl hlt ?_; conv => whnf
    refine hrow_at k rfl hlt ?_; conv => whnf
    refine hobl_intro ?_ ?_
    · kernel_rfl
    conv => whnf
    refine hdraw_intro ?_ ?_
    · kernel_rfl
    conv => whnf
    refine hif_false ?_ ?_
    · simp
    conv => whnf
    refine hwrap_fit (W_fit (by omega) (by omega)) ?_; conv => whnf
    exact ⟨⟨k + 1, hlt⟩, hle_hs [(2, some 2), (3, some 3)] rfl rfl rfl rfl ⟨⟨rfl, rfl⟩, ⟨rfl, rfl⟩, ⟨rfl, rfl⟩, ⟨rfl, by simp; rfl⟩, trivial⟩ ⟨⟨rfl, .inl ⟨2, rfl, rfl⟩⟩, ⟨rfl, .inl ⟨3, rfl, rfl⟩⟩, trivial⟩, by dsimp only; omega⟩
  · conv => whnf
theorem parse_len (b : List UInt8) : (parse b).1.spans.length ≤ b.length ∧ (parse b).1.skips.length ≤ b.length := by
  have h := bodyOf_len (b[0]?.getD 0).toNat ((b.drop 2).take (b[1]?.getD 0).toNat)
  have h3 : ((b.drop 2).take (b[1]?.getD 0).toNat).length ≤ b.length := by simp; omega
  unfold parse
  (repeat' split) <;> constructor <;> first | (simp [no]; done) | (dsimp only; omega)

theorem tells (c : Chunk) (b : List UInt8) (h9 : c.spans.length < 2 ^ 39) (h8 : c.skips.length < 2 ^ 39) (hb : b.length < 2 ^ 39) : FunOK Try.prog 3 [c.hv, byts b] noHeap (hbool true) noHeap := by
  refine funOK_pure mixed Try.func3 (by decide) ?_
  have hsz : wrong c = 0 → c.kind = 1 → W (9 + (c.data.length : Int)) = (bytes c).length := by
    intro h k
    have hd := wrong_data h k
    rw [W_fit (by omega) (by omega), bytes, if_pos h, body, if_pos k]
    simp [enc16]; omega
  obtain ⟨p1, p2⟩ := parse_len b
  conv => whnf
  refine hcall_lend ?_; conv => whnf
  refine ⟨_, spec_wrong c (by omega) (by omega), rfl, ?_⟩; conv => whnf
  refine hcall_lend ?_; conv => whnf
  refine ⟨_, spec_rwrong c (by omega) (by omega), rfl, ?_⟩; conv => whnf
  refine hdraw_intro ?_ ?_
  · kernel_rfl
  conv => whnf
  refine hif_false ?_ ?_
  · simp
  conv => whnf
  refine hcall_pure ?_; conv => whnf
  refine ⟨_, spec_bytes c (by omega) (by omega), rfl, ?_⟩; conv => whnf
  refine hcall_pure ?_; conv => whnf
  refine ⟨_, spec_rbytes c (by omega) (by omega), rfl, ?_⟩; conv => whnf
  refine hif_false ?_ ?_
  · simp
  conv => whnf
  refine hbytes_intro rfl ?_; conv => whnf
  refine hbytes_intro rfl ?_; conv => whnf
  refine hif_false ?_ ?_
  · simp
  conv => whnf
  have hlen : ∀ l : List UInt8, (l.map bRow).length = l.length := fun l => by simp
  refine hif_intro (fun k1 => ?_) (fun k1 => ?_)
  · conv => whnf
    refine hif_intro (fun k2 => ?_) (fun k2 => ?_)
    · conv => whnf
      refine hcall_lend ?_; conv => whnf
      refine ⟨_, spec_size (c.data.map bRow).length, rfl, ?_⟩; conv => whnf
      refine hif_false ?_ ?_
      · rw [hlen, hlen, hsz (by simpa using k2) (by simpa using k1)]; simp
      conv => whnf
      refine hcall_pure ?_; conv => whnf
      refine ⟨_, spec_parse b hb, rfl, ?_⟩; conv => whnf
      refine hcall_pure ?_; conv => whnf
      refine ⟨_, spec_rparse b hb, rfl, ?_⟩; conv => whnf
      refine hif_true ?_ ?_
      · simp
      conv => whnf
      refine hif_true ?_ ?_
      · simp
      conv => whnf
      refine hcall_lend ?_; conv => whnf
      refine ⟨_, spec_same (parse b).1 (by omega) (by omega), rfl, ?_⟩; conv => whnf
    · conv => whnf
      refine hcall_pure ?_; conv => whnf
      refine ⟨_, spec_parse b hb, rfl, ?_⟩; conv => whnf
      refine hcall_pure ?_; conv => whnf
      refine ⟨_, spec_rparse b hb, rfl, ?_⟩; conv => whnf
      refine hif_true ?_ ?_
      · simp
      conv => whnf
      refine hif_true ?_ ?_
      · simp
      conv => whnf
      refine hcall_lend ?_; conv => whnf
      refine ⟨_, spec_same (parse b).1 (by omega) (by omega), rfl, ?_⟩; conv => whnf
  · conv => whnf
    refine hcall_pure ?_; conv => whnf
    refine ⟨_, spec_parse b hb, rfl, ?_⟩; conv => whnf
    refine hcall_pure ?_; conv => whnf
    refine ⟨_, spec_rparse b hb, rfl, ?_⟩; conv => whnf
    refine hif_true ?_ ?_
    · simp
    conv => whnf
    refine hif_true ?_ ?_
    · simp
    conv => whnf
    refine hcall_lend ?_; conv => whnf
    refine ⟨_, spec_same (parse b).1 (by omega) (by omega), rfl, ?_⟩; conv => whnf
end Chk
end Go.HL
