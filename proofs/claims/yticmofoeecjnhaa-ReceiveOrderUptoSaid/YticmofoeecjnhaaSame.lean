/- SameChunk of equal chunks. -/
import Derived.Test.YticmofoeecjnhaaSer
namespace Go.HL
open Go.Proofs
set_option maxHeartbeats 1000000
set_option maxRecDepth 100000
set_option linter.unusedSimpArgs false
theorem spec_sameSpans (l : List Span) (hb : l.length < 2 ^ 40) : FunOK Try.prog 31 [Ser.spans l, Ser.spans l] noHeap (hbool true) noHeap := by
  refine funOK_pure mixed Try.func31 (by decide) ?_
  conv => whnf
  refine hif_false ?_ ?_
  · simp
  conv => whnf
  refine ⟨{ k : Nat // k ≤ l.length }, fun | ⟨k, _⟩ => hs 26 [(0, Ser.spans l), (1, Ser.spans l), (12, i64 l.length), (13, i64 k)] [], fun x => l.length - x.1, ⟨0, by omega⟩, ?_, ?_⟩
  · exact hle_hs [] rfl rfl rfl rfl ⟨⟨rfl, rfl⟩, ⟨rfl, rfl⟩, ⟨rfl, by simp; rfl⟩, ⟨rfl, rfl⟩, trivial⟩ trivial
  rintro ⟨k, hk⟩
  conv => whnf
  refine hif_intro (fun c => ?_) (fun c => ?_)
  · have hlt : k < l.length := by simpa using c
    conv => whnf
    refine hrow_at k rfl hlt ?_; conv => whnf
    refine hrow_at k rfl hlt ?_; conv => whnf
    refine hobl_intro ?_ ?_
    · kernel_rfl
    conv => whnf
    refine hdraw_intro ?_ ?_
    · kernel_rfl
    conv => whnf
    refine hif_false ?_ ?_
    · simp
    conv => whnf
    refine hwrap_fit (W_fit (by omega) (by omega)) ?_; conv => whnf
    exact ⟨⟨k + 1, hlt⟩, hle_hs [] rfl rfl rfl rfl ⟨⟨rfl, rfl⟩, ⟨rfl, rfl⟩, ⟨rfl, rfl⟩, ⟨rfl, by simp; rfl⟩, trivial⟩ trivial, by dsimp only; omega⟩
  · conv => whnf
theorem spec_same (c : Chunk) (h9 : c.spans.length < 2 ^ 40) (h8 : c.skips.length < 2 ^ 40) : FunOK Try.prog 19 [c.hv, c.hv] noHeap (hbool true) noHeap := by
  refine funOK_pure mixed Try.func19 (by decide) ?_
  conv => whnf
  repeat' (first | (refine hif_false ?_ ?_; · simp; done
                    conv => whnf) | (refine hbytes_intro rfl ?_; conv => whnf) | (refine hcall_lend ?_; (conv => whnf); refine ⟨_, spec_sameSpans c.spans h9, rfl, ?_⟩; conv => whnf))
  refine ⟨{ k : Nat // k ≤ c.skips.length }, fun | ⟨k, _⟩ => hs 104 [(2, .ptr 2 0), (3, .ptr 3 0), (88, i64 c.skips.length), (89, i64 k)] [(2, .live (.cells 29 c.cells)), (3, .live (.cells 29 c.cells))], fun x => c.skips.length - x.1, ⟨0, by omega⟩, ?_, ?_⟩
  · exact hle_hs [(2, some 2), (3, some 3)] rfl rfl rfl rfl ⟨⟨rfl, rfl⟩, ⟨rfl, rfl⟩, ⟨rfl, by simp; rfl⟩, ⟨rfl, rfl⟩, trivial⟩ ⟨⟨rfl, .inl ⟨2, rfl, rfl⟩⟩, ⟨rfl, .inl ⟨3, rfl, rfl⟩⟩, trivial⟩
  rintro ⟨k, hk⟩
  conv => whnf
  refine hif_intro (fun c1 => ?_) (fun c1 => ?_)
  · have hlt : k < c.skips.length := by simpa using c1
    conv => whnf
    refine hrow_at k rfl hlt ?_; conv => whnf
    refine hrow_at k rfl hlt ?_; conv => whnf
    refine hobl_intro ?_ ?_
    · kernel_rfl
    conv => whnf
    refine hdraw_intro ?_ ?_
    · kernel_rfl
    conv => whnf
    refine hif_false ?_ ?_
    · simp
    conv => whnf
    refine hwrap_fit (W_fit (by omega) (by omega)) ?_; conv => whnf
    exact ⟨⟨k + 1, hlt⟩, hle_hs [(2, some 2), (3, some 3)] rfl rfl rfl rfl ⟨⟨rfl, rfl⟩, ⟨rfl, rfl⟩, ⟨rfl, rfl⟩, ⟨rfl, by simp; rfl⟩, trivial⟩ ⟨⟨rfl, .inl ⟨2, rfl, rfl⟩⟩, ⟨rfl, .inl ⟨3, rfl, rfl⟩⟩, trivial⟩, by dsimp only; omega⟩
  · conv => whnf
end Go.HL
