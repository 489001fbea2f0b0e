/- The three laws of package paths: what they hand back is true. -/
import Derived.Test.YtcphdjljojcpnaaPaths
namespace Go.HL
open Go.Proofs
namespace Paths
set_option maxHeartbeats 2000000
set_option maxRecDepth 100000

theorem tells (p : Path) (bytes part : Int) (moved : Bool) (l : List Path) (hl : l.length < 2 ^ 62) :
    FunOK Try.prog 3 [p.hv, i64 bytes, i64 part, hbool moved, .p (.sl 7 (l.map Path.row))] noHeap (hbool true) noHeap := by
  refine funOK_pure mixed Try.func3 (by decide) ?_
  conv => whnf
  (repeat' (first | (refine hwrap_raw ?_; conv => whnf) | (refine hobl_intro ?_ ?_; (first | kernel_rfl | decide); conv => whnf) | (refine hdraw_intro ?_ ?_; kernel_rfl; conv => whnf) | (refine hcut.go ?_; conv => whnf) | (refine hcall_lend ?_; conv => whnf) | (refine ⟨_, spec_new _, rfl, ?_⟩; conv => whnf) | (refine ⟨_, spec_acked ⟨_, _, _, _, _, _, _⟩ _ _ _, rfl, ?_⟩; conv => whnf) | (refine ⟨_, spec_racked ⟨_, _, _, _, _, _, _⟩ _ _ _, rfl, ?_⟩; conv => whnf) | (refine ⟨_, spec_halved ⟨_, _, _, _, _, _, _⟩ _, rfl, ?_⟩; conv => whnf) | (refine ⟨_, spec_rhalved ⟨_, _, _, _, _, _, _⟩ _, rfl, ?_⟩; conv => whnf) | (refine ⟨_, spec_late ⟨_, _, _, _, _, _, _⟩ _, rfl, ?_⟩; conv => whnf) | (refine ⟨_, spec_rlate ⟨_, _, _, _, _, _, _⟩ _, rfl, ?_⟩; conv => whnf) | (refine ⟨_, spec_open ⟨_, _, _, _, _, _, _⟩, rfl, ?_⟩; conv => whnf) | (refine ⟨_, spec_choose l hl, rfl, ?_⟩; conv => whnf) | (refine ⟨_, spec_rchoose l hl, rfl, ?_⟩; conv => whnf) | (refine hif_intro (fun h => ?_) (fun h => ?_) <;> conv => whnf)))
  all_goals first | rfl | (rename_i h; exfalso; revert h; simp [new]; done) | (simp; done)
  all_goals trace_state
end Paths
end Go.HL
