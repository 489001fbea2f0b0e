/- The three laws of package paths: what they hand back is true. -/
import Derived.Test.YtcphdjljojcpnaaHL
import Derived.Test.YtcphdjljojcpnaaPaths
namespace Go.HL
open Go.Proofs
namespace Paths
set_option maxHeartbeats 2000000
set_option maxRecDepth 100000

theorem shp_path {n : Nat} {pvs : List PV} (h : shp Try.prog n 23 pvs) : ∃ p : Path, pvs = p.row := by
  have t0 := shp_struct Try.underlying23 h
  obtain ⟨a1, b1, e1, h1, t1⟩ := shpF_cons t0
  obtain ⟨a2, b2, e2, h2, t2⟩ := shpF_cons t1
  obtain ⟨a3, b3, e3, h3, t3⟩ := shpF_cons t2
  obtain ⟨a4, b4, e4, h4, t4⟩ := shpF_cons t3
  obtain ⟨a5, b5, e5, h5, t5⟩ := shpF_cons t4
  obtain ⟨a6, b6, e6, h6, t6⟩ := shpF_cons t5
  obtain ⟨a7, b7, e7, h7, t7⟩ := shpF_cons t6
  obtain ⟨z1, i1, _⟩ := shp_int Try.underlying3 h1
  obtain ⟨z2, i2, _⟩ := shp_int Try.underlying3 h2
  obtain ⟨z3, i3, _⟩ := shp_int Try.underlying3 h3
  obtain ⟨z4, i4, _⟩ := shp_int Try.underlying3 h4
  obtain ⟨z5, i5, _⟩ := shp_int Try.underlying3 h5
  obtain ⟨z6, i6, _⟩ := shp_int Try.underlying3 h6
  obtain ⟨z7, i7, _⟩ := shp_int Try.underlying3 h7
  have e8 : b7 = [] := t7
  rw [e1, e2, e3, e4, e5, e6, e7, e8, i1, i2, i3, i4, i5, i6, i7]
  exact ⟨⟨z1, z2, z3, z4, z5, z6, z7⟩, rfl⟩

theorem arg_path (p : Path) : argHV Try.prog 23 p.row = p.hv := by
  unfold argHV
  rw [Try.underlying23]
  rfl
theorem arg_int (z : Int) : argHV Try.prog 3 [.v (.int .i64 z)] = i64 z := by
  unfold argHV
  rw [Try.underlying3]
theorem arg_bool (b : Bool) : argHV Try.prog 4 [.v (.bool b)] = hbool b := by
  unfold argHV
  rw [Try.underlying4]
theorem arg_paths (ps : List Path) : argHV Try.prog 24 [.sl 7 (ps.map Path.row)] = .p (.sl 7 (ps.map Path.row)) := by
  unfold argHV
  rw [Try.underlying24]

theorem tells (p : Path) (bytes part : Int) (moved : Bool) (l : List Path) (hl : l.length < 2 ^ 62) :
    FunOK Try.prog 3 [p.hv, i64 bytes, i64 part, hbool moved, .p (.sl 7 (l.map Path.row))] noHeap (hbool true) noHeap := by
  refine funOK_pure mixed Try.func3 (by decide) ?_
  conv => whnf
  repeat' (first | (refine hwrap_raw ?_; conv => whnf) | (refine hobl_intro (by kernel_rfl) ?_; conv => whnf) | (refine hdraw_intro (by kernel_rfl) ?_; conv => whnf) | (refine hcall_lend ?_; conv => whnf) | (refine ⟨_, spec_new _, rfl, ?_⟩; conv => whnf) | (refine ⟨_, spec_acked ⟨_, _, _, _, _, _, _⟩ _ _ _, rfl, ?_⟩; conv => whnf) | (refine ⟨_, spec_racked ⟨_, _, _, _, _, _, _⟩ _ _ _, rfl, ?_⟩; conv => whnf) | (refine ⟨_, spec_halved ⟨_, _, _, _, _, _, _⟩ _, rfl, ?_⟩; conv => whnf) | (refine ⟨_, spec_rhalved ⟨_, _, _, _, _, _, _⟩ _, rfl, ?_⟩; conv => whnf) | (refine ⟨_, spec_late ⟨_, _, _, _, _, _, _⟩ _, rfl, ?_⟩; conv => whnf) | (refine ⟨_, spec_rlate ⟨_, _, _, _, _, _, _⟩ _, rfl, ?_⟩; conv => whnf) | (refine ⟨_, spec_open ⟨_, _, _, _, _, _, _⟩, rfl, ?_⟩; conv => whnf) | (refine ⟨_, spec_choose l hl, rfl, ?_⟩; conv => whnf) | (refine ⟨_, spec_rchoose l hl, rfl, ?_⟩; conv => whnf) | (refine hif_intro (fun h => ?_) (fun h => ?_) <;> conv => whnf))
  all_goals first | rfl | (rename_i h; exfalso; revert h; simp [new]; done) | (simp; done)
  all_goals trace_state
end Paths
end Go.HL
