/- ScoreComes holds of every input of bulk at most 1048576: parts that a sack tells of are on no path any more, and bytes that came are no more than there were. No condition but the bound. -/
import Derived.Test.YtciifagmpoagpaaRows
import Derived.Test.YtciifagmpoagpaaLift
import Derived.Test.YtciifagmpoagpaaScoreLaws3
namespace Go.Proofs.Ytciifagmpoagpaa.scoreComes
open Go.HL Go.ChangeShapes Go.WideShapes Go.ChangeAt Go.RowKit
set_option maxRecDepth 100000
set_option maxHeartbeats 2000000

theorem contract (H : Type) (enc : TypeId × Value → H) (W : World) (base : Nat) (args : Array Value) (ds gs : List (DataW H)) (before : List MemPlace)
    (hval : ∀ (j : Nat) t v, Try.f4.params[j]? = some t → args[j]? = some v → Value.okWide Try.prog W .any base t v)
    (hW : DataW.Whole enc Try.prog Try.f4.params.toList Rows.scoreComesSpec.vars false W args.toList ds gs before) (hk : dwbL ds ≤ 1048576) :
    Calls Try.prog 4 args W fun e W' => ∃ v, e = .returned v ∧ Rows.scoreComesSpec.post enc Try.prog Try.f4 false true false false W args v W' := by
  refine law_contract 6 (by kernel_rfl) (by kernel_rfl) (by kernel_rfl) (tb := 4) (by kernel_rfl) Try.underlying4 rfl (fun ds h => ?_) hval hW fun L hL hb => ?_
  · match ds, h with
    | [a0, a1, a2, a3], _ => exact ⟨rfl, rfl, rfl⟩
  · rw [Try.params4] at hL ⊢
    obtain ⟨x1, L, rfl, h1, hL⟩ := shpL_cons hL
    obtain ⟨x2, L, rfl, h2, hL⟩ := shpL_cons hL
    obtain ⟨x3, L, rfl, h3, hL⟩ := shpL_cons hL
    obtain ⟨x4, L, rfl, h4, hL⟩ := shpL_cons hL
    obtain rfl := shpL_nil hL
    obtain ⟨z1, rfl, w1⟩ := shp_list Try.underlying37 (c := 20) (by kernel_rfl) (fun r hr => shp_Sent hr) h1
    obtain ⟨z2, rfl, w2⟩ := shp_int Try.underlying3 h2
    have w2 := inI_of w2
    obtain ⟨z3, rfl, w3⟩ := shp_Chunk h3
    obtain ⟨z4, rfl, w4⟩ := shp_int Try.underlying3 h4
    have w4 := inI_of w4
    have hb2 := Nat.le_trans hb hk
    have := Sco.comeslaw z1 z2 z3 z4 (Sco.big_of (by simp only [bulkR, bulkL, PV.bulk] at hb2; omega)) (by have h6 := Sco.bulk_chunk z3; simp only [Chunk.row, bulkR, bulkL, PV.bulk] at hb2 h6; omega)
    simpa only [argsHV, arg_slice Try.underlying37, arg_int Try.underlying3, arg_Chunk, arg_int Try.underlying3] using this

theorem lifted (os : Os) (started : os.Started) (H : Type) (enc : TypeId × Value → H) (F : Stop.Interp) :
    ReturnsInHanded {} Try.checked os 4 .any ((Rows.OpenSpec.upto Rows.scoreComesSpec).pre6 enc Try.prog Try.f4 Rows.scoreComesUptoRow.domain false) (((Rows.OpenSpec.upto Rows.scoreComesSpec).at F).post enc Try.prog Try.f4 false true false false) := by
  refine returnsInHanded_of_cond (C := Try.checked) (s := Rows.OpenSpec.upto Rows.scoreComesSpec) (k := Rows.uptoSmall) rfl own started (by kernel_rfl) Try.func4
    (OpenSpec.witness (enc := enc) (C := Try.checked) (s := Rows.OpenSpec.upto Rows.scoreComesSpec) (k := Rows.uptoSmall) rfl false ⟨#[], #[.slice none 0 0, .int .i64 0, .agg #[.int .i64 0, .int .i64 0, .int .i64 0, .int .i64 0, .int .i64 0, .bool true, .bool true, .slice none 0 0, .slice none 0 0, .int .i64 0, .slice none 0 0], .int .i64 0], []⟩ 8 (by kernel_rfl) (by kernel_rfl) (by kernel_rfl)
      (x := ([.nil, .lit (.int .i64 0), .agg [.lit (.int .i64 0), .lit (.int .i64 0), .lit (.int .i64 0), .lit (.int .i64 0), .lit (.int .i64 0), .lit (.bool true), .lit (.bool true), .nil, .nil, .lit (.int .i64 0), .nil], .lit (.int .i64 0)], [], [])) (by kernel_rfl) rfl (by kernel_rfl)) ?_
  intro W base args ds gs before hval hW _ hk _
  exact contract H enc W base args ds gs before hval hW (dwb_le hk)

theorem over : Rows.scoreComesUptoRow.holds Try.pinned (Rows.OpenSpec.upto Rows.scoreComesSpec) :=
  OpenClaim.holds_of_cond 4 Try.f4 rfl rfl rfl rfl rfl rfl rfl ⟨rfl, rfl, rfl, rfl, rfl⟩ rfl rfl rfl rfl rfl (by kernel_rfl) Try.func4 (by kernel_rfl)
    (of_decide_eq_true (by kernel_rfl)) (by unfold Func.isWrapper; first | (rw [if_pos (by decide +kernel)]; kernel_rfl) | (rw [if_neg (by decide +kernel)]; exact ⟨rfl, rfl⟩))
    (fun os started H enc _ F => lifted os started H enc F)

theorem proved : Rows.ScoreComesUptoSaid :=
  over
end Go.Proofs.Ytciifagmpoagpaa.scoreComes
