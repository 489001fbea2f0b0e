/- SchedTells holds of every input of bulk at most 1048576: New, Own, Next and Had answer as the document does. No condition but the bound. -/
import Derived.Test.YtciifagmpoagpaaRows
import Derived.Test.YtciifagmpoagpaaLift
import Derived.Test.YtciifagmpoagpaaSchedTL
namespace Go.Proofs.Ytciifagmpoagpaa.schedTells
open Go.HL Go.ChangeShapes Go.WideShapes Go.ChangeAt Go.RowKit
set_option maxRecDepth 100000
set_option maxHeartbeats 2000000

theorem contract (H : Type) (enc : TypeId × Value → H) (W : World) (base : Nat) (args : Array Value) (ds gs : List (DataW H)) (before : List MemPlace)
    (hval : ∀ (j : Nat) t v, Try.f3.params[j]? = some t → args[j]? = some v → Value.okWide Try.prog W .any base t v)
    (hW : DataW.Whole enc Try.prog Try.f3.params.toList Rows.schedTellsSpec.vars false W args.toList ds gs before) (hk : dwbL ds ≤ 1048576) :
    Calls Try.prog 3 args W fun e W' => ∃ v, e = .returned v ∧ Rows.schedTellsSpec.post enc Try.prog Try.f3 false true false false W args v W' := by
  refine law_contract 6 (by kernel_rfl) (by kernel_rfl) (by kernel_rfl) (tb := 4) (by kernel_rfl) Try.underlying4 rfl (fun ds h => ?_) hval hW fun L hL hb => ?_
  · match ds, h with
    | [a0, a1, a2, a3, a4, a5], _ => exact ⟨rfl, rfl, rfl⟩
  · rw [Try.params3] at hL ⊢
    obtain ⟨x1, L, rfl, h1, hL⟩ := shpL_cons hL
    obtain ⟨x2, L, rfl, h2, hL⟩ := shpL_cons hL
    obtain ⟨x3, L, rfl, h3, hL⟩ := shpL_cons hL
    obtain ⟨x4, L, rfl, h4, hL⟩ := shpL_cons hL
    obtain ⟨x5, L, rfl, h5, hL⟩ := shpL_cons hL
    obtain ⟨x6, L, rfl, h6, hL⟩ := shpL_cons hL
    obtain rfl := shpL_nil hL
    obtain ⟨z1, rfl, w1⟩ := shp_int Try.underlying3 h1
    have w1 := inI_of w1
    obtain ⟨z2, rfl, w2⟩ := shp_Sched h2
    obtain ⟨z3, rfl, w3⟩ := shp_list Try.underlying25 (c := 10) (by kernel_rfl) (fun r hr => shp_Queued hr) h3
    obtain ⟨z4, rfl, w4⟩ := shp_Queued h4
    obtain ⟨z5, rfl, w5⟩ := shp_int Try.underlying3 h5
    have w5 := inI_of w5
    obtain ⟨z6, rfl⟩ := shp_bool Try.underlying4 h6
    have hb2 := Nat.le_trans hb hk
    have := Sch.schedtells z1 z2 z3 z4 z5 z6 (by have h6 := bulk_len (k := 1) (rows := z2.had.map fun n => [pi n]) (fun r hr => by obtain ⟨p, _, rfl⟩ := List.mem_map.1 hr; simp [bulkL, PV.bulk]); simp only [Sched.row, bulkR, bulkL, PV.bulk, List.length_map] at hb2 h6; omega) (by have h6 := bulk_len (k := 10) (rows := z3.map Queued.row) (fun r hr => by obtain ⟨p, _, rfl⟩ := List.mem_map.1 hr; simp [Queued.row, bulkL, PV.bulk]); simp only [bulkR, bulkL, PV.bulk, List.length_map] at hb2 h6; omega)
    simpa only [argsHV, arg_int Try.underlying3, arg_Sched, arg_slice Try.underlying25, arg_Queued, arg_int Try.underlying3, arg_bool Try.underlying4] using this

theorem lifted (os : Os) (started : os.Started) (H : Type) (enc : TypeId × Value → H) (F : Stop.Interp) :
    ReturnsInHanded {} Try.checked os 3 .any ((Rows.OpenSpec.upto Rows.schedTellsSpec).pre6 enc Try.prog Try.f3 Rows.schedTellsUptoRow.domain false) (((Rows.OpenSpec.upto Rows.schedTellsSpec).at F).post enc Try.prog Try.f3 false true false false) := by
  refine returnsInHanded_of_cond (C := Try.checked) (s := Rows.OpenSpec.upto Rows.schedTellsSpec) (k := Rows.uptoSmall) rfl own started (by kernel_rfl) Try.func3
    (OpenSpec.witness (enc := enc) (C := Try.checked) (s := Rows.OpenSpec.upto Rows.schedTellsSpec) (k := Rows.uptoSmall) rfl false ⟨#[], #[.int .i64 0, .agg #[.int .i64 0, .int .i64 0, .slice none 0 0], .slice none 0 0, .agg #[.int .i64 0, .int .i64 0, .int .i64 0, .int .i64 0, .int .i64 0, .int .i64 0, .bool true, .int .i64 0, .int .i64 0, .slice none 0 0], .int .i64 0, .bool true], []⟩ 8 (by kernel_rfl) (by kernel_rfl) (by kernel_rfl)
      (x := ([.lit (.int .i64 0), .agg [.lit (.int .i64 0), .lit (.int .i64 0), .nil], .nil, .agg [.lit (.int .i64 0), .lit (.int .i64 0), .lit (.int .i64 0), .lit (.int .i64 0), .lit (.int .i64 0), .agg [.lit (.int .i64 0), .lit (.bool true), .lit (.int .i64 0), .lit (.int .i64 0), .nil]], .lit (.int .i64 0), .lit (.bool true)], [], [])) (by kernel_rfl) rfl (by kernel_rfl)) ?_
  intro W base args ds gs before hval hW _ hk _
  exact contract H enc W base args ds gs before hval hW (dwb_le hk)

theorem over : Rows.schedTellsUptoRow.holds Try.pinned (Rows.OpenSpec.upto Rows.schedTellsSpec) :=
  OpenClaim.holds_of_cond 3 Try.f3 rfl rfl rfl rfl rfl rfl rfl ⟨rfl, rfl, rfl, rfl, rfl⟩ rfl rfl rfl rfl rfl (by kernel_rfl) Try.func3 (by kernel_rfl)
    (of_decide_eq_true (by kernel_rfl)) (by unfold Func.isWrapper; first | (rw [if_pos (by decide +kernel)]; kernel_rfl) | (rw [if_neg (by decide +kernel)]; exact ⟨rfl, rfl⟩))
    (fun os started H enc _ F => lifted os started H enc F)

theorem proved : Rows.SchedTellsUptoSaid :=
  over
end Go.Proofs.Ytciifagmpoagpaa.schedTells
