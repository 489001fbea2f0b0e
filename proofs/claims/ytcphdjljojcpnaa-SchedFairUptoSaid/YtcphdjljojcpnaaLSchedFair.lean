/- SchedFair holds of every input of bulk at most 1048576: of streams that take turns none has had a turn more than once ahead of another one. No condition but the bound. -/
import Derived.Test.YtcphdjljojcpnaaRows
import Derived.Test.YtcphdjljojcpnaaLift
import Derived.Test.YtcphdjljojcpnaaSchedFair
namespace Go.Proofs.Ytcphdjljojcpnaa.schedFair
open Go.HL Go.ChangeShapes Go.WideShapes Go.ChangeAt Go.RowKit
set_option maxRecDepth 100000
set_option maxHeartbeats 2000000

theorem contract (H : Type) (enc : TypeId × Value → H) (W : World) (base : Nat) (args : Array Value) (ds gs : List (DataW H)) (before : List MemPlace)
    (hval : ∀ (j : Nat) t v, Try.f8.params[j]? = some t → args[j]? = some v → Value.okWide Try.prog W .any base t v)
    (hW : DataW.Whole enc Try.prog Try.f8.params.toList Rows.schedFairSpec.vars false W args.toList ds gs before) (hk : dwbL ds ≤ 1048576) :
    Calls Try.prog 8 args W fun e W' => ∃ v, e = .returned v ∧ Rows.schedFairSpec.post enc Try.prog Try.f8 false true false false W args v W' := by
  refine law_contract 6 (by kernel_rfl) (by kernel_rfl) (by kernel_rfl) (tb := 4) (by kernel_rfl) Try.underlying4 rfl (fun ds h => ?_) hval hW fun L hL hb => ?_
  · match ds, h with
    | [a0, a1, a2, a3], _ => exact ⟨rfl, rfl, rfl⟩
  · rw [Try.params8] at hL ⊢
    obtain ⟨x1, L, rfl, h1, hL⟩ := shpL_cons hL
    obtain ⟨x2, L, rfl, h2, hL⟩ := shpL_cons hL
    obtain ⟨x3, L, rfl, h3, hL⟩ := shpL_cons hL
    obtain ⟨x4, L, rfl, h4, hL⟩ := shpL_cons hL
    obtain rfl := shpL_nil hL
    obtain ⟨z1, rfl, w1⟩ := shp_int Try.underlying3 h1
    have w1 := inI_of w1
    obtain ⟨z2, rfl, w2⟩ := shp_int Try.underlying3 h2
    have w2 := inI_of w2
    obtain ⟨z3, rfl, w3⟩ := shp_int Try.underlying3 h3
    have w3 := inI_of w3
    obtain ⟨z4, rfl⟩ := shp_bool Try.underlying4 h4
    have hb2 := Nat.le_trans hb hk
    have := Sch.fair z1 z2 z3 z4
    simpa only [argsHV, arg_int Try.underlying3, arg_int Try.underlying3, arg_int Try.underlying3, arg_bool Try.underlying4] using this

theorem lifted (os : Os) (started : os.Started) (H : Type) (enc : TypeId × Value → H) (F : Stop.Interp) :
    ReturnsInHanded {} Try.checked os 8 .any ((Rows.OpenSpec.upto Rows.schedFairSpec).pre6 enc Try.prog Try.f8 Rows.schedFairUptoRow.domain false) (((Rows.OpenSpec.upto Rows.schedFairSpec).at F).post enc Try.prog Try.f8 false true false false) := by
  refine returnsInHanded_of_cond (C := Try.checked) (s := Rows.OpenSpec.upto Rows.schedFairSpec) (k := Rows.uptoSmall) rfl own started (by kernel_rfl) Try.func8
    (OpenSpec.witness (enc := enc) (C := Try.checked) (s := Rows.OpenSpec.upto Rows.schedFairSpec) (k := Rows.uptoSmall) rfl false ⟨#[], #[.int .i64 0, .int .i64 0, .int .i64 0, .bool true], []⟩ 8 (by kernel_rfl) (by kernel_rfl) (by kernel_rfl)
      (x := ([.lit (.int .i64 0), .lit (.int .i64 0), .lit (.int .i64 0), .lit (.bool true)], [], [])) (by kernel_rfl) rfl (by kernel_rfl)) ?_
  intro W base args ds gs before hval hW _ hk _
  exact contract H enc W base args ds gs before hval hW (dwb_le hk)

theorem over : Rows.schedFairUptoRow.holds Try.pinned (Rows.OpenSpec.upto Rows.schedFairSpec) :=
  OpenClaim.holds_of_cond 8 Try.f8 rfl rfl rfl rfl rfl rfl rfl ⟨rfl, rfl, rfl, rfl, rfl⟩ rfl rfl rfl rfl rfl (by kernel_rfl) Try.func8 (by kernel_rfl)
    (of_decide_eq_true (by kernel_rfl)) (by unfold Func.isWrapper; first | (rw [if_pos (by decide +kernel)]; kernel_rfl) | (rw [if_neg (by decide +kernel)]; exact ⟨rfl, rfl⟩))
    (fun os started H enc _ F => lifted os started H enc F)

theorem proved : Rows.SchedFairUptoSaid :=
  over
end Go.Proofs.Ytcphdjljojcpnaa.schedFair
