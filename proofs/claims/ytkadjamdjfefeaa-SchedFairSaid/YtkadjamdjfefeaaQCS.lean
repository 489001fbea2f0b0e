/- SchedFair holds of every input: of streams that take turns none has had a turn more than once ahead of another one. No condition. -/
import Derived.Test.YtkadjamdjfefeaaQCc
import Derived.Test.YtkadjamdjfefeaaRows
namespace Go.Proofs.Ytkadjamdjfefeaa.schedFair
open Go.HL Go.ChangeShapes Go.WideShapes Go.ChangeAt Go.RowKit
set_option maxRecDepth 100000
set_option maxHeartbeats 2000000
theorem zsy (H : Type) (enc : TypeId × Value → H) (W : World) (base : Nat) (args : Array Value) (ds gs : List (DataW H)) (before : List MemPlace)
    (hval : ∀ (j : Nat) t v, Try.f6.params[j]? = some t → args[j]? = some v → Value.okWide Try.prog W .any base t v)
    (hW : DataW.Whole enc Try.prog Try.f6.params.toList Rows.schedFairSpec.vars false W args.toList ds gs before) :
    Calls Try.prog 6 args W fun e W' => ∃ v, e = .returned v ∧ Rows.schedFairSpec.post enc Try.prog Try.f6 false true false false W args v W' := by
  refine zlq 6 (by kernel_rfl) (by kernel_rfl) (by kernel_rfl) (tb := 4) (by kernel_rfl) Try.underlying4 rfl (fun ds h => ?_) hval hW fun L hL _ => ?_
  · match ds, h with
    | [a0, a1, a2, a3], _ => exact ⟨rfl, rfl, rfl⟩
  · rw [Try.params6] at hL ⊢
    obtain ⟨x1, L, rfl, h1, hL⟩ := zfo hL
    obtain ⟨x2, L, rfl, h2, hL⟩ := zfo hL
    obtain ⟨x3, L, rfl, h3, hL⟩ := zfo hL
    obtain ⟨x4, L, rfl, h4, hL⟩ := zfo hL
    obtain rfl := zud hL
    obtain ⟨z1, rfl, w1⟩ := znw Try.underlying3 h1
    have w1 := zrs w1
    obtain ⟨z2, rfl, w2⟩ := znw Try.underlying3 h2
    have w2 := zrs w2
    obtain ⟨z3, rfl, w3⟩ := znw Try.underlying3 h3
    have w3 := zrs w3
    obtain ⟨z4, rfl⟩ := zue Try.underlying4 h4
    have := Sch.fair z1 z2 z3 z4
    simpa only [zhq, zmu Try.underlying3, zmu Try.underlying3, zmu Try.underlying3, zsw Try.underlying4] using this
theorem closed : joinedFacts Try.prog 6 Try.f6 Rows.schedFairSpec Rows.schedFairRow = true := by
  unfold joinedFacts
  repeat' (with_reducible refine zwe ?_ ?_)
  all_goals (as_aux_lemma => kernel_rfl)
theorem lifted (os : Os) (started : os.Started) (H : Type) (enc : TypeId × Value → H) :
    ReturnsInHanded {} Try.checked os 6 .any (Rows.schedFairSpec.pre6 enc Try.prog Try.f6 Rows.schedFairRow.domain false) (Rows.schedFairSpec.post enc Try.prog Try.f6 false true false false) := by
  refine returnsInHanded_of_change (C := Try.checked) own started (by kernel_rfl) Try.func6
    (ChangeSpec.witness6 (enc := enc) (C := Try.checked) false ⟨#[], #[.int .i64 0, .int .i64 0, .int .i64 0, .bool true], []⟩ 8 (by kernel_rfl) (by kernel_rfl) (by kernel_rfl) (by kernel_rfl)) ?_
  intro W base args ds gs before hval hW _ _
  exact zsy H enc W base args ds gs before hval hW
theorem zsr : Rows.schedFairRow.holds Try.pinned (OpenSpec.ofChange Rows.schedFairSpec) :=
  OpenClaim.holds_of_wide 6 Try.f6 rfl rfl rfl rfl rfl rfl rfl ⟨rfl, rfl, rfl, rfl, rfl⟩ rfl rfl rfl rfl rfl (by kernel_rfl) Try.func6 closed
    (of_decide_eq_true (by kernel_rfl)) (by unfold Func.isWrapper; first | (rw [if_pos (by decide +kernel)]; kernel_rfl) | (rw [if_neg (by decide +kernel)]; exact ⟨rfl, rfl⟩))
    (fun os started H enc _ => lifted os started H enc)
theorem proved : Rows.SchedFairSaid :=
  zsr
end Go.Proofs.Ytkadjamdjfefeaa.schedFair
