/- PathsWait holds of every input: a path waits twice as long each time, up to a bound. No condition. -/
import Derived.Test.YtkadjamdjfefeaaQBb
import Derived.Test.YtkadjamdjfefeaaRows
namespace Go.Proofs.Ytkadjamdjfefeaa.pathsWait
open Go.HL Go.ChangeShapes Go.WideShapes Go.ChangeAt Go.RowKit
set_option maxRecDepth 100000
set_option maxHeartbeats 2000000
theorem zrm (H : Type) (enc : TypeId × Value → H) (W : World) (base : Nat) (args : Array Value) (ds gs : List (DataW H)) (before : List MemPlace)
    (hval : ∀ (j : Nat) t v, Try.f5.params[j]? = some t → args[j]? = some v → Value.okWide Try.prog W .any base t v)
    (hW : DataW.Whole enc Try.prog Try.f5.params.toList Rows.pathsWaitSpec.vars false W args.toList ds gs before) :
    Calls Try.prog 5 args W fun e W' => ∃ v, e = .returned v ∧ Rows.pathsWaitSpec.post enc Try.prog Try.f5 false true false false W args v W' := by
  refine zkv 6 (by kernel_rfl) (by kernel_rfl) (by kernel_rfl) (tb := 4) (by kernel_rfl) Try.underlying4 rfl (fun ds h => ?_) hval hW fun L hL _ => ?_
  · match ds, h with
    | [a0, a1], _ => exact ⟨rfl, rfl, rfl⟩
  · rw [Try.params5] at hL ⊢
    obtain ⟨x1, L, rfl, h1, hL⟩ := zlo hL
    obtain ⟨x2, L, rfl, h2, hL⟩ := zlo hL
    obtain rfl := zsv hL
    obtain ⟨z1, rfl, w1⟩ := zrc Try.underlying3 h1
    have w1 := zth w1
    obtain ⟨z2, rfl, w2⟩ := zrc Try.underlying3 h2
    have w2 := zth w2
    have := Paths.wait z1 z2
    simpa only [zhc, zpm Try.underlying3, zpm Try.underlying3] using this
theorem closed : joinedFacts Try.prog 5 Try.f5 Rows.pathsWaitSpec Rows.pathsWaitRow = true := by
  unfold joinedFacts
  repeat' (with_reducible refine zuu ?_ ?_)
  all_goals (as_aux_lemma => kernel_rfl)
theorem lifted (os : Os) (started : os.Started) (H : Type) (enc : TypeId × Value → H) :
    ReturnsInHanded {} Try.checked os 5 .any (Rows.pathsWaitSpec.pre6 enc Try.prog Try.f5 Rows.pathsWaitRow.domain false) (Rows.pathsWaitSpec.post enc Try.prog Try.f5 false true false false) := by
  refine returnsInHanded_of_change (C := Try.checked) own started (by kernel_rfl) Try.func5
    (ChangeSpec.witness6 (enc := enc) (C := Try.checked) false ⟨#[], #[.int .i64 0, .int .i64 0], []⟩ 8 (by kernel_rfl) (by kernel_rfl) (by kernel_rfl) (by kernel_rfl)) ?_
  intro W base args ds gs before hval hW _ _
  exact zrm H enc W base args ds gs before hval hW
theorem zwi : Rows.pathsWaitRow.holds Try.pinned (OpenSpec.ofChange Rows.pathsWaitSpec) :=
  OpenClaim.holds_of_wide 5 Try.f5 rfl rfl rfl rfl rfl rfl rfl ⟨rfl, rfl, rfl, rfl, rfl⟩ rfl rfl rfl rfl rfl (by kernel_rfl) Try.func5 closed
    (of_decide_eq_true (by kernel_rfl)) (by unfold Func.isWrapper; first | (rw [if_pos (by decide +kernel)]; kernel_rfl) | (rw [if_neg (by decide +kernel)]; exact ⟨rfl, rfl⟩))
    (fun os started H enc _ => lifted os started H enc)
theorem proved : Rows.PathsWaitSaid :=
  zwi
end Go.Proofs.Ytkadjamdjfefeaa.pathsWait
