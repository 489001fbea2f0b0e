/- PathsGrow holds of every input: whatever comes, and is lost, a path's window stays within its bounds. No condition. -/
import Derived.Test.YtkadjamdjfefeaaQAb
import Derived.Test.YtkadjamdjfefeaaRows
namespace Go.Proofs.Ytkadjamdjfefeaa.pathsGrow
open Go.HL Go.ChangeShapes Go.WideShapes Go.ChangeAt Go.RowKit
set_option maxRecDepth 100000
set_option maxHeartbeats 2000000
theorem zrt (H : Type) (enc : TypeId × Value → H) (W : World) (base : Nat) (args : Array Value) (ds gs : List (DataW H)) (before : List MemPlace)
    (hval : ∀ (j : Nat) t v, Try.f4.params[j]? = some t → args[j]? = some v → Value.okWide Try.prog W .any base t v)
    (hW : DataW.Whole enc Try.prog Try.f4.params.toList Rows.pathsGrowSpec.vars false W args.toList ds gs before) :
    Calls Try.prog 4 args W fun e W' => ∃ v, e = .returned v ∧ Rows.pathsGrowSpec.post enc Try.prog Try.f4 false true false false W args v W' := by
  refine zle 6 (by kernel_rfl) (by kernel_rfl) (by kernel_rfl) (tb := 4) (by kernel_rfl) Try.underlying4 rfl (fun ds h => ?_) hval hW fun L hL _ => ?_
  · match ds, h with
    | [a0, a1], _ => exact ⟨rfl, rfl, rfl⟩
  · rw [Try.params4] at hL ⊢
    obtain ⟨x1, L, rfl, h1, hL⟩ := zlx hL
    obtain ⟨x2, L, rfl, h2, hL⟩ := zlx hL
    obtain rfl := ztc hL
    obtain ⟨z1, rfl, w1⟩ := zrj Try.underlying3 h1
    have w1 := ztp w1
    obtain ⟨z2, rfl, w2⟩ := ztd Try.underlying31 Try.underlying3 (by kernel_rfl) h2
    have := Paths.grow z1 z2
    simpa only [zhh, ztt Try.underlying3, zps Try.underlying31] using this
theorem closed : joinedFacts Try.prog 4 Try.f4 Rows.pathsGrowSpec Rows.pathsGrowRow = true := by
  unfold joinedFacts
  repeat' (with_reducible refine zvd ?_ ?_)
  all_goals (as_aux_lemma => kernel_rfl)
theorem lifted (os : Os) (started : os.Started) (H : Type) (enc : TypeId × Value → H) :
    ReturnsInHanded {} Try.checked os 4 .any (Rows.pathsGrowSpec.pre6 enc Try.prog Try.f4 Rows.pathsGrowRow.domain false) (Rows.pathsGrowSpec.post enc Try.prog Try.f4 false true false false) := by
  refine returnsInHanded_of_change (C := Try.checked) own started (by kernel_rfl) Try.func4
    (ChangeSpec.witness6 (enc := enc) (C := Try.checked) false ⟨#[], #[.int .i64 0, .slice none 0 0], []⟩ 8 (by kernel_rfl) (by kernel_rfl) (by kernel_rfl) (by kernel_rfl)) ?_
  intro W base args ds gs before hval hW _ _
  exact zrt H enc W base args ds gs before hval hW
theorem zwr : Rows.pathsGrowRow.holds Try.pinned (OpenSpec.ofChange Rows.pathsGrowSpec) :=
  OpenClaim.holds_of_wide 4 Try.f4 rfl rfl rfl rfl rfl rfl rfl ⟨rfl, rfl, rfl, rfl, rfl⟩ rfl rfl rfl rfl rfl (by kernel_rfl) Try.func4 closed
    (of_decide_eq_true (by kernel_rfl)) (by unfold Func.isWrapper; first | (rw [if_pos (by decide +kernel)]; kernel_rfl) | (rw [if_neg (by decide +kernel)]; exact ⟨rfl, rfl⟩))
    (fun os started H enc _ => lifted os started H enc)
theorem proved : Rows.PathsGrowSaid :=
  zwr
end Go.Proofs.Ytkadjamdjfefeaa.pathsGrow
