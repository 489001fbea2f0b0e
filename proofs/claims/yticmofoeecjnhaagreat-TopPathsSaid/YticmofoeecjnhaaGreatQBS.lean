/- TopPaths holds of every input: where all that goes by the first path is lost, messages come by the other one. No condition. -/
import Derived.Test.YticmofoeecjnhaaGreatQBg
import Derived.Test.YticmofoeecjnhaaGreatRows
namespace Go.Proofs.YticmofoeecjnhaaGreat.topPaths
open Go.HL Go.ChangeShapes Go.WideShapes Go.ChangeAt Go.RowKit
set_option maxRecDepth 100000
set_option maxHeartbeats 2000000
theorem ywv (H : Type) (enc : TypeId × Value → H) (W : World) (base : Nat) (args : Array Value) (ds gs : List (DataW H)) (before : List MemPlace)
    (hval : ∀ (j : Nat) t v, Tryz.f18.params[j]? = some t → args[j]? = some v → Value.okWide Tryz.prog W .any base t v)
    (hW : DataW.Whole enc Tryz.prog Tryz.f18.params.toList Rows.topPathsSpec.vars false W args.toList ds gs before) :
    Calls Tryz.prog 18 args W fun e W' => ∃ v, e = .returned v ∧ Rows.topPathsSpec.post enc Tryz.prog Tryz.f18 false true false false W args v W' := by
  refine yee 6 (by kernel_rfl) (by kernel_rfl) (by kernel_rfl) (tb := 4) (by kernel_rfl) Tryz.underlying4 rfl (fun ds h => ?_) hval hW fun L hL _ => ?_
  · match ds, h with
    | [a0], _ => exact ⟨rfl, rfl, rfl⟩
  · rw [Tryz.params18] at hL ⊢
    obtain ⟨x1, L, rfl, h1, hL⟩ := yuz hL
    obtain rfl := yzt hL
    obtain ⟨z1, rfl, w1⟩ := xfa Tryz.underlying9 h1
    have := (show zao _ _ [.p (.v (.string z1))] zae (zbl true) zae from Tp.yzg z1)
    simpa only [ztr, arg_str Tryz.underlying9] using this
theorem closed : joinedFacts Tryz.prog 18 Tryz.f18 Rows.topPathsSpec Rows.topPathsRow = true := by
  unfold joinedFacts
  repeat' (with_reducible refine xgc ?_ ?_)
  all_goals (as_aux_lemma => kernel_rfl)
theorem lifted (os : Os) (started : os.Started) (H : Type) (enc : TypeId × Value → H) :
    ReturnsInHanded {} Tryz.checked os 18 .any (Rows.topPathsSpec.pre6 enc Tryz.prog Tryz.f18 Rows.topPathsRow.domain false) (Rows.topPathsSpec.post enc Tryz.prog Tryz.f18 false true false false) := by
  refine returnsInHanded_of_change (C := Tryz.checked) own started (by kernel_rfl) Tryz.func18
    (ChangeSpec.witness6 (enc := enc) (C := Tryz.checked) false ⟨#[], #[.string ⟨#[]⟩], []⟩ 8 (by kernel_rfl) (by kernel_rfl) (by kernel_rfl) (by kernel_rfl)) ?_
  intro W base args ds gs before hval hW _ _
  exact ywv H enc W base args ds gs before hval hW
theorem yqm : Rows.topPathsRow.holds Tryz.pinned (OpenSpec.ofChange Rows.topPathsSpec) :=
  OpenClaim.holds_of_wide 18 Tryz.f18 rfl rfl rfl rfl rfl rfl rfl ⟨rfl, rfl, rfl, rfl, rfl⟩ rfl rfl rfl rfl rfl (by kernel_rfl) Tryz.func18 closed
    (of_decide_eq_true (by kernel_rfl)) (by unfold Func.isWrapper; first | (rw [if_pos (by decide +kernel)]; kernel_rfl) | (rw [if_neg (by decide +kernel)]; exact ⟨rfl, rfl⟩))
    (fun os started H enc _ => lifted os started H enc)
theorem proved : Rows.TopPathsSaid :=
  yqm
end Go.Proofs.YticmofoeecjnhaaGreat.topPaths
