/- TopLate holds of every input: a message that may wait so long, and of which all is lost until then, is gone without; one behind it in its stream is delivered. No condition. -/
import Derived.Test.YticmofoeecjnhaaGreatQAi
import Derived.Test.YticmofoeecjnhaaGreatRows
namespace Go.Proofs.YticmofoeecjnhaaGreat.topLate
open Go.HL Go.ChangeShapes Go.WideShapes Go.ChangeAt Go.RowKit
set_option maxRecDepth 100000
set_option maxHeartbeats 2000000
theorem xbl (H : Type) (enc : TypeId × Value → H) (W : World) (base : Nat) (args : Array Value) (ds gs : List (DataW H)) (before : List MemPlace)
    (hval : ∀ (j : Nat) t v, Tryz.f17.params[j]? = some t → args[j]? = some v → Value.okWide Tryz.prog W .any base t v)
    (hW : DataW.Whole enc Tryz.prog Tryz.f17.params.toList Rows.topLateSpec.vars false W args.toList ds gs before) :
    Calls Tryz.prog 17 args W fun e W' => ∃ v, e = .returned v ∧ Rows.topLateSpec.post enc Tryz.prog Tryz.f17 false true false false W args v W' := by
  refine yhc 6 (by kernel_rfl) (by kernel_rfl) (by kernel_rfl) (tb := 4) (by kernel_rfl) Tryz.underlying4 rfl (fun ds h => ?_) hval hW fun L hL _ => ?_
  · match ds, h with
    | [a0, a1, a2], _ => exact ⟨rfl, rfl, rfl⟩
  · rw [Tryz.params17] at hL ⊢
    obtain ⟨x1, L, rfl, h1, hL⟩ := zxt hL
    obtain ⟨x2, L, rfl, h2, hL⟩ := zxt hL
    obtain ⟨x3, L, rfl, h3, hL⟩ := zxt hL
    obtain rfl := xei hL
    obtain ⟨z1, rfl, w1⟩ := xkg Tryz.underlying3 h1
    have w1 := xmu w1
    obtain ⟨z2, rfl, w2⟩ := yzl Tryz.underlying9 h2
    obtain ⟨z3, rfl, w3⟩ := yzl Tryz.underlying9 h3
    have := (show zao _ _ [i64 z1, .p (.v (.string z2)), .p (.v (.string z3))] zaf (zbm true) zaf from Tp.xiw z1 z2 z3)
    simpa only [zvk, xgx Tryz.underlying3, arg_str Tryz.underlying9, arg_str Tryz.underlying9] using this
theorem closed : joinedFacts Tryz.prog 17 Tryz.f17 Rows.topLateSpec Rows.topLateRow = true := by
  unfold joinedFacts
  repeat' (with_reducible refine xlx ?_ ?_)
  all_goals (as_aux_lemma => kernel_rfl)
theorem lifted (os : Os) (started : os.Started) (H : Type) (enc : TypeId × Value → H) :
    ReturnsInHanded {} Tryz.checked os 17 .any (Rows.topLateSpec.pre6 enc Tryz.prog Tryz.f17 Rows.topLateRow.domain false) (Rows.topLateSpec.post enc Tryz.prog Tryz.f17 false true false false) := by
  refine returnsInHanded_of_change (C := Tryz.checked) own started (by kernel_rfl) Tryz.func17
    (ChangeSpec.witness6 (enc := enc) (C := Tryz.checked) false ⟨#[], #[.int .i64 0, .string ⟨#[]⟩, .string ⟨#[]⟩], []⟩ 8 (by kernel_rfl) (by kernel_rfl) (by kernel_rfl) (by kernel_rfl)) ?_
  intro W base args ds gs before hval hW _ _
  exact xbl H enc W base args ds gs before hval hW
theorem yul : Rows.topLateRow.holds Tryz.pinned (OpenSpec.ofChange Rows.topLateSpec) :=
  OpenClaim.holds_of_wide 17 Tryz.f17 rfl rfl rfl rfl rfl rfl rfl ⟨rfl, rfl, rfl, rfl, rfl⟩ rfl rfl rfl rfl rfl (by kernel_rfl) Tryz.func17 closed
    (of_decide_eq_true (by kernel_rfl)) (by unfold Func.isWrapper; first | (rw [if_pos (by decide +kernel)]; kernel_rfl) | (rw [if_neg (by decide +kernel)]; exact ⟨rfl, rfl⟩))
    (fun os started H enc _ => lifted os started H enc)
theorem proved : Rows.TopLateSaid :=
  yul
end Go.Proofs.YticmofoeecjnhaaGreat.topLate
