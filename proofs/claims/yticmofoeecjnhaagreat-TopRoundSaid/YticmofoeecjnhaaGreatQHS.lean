/- TopRound holds of every input: tags go round behind the last one, and all is delivered as it was sent, whichever tag was first. No condition. -/
import Derived.Test.YticmofoeecjnhaaGreatQHg
import Derived.Test.YticmofoeecjnhaaGreatRows
namespace Go.Proofs.YticmofoeecjnhaaGreat.topRound
open Go.HL Go.ChangeShapes Go.WideShapes Go.ChangeAt Go.RowKit
set_option maxRecDepth 100000
set_option maxHeartbeats 2000000
theorem ywn (H : Type) (enc : TypeId × Value → H) (W : World) (base : Nat) (args : Array Value) (ds gs : List (DataW H)) (before : List MemPlace)
    (hval : ∀ (j : Nat) t v, Tryz.f19.params[j]? = some t → args[j]? = some v → Value.okWide Tryz.prog W .any base t v)
    (hW : DataW.Whole enc Tryz.prog Tryz.f19.params.toList Rows.topRoundSpec.vars false W args.toList ds gs before) :
    Calls Tryz.prog 19 args W fun e W' => ∃ v, e = .returned v ∧ Rows.topRoundSpec.post enc Tryz.prog Tryz.f19 false true false false W args v W' := by
  refine ydu 6 (by kernel_rfl) (by kernel_rfl) (by kernel_rfl) (tb := 4) (by kernel_rfl) Tryz.underlying4 rfl (fun ds h => ?_) hval hW fun L hL _ => ?_
  · match ds, h with
    | [a0, a1, a2], _ => exact ⟨rfl, rfl, rfl⟩
  · rw [Tryz.params19] at hL ⊢
    obtain ⟨x1, L, rfl, h1, hL⟩ := zvb hL
    obtain ⟨x2, L, rfl, h2, hL⟩ := zvb hL
    obtain ⟨x3, L, rfl, h3, hL⟩ := zvb hL
    obtain rfl := yzk hL
    obtain ⟨z1, rfl, w1⟩ := yur Tryz.underlying3 h1
    have w1 := xas w1
    obtain ⟨z2, rfl, w2⟩ := xeo Tryz.underlying9 h2
    obtain ⟨z3, rfl, w3⟩ := yur Tryz.underlying3 h3
    have w3 := xas w3
    have := (show zao _ _ [i64 z1, .p (.v (.string z2)), i64 z3] zae (zbk true) zae from Tp.yzf z1 z2 z3)
    simpa only [zth, yql Tryz.underlying3, arg_str Tryz.underlying9, yql Tryz.underlying3] using this
theorem closed : joinedFacts Tryz.prog 19 Tryz.f19 Rows.topRoundSpec Rows.topRoundRow = true := by
  unfold joinedFacts
  repeat' (with_reducible refine xfq ?_ ?_)
  all_goals (as_aux_lemma => kernel_rfl)
theorem lifted (os : Os) (started : os.Started) (H : Type) (enc : TypeId × Value → H) :
    ReturnsInHanded {} Tryz.checked os 19 .any (Rows.topRoundSpec.pre6 enc Tryz.prog Tryz.f19 Rows.topRoundRow.domain false) (Rows.topRoundSpec.post enc Tryz.prog Tryz.f19 false true false false) := by
  refine returnsInHanded_of_change (C := Tryz.checked) own started (by kernel_rfl) Tryz.func19
    (ChangeSpec.witness6 (enc := enc) (C := Tryz.checked) false ⟨#[], #[.int .i64 0, .string ⟨#[]⟩, .int .i64 0], []⟩ 8 (by kernel_rfl) (by kernel_rfl) (by kernel_rfl) (by kernel_rfl)) ?_
  intro W base args ds gs before hval hW _ _
  exact ywn H enc W base args ds gs before hval hW
theorem yqf : Rows.topRoundRow.holds Tryz.pinned (OpenSpec.ofChange Rows.topRoundSpec) :=
  OpenClaim.holds_of_wide 19 Tryz.f19 rfl rfl rfl rfl rfl rfl rfl ⟨rfl, rfl, rfl, rfl, rfl⟩ rfl rfl rfl rfl rfl (by kernel_rfl) Tryz.func19 closed
    (of_decide_eq_true (by kernel_rfl)) (by unfold Func.isWrapper; first | (rw [if_pos (by decide +kernel)]; kernel_rfl) | (rw [if_neg (by decide +kernel)]; exact ⟨rfl, rfl⟩))
    (fun os started H enc _ => lifted os started H enc)
theorem proved : Rows.TopRoundSaid :=
  yqf
end Go.Proofs.YticmofoeecjnhaaGreat.topRound
