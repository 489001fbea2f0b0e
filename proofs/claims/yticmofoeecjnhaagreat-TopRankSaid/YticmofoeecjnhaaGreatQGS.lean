/- TopRank holds of every input: where the lowest stream goes first its short message is delivered ahead of a long one of another stream that was in hand. No condition. -/
import Derived.Test.YticmofoeecjnhaaGreatQGg
import Derived.Test.YticmofoeecjnhaaGreatRows
namespace Go.Proofs.YticmofoeecjnhaaGreat.topRank
open Go.HL Go.ChangeShapes Go.WideShapes Go.ChangeAt Go.RowKit
set_option maxRecDepth 100000
set_option maxHeartbeats 2000000
theorem yxd (H : Type) (enc : TypeId × Value → H) (W : World) (base : Nat) (args : Array Value) (ds gs : List (DataW H)) (before : List MemPlace)
    (hval : ∀ (j : Nat) t v, Tryz.f3.params[j]? = some t → args[j]? = some v → Value.okWide Tryz.prog W .any base t v)
    (hW : DataW.Whole enc Tryz.prog Tryz.f3.params.toList Rows.topRankSpec.vars false W args.toList ds gs before) :
    Calls Tryz.prog 3 args W fun e W' => ∃ v, e = .returned v ∧ Rows.topRankSpec.post enc Tryz.prog Tryz.f3 false true false false W args v W' := by
  refine yeh 6 (by kernel_rfl) (by kernel_rfl) (by kernel_rfl) (tb := 4) (by kernel_rfl) Tryz.underlying4 rfl (fun ds h => ?_) hval hW fun L hL _ => ?_
  · match ds, h with
    | [a0, a1], _ => exact ⟨rfl, rfl, rfl⟩
  · rw [Tryz.params3] at hL ⊢
    obtain ⟨x1, L, rfl, h1, hL⟩ := yfx hL
    obtain ⟨x2, L, rfl, h2, hL⟩ := yfx hL
    obtain rfl := yzv hL
    obtain ⟨z1, rfl, w1⟩ := yvg Tryz.underlying9 h1
    obtain ⟨z2, rfl, w2⟩ := yvg Tryz.underlying9 h2
    have := (show zao _ _ [.p (.v (.string z1)), .p (.v (.string z2))] zae (zbl true) zae from Tp.xeu z1 z2)
    simpa only [ztr, arg_str Tryz.underlying9, arg_str Tryz.underlying9] using this
theorem closed : joinedFacts Tryz.prog 3 Tryz.f3 Rows.topRankSpec Rows.topRankRow = true := by
  unfold joinedFacts
  repeat' (with_reducible refine xga ?_ ?_)
  all_goals (as_aux_lemma => kernel_rfl)
theorem lifted (os : Os) (started : os.Started) (H : Type) (enc : TypeId × Value → H) :
    ReturnsInHanded {} Tryz.checked os 3 .any (Rows.topRankSpec.pre6 enc Tryz.prog Tryz.f3 Rows.topRankRow.domain false) (Rows.topRankSpec.post enc Tryz.prog Tryz.f3 false true false false) := by
  refine returnsInHanded_of_change (C := Tryz.checked) own started (by kernel_rfl) Tryz.func3
    (ChangeSpec.witness6 (enc := enc) (C := Tryz.checked) false ⟨#[], #[.string ⟨#[]⟩, .string ⟨#[]⟩], []⟩ 8 (by kernel_rfl) (by kernel_rfl) (by kernel_rfl) (by kernel_rfl)) ?_
  intro W base args ds gs before hval hW _ _
  exact yxd H enc W base args ds gs before hval hW
theorem yqt : Rows.topRankRow.holds Tryz.pinned (OpenSpec.ofChange Rows.topRankSpec) :=
  OpenClaim.holds_of_wide 3 Tryz.f3 rfl rfl rfl rfl rfl rfl rfl ⟨rfl, rfl, rfl, rfl, rfl⟩ rfl rfl rfl rfl rfl (by kernel_rfl) Tryz.func3 closed
    (of_decide_eq_true (by kernel_rfl)) (by unfold Func.isWrapper; first | (rw [if_pos (by decide +kernel)]; kernel_rfl) | (rw [if_neg (by decide +kernel)]; exact ⟨rfl, rfl⟩))
    (fun os started H enc _ => lifted os started H enc)
theorem proved : Rows.TopRankSaid :=
  yqt
end Go.Proofs.YticmofoeecjnhaaGreat.topRank
