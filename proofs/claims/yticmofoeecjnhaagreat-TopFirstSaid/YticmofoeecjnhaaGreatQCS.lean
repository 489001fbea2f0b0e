/- TopFirst holds of every input: where all goes in turn a long message is delivered ahead of a short one that came later, of whatever stream. No condition. -/
import Derived.Test.YticmofoeecjnhaaGreatQCg
import Derived.Test.YticmofoeecjnhaaGreatRows
namespace Go.Proofs.YticmofoeecjnhaaGreat.topFirst
open Go.HL Go.ChangeShapes Go.WideShapes Go.ChangeAt Go.RowKit
set_option maxRecDepth 100000
set_option maxHeartbeats 2000000
theorem ywt (H : Type) (enc : TypeId × Value → H) (W : World) (base : Nat) (args : Array Value) (ds gs : List (DataW H)) (before : List MemPlace)
    (hval : ∀ (j : Nat) t v, Tryz.f4.params[j]? = some t → args[j]? = some v → Value.okWide Tryz.prog W .any base t v)
    (hW : DataW.Whole enc Tryz.prog Tryz.f4.params.toList Rows.topFirstSpec.vars false W args.toList ds gs before) :
    Calls Tryz.prog 4 args W fun e W' => ∃ v, e = .returned v ∧ Rows.topFirstSpec.post enc Tryz.prog Tryz.f4 false true false false W args v W' := by
  refine ydy 6 (by kernel_rfl) (by kernel_rfl) (by kernel_rfl) (tb := 4) (by kernel_rfl) Tryz.underlying4 rfl (fun ds h => ?_) hval hW fun L hL _ => ?_
  · match ds, h with
    | [a0, a1], _ => exact ⟨rfl, rfl, rfl⟩
  · rw [Tryz.params4] at hL ⊢
    obtain ⟨x1, L, rfl, h1, hL⟩ := yfo hL
    obtain ⟨x2, L, rfl, h2, hL⟩ := yfo hL
    obtain rfl := yzm hL
    obtain ⟨z1, rfl, w1⟩ := yuw Tryz.underlying9 h1
    obtain ⟨z2, rfl, w2⟩ := yuw Tryz.underlying9 h2
    have := (show zao _ _ [.p (.v (.string z1)), .p (.v (.string z2))] zae (zbk true) zae from Tp.yxe z1 z2)
    simpa only [ztj, arg_str Tryz.underlying9, arg_str Tryz.underlying9] using this
theorem closed : joinedFacts Tryz.prog 4 Tryz.f4 Rows.topFirstSpec Rows.topFirstRow = true := by
  unfold joinedFacts
  repeat' (with_reducible refine xfr ?_ ?_)
  all_goals (as_aux_lemma => kernel_rfl)
theorem lifted (os : Os) (started : os.Started) (H : Type) (enc : TypeId × Value → H) :
    ReturnsInHanded {} Tryz.checked os 4 .any (Rows.topFirstSpec.pre6 enc Tryz.prog Tryz.f4 Rows.topFirstRow.domain false) (Rows.topFirstSpec.post enc Tryz.prog Tryz.f4 false true false false) := by
  refine returnsInHanded_of_change (C := Tryz.checked) own started (by kernel_rfl) Tryz.func4
    (ChangeSpec.witness6 (enc := enc) (C := Tryz.checked) false ⟨#[], #[.string ⟨#[]⟩, .string ⟨#[]⟩], []⟩ 8 (by kernel_rfl) (by kernel_rfl) (by kernel_rfl) (by kernel_rfl)) ?_
  intro W base args ds gs before hval hW _ _
  exact ywt H enc W base args ds gs before hval hW
theorem yqi : Rows.topFirstRow.holds Tryz.pinned (OpenSpec.ofChange Rows.topFirstSpec) :=
  OpenClaim.holds_of_wide 4 Tryz.f4 rfl rfl rfl rfl rfl rfl rfl ⟨rfl, rfl, rfl, rfl, rfl⟩ rfl rfl rfl rfl rfl (by kernel_rfl) Tryz.func4 closed
    (of_decide_eq_true (by kernel_rfl)) (by unfold Func.isWrapper; first | (rw [if_pos (by decide +kernel)]; kernel_rfl) | (rw [if_neg (by decide +kernel)]; exact ⟨rfl, rfl⟩))
    (fun os started H enc _ => lifted os started H enc)
theorem proved : Rows.TopFirstSaid :=
  yqi
end Go.Proofs.YticmofoeecjnhaaGreat.topFirst
