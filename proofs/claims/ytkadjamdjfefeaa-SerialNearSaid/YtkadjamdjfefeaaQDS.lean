/- SerialNear holds of every input: a number that is less than half a round away from another one comes back from its tag. No condition. -/
import Derived.Test.YtkadjamdjfefeaaQDc
import Derived.Test.YtkadjamdjfefeaaRows
namespace Go.Proofs.Ytkadjamdjfefeaa.serialNear
open Go.HL Go.ChangeShapes Go.WideShapes Go.ChangeAt Go.RowKit
set_option maxRecDepth 100000
set_option maxHeartbeats 2000000
theorem ztn (H : Type) (enc : TypeId × Value → H) (W : World) (base : Nat) (args : Array Value) (ds gs : List (DataW H)) (before : List MemPlace)
    (hval : ∀ (j : Nat) t v, Try.f8.params[j]? = some t → args[j]? = some v → Value.okWide Try.prog W .any base t v)
    (hW : DataW.Whole enc Try.prog Try.f8.params.toList Rows.serialNearSpec.vars false W args.toList ds gs before) :
    Calls Try.prog 8 args W fun e W' => ∃ v, e = .returned v ∧ Rows.serialNearSpec.post enc Try.prog Try.f8 false true false false W args v W' := by
  refine zmg 6 (by kernel_rfl) (by kernel_rfl) (by kernel_rfl) (tb := 4) (by kernel_rfl) Try.underlying4 rfl (fun ds h => ?_) hval hW fun L hL _ => ?_
  · match ds, h with
    | [a0, a1], _ => exact ⟨rfl, rfl, rfl⟩
  · rw [Try.params8] at hL ⊢
    obtain ⟨x1, L, rfl, h1, hL⟩ := zna hL
    obtain ⟨x2, L, rfl, h2, hL⟩ := zna hL
    obtain rfl := zvb hL
    obtain ⟨z1, rfl, w1⟩ := ztc Try.underlying3 h1
    have w1 := zvo w1
    obtain ⟨z2, rfl, w2⟩ := ztc Try.underlying3 h2
    have w2 := zvo w2
    have := Ser.zwu z1 z2
    simpa only [zhv, zre Try.underlying3, zre Try.underlying3] using this
theorem closed : joinedFacts Try.prog 8 Try.f8 Rows.serialNearSpec Rows.serialNearRow = true := by
  unfold joinedFacts
  repeat' (with_reducible refine zxt ?_ ?_)
  all_goals (as_aux_lemma => kernel_rfl)
theorem lifted (os : Os) (started : os.Started) (H : Type) (enc : TypeId × Value → H) :
    ReturnsInHanded {} Try.checked os 8 .any (Rows.serialNearSpec.pre6 enc Try.prog Try.f8 Rows.serialNearRow.domain false) (Rows.serialNearSpec.post enc Try.prog Try.f8 false true false false) := by
  refine returnsInHanded_of_change (C := Try.checked) own started (by kernel_rfl) Try.func8
    (ChangeSpec.witness6 (enc := enc) (C := Try.checked) false ⟨#[], #[.int .i64 0, .int .i64 0], []⟩ 8 (by kernel_rfl) (by kernel_rfl) (by kernel_rfl) (by kernel_rfl)) ?_
  intro W base args ds gs before hval hW _ _
  exact ztn H enc W base args ds gs before hval hW
theorem zzl : Rows.serialNearRow.holds Try.pinned (OpenSpec.ofChange Rows.serialNearSpec) :=
  OpenClaim.holds_of_wide 8 Try.f8 rfl rfl rfl rfl rfl rfl rfl ⟨rfl, rfl, rfl, rfl, rfl⟩ rfl rfl rfl rfl rfl (by kernel_rfl) Try.func8 closed
    (of_decide_eq_true (by kernel_rfl)) (by unfold Func.isWrapper; first | (rw [if_pos (by decide +kernel)]; kernel_rfl) | (rw [if_neg (by decide +kernel)]; exact ⟨rfl, rfl⟩))
    (fun os started H enc _ => lifted os started H enc)
theorem proved : Rows.SerialNearSaid :=
  zzl
end Go.Proofs.Ytkadjamdjfefeaa.serialNear
