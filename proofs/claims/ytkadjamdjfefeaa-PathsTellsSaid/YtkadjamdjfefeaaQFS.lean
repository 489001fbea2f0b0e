/- PathsTells holds of every input: New, Acked, Halved, Late, Open and Choose answer as the document does. No condition. -/
import Derived.Test.YtkadjamdjfefeaaQFb
import Derived.Test.YtkadjamdjfefeaaRows
namespace Go.Proofs.Ytkadjamdjfefeaa.pathsTells
open Go.HL Go.ChangeShapes Go.WideShapes Go.ChangeAt Go.RowKit
set_option maxRecDepth 100000
set_option maxHeartbeats 2000000
theorem zrx (H : Type) (enc : TypeId × Value → H) (W : World) (base : Nat) (args : Array Value) (ds gs : List (DataW H)) (before : List MemPlace)
    (hval : ∀ (j : Nat) t v, Try.f3.params[j]? = some t → args[j]? = some v → Value.okWide Try.prog W .any base t v)
    (hW : DataW.Whole enc Try.prog Try.f3.params.toList Rows.pathsTellsSpec.vars false W args.toList ds gs before) :
    Calls Try.prog 3 args W fun e W' => ∃ v, e = .returned v ∧ Rows.pathsTellsSpec.post enc Try.prog Try.f3 false true false false W args v W' := by
  refine zld 6 (by kernel_rfl) (by kernel_rfl) (by kernel_rfl) (tb := 4) (by kernel_rfl) Try.underlying4 rfl (fun ds h => ?_) hval hW fun L hL _ => ?_
  · match ds, h with
    | [a0, a1, a2, a3, a4], _ => exact ⟨rfl, rfl, rfl⟩
  · rw [Try.params3] at hL ⊢
    obtain ⟨x1, L, rfl, h1, hL⟩ := zdy hL
    obtain ⟨x2, L, rfl, h2, hL⟩ := zdy hL
    obtain ⟨x3, L, rfl, h3, hL⟩ := zdy hL
    obtain ⟨x4, L, rfl, h4, hL⟩ := zdy hL
    obtain ⟨x5, L, rfl, h5, hL⟩ := zdy hL
    obtain rfl := zth hL
    obtain ⟨z1, rfl, w1⟩ := zoi h1
    obtain ⟨z2, rfl, w2⟩ := zdn Try.underlying3 h2
    have w2 := zey w2
    obtain ⟨z3, rfl, w3⟩ := zdn Try.underlying3 h3
    have w3 := zey w3
    obtain ⟨z4, rfl⟩ := zti Try.underlying4 h4
    obtain ⟨z5, rfl, w5⟩ := ztj Try.underlying24 (c := 7) (by kernel_rfl) (fun r hr => zoi hr) h5
    have := Paths.ztm z1 z2 z3 z4 z5
    simpa only [zhh, zru, zpt Try.underlying3, zpt Try.underlying3, zrv Try.underlying4, zpu Try.underlying24] using this
theorem closed : joinedFacts Try.prog 3 Try.f3 Rows.pathsTellsSpec Rows.pathsTellsRow = true := by
  unfold joinedFacts
  repeat' (with_reducible refine zvi ?_ ?_)
  all_goals (as_aux_lemma => kernel_rfl)
theorem lifted (os : Os) (started : os.Started) (H : Type) (enc : TypeId × Value → H) :
    ReturnsInHanded {} Try.checked os 3 .any (Rows.pathsTellsSpec.pre6 enc Try.prog Try.f3 Rows.pathsTellsRow.domain false) (Rows.pathsTellsSpec.post enc Try.prog Try.f3 false true false false) := by
  refine returnsInHanded_of_change (C := Try.checked) own started (by kernel_rfl) Try.func3
    (ChangeSpec.witness6 (enc := enc) (C := Try.checked) false ⟨#[], #[.agg #[.int .i64 0, .int .i64 0, .int .i64 0, .int .i64 0, .int .i64 0, .int .i64 0, .int .i64 0], .int .i64 0, .int .i64 0, .bool true, .slice none 0 0], []⟩ 8 (by kernel_rfl) (by kernel_rfl) (by kernel_rfl) (by kernel_rfl)) ?_
  intro W base args ds gs before hval hW _ _
  exact zrx H enc W base args ds gs before hval hW
theorem zww : Rows.pathsTellsRow.holds Try.pinned (OpenSpec.ofChange Rows.pathsTellsSpec) :=
  OpenClaim.holds_of_wide 3 Try.f3 rfl rfl rfl rfl rfl rfl rfl ⟨rfl, rfl, rfl, rfl, rfl⟩ rfl rfl rfl rfl rfl (by kernel_rfl) Try.func3 closed
    (of_decide_eq_true (by kernel_rfl)) (by unfold Func.isWrapper; first | (rw [if_pos (by decide +kernel)]; kernel_rfl) | (rw [if_neg (by decide +kernel)]; exact ⟨rfl, rfl⟩))
    (fun os started H enc _ => lifted os started H enc)
theorem proved : Rows.PathsTellsSaid :=
  zww
end Go.Proofs.Ytkadjamdjfefeaa.pathsTells
