/- SerialSpans holds of every input of bulk at most 1048576: numbers that are put in, in whatever order, are in, and no others. No condition but the bound. -/
import Derived.Test.YtdedgpnkepljkaaRows
import Derived.Test.YtdedgpnkepljkaaLift
import Derived.Test.YtdedgpnkepljkaaSerL
namespace Go.Proofs.Ytdedgpnkepljkaa.serialSpans
open Go.HL Go.ChangeShapes Go.WideShapes Go.ChangeAt Go.RowKit
set_option maxRecDepth 100000
set_option maxHeartbeats 2000000

theorem contract (H : Type) (enc : TypeId × Value → H) (W : World) (base : Nat) (args : Array Value) (ds gs : List (DataW H)) (before : List MemPlace)
    (hval : ∀ (j : Nat) t v, Try.f6.params[j]? = some t → args[j]? = some v → Value.okWide Try.prog W .any base t v)
    (hW : DataW.Whole enc Try.prog Try.f6.params.toList Rows.serialSpansSpec.vars false W args.toList ds gs before) (hk : dwbL ds ≤ 1048576) :
    Calls Try.prog 6 args W fun e W' => ∃ v, e = .returned v ∧ Rows.serialSpansSpec.post enc Try.prog Try.f6 false true false false W args v W' := by
  refine law_contract 6 (by kernel_rfl) (by kernel_rfl) (by kernel_rfl) (tb := 4) (by kernel_rfl) Try.underlying4 rfl (fun ds h => ?_) hval hW fun L hL hb => ?_
  · match ds, h with
    | [a0, a1], _ => exact ⟨rfl, rfl, rfl⟩
  · rw [Try.params6] at hL ⊢
    obtain ⟨x1, L, rfl, h1, hL⟩ := shpL_cons hL
    obtain ⟨x2, L, rfl, h2, hL⟩ := shpL_cons hL
    obtain rfl := shpL_nil hL
    obtain ⟨z1, rfl, w1⟩ := shp_ints Try.underlying24 Try.underlying3 (by kernel_rfl) h1
    obtain ⟨z2, rfl, w2⟩ := shp_int Try.underlying3 h2
    have w2 := inI_of w2
    have hb2 := Nat.le_trans hb hk
    have := Ser.spanslaw z1 z2 (by have h6 := bulk_len (k := 1) (rows := z1.map fun n => [pi n]) (fun r hr => by obtain ⟨p, _, rfl⟩ := List.mem_map.1 hr; simp [bulkL, PV.bulk]); simp only [bulkR, bulkL, PV.bulk, List.length_map] at hb2 h6; omega) w1
    simpa only [argsHV, arg_slice Try.underlying24, arg_int Try.underlying3] using this

theorem lifted (os : Os) (started : os.Started) (H : Type) (enc : TypeId × Value → H) (F : Stop.Interp) :
    ReturnsInHanded {} Try.checked os 6 .any ((Rows.OpenSpec.upto Rows.serialSpansSpec).pre6 enc Try.prog Try.f6 Rows.serialSpansUptoRow.domain false) (((Rows.OpenSpec.upto Rows.serialSpansSpec).at F).post enc Try.prog Try.f6 false true false false) := by
  refine returnsInHanded_of_cond (C := Try.checked) (s := Rows.OpenSpec.upto Rows.serialSpansSpec) (k := Rows.uptoSmall) rfl own started (by kernel_rfl) Try.func6
    (OpenSpec.witness (enc := enc) (C := Try.checked) (s := Rows.OpenSpec.upto Rows.serialSpansSpec) (k := Rows.uptoSmall) rfl false ⟨#[], #[.slice none 0 0, .int .i64 0], []⟩ 8 (by kernel_rfl) (by kernel_rfl) (by kernel_rfl)
      (x := ([.nil, .lit (.int .i64 0)], [], [])) (by kernel_rfl) rfl (by kernel_rfl)) ?_
  intro W base args ds gs before hval hW _ hk _
  exact contract H enc W base args ds gs before hval hW (dwb_le hk)

theorem over : Rows.serialSpansUptoRow.holds Try.pinned (Rows.OpenSpec.upto Rows.serialSpansSpec) :=
  OpenClaim.holds_of_cond 6 Try.f6 rfl rfl rfl rfl rfl rfl rfl ⟨rfl, rfl, rfl, rfl, rfl⟩ rfl rfl rfl rfl rfl (by kernel_rfl) Try.func6 (by kernel_rfl)
    (of_decide_eq_true (by kernel_rfl)) (by unfold Func.isWrapper; first | (rw [if_pos (by decide +kernel)]; kernel_rfl) | (rw [if_neg (by decide +kernel)]; exact ⟨rfl, rfl⟩))
    (fun os started H enc _ F => lifted os started H enc F)

theorem proved : Rows.SerialSpansUptoSaid :=
  over
end Go.Proofs.Ytdedgpnkepljkaa.serialSpans
