/- SerialUp holds of every input of bulk at most 1048576: the number that is told is the last one of those in turn. No condition but the bound. -/
import Derived.Test.YtdedgpnkepljkaaRows
import Derived.Test.YtdedgpnkepljkaaLift
import Derived.Test.YtdedgpnkepljkaaSerL
namespace Go.Proofs.Ytdedgpnkepljkaa.serialUp
open Go.HL Go.ChangeShapes Go.WideShapes Go.ChangeAt Go.RowKit
set_option maxRecDepth 100000
set_option maxHeartbeats 2000000

theorem contract (H : Type) (enc : TypeId × Value → H) (W : World) (base : Nat) (args : Array Value) (ds gs : List (DataW H)) (before : List MemPlace)
    (hval : ∀ (j : Nat) t v, Try.f7.params[j]? = some t → args[j]? = some v → Value.okWide Try.prog W .any base t v)
    (hW : DataW.Whole enc Try.prog Try.f7.params.toList Rows.serialUpSpec.vars false W args.toList ds gs before) (hk : dwbL ds ≤ 1048576) :
    Calls Try.prog 7 args W fun e W' => ∃ v, e = .returned v ∧ Rows.serialUpSpec.post enc Try.prog Try.f7 false true false false W args v W' := by
  refine law_contract 6 (by kernel_rfl) (by kernel_rfl) (by kernel_rfl) (tb := 4) (by kernel_rfl) Try.underlying4 rfl (fun ds h => ?_) hval hW fun L hL hb => ?_
  · match ds, h with
    | [a0, a1], _ => exact ⟨rfl, rfl, rfl⟩
  · rw [Try.params7] at hL ⊢
    obtain ⟨x1, L, rfl, h1, hL⟩ := shpL_cons hL
    obtain ⟨x2, L, rfl, h2, hL⟩ := shpL_cons hL
    obtain rfl := shpL_nil hL
    obtain ⟨z1, rfl, w1⟩ := shp_ints Try.underlying24 Try.underlying3 (by kernel_rfl) h1
    obtain ⟨z2, rfl, w2⟩ := shp_int Try.underlying3 h2
    have w2 := inI_of w2
    have hb2 := Nat.le_trans hb hk
    have := Ser.uplaw z1 z2 (by have h6 := bulk_len (k := 1) (rows := z1.map fun n => [pi n]) (fun r hr => by obtain ⟨p, _, rfl⟩ := List.mem_map.1 hr; simp [bulkL, PV.bulk]); simp only [bulkR, bulkL, PV.bulk, List.length_map] at hb2 h6; omega)
    simpa only [argsHV, arg_slice Try.underlying24, arg_int Try.underlying3] using this

theorem lifted (os : Os) (started : os.Started) (H : Type) (enc : TypeId × Value → H) (F : Stop.Interp) :
    ReturnsInHanded {} Try.checked os 7 .any ((Rows.OpenSpec.upto Rows.serialUpSpec).pre6 enc Try.prog Try.f7 Rows.serialUpUptoRow.domain false) (((Rows.OpenSpec.upto Rows.serialUpSpec).at F).post enc Try.prog Try.f7 false true false false) := by
  refine returnsInHanded_of_cond (C := Try.checked) (s := Rows.OpenSpec.upto Rows.serialUpSpec) (k := Rows.uptoSmall) rfl own started (by kernel_rfl) Try.func7
    (OpenSpec.witness (enc := enc) (C := Try.checked) (s := Rows.OpenSpec.upto Rows.serialUpSpec) (k := Rows.uptoSmall) rfl false ⟨#[], #[.slice none 0 0, .int .i64 0], []⟩ 8 (by kernel_rfl) (by kernel_rfl) (by kernel_rfl)
      (x := ([.nil, .lit (.int .i64 0)], [], [])) (by kernel_rfl) rfl (by kernel_rfl)) ?_
  intro W base args ds gs before hval hW _ hk _
  exact contract H enc W base args ds gs before hval hW (dwb_le hk)

theorem over : Rows.serialUpUptoRow.holds Try.pinned (Rows.OpenSpec.upto Rows.serialUpSpec) :=
  OpenClaim.holds_of_cond 7 Try.f7 rfl rfl rfl rfl rfl rfl rfl ⟨rfl, rfl, rfl, rfl, rfl⟩ rfl rfl rfl rfl rfl (by kernel_rfl) Try.func7 (by kernel_rfl)
    (of_decide_eq_true (by kernel_rfl)) (by unfold Func.isWrapper; first | (rw [if_pos (by decide +kernel)]; kernel_rfl) | (rw [if_neg (by decide +kernel)]; exact ⟨rfl, rfl⟩))
    (fun os started H enc _ F => lifted os started H enc F)

theorem proved : Rows.SerialUpUptoSaid :=
  over
end Go.Proofs.Ytdedgpnkepljkaa.serialUp
