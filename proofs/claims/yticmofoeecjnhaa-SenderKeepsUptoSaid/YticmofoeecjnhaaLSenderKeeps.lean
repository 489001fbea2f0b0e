/- SenderKeeps holds of every input of bulk at most 1048576: a message without time and terms is never gone without, though nothing ever comes. No condition but the bound. -/
import Derived.Test.YticmofoeecjnhaaRows
import Derived.Test.YticmofoeecjnhaaLift
import Derived.Test.YticmofoeecjnhaaKeepL
namespace Go.Proofs.Yticmofoeecjnhaa.senderKeeps
open Go.HL Go.ChangeShapes Go.WideShapes Go.ChangeAt Go.RowKit
set_option maxRecDepth 100000
set_option maxHeartbeats 2000000
theorem contract (H : Type) (enc : TypeId × Value → H) (W : World) (base : Nat) (args : Array Value) (ds gs : List (DataW H)) (before : List MemPlace)
    (hval : ∀ (j : Nat) t v, Try.f6.params[j]? = some t → args[j]? = some v → Value.okWide Try.prog W .any base t v)
    (hW : DataW.Whole enc Try.prog Try.f6.params.toList Rows.senderKeepsSpec.vars false W args.toList ds gs before) (hk : dwbL ds ≤ 1048576) :
    Calls Try.prog 6 args W fun e W' => ∃ v, e = .returned v ∧ Rows.senderKeepsSpec.post enc Try.prog Try.f6 false true false false W args v W' := by
  refine law_contract 6 (by kernel_rfl) (by kernel_rfl) (by kernel_rfl) (tb := 4) (by kernel_rfl) Try.underlying4 rfl (fun ds h => ?_) hval hW fun L hL hb => ?_
  · match ds, h with
    | [a0, a1], _ => exact ⟨rfl, rfl, rfl⟩
  · rw [Try.params6] at hL ⊢
    obtain ⟨x1, L, rfl, h1, hL⟩ := shpL_cons hL
    obtain ⟨x2, L, rfl, h2, hL⟩ := shpL_cons hL
    obtain rfl := shpL_nil hL
    obtain ⟨z1, rfl, w1⟩ := shp_Config h1
    obtain ⟨z2, rfl, w2⟩ := shp_list Try.underlying55 (c := 7) (by kernel_rfl) (fun r hr => shp_Step hr) h2
    have hb2 := Nat.le_trans hb hk
    have := Snd.keepslaw z1 z2 (fun x hx => by have h6 := (Snd.step_bulk (l := z2) (by simp only [bulkR, bulkL, PV.bulk] at hb2; omega)).1 x hx; omega)
    simpa only [argsHV, arg_Config, arg_slice Try.underlying55] using this
theorem lifted (os : Os) (started : os.Started) (H : Type) (enc : TypeId × Value → H) (F : Stop.Interp) :
    ReturnsInHanded {} Try.checked os 6 .any ((Rows.OpenSpec.upto Rows.senderKeepsSpec).pre6 enc Try.prog Try.f6 Rows.senderKeepsUptoRow.domain false) (((Rows.OpenSpec.upto Rows.senderKeepsSpec).at F).post enc Try.prog Try.f6 false true false false) := by
  refine returnsInHanded_of_cond (C := Try.checked) (s := Rows.OpenSpec.upto Rows.senderKeepsSpec) (k := Rows.uptoSmall) rfl own started (by kernel_rfl) Try.func6
    (OpenSpec.witness (enc := enc) (C := Try.checked) (s := Rows.OpenSpec.upto Rows.senderKeepsSpec) (k := Rows.uptoSmall) rfl false ⟨#[], #[.agg #[.int .i64 0, .int .i64 0, .int .i64 0, .int .i64 0, .int .i64 0, .int .i64 0, .int .i64 0], .slice none 0 0], []⟩ 8 (by kernel_rfl) (by kernel_rfl) (by kernel_rfl)
      (x := ([.agg [.lit (.int .i64 0), .lit (.int .i64 0), .lit (.int .i64 0), .lit (.int .i64 0), .lit (.int .i64 0), .lit (.int .i64 0), .lit (.int .i64 0)], .nil], [], [])) (by kernel_rfl) rfl (by kernel_rfl)) ?_
  intro W base args ds gs before hval hW _ hk _
  exact contract H enc W base args ds gs before hval hW (dwb_le hk)
theorem over : Rows.senderKeepsUptoRow.holds Try.pinned (Rows.OpenSpec.upto Rows.senderKeepsSpec) :=
  OpenClaim.holds_of_cond 6 Try.f6 rfl rfl rfl rfl rfl rfl rfl ⟨rfl, rfl, rfl, rfl, rfl⟩ rfl rfl rfl rfl rfl (by kernel_rfl) Try.func6 (by kernel_rfl)
    (of_decide_eq_true (by kernel_rfl)) (by unfold Func.isWrapper; first | (rw [if_pos (by decide +kernel)]; kernel_rfl) | (rw [if_neg (by decide +kernel)]; exact ⟨rfl, rfl⟩))
    (fun os started H enc _ F => lifted os started H enc F)
theorem proved : Rows.SenderKeepsUptoSaid :=
  over
end Go.Proofs.Yticmofoeecjnhaa.senderKeeps
