/- ReceiveOrder holds of every input of bulk at most 1048576: in whatever order parts come, each stream's messages are delivered in theirs. No condition but the bound. -/
import Derived.Test.YticmofoeecjnhaaRows
import Derived.Test.YticmofoeecjnhaaLift
import Derived.Test.YticmofoeecjnhaaRecvW
namespace Go.Proofs.Yticmofoeecjnhaa.receiveOrder
open Go.HL Go.ChangeShapes Go.WideShapes Go.ChangeAt Go.RowKit
set_option maxRecDepth 100000
set_option maxHeartbeats 2000000

theorem contract (H : Type) (enc : TypeId × Value → H) (W : World) (base : Nat) (args : Array Value) (ds gs : List (DataW H)) (before : List MemPlace)
    (hval : ∀ (j : Nat) t v, Try.f5.params[j]? = some t → args[j]? = some v → Value.okWide Try.prog W .any base t v)
    (hW : DataW.Whole enc Try.prog Try.f5.params.toList Rows.receiveOrderSpec.vars false W args.toList ds gs before) (hk : dwbL ds ≤ 1048576) :
    Calls Try.prog 5 args W fun e W' => ∃ v, e = .returned v ∧ Rows.receiveOrderSpec.post enc Try.prog Try.f5 false true false false W args v W' := by
  refine law_contract 6 (by kernel_rfl) (by kernel_rfl) (by kernel_rfl) (tb := 4) (by kernel_rfl) Try.underlying4 rfl (fun ds h => ?_) hval hW fun L hL hb => ?_
  · match ds, h with
    | [a0, a1, a2], _ => exact ⟨rfl, rfl, rfl⟩
  · rw [Try.params5] at hL ⊢
    obtain ⟨x1, L, rfl, h1, hL⟩ := shpL_cons hL
    obtain ⟨x2, L, rfl, h2, hL⟩ := shpL_cons hL
    obtain ⟨x3, L, rfl, h3, hL⟩ := shpL_cons hL
    obtain rfl := shpL_nil hL
    obtain ⟨z1, rfl, w1⟩ := shp_strs Try.underlying50 Try.underlying9 (by kernel_rfl) h1
    obtain ⟨z2, rfl, w2⟩ := shp_int Try.underlying3 h2
    have w2 := inI_of w2
    obtain ⟨z3, rfl, w3⟩ := shp_ints Try.underlying32 Try.underlying3 (by kernel_rfl) h3
    have hb2 := Nat.le_trans hb hk
    have := Rcv.orderlaw z1 z2 z3 w1 (by have h6 := len_bulk (f := fun n : Int => [pi n]) (fun x => by simp [bulkL, PV.bulk]) z3; simp only [bulkR, bulkL, PV.bulk] at hb2; omega)
    simpa only [argsHV, arg_slice Try.underlying50, arg_int Try.underlying3, arg_slice Try.underlying32] using this

theorem lifted (os : Os) (started : os.Started) (H : Type) (enc : TypeId × Value → H) (F : Stop.Interp) :
    ReturnsInHanded {} Try.checked os 5 .any ((Rows.OpenSpec.upto Rows.receiveOrderSpec).pre6 enc Try.prog Try.f5 Rows.receiveOrderUptoRow.domain false) (((Rows.OpenSpec.upto Rows.receiveOrderSpec).at F).post enc Try.prog Try.f5 false true false false) := by
  refine returnsInHanded_of_cond (C := Try.checked) (s := Rows.OpenSpec.upto Rows.receiveOrderSpec) (k := Rows.uptoSmall) rfl own started (by kernel_rfl) Try.func5
    (OpenSpec.witness (enc := enc) (C := Try.checked) (s := Rows.OpenSpec.upto Rows.receiveOrderSpec) (k := Rows.uptoSmall) rfl false ⟨#[], #[.slice none 0 0, .int .i64 0, .slice none 0 0], []⟩ 8 (by kernel_rfl) (by kernel_rfl) (by kernel_rfl)
      (x := ([.nil, .lit (.int .i64 0), .nil], [], [])) (by kernel_rfl) rfl (by kernel_rfl)) ?_
  intro W base args ds gs before hval hW _ hk _
  exact contract H enc W base args ds gs before hval hW (dwb_le hk)

theorem over : Rows.receiveOrderUptoRow.holds Try.pinned (Rows.OpenSpec.upto Rows.receiveOrderSpec) :=
  OpenClaim.holds_of_cond 5 Try.f5 rfl rfl rfl rfl rfl rfl rfl ⟨rfl, rfl, rfl, rfl, rfl⟩ rfl rfl rfl rfl rfl (by kernel_rfl) Try.func5 (by kernel_rfl)
    (of_decide_eq_true (by kernel_rfl)) (by unfold Func.isWrapper; first | (rw [if_pos (by decide +kernel)]; kernel_rfl) | (rw [if_neg (by decide +kernel)]; exact ⟨rfl, rfl⟩))
    (fun os started H enc _ F => lifted os started H enc F)

theorem proved : Rows.ReceiveOrderUptoSaid :=
  over
end Go.Proofs.Yticmofoeecjnhaa.receiveOrder
