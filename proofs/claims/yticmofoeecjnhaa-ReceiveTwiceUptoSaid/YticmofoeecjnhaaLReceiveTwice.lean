/- ReceiveTwice holds of every input of bulk at most 1048576: a chunk that comes again does nothing. No condition but the bound. -/
import Derived.Test.YticmofoeecjnhaaRows
import Derived.Test.YticmofoeecjnhaaLift
import Derived.Test.YticmofoeecjnhaaRecvU
namespace Go.Proofs.Yticmofoeecjnhaa.receiveTwice
open Go.HL Go.ChangeShapes Go.WideShapes Go.ChangeAt Go.RowKit
set_option maxRecDepth 100000
set_option maxHeartbeats 2000000

theorem contract (H : Type) (enc : TypeId × Value → H) (W : World) (base : Nat) (args : Array Value) (ds gs : List (DataW H)) (before : List MemPlace)
    (hval : ∀ (j : Nat) t v, Try.f4.params[j]? = some t → args[j]? = some v → Value.okWide Try.prog W .any base t v)
    (hW : DataW.Whole enc Try.prog Try.f4.params.toList Rows.receiveTwiceSpec.vars false W args.toList ds gs before) (hk : dwbL ds ≤ 1048576) :
    Calls Try.prog 4 args W fun e W' => ∃ v, e = .returned v ∧ Rows.receiveTwiceSpec.post enc Try.prog Try.f4 false true false false W args v W' := by
  refine law_contract 6 (by kernel_rfl) (by kernel_rfl) (by kernel_rfl) (tb := 4) (by kernel_rfl) Try.underlying4 rfl (fun ds h => ?_) hval hW fun L hL hb => ?_
  · match ds, h with
    | [a0, a1], _ => exact ⟨rfl, rfl, rfl⟩
  · rw [Try.params4] at hL ⊢
    obtain ⟨x1, L, rfl, h1, hL⟩ := shpL_cons hL
    obtain ⟨x2, L, rfl, h2, hL⟩ := shpL_cons hL
    obtain rfl := shpL_nil hL
    obtain ⟨z1, rfl, w1⟩ := shp_Config h1
    obtain ⟨z2, rfl, w2⟩ := shp_list Try.underlying24 (c := 11) (by kernel_rfl) (fun r hr => shp_Chunk hr) h2
    have hb2 := Nat.le_trans hb hk
    have := Rcv.twicelaw z1 z2 (by have h6 := (Rcv.bulk_l z2).1; simp only [bulkR, bulkL, PV.bulk] at hb2; omega) (Rcv.bulk_all (by simp only [bulkR, bulkL, PV.bulk] at hb2; omega)) (by have h6 := (Rcv.bulk_l z2).2; simp only [bulkR, bulkL, PV.bulk] at hb2; omega)
    simpa only [argsHV, arg_Config, arg_slice Try.underlying24] using this

theorem lifted (os : Os) (started : os.Started) (H : Type) (enc : TypeId × Value → H) (F : Stop.Interp) :
    ReturnsInHanded {} Try.checked os 4 .any ((Rows.OpenSpec.upto Rows.receiveTwiceSpec).pre6 enc Try.prog Try.f4 Rows.receiveTwiceUptoRow.domain false) (((Rows.OpenSpec.upto Rows.receiveTwiceSpec).at F).post enc Try.prog Try.f4 false true false false) := by
  refine returnsInHanded_of_cond (C := Try.checked) (s := Rows.OpenSpec.upto Rows.receiveTwiceSpec) (k := Rows.uptoSmall) rfl own started (by kernel_rfl) Try.func4
    (OpenSpec.witness (enc := enc) (C := Try.checked) (s := Rows.OpenSpec.upto Rows.receiveTwiceSpec) (k := Rows.uptoSmall) rfl false ⟨#[], #[.agg #[.int .i64 0, .int .i64 0, .int .i64 0, .int .i64 0, .int .i64 0, .int .i64 0, .int .i64 0], .slice none 0 0], []⟩ 8 (by kernel_rfl) (by kernel_rfl) (by kernel_rfl)
      (x := ([.agg [.lit (.int .i64 0), .lit (.int .i64 0), .lit (.int .i64 0), .lit (.int .i64 0), .lit (.int .i64 0), .lit (.int .i64 0), .lit (.int .i64 0)], .nil], [], [])) (by kernel_rfl) rfl (by kernel_rfl)) ?_
  intro W base args ds gs before hval hW _ hk _
  exact contract H enc W base args ds gs before hval hW (dwb_le hk)

theorem over : Rows.receiveTwiceUptoRow.holds Try.pinned (Rows.OpenSpec.upto Rows.receiveTwiceSpec) :=
  OpenClaim.holds_of_cond 4 Try.f4 rfl rfl rfl rfl rfl rfl rfl ⟨rfl, rfl, rfl, rfl, rfl⟩ rfl rfl rfl rfl rfl (by kernel_rfl) Try.func4 (by kernel_rfl)
    (of_decide_eq_true (by kernel_rfl)) (by unfold Func.isWrapper; first | (rw [if_pos (by decide +kernel)]; kernel_rfl) | (rw [if_neg (by decide +kernel)]; exact ⟨rfl, rfl⟩))
    (fun os started H enc _ F => lifted os started H enc F)

theorem proved : Rows.ReceiveTwiceUptoSaid :=
  over
end Go.Proofs.Yticmofoeecjnhaa.receiveTwice
