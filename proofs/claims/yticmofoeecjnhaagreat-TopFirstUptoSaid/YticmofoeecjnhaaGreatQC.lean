/- TopFirst holds of every input of bulk at most 1048576: where all goes in turn a long message is delivered ahead of a short one that came later, of whatever stream. No condition but the bound. -/
import Derived.Test.YticmofoeecjnhaaGreatQCg
import Derived.Test.YticmofoeecjnhaaGreatRows
namespace Go.Proofs.YticmofoeecjnhaaGreat.topFirst
open Go.HL Go.ChangeShapes Go.WideShapes Go.ChangeAt Go.RowKit
set_option maxRecDepth 100000
set_option maxHeartbeats 2000000
theorem ywt (H : Type) (enc : TypeId × Value → H) (W : World) (base : Nat) (args : Array Value) (ds gs : List (DataW H)) (before : List MemPlace)
 (hval : ∀ (j : Nat) t v, Tryz.f4.params[j]? = some t → args[j]? = some v → Value.okWide Tryz.prog W .any base t v)
 (hW : DataW.Whole enc Tryz.prog Tryz.f4.params.toList Rows.topFirstSpec.vars false W args.toList ds gs before) (hk : zrh ds ≤ 1048576) :
 Calls Tryz.prog 4 args W fun e W' => ∃ v, e = .returned v ∧ Rows.topFirstSpec.post enc Tryz.prog Tryz.f4 false true false false W args v W' := by
 refine ydy 6 (by kernel_rfl) (by kernel_rfl) (by kernel_rfl) (tb := 4) (by kernel_rfl) Tryz.underlying4 rfl (fun ds h => ?_) hval hW fun L hL hb => ?_
 · match ds, h with
   | [a0, a1], _ => exact ⟨rfl, rfl, rfl⟩
 · rw [Tryz.params4] at hL ⊢
   obtain ⟨x1, L, rfl, h1, hL⟩ := yfo hL
   obtain ⟨x2, L, rfl, h2, hL⟩ := yfo hL
   obtain rfl := yzm hL
   obtain ⟨z1, rfl, w1⟩ := yuw Tryz.underlying9 h1
   obtain ⟨z2, rfl, w2⟩ := yuw Tryz.underlying9 h2
   have hb2 := Nat.le_trans hb hk
   have := (show zao _ _ [.p (.v (.string z1)), .p (.v (.string z2))] zae (zbk true) zae from Tp.yxe z1 z2)
   simpa only [ztj, arg_str Tryz.underlying9, arg_str Tryz.underlying9] using this
theorem closed : joinedFacts Tryz.prog 4 Tryz.f4 (Rows.OpenSpec.upto Rows.topFirstSpec).bare Rows.topFirstUptoRow = true := by
 unfold joinedFacts
 repeat' (with_reducible refine xfr ?_ ?_)
 all_goals (as_aux_lemma => kernel_rfl)
theorem lifted (os : Os) (started : os.Started) (H : Type) (enc : TypeId × Value → H) (F : Stop.Interp) :
 ReturnsInHanded {} Tryz.checked os 4 .any ((Rows.OpenSpec.upto Rows.topFirstSpec).pre6 enc Tryz.prog Tryz.f4 Rows.topFirstUptoRow.domain false) (((Rows.OpenSpec.upto Rows.topFirstSpec).at F).post enc Tryz.prog Tryz.f4 false true false false) := by
 refine returnsInHanded_of_cond (C := Tryz.checked) (s := Rows.OpenSpec.upto Rows.topFirstSpec) (k := Rows.uptoSmall) rfl own started (by kernel_rfl) Tryz.func4
  (OpenSpec.witness (enc := enc) (C := Tryz.checked) (s := Rows.OpenSpec.upto Rows.topFirstSpec) (k := Rows.uptoSmall) rfl false ⟨#[], #[.string ⟨#[]⟩, .string ⟨#[]⟩], []⟩ 8 (by kernel_rfl) (by kernel_rfl) (by kernel_rfl)
   (x := ([.lit (.string []), .lit (.string [])], [], [])) (by kernel_rfl) rfl (by kernel_rfl)) ?_
 intro W base args ds gs before hval hW _ hk _
 exact ywt H enc W base args ds gs before hval hW (xfz hk)
theorem yqi : Rows.topFirstUptoRow.holds Tryz.pinned (Rows.OpenSpec.upto Rows.topFirstSpec) :=
 OpenClaim.holds_of_cond 4 Tryz.f4 rfl rfl rfl rfl rfl rfl rfl ⟨rfl, rfl, rfl, rfl, rfl⟩ rfl rfl rfl rfl rfl (by kernel_rfl) Tryz.func4 closed
  (of_decide_eq_true (by kernel_rfl)) (by unfold Func.isWrapper; first | (rw [if_pos (by decide +kernel)]; kernel_rfl) | (rw [if_neg (by decide +kernel)]; exact ⟨rfl, rfl⟩))
  (fun os started H enc _ F => lifted os started H enc F)
theorem proved : Rows.TopFirstUptoSaid :=
 yqi
end Go.Proofs.YticmofoeecjnhaaGreat.topFirst
