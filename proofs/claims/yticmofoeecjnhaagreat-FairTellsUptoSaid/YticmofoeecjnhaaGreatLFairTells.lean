/- FairTells holds of every input of bulk at most 1048576: Round and Settle answer as the document does. No condition but the bound. -/
import Derived.Test.YticmofoeecjnhaaGreatMf
import Derived.Test.YticmofoeecjnhaaGreatRows
namespace Go.Proofs.YticmofoeecjnhaaGreat.fairTells
open Go.HL Go.ChangeShapes Go.WideShapes Go.ChangeAt Go.RowKit
set_option maxRecDepth 100000
set_option maxHeartbeats 2000000
theorem contract (H : Type) (enc : TypeId × Value → H) (W : World) (base : Nat) (args : Array Value) (ds gs : List (DataW H)) (before : List MemPlace)
 (hval : ∀ (j : Nat) t v, Tryz.f7.params[j]? = some t → args[j]? = some v → Value.okWide Tryz.prog W .any base t v)
 (hW : DataW.Whole enc Tryz.prog Tryz.f7.params.toList Rows.fairTellsSpec.vars false W args.toList ds gs before) (hk : dwbL ds ≤ 1048576) :
 Calls Tryz.prog 7 args W fun e W' => ∃ v, e = .returned v ∧ Rows.fairTellsSpec.post enc Tryz.prog Tryz.f7 false true false false W args v W' := by
 refine zyo 6 (by kernel_rfl) (by kernel_rfl) (by kernel_rfl) (tb := 4) (by kernel_rfl) Tryz.underlying4 rfl (fun ds h => ?_) hval hW fun L hL hb => ?_
 · match ds, h with
   | [a0, a1], _ => exact ⟨rfl, rfl, rfl⟩
 · rw [Tryz.params7] at hL ⊢
   obtain ⟨x1, L, rfl, h1, hL⟩ := zyp hL
   obtain ⟨x2, L, rfl, h2, hL⟩ := zyp hL
   obtain rfl := yqi hL
   obtain ⟨z1, rfl, w1⟩ := yie h1
   obtain ⟨z2, rfl, w2⟩ := yff Tryz.underlying52 (c := 7) (by kernel_rfl) (fun r hr => yql hr) h2
   have hb2 := Nat.le_trans hb hk
   have := Ln.fairtells z1 z2 (fun x hx => by have h6 := (Snd.ynr (l := z2) (by simp only [bulkR, bulkL, PV.bulk] at hb2; omega)).1 x hx; omega)
   simpa only [zpu, yif, yli Tryz.underlying52] using this
theorem closed : joinedFacts Tryz.prog 7 Tryz.f7 (Rows.OpenSpec.upto Rows.fairTellsSpec).bare Rows.fairTellsUptoRow = true := by
 unfold joinedFacts
 repeat' (with_reducible refine yvd ?_ ?_)
 all_goals (as_aux_lemma => kernel_rfl)
theorem lifted (os : Os) (started : os.Started) (H : Type) (enc : TypeId × Value → H) (F : Stop.Interp) :
 ReturnsInHanded {} Tryz.checked os 7 .any ((Rows.OpenSpec.upto Rows.fairTellsSpec).pre6 enc Tryz.prog Tryz.f7 Rows.fairTellsUptoRow.domain false) (((Rows.OpenSpec.upto Rows.fairTellsSpec).at F).post enc Tryz.prog Tryz.f7 false true false false) := by
 refine returnsInHanded_of_cond (C := Tryz.checked) (s := Rows.OpenSpec.upto Rows.fairTellsSpec) (k := Rows.uptoSmall) rfl own started (by kernel_rfl) Tryz.func7
  (OpenSpec.witness (enc := enc) (C := Tryz.checked) (s := Rows.OpenSpec.upto Rows.fairTellsSpec) (k := Rows.uptoSmall) rfl false ⟨#[], #[.agg #[.int .i64 0, .int .i64 0, .int .i64 0, .int .i64 0, .int .i64 0, .int .i64 0, .int .i64 0], .slice none 0 0], []⟩ 8 (by kernel_rfl) (by kernel_rfl) (by kernel_rfl)
   (x := ([.agg [.lit (.int .i64 0), .lit (.int .i64 0), .lit (.int .i64 0), .lit (.int .i64 0), .lit (.int .i64 0), .lit (.int .i64 0), .lit (.int .i64 0)], .nil], [], [])) (by kernel_rfl) rfl (by kernel_rfl)) ?_
 intro W base args ds gs before hval hW _ hk _
 exact contract H enc W base args ds gs before hval hW (yvc hk)
theorem over : Rows.fairTellsUptoRow.holds Tryz.pinned (Rows.OpenSpec.upto Rows.fairTellsSpec) :=
 OpenClaim.holds_of_cond 7 Tryz.f7 rfl rfl rfl rfl rfl rfl rfl ⟨rfl, rfl, rfl, rfl, rfl⟩ rfl rfl rfl rfl rfl (by kernel_rfl) Tryz.func7 closed
  (of_decide_eq_true (by kernel_rfl)) (by unfold Func.isWrapper; first | (rw [if_pos (by decide +kernel)]; kernel_rfl) | (rw [if_neg (by decide +kernel)]; exact ⟨rfl, rfl⟩))
  (fun os started H enc _ F => lifted os started H enc F)
theorem proved : Rows.FairTellsUptoSaid :=
 over
end Go.Proofs.YticmofoeecjnhaaGreat.fairTells
