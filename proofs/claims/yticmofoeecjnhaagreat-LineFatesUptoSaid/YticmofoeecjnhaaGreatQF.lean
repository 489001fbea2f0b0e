/- LineFates holds of every input of bulk at most 1048576: of a message of which it is told that it was delivered all parts have come: it is in the log, or waits there for one ahead of it. No condition but the bound. -/
import Derived.Test.YticmofoeecjnhaaGreatQFe
import Derived.Test.YticmofoeecjnhaaGreatRows
namespace Go.Proofs.YticmofoeecjnhaaGreat.lineFates
open Go.HL Go.ChangeShapes Go.WideShapes Go.ChangeAt Go.RowKit
set_option maxRecDepth 100000
set_option maxHeartbeats 2000000
theorem yvc (H : Type) (enc : TypeId × Value → H) (W : World) (base : Nat) (args : Array Value) (ds gs : List (DataW H)) (before : List MemPlace)
 (hval : ∀ (j : Nat) t v, Tryz.f12.params[j]? = some t → args[j]? = some v → Value.okWide Tryz.prog W .any base t v)
 (hW : DataW.Whole enc Tryz.prog Tryz.f12.params.toList Rows.lineFatesSpec.vars false W args.toList ds gs before) (hk : zqu ds ≤ 1048576) :
 Calls Tryz.prog 12 args W fun e W' => ∃ v, e = .returned v ∧ Rows.lineFatesSpec.post enc Tryz.prog Tryz.f12 false true false false W args v W' := by
 refine yct 6 (by kernel_rfl) (by kernel_rfl) (by kernel_rfl) (tb := 4) (by kernel_rfl) Tryz.underlying4 rfl (fun ds h => ?_) hval hW fun L hL hb => ?_
 · match ds, h with
   | [a0, a1], _ => exact ⟨rfl, rfl, rfl⟩
 · rw [Tryz.params12] at hL ⊢
   obtain ⟨x1, L, rfl, h1, hL⟩ := yef hL
   obtain ⟨x2, L, rfl, h2, hL⟩ := yef hL
   obtain rfl := yxk hL
   obtain ⟨z1, rfl, w1⟩ := ynv h1
   obtain ⟨z2, rfl, w2⟩ := ylj Tryz.underlying52 (c := 7) (by kernel_rfl) (fun r hr => yxl hr) h2
   have hb2 := Nat.le_trans hb hk
   have := Gh.yvk z1 z2 (fun x hx => by have h6 := (Snd.yex (l := z2) (by simp only [zia, zfx, PV.bulk] at hb2; omega)).1 x hx; omega) (by have h6 := (Snd.yex (l := z2) (by simp only [zia, zfx, PV.bulk] at hb2; omega)).2; omega)
   simpa only [zss, ymh, ypl Tryz.underlying52] using this
theorem closed : joinedFacts Tryz.prog 12 Tryz.f12 (Rows.OpenSpec.upto Rows.lineFatesSpec).bare Rows.lineFatesUptoRow = true := by
 unfold joinedFacts
 repeat' (with_reducible refine xdd ?_ ?_)
 all_goals (as_aux_lemma => kernel_rfl)
theorem lifted (os : Os) (started : os.Started) (H : Type) (enc : TypeId × Value → H) (F : Stop.Interp) :
 ReturnsInHanded {} Tryz.checked os 12 .any ((Rows.OpenSpec.upto Rows.lineFatesSpec).pre6 enc Tryz.prog Tryz.f12 Rows.lineFatesUptoRow.domain false) (((Rows.OpenSpec.upto Rows.lineFatesSpec).at F).post enc Tryz.prog Tryz.f12 false true false false) := by
 refine returnsInHanded_of_cond (C := Tryz.checked) (s := Rows.OpenSpec.upto Rows.lineFatesSpec) (k := Rows.uptoSmall) rfl own started (by kernel_rfl) Tryz.func12
  (OpenSpec.witness (enc := enc) (C := Tryz.checked) (s := Rows.OpenSpec.upto Rows.lineFatesSpec) (k := Rows.uptoSmall) rfl false ⟨#[], #[.agg #[.int .i64 0, .int .i64 0, .int .i64 0, .int .i64 0, .int .i64 0, .int .i64 0, .int .i64 0], .slice none 0 0], []⟩ 8 (by kernel_rfl) (by kernel_rfl) (by kernel_rfl)
   (x := ([.agg [.lit (.int .i64 0), .lit (.int .i64 0), .lit (.int .i64 0), .lit (.int .i64 0), .lit (.int .i64 0), .lit (.int .i64 0), .lit (.int .i64 0)], .nil], [], [])) (by kernel_rfl) rfl (by kernel_rfl)) ?_
 intro W base args ds gs before hval hW _ hk _
 exact yvc H enc W base args ds gs before hval hW (xdp hk)
theorem ypc : Rows.lineFatesUptoRow.holds Tryz.pinned (Rows.OpenSpec.upto Rows.lineFatesSpec) :=
 OpenClaim.holds_of_cond 12 Tryz.f12 rfl rfl rfl rfl rfl rfl rfl ⟨rfl, rfl, rfl, rfl, rfl⟩ rfl rfl rfl rfl rfl (by kernel_rfl) Tryz.func12 closed
  (of_decide_eq_true (by kernel_rfl)) (by unfold Func.isWrapper; first | (rw [if_pos (by decide +kernel)]; kernel_rfl) | (rw [if_neg (by decide +kernel)]; exact ⟨rfl, rfl⟩))
  (fun os started H enc _ F => lifted os started H enc F)
theorem proved : Rows.LineFatesUptoSaid :=
 ypc
end Go.Proofs.YticmofoeecjnhaaGreat.lineFates
