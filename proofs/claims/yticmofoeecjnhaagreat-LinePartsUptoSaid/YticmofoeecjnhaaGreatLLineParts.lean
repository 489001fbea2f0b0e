/- LineParts holds of every input of bulk at most 1048576: what steps come to, the first ones do, whatever follows. No condition but the bound. -/
import Derived.Test.YticmofoeecjnhaaGreatMe
import Derived.Test.YticmofoeecjnhaaGreatRows
namespace Go.Proofs.YticmofoeecjnhaaGreat.lineParts
open Go.HL Go.ChangeShapes Go.WideShapes Go.ChangeAt Go.RowKit
set_option maxRecDepth 100000
set_option maxHeartbeats 2000000
theorem contract (H : Type) (enc : TypeId × Value → H) (W : World) (base : Nat) (args : Array Value) (ds gs : List (DataW H)) (before : List MemPlace)
 (hval : ∀ (j : Nat) t v, Tryz.f13.params[j]? = some t → args[j]? = some v → Value.okWide Tryz.prog W .any base t v)
 (hW : DataW.Whole enc Tryz.prog Tryz.f13.params.toList Rows.linePartsSpec.vars false W args.toList ds gs before) (hk : dwbL ds ≤ 1048576) :
 Calls Tryz.prog 13 args W fun e W' => ∃ v, e = .returned v ∧ Rows.linePartsSpec.post enc Tryz.prog Tryz.f13 false true false false W args v W' := by
 refine zty 6 (by kernel_rfl) (by kernel_rfl) (by kernel_rfl) (tb := 4) (by kernel_rfl) Tryz.underlying4 rfl (fun ds h => ?_) hval hW fun L hL hb => ?_
 · match ds, h with
   | [a0, a1, a2], _ => exact ⟨rfl, rfl, rfl⟩
 · rw [Tryz.params13] at hL ⊢
   obtain ⟨x1, L, rfl, h1, hL⟩ := zna hL
   obtain ⟨x2, L, rfl, h2, hL⟩ := zna hL
   obtain ⟨x3, L, rfl, h3, hL⟩ := zna hL
   obtain rfl := yie hL
   obtain ⟨z1, rfl, w1⟩ := ybi h1
   obtain ⟨z2, rfl, w2⟩ := zyy Tryz.underlying52 (c := 7) (by kernel_rfl) (fun r hr => yih hr) h2
   obtain ⟨z3, rfl, w3⟩ := zdp Tryz.underlying3 h3
   have w3 := zfq w3
   have hb2 := Nat.le_trans hb hk
   have := Ln.partslaw z1 z2 z3 (fun x hx => by have h6 := (Snd.zve (l := z2) (by simp only [bulkR, bulkL, PV.bulk] at hb2; omega)).1 x hx; omega) (by have h6 := (Snd.zve (l := z2) (by simp only [bulkR, bulkL, PV.bulk] at hb2; omega)).2; omega)
   simpa only [zmz, ybj, ydx Tryz.underlying52, yld Tryz.underlying3] using this
theorem closed : joinedFacts Tryz.prog 13 Tryz.f13 (Rows.OpenSpec.upto Rows.linePartsSpec).bare Rows.linePartsUptoRow = true := by
 unfold joinedFacts
 repeat' (with_reducible refine ymu ?_ ?_)
 all_goals (as_aux_lemma => kernel_rfl)
theorem lifted (os : Os) (started : os.Started) (H : Type) (enc : TypeId × Value → H) (F : Stop.Interp) :
 ReturnsInHanded {} Tryz.checked os 13 .any ((Rows.OpenSpec.upto Rows.linePartsSpec).pre6 enc Tryz.prog Tryz.f13 Rows.linePartsUptoRow.domain false) (((Rows.OpenSpec.upto Rows.linePartsSpec).at F).post enc Tryz.prog Tryz.f13 false true false false) := by
 refine returnsInHanded_of_cond (C := Tryz.checked) (s := Rows.OpenSpec.upto Rows.linePartsSpec) (k := Rows.uptoSmall) rfl own started (by kernel_rfl) Tryz.func13
  (OpenSpec.witness (enc := enc) (C := Tryz.checked) (s := Rows.OpenSpec.upto Rows.linePartsSpec) (k := Rows.uptoSmall) rfl false ⟨#[], #[.agg #[.int .i64 0, .int .i64 0, .int .i64 0, .int .i64 0, .int .i64 0, .int .i64 0, .int .i64 0], .slice none 0 0, .int .i64 0], []⟩ 8 (by kernel_rfl) (by kernel_rfl) (by kernel_rfl)
   (x := ([.agg [.lit (.int .i64 0), .lit (.int .i64 0), .lit (.int .i64 0), .lit (.int .i64 0), .lit (.int .i64 0), .lit (.int .i64 0), .lit (.int .i64 0)], .nil, .lit (.int .i64 0)], [], [])) (by kernel_rfl) rfl (by kernel_rfl)) ?_
 intro W base args ds gs before hval hW _ hk _
 exact contract H enc W base args ds gs before hval hW (ymt hk)
theorem over : Rows.linePartsUptoRow.holds Tryz.pinned (Rows.OpenSpec.upto Rows.linePartsSpec) :=
 OpenClaim.holds_of_cond 13 Tryz.f13 rfl rfl rfl rfl rfl rfl rfl ⟨rfl, rfl, rfl, rfl, rfl⟩ rfl rfl rfl rfl rfl (by kernel_rfl) Tryz.func13 closed
  (of_decide_eq_true (by kernel_rfl)) (by unfold Func.isWrapper; first | (rw [if_pos (by decide +kernel)]; kernel_rfl) | (rw [if_neg (by decide +kernel)]; exact ⟨rfl, rfl⟩))
  (fun os started H enc _ F => lifted os started H enc F)
theorem proved : Rows.LinePartsUptoSaid :=
 over
end Go.Proofs.YticmofoeecjnhaaGreat.lineParts
