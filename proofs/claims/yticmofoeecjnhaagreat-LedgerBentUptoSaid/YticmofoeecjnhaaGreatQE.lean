/- LedgerBent holds of every input of bulk at most 1048576: a log with one message more than once more than it was taken, or with one that was not taken, is not right. No condition but the bound. -/
import Derived.Test.YticmofoeecjnhaaGreatQEf
import Derived.Test.YticmofoeecjnhaaGreatRows
namespace Go.Proofs.YticmofoeecjnhaaGreat.ledgerBent
open Go.HL Go.ChangeShapes Go.WideShapes Go.ChangeAt Go.RowKit
set_option maxRecDepth 100000
set_option maxHeartbeats 2000000
theorem yyb (H : Type) (enc : TypeId × Value → H) (W : World) (base : Nat) (args : Array Value) (ds gs : List (DataW H)) (before : List MemPlace)
 (hval : ∀ (j : Nat) t v, Tryz.f16.params[j]? = some t → args[j]? = some v → Value.okWide Tryz.prog W .any base t v)
 (hW : DataW.Whole enc Tryz.prog Tryz.f16.params.toList Rows.ledgerBentSpec.vars false W args.toList ds gs before) (hk : zsm ds ≤ 1048576) :
 Calls Tryz.prog 16 args W fun e W' => ∃ v, e = .returned v ∧ Rows.ledgerBentSpec.post enc Tryz.prog Tryz.f16 false true false false W args v W' := by
 refine yfl 6 (by kernel_rfl) (by kernel_rfl) (by kernel_rfl) (tb := 4) (by kernel_rfl) Tryz.underlying4 rfl (fun ds h => ?_) hval hW fun L hL hb => ?_
 · match ds, h with
   | [a0, a1, a2, a3], _ => exact ⟨rfl, rfl, rfl⟩
 · rw [Tryz.params16] at hL ⊢
   obtain ⟨x1, L, rfl, h1, hL⟩ := zqb hL
   obtain ⟨x2, L, rfl, h2, hL⟩ := zqb hL
   obtain ⟨x3, L, rfl, h3, hL⟩ := zqb hL
   obtain ⟨x4, L, rfl, h4, hL⟩ := zqb hL
   obtain rfl := xan hL
   obtain ⟨z1, rfl, w1⟩ := ycc Tryz.underlying91 (c := 5) (by kernel_rfl) (fun r hr => ykn hr) h1
   obtain ⟨z2, rfl, w2⟩ := ycc Tryz.underlying35 (c := 4) (by kernel_rfl) (fun r hr => ykm hr) h2
   obtain ⟨z3, rfl, w3⟩ := zoo Tryz.underlying3 h3
   have w3 := zyi w3
   obtain ⟨z4, rfl⟩ := zwf Tryz.underlying46 Tryz.underlying5 (by kernel_rfl) h4
   have hb2 := Nat.le_trans hb hk
   have := Gh.ypw z1 z2 z3 z4 (by have h6 := yng (f := Message.row) (fun x => by simp [Message.row, zgy, PV.bulk]) z1; simp only [zks, zgy, PV.bulk] at hb2 h6; omega) (by have h6 := yng (f := zax.row) (fun x => by simp [zax.row, zgy, PV.bulk]) z2; simp only [zks, zgy, PV.bulk] at hb2 h6; omega)
   simpa only [zuo, zun Tryz.underlying91, zun Tryz.underlying35, xco Tryz.underlying3, zun Tryz.underlying46] using this
theorem closed : joinedFacts Tryz.prog 16 Tryz.f16 (Rows.OpenSpec.upto Rows.ledgerBentSpec).bare Rows.ledgerBentUptoRow = true := by
 unfold joinedFacts
 repeat' (with_reducible refine xff ?_ ?_)
 all_goals (as_aux_lemma => kernel_rfl)
theorem lifted (os : Os) (started : os.Started) (H : Type) (enc : TypeId × Value → H) (F : Stop.Interp) :
 ReturnsInHanded {} Tryz.checked os 16 .any ((Rows.OpenSpec.upto Rows.ledgerBentSpec).pre6 enc Tryz.prog Tryz.f16 Rows.ledgerBentUptoRow.domain false) (((Rows.OpenSpec.upto Rows.ledgerBentSpec).at F).post enc Tryz.prog Tryz.f16 false true false false) := by
 refine returnsInHanded_of_cond (C := Tryz.checked) (s := Rows.OpenSpec.upto Rows.ledgerBentSpec) (k := Rows.uptoSmall) rfl own started (by kernel_rfl) Tryz.func16
  (OpenSpec.witness (enc := enc) (C := Tryz.checked) (s := Rows.OpenSpec.upto Rows.ledgerBentSpec) (k := Rows.uptoSmall) rfl false ⟨#[], #[.slice none 0 0, .slice none 0 0, .int .i64 0, .slice none 0 0], []⟩ 8 (by kernel_rfl) (by kernel_rfl) (by kernel_rfl)
   (x := ([.nil, .nil, .lit (.int .i64 0), .nil], [], [])) (by kernel_rfl) rfl (by kernel_rfl)) ?_
 intro W base args ds gs before hval hW _ hk _
 exact yyb H enc W base args ds gs before hval hW (xfq hk)
theorem zxl : Rows.ledgerBentUptoRow.holds Tryz.pinned (Rows.OpenSpec.upto Rows.ledgerBentSpec) :=
 OpenClaim.holds_of_cond 16 Tryz.f16 rfl rfl rfl rfl rfl rfl rfl ⟨rfl, rfl, rfl, rfl, rfl⟩ rfl rfl rfl rfl rfl (by kernel_rfl) Tryz.func16 closed
  (of_decide_eq_true (by kernel_rfl)) (by unfold Func.isWrapper; first | (rw [if_pos (by decide +kernel)]; kernel_rfl) | (rw [if_neg (by decide +kernel)]; exact ⟨rfl, rfl⟩))
  (fun os started H enc _ F => lifted os started H enc F)
theorem proved : Rows.LedgerBentUptoSaid :=
 zxl
end Go.Proofs.YticmofoeecjnhaaGreat.ledgerBent
