/- LedgerTells holds of every input of bulk at most 1048576: Taken, Count and Right answer as the document does. No condition but the bound. -/
import Derived.Test.YticmofoeecjnhaaGreatQDf
import Derived.Test.YticmofoeecjnhaaGreatRows
namespace Go.Proofs.YticmofoeecjnhaaGreat.ledgerTells
open Go.HL Go.ChangeShapes Go.WideShapes Go.ChangeAt Go.RowKit
set_option maxRecDepth 100000
set_option maxHeartbeats 2000000
theorem yza (H : Type) (enc : TypeId × Value → H) (W : World) (base : Nat) (args : Array Value) (ds gs : List (DataW H)) (before : List MemPlace)
 (hval : ∀ (j : Nat) t v, Tryz.f14.params[j]? = some t → args[j]? = some v → Value.okWide Tryz.prog W .any base t v)
 (hW : DataW.Whole enc Tryz.prog Tryz.f14.params.toList Rows.ledgerTellsSpec.vars false W args.toList ds gs before) (hk : zsw ds ≤ 1048576) :
 Calls Tryz.prog 14 args W fun e W' => ∃ v, e = .returned v ∧ Rows.ledgerTellsSpec.post enc Tryz.prog Tryz.f14 false true false false W args v W' := by
 refine yfz 6 (by kernel_rfl) (by kernel_rfl) (by kernel_rfl) (tb := 4) (by kernel_rfl) Tryz.underlying4 rfl (fun ds h => ?_) hval hW fun L hL hb => ?_
 · match ds, h with
   | [a0, a1, a2, a3], _ => exact ⟨rfl, rfl, rfl⟩
 · rw [Tryz.params14] at hL ⊢
   obtain ⟨x1, L, rfl, h1, hL⟩ := zql hL
   obtain ⟨x2, L, rfl, h2, hL⟩ := zql hL
   obtain ⟨x3, L, rfl, h3, hL⟩ := zql hL
   obtain ⟨x4, L, rfl, h4, hL⟩ := zql hL
   obtain rfl := xbl hL
   obtain ⟨z1, rfl, w1⟩ := yrc h1
   obtain ⟨z2, rfl, w2⟩ := zum Tryz.underlying52 (c := 7) (by kernel_rfl) (fun r hr => xbm hr) h2
   obtain ⟨z3, rfl, w3⟩ := zum Tryz.underlying91 (c := 5) (by kernel_rfl) (fun r hr => zww hr) h3
   obtain ⟨z4, rfl, w4⟩ := zum Tryz.underlying35 (c := 4) (by kernel_rfl) (fun r hr => yky hr) h4
   have hb2 := Nat.le_trans hb hk
   have := Gh.ykk z1 z2 z3 z4 (fun x hx => by have h6 := (Snd.yin (l := z2) (by simp only [zig, zfz, PV.bulk] at hb2; omega)).1 x hx; omega) (by have h6 := (Snd.yin (l := z2) (by simp only [zig, zfz, PV.bulk] at hb2; omega)).2; omega) (by have h6 := zug (f := Message.row) (fun x => by simp [Message.row, zfz, PV.bulk]) z3; simp only [zig, zfz, PV.bulk] at hb2 h6; omega) (by have h6 := zug (f := zbf.row) (fun x => by simp [zbf.row, zfz, PV.bulk]) z4; simp only [zig, zfz, PV.bulk] at hb2 h6; omega)
   simpa only [zux, ypt, zuw Tryz.underlying52, zuw Tryz.underlying91, zuw Tryz.underlying35] using this
theorem closed : joinedFacts Tryz.prog 14 Tryz.f14 (Rows.OpenSpec.upto Rows.ledgerTellsSpec).bare Rows.ledgerTellsUptoRow = true := by
 unfold joinedFacts
 repeat' (with_reducible refine xgd ?_ ?_)
 all_goals (as_aux_lemma => kernel_rfl)
theorem lifted (os : Os) (started : os.Started) (H : Type) (enc : TypeId × Value → H) (F : Stop.Interp) :
 ReturnsInHanded {} Tryz.checked os 14 .any ((Rows.OpenSpec.upto Rows.ledgerTellsSpec).pre6 enc Tryz.prog Tryz.f14 Rows.ledgerTellsUptoRow.domain false) (((Rows.OpenSpec.upto Rows.ledgerTellsSpec).at F).post enc Tryz.prog Tryz.f14 false true false false) := by
 refine returnsInHanded_of_cond (C := Tryz.checked) (s := Rows.OpenSpec.upto Rows.ledgerTellsSpec) (k := Rows.uptoSmall) rfl own started (by kernel_rfl) Tryz.func14
  (OpenSpec.witness (enc := enc) (C := Tryz.checked) (s := Rows.OpenSpec.upto Rows.ledgerTellsSpec) (k := Rows.uptoSmall) rfl false ⟨#[], #[.agg #[.int .i64 0, .int .i64 0, .int .i64 0, .int .i64 0, .int .i64 0, .int .i64 0, .int .i64 0], .slice none 0 0, .slice none 0 0, .slice none 0 0], []⟩ 8 (by kernel_rfl) (by kernel_rfl) (by kernel_rfl)
   (x := ([.agg [.lit (.int .i64 0), .lit (.int .i64 0), .lit (.int .i64 0), .lit (.int .i64 0), .lit (.int .i64 0), .lit (.int .i64 0), .lit (.int .i64 0)], .nil, .nil, .nil], [], [])) (by kernel_rfl) rfl (by kernel_rfl)) ?_
 intro W base args ds gs before hval hW _ hk _
 exact yza H enc W base args ds gs before hval hW (xgm hk)
theorem zyb : Rows.ledgerTellsUptoRow.holds Tryz.pinned (Rows.OpenSpec.upto Rows.ledgerTellsSpec) :=
 OpenClaim.holds_of_cond 14 Tryz.f14 rfl rfl rfl rfl rfl rfl rfl ⟨rfl, rfl, rfl, rfl, rfl⟩ rfl rfl rfl rfl rfl (by kernel_rfl) Tryz.func14 closed
  (of_decide_eq_true (by kernel_rfl)) (by unfold Func.isWrapper; first | (rw [if_pos (by decide +kernel)]; kernel_rfl) | (rw [if_neg (by decide +kernel)]; exact ⟨rfl, rfl⟩))
  (fun os started H enc _ F => lifted os started H enc F)
theorem proved : Rows.LedgerTellsUptoSaid :=
 zyb
end Go.Proofs.YticmofoeecjnhaaGreat.ledgerTells
