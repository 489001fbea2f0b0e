/- SenderTells holds of every input of bulk at most 1048576: New, Wrong, Send, Own, Hear, Tick, Calm and Pump answer as the document does. No condition but the bound. -/
import Derived.Test.YticmofoeecjnhaaGreatMf
import Derived.Test.YticmofoeecjnhaaGreatRows
namespace Go.Proofs.YticmofoeecjnhaaGreat.senderTells
open Go.HL Go.ChangeShapes Go.WideShapes Go.ChangeAt Go.RowKit
set_option maxRecDepth 100000
set_option maxHeartbeats 2000000
theorem contract (H : Type) (enc : TypeId × Value → H) (W : World) (base : Nat) (args : Array Value) (ds gs : List (DataW H)) (before : List MemPlace)
 (hval : ∀ (j : Nat) t v, Tryz.f5.params[j]? = some t → args[j]? = some v → Value.okWide Tryz.prog W .any base t v)
 (hW : DataW.Whole enc Tryz.prog Tryz.f5.params.toList Rows.senderTellsSpec.vars false W args.toList ds gs before) (hk : dwbL ds ≤ 1048576) :
 Calls Tryz.prog 5 args W fun e W' => ∃ v, e = .returned v ∧ Rows.senderTellsSpec.post enc Tryz.prog Tryz.f5 false true false false W args v W' := by
 refine zvl 6 (by kernel_rfl) (by kernel_rfl) (by kernel_rfl) (tb := 4) (by kernel_rfl) Tryz.underlying4 rfl (fun ds h => ?_) hval hW fun L hL hb => ?_
 · match ds, h with
   | [a0, a1, a2, a3], _ => exact ⟨rfl, rfl, rfl⟩
 · rw [Tryz.params5] at hL ⊢
   obtain ⟨x1, L, rfl, h1, hL⟩ := zjv hL
   obtain ⟨x2, L, rfl, h2, hL⟩ := zjv hL
   obtain ⟨x3, L, rfl, h3, hL⟩ := zjv hL
   obtain ⟨x4, L, rfl, h4, hL⟩ := zjv hL
   obtain rfl := ylj hL
   obtain ⟨z1, rfl, w1⟩ := yec h1
   obtain ⟨z2, rfl, w2⟩ := zmw Tryz.underlying52 (c := 7) (by kernel_rfl) (fun r hr => ylm hr) h2
   obtain ⟨z3, rfl, w3⟩ := zoe h3
   obtain ⟨z4, rfl, w4⟩ := ygx h4
   have hb2 := Nat.le_trans hb hk
   have := Ln.sendertells z1 z2 z3 z4 (fun x hx => by have h6 := (Snd.yjc (l := z2) (by simp only [bulkR, bulkL, PV.bulk] at hb2; omega)).1 x hx; omega) (by have h6 := zih (f := bRow) (fun x => by simp [bRow, bulkL, PV.bulk]) z3.data; simp only [Message.row, bulkR, bulkL, PV.bulk] at hb2 h6; omega) (by have h6 := (Rcv.ypv z4).2; simp only [Chunk.row, bulkR, bulkL, PV.bulk] at hb2 h6; omega)
   simpa only [zod, yed, ygu Tryz.underlying52, zyl, ygy] using this
theorem closed : joinedFacts Tryz.prog 5 Tryz.f5 (Rows.OpenSpec.upto Rows.senderTellsSpec).bare Rows.senderTellsUptoRow = true := by
 unfold joinedFacts
 repeat' (with_reducible refine ypp ?_ ?_)
 all_goals (as_aux_lemma => kernel_rfl)
theorem lifted (os : Os) (started : os.Started) (H : Type) (enc : TypeId × Value → H) (F : Stop.Interp) :
 ReturnsInHanded {} Tryz.checked os 5 .any ((Rows.OpenSpec.upto Rows.senderTellsSpec).pre6 enc Tryz.prog Tryz.f5 Rows.senderTellsUptoRow.domain false) (((Rows.OpenSpec.upto Rows.senderTellsSpec).at F).post enc Tryz.prog Tryz.f5 false true false false) := by
 refine returnsInHanded_of_cond (C := Tryz.checked) (s := Rows.OpenSpec.upto Rows.senderTellsSpec) (k := Rows.uptoSmall) rfl own started (by kernel_rfl) Tryz.func5
  (OpenSpec.witness (enc := enc) (C := Tryz.checked) (s := Rows.OpenSpec.upto Rows.senderTellsSpec) (k := Rows.uptoSmall) rfl false ⟨#[], #[.agg #[.int .i64 0, .int .i64 0, .int .i64 0, .int .i64 0, .int .i64 0, .int .i64 0, .int .i64 0], .slice none 0 0, .agg #[.int .i64 0, .bool true, .int .i64 0, .int .i64 0, .slice none 0 0], .agg #[.int .i64 0, .int .i64 0, .int .i64 0, .int .i64 0, .int .i64 0, .bool true, .bool true, .slice none 0 0, .slice none 0 0, .int .i64 0, .slice none 0 0]], []⟩ 8 (by kernel_rfl) (by kernel_rfl) (by kernel_rfl)
   (x := ([.agg [.lit (.int .i64 0), .lit (.int .i64 0), .lit (.int .i64 0), .lit (.int .i64 0), .lit (.int .i64 0), .lit (.int .i64 0), .lit (.int .i64 0)], .nil, .agg [.lit (.int .i64 0), .lit (.bool true), .lit (.int .i64 0), .lit (.int .i64 0), .nil], .agg [.lit (.int .i64 0), .lit (.int .i64 0), .lit (.int .i64 0), .lit (.int .i64 0), .lit (.int .i64 0), .lit (.bool true), .lit (.bool true), .nil, .nil, .lit (.int .i64 0), .nil]], [], [])) (by kernel_rfl) rfl (by kernel_rfl)) ?_
 intro W base args ds gs before hval hW _ hk _
 exact contract H enc W base args ds gs before hval hW (ypo hk)
theorem over : Rows.senderTellsUptoRow.holds Tryz.pinned (Rows.OpenSpec.upto Rows.senderTellsSpec) :=
 OpenClaim.holds_of_cond 5 Tryz.f5 rfl rfl rfl rfl rfl rfl rfl ⟨rfl, rfl, rfl, rfl, rfl⟩ rfl rfl rfl rfl rfl (by kernel_rfl) Tryz.func5 closed
  (of_decide_eq_true (by kernel_rfl)) (by unfold Func.isWrapper; first | (rw [if_pos (by decide +kernel)]; kernel_rfl) | (rw [if_neg (by decide +kernel)]; exact ⟨rfl, rfl⟩))
  (fun os started H enc _ F => lifted os started H enc F)
theorem proved : Rows.SenderTellsUptoSaid :=
 over
end Go.Proofs.YticmofoeecjnhaaGreat.senderTells
