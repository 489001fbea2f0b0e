/- PartsTurn holds of every input of bulk at most 1048576: the parts of a message, turned around, and from any one on, make the message; without one of them none. No condition but the bound. -/
import Derived.Test.YtodkmlfmaenlpaaQBc
import Derived.Test.YtodkmlfmaenlpaaRows
namespace Go.Proofs.Ytodkmlfmaenlpaa.partsTurn
open Go.HL Go.ChangeShapes Go.WideShapes Go.ChangeAt Go.RowKit
set_option maxRecDepth 100000
set_option maxHeartbeats 2000000
theorem zwr (H : Type) (enc : TypeId × Value → H) (W : World) (base : Nat) (args : Array Value) (ds gs : List (DataW H)) (before : List MemPlace)
 (hval : ∀ (j : Nat) t v, Try.f4.params[j]? = some t → args[j]? = some v → Value.okWide Try.prog W .any base t v)
 (hW : DataW.Whole enc Try.prog Try.f4.params.toList Rows.partsTurnSpec.vars false W args.toList ds gs before) (hk : zhs ds ≤ 1048576) :
 Calls Try.prog 4 args W fun e W' => ∃ v, e = .returned v ∧ Rows.partsTurnSpec.post enc Try.prog Try.f4 false true false false W args v W' := by
 refine znt 6 (by kernel_rfl) (by kernel_rfl) (by kernel_rfl) (tb := 4) (by kernel_rfl) Try.underlying4 rfl (fun ds h => ?_) hval hW fun L hL hb => ?_
 · match ds, h with
   | [a0, a1, a2, a3], _ => exact ⟨rfl, rfl, rfl⟩
 · rw [Try.params4] at hL ⊢
   obtain ⟨x1, L, rfl, h1, hL⟩ := zgj hL
   obtain ⟨x2, L, rfl, h2, hL⟩ := zgj hL
   obtain ⟨x3, L, rfl, h3, hL⟩ := zgj hL
   obtain ⟨x4, L, rfl, h4, hL⟩ := zgj hL
   obtain rfl := zyd hL
   obtain ⟨z1, rfl⟩ := zwb Try.underlying22 Try.underlying5 (by kernel_rfl) h1
   obtain ⟨z2, rfl, w2⟩ := zqg Try.underlying3 h2
   have w2 := zyv w2
   obtain ⟨z3, rfl, w3⟩ := zqg Try.underlying3 h3
   have w3 := zyv w3
   obtain ⟨z4, rfl⟩ := zye Try.underlying4 h4
   have hb2 := Nat.le_trans hb hk
   have := Pt.ycr z1 z2 z3 z4 (by have h6 := Pt.zsm z1; simp only [zef, zct, PV.bulk] at hb2; omega) w2 w3
   simpa only [ziw, ztt Try.underlying22, zts Try.underlying3, zts Try.underlying3, zwp Try.underlying4] using this
theorem closed : joinedFacts Try.prog 4 Try.f4 (Rows.OpenSpec.upto Rows.partsTurnSpec).bare Rows.partsTurnUptoRow = true := by
 unfold joinedFacts
 repeat' (with_reducible refine yaw ?_ ?_)
 all_goals (as_aux_lemma => kernel_rfl)
theorem lifted (os : Os) (started : os.Started) (H : Type) (enc : TypeId × Value → H) (F : Stop.Interp) :
 ReturnsInHanded {} Try.checked os 4 .any ((Rows.OpenSpec.upto Rows.partsTurnSpec).pre6 enc Try.prog Try.f4 Rows.partsTurnUptoRow.domain false) (((Rows.OpenSpec.upto Rows.partsTurnSpec).at F).post enc Try.prog Try.f4 false true false false) := by
 refine returnsInHanded_of_cond (C := Try.checked) (s := Rows.OpenSpec.upto Rows.partsTurnSpec) (k := Rows.uptoSmall) rfl own started (by kernel_rfl) Try.func4
  (OpenSpec.witness (enc := enc) (C := Try.checked) (s := Rows.OpenSpec.upto Rows.partsTurnSpec) (k := Rows.uptoSmall) rfl false ⟨#[], #[.slice none 0 0, .int .i64 0, .int .i64 0, .bool true], []⟩ 8 (by kernel_rfl) (by kernel_rfl) (by kernel_rfl)
   (x := ([.nil, .lit (.int .i64 0), .lit (.int .i64 0), .lit (.bool true)], [], [])) (by kernel_rfl) rfl (by kernel_rfl)) ?_
 intro W base args ds gs before hval hW _ hk _
 exact zwr H enc W base args ds gs before hval hW (yba hk)
theorem ycq : Rows.partsTurnUptoRow.holds Try.pinned (Rows.OpenSpec.upto Rows.partsTurnSpec) :=
 OpenClaim.holds_of_cond 4 Try.f4 rfl rfl rfl rfl rfl rfl rfl ⟨rfl, rfl, rfl, rfl, rfl⟩ rfl rfl rfl rfl rfl (by kernel_rfl) Try.func4 closed
  (of_decide_eq_true (by kernel_rfl)) (by unfold Func.isWrapper; first | (rw [if_pos (by decide +kernel)]; kernel_rfl) | (rw [if_neg (by decide +kernel)]; exact ⟨rfl, rfl⟩))
  (fun os started H enc _ F => lifted os started H enc F)
theorem proved : Rows.PartsTurnUptoSaid :=
 ycq
end Go.Proofs.Ytodkmlfmaenlpaa.partsTurn
