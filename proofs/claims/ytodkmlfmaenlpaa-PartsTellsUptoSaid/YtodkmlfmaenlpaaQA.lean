/- PartsTells holds of every input of bulk at most 1048576: Count, Split and Join tell how many parts any bytes are, which ones, and what any pieces make. No condition but the bound. -/
import Derived.Test.YtodkmlfmaenlpaaQAc
import Derived.Test.YtodkmlfmaenlpaaRows
namespace Go.Proofs.Ytodkmlfmaenlpaa.partsTells
open Go.HL Go.ChangeShapes Go.WideShapes Go.ChangeAt Go.RowKit
set_option maxRecDepth 100000
set_option maxHeartbeats 2000000
theorem zwm (H : Type) (enc : TypeId × Value → H) (W : World) (base : Nat) (args : Array Value) (ds gs : List (DataW H)) (before : List MemPlace)
 (hval : ∀ (j : Nat) t v, Try.f3.params[j]? = some t → args[j]? = some v → Value.okWide Try.prog W .any base t v)
 (hW : DataW.Whole enc Try.prog Try.f3.params.toList Rows.partsTellsSpec.vars false W args.toList ds gs before) (hk : zhs ds ≤ 1048576) :
 Calls Try.prog 3 args W fun e W' => ∃ v, e = .returned v ∧ Rows.partsTellsSpec.post enc Try.prog Try.f3 false true false false W args v W' := by
 refine znv 6 (by kernel_rfl) (by kernel_rfl) (by kernel_rfl) (tb := 4) (by kernel_rfl) Try.underlying4 rfl (fun ds h => ?_) hval hW fun L hL hb => ?_
 · match ds, h with
   | [a0, a1, a2], _ => exact ⟨rfl, rfl, rfl⟩
 · rw [Try.params3] at hL ⊢
   obtain ⟨x1, L, rfl, h1, hL⟩ := zjy hL
   obtain ⟨x2, L, rfl, h2, hL⟩ := zjy hL
   obtain ⟨x3, L, rfl, h3, hL⟩ := zjy hL
   obtain rfl := zxu hL
   obtain ⟨z1, rfl⟩ := zos Try.underlying22 Try.underlying5 (by kernel_rfl) h1
   obtain ⟨z2, rfl, w2⟩ := zco Try.underlying3 h2
   have w2 := zem w2
   obtain ⟨z3, rfl, w3⟩ := zio Try.underlying23 (c := 12) (by kernel_rfl) (fun r hr => zvy hr) h3
   have hb2 := Nat.le_trans hb hk
   have := Pt.ycd z1 z2 z3 (by have h6 := Pt.zkn z1; simp only [zcw, zch, PV.bulk] at hb2; omega) w2 (by have h6 := (Pt.zja z3).1; simp only [zcw, zch, PV.bulk] at hb2; omega) (by have h6 := (Pt.zja z3).2; simp only [zcw, zch, PV.bulk] at hb2; omega)
   simpa only [ziy, zmz Try.underlying22, zyv Try.underlying3, zmz Try.underlying23] using this
theorem closed : joinedFacts Try.prog 3 Try.f3 (Rows.OpenSpec.upto Rows.partsTellsSpec).bare Rows.partsTellsUptoRow = true := by
 unfold joinedFacts
 repeat' (with_reducible refine yan ?_ ?_)
 all_goals (as_aux_lemma => kernel_rfl)
theorem lifted (os : Os) (started : os.Started) (H : Type) (enc : TypeId × Value → H) (F : Stop.Interp) :
 ReturnsInHanded {} Try.checked os 3 .any ((Rows.OpenSpec.upto Rows.partsTellsSpec).pre6 enc Try.prog Try.f3 Rows.partsTellsUptoRow.domain false) (((Rows.OpenSpec.upto Rows.partsTellsSpec).at F).post enc Try.prog Try.f3 false true false false) := by
 refine returnsInHanded_of_cond (C := Try.checked) (s := Rows.OpenSpec.upto Rows.partsTellsSpec) (k := Rows.uptoSmall) rfl own started (by kernel_rfl) Try.func3
  (OpenSpec.witness (enc := enc) (C := Try.checked) (s := Rows.OpenSpec.upto Rows.partsTellsSpec) (k := Rows.uptoSmall) rfl false ⟨#[], #[.slice none 0 0, .int .i64 0, .slice none 0 0], []⟩ 8 (by kernel_rfl) (by kernel_rfl) (by kernel_rfl)
   (x := ([.nil, .lit (.int .i64 0), .nil], [], [])) (by kernel_rfl) rfl (by kernel_rfl)) ?_
 intro W base args ds gs before hval hW _ hk _
 exact zwm H enc W base args ds gs before hval hW (yar hk)
theorem ycg : Rows.partsTellsUptoRow.holds Try.pinned (Rows.OpenSpec.upto Rows.partsTellsSpec) :=
 OpenClaim.holds_of_cond 3 Try.f3 rfl rfl rfl rfl rfl rfl rfl ⟨rfl, rfl, rfl, rfl, rfl⟩ rfl rfl rfl rfl rfl (by kernel_rfl) Try.func3 closed
  (of_decide_eq_true (by kernel_rfl)) (by unfold Func.isWrapper; first | (rw [if_pos (by decide +kernel)]; kernel_rfl) | (rw [if_neg (by decide +kernel)]; exact ⟨rfl, rfl⟩))
  (fun os started H enc _ F => lifted os started H enc F)
theorem proved : Rows.PartsTellsUptoSaid :=
 ycg
end Go.Proofs.Ytodkmlfmaenlpaa.partsTells
