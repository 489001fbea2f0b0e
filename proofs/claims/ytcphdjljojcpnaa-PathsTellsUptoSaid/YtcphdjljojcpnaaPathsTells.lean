/- PathsTells holds of every input of bulk at most 1048576: New, Acked, Halved, Late, Open and Choose answer as the document does. No condition but the bound. -/
import Derived.Test.YtcphdjljojcpnaaRows
import Derived.Test.YtcphdjljojcpnaaPathsLaws
namespace Go.Proofs.Ytcphdjljojcpnaa.pathsTells
open Go.HL Go.ChangeShapes Go.WideShapes Go.ChangeAt Go.RowKit

set_option maxRecDepth 100000
set_option maxHeartbeats 2000000
theorem own : ownKnob Try.prog.godebug = none := by kernel_rfl

mutual
theorem bulk_eq {H : Type} : (d : DataW H) → Rows.uptoBulk d = dwb d
  | .lit l => by cases l <;> simp only [Rows.uptoBulk, dwb]
  | .nil => by simp only [Rows.uptoBulk, dwb]
  | .ptr d => by simp only [Rows.uptoBulk, dwb, bulk_eq d]
  | .slice a b => by simp only [Rows.uptoBulk, dwb, bulkAll_eq a, bulkAll_eq b]
  | .agg p => by simp only [Rows.uptoBulk, dwb, bulkAll_eq p]
  | .iface _ d => by simp only [Rows.uptoBulk, dwb, bulk_eq d]
  | .map e => by simp only [Rows.uptoBulk, dwb, bulkE_eq e]
  | .held _ => by simp only [Rows.uptoBulk, dwb]
theorem bulkAll_eq {H : Type} : (l : List (DataW H)) → Rows.uptoBulkAll l = dwbL l
  | [] => by simp only [Rows.uptoBulkAll, dwbL]
  | d :: r => by simp only [Rows.uptoBulkAll, dwbL, bulk_eq d, bulkAll_eq r]
theorem bulkE_eq {H : Type} : (l : List (Lit × DataW H)) → Rows.uptoBulkEntries l = dwbE l
  | [] => by simp only [Rows.uptoBulkEntries, dwbE]
  | d :: r => by simp only [Rows.uptoBulkEntries, dwbE, bulkE1_eq d, bulkE_eq r]
theorem bulkE1_eq {H : Type} : (x : Lit × DataW H) → Rows.uptoBulkEntry x = dwbE1 x
  | (l, d) => by cases l <;> simp only [Rows.uptoBulkEntry, dwbE1, bulk_eq d]
end

theorem contract (H : Type) (enc : TypeId × Value → H) (W : World) (base : Nat) (args : Array Value) (ds gs : List (DataW H)) (before : List MemPlace)
    (hval : ∀ (j : Nat) t v, Try.f3.params[j]? = some t → args[j]? = some v → Value.okWide Try.prog W .any base t v)
    (hW : DataW.Whole enc Try.prog Try.f3.params.toList Rows.pathsTellsSpec.vars false W args.toList ds gs before) (hk : dwbL ds ≤ 1048576) :
    Calls Try.prog 3 args W fun e W' => ∃ v, e = .returned v ∧ Rows.pathsTellsSpec.post enc Try.prog Try.f3 false true false false W args v W' := by
  refine law_contract 4 (by kernel_rfl) (by kernel_rfl) (by kernel_rfl) (tb := 4) (by kernel_rfl) Try.underlying4 rfl (fun ds h => ?_) hval hW fun L hL hb => ?_
  · match ds, h with
    | [a, b, c, d, e], _ => exact ⟨rfl, rfl, rfl⟩
  · rw [Try.params3] at hL ⊢
    obtain ⟨x1, L, rfl, h1, hL⟩ := shpL_cons hL
    obtain ⟨x2, L, rfl, h2, hL⟩ := shpL_cons hL
    obtain ⟨x3, L, rfl, h3, hL⟩ := shpL_cons hL
    obtain ⟨x4, L, rfl, h4, hL⟩ := shpL_cons hL
    obtain ⟨x5, L, rfl, h5, hL⟩ := shpL_cons hL
    obtain rfl := shpL_nil hL
    obtain ⟨p, rfl⟩ := Paths.shp_path h1
    obtain ⟨z2, rfl, _⟩ := shp_int Try.underlying3 h2
    obtain ⟨z3, rfl, _⟩ := shp_int Try.underlying3 h3
    obtain ⟨z4, rfl⟩ := shp_bool Try.underlying4 h4
    obtain ⟨rows, rfl, hr⟩ := shp_slice Try.underlying24 h5
    obtain ⟨ps, rfl, -⟩ := rows_of (row := Path.row) (Q := fun _ => True) fun r hr' => let ⟨p, hp⟩ := Paths.shp_path (hr r hr'); ⟨p, hp, trivial⟩
    have hc : Try.prog.cellsOf 23 = 7 := by kernel_rfl
    rw [hc] at hb ⊢
    have hlen : ps.length ≤ 1048576 := by
      have h6 := bulkR_ge (rows := ps.map Path.row) fun r hr => by
        obtain ⟨p, _, rfl⟩ := List.mem_map.1 hr
        simp [Path.row, bulkL, PV.bulk]
      simp only [bulkR, bulkL, PV.bulk, List.length_map] at hb h6
      omega
    have := Paths.tells p z2 z3 z4 ps (by omega)
    simpa only [argsHV, Paths.arg_path, Paths.arg_int, Paths.arg_bool, Paths.arg_paths] using this

theorem lifted (os : Os) (started : os.Started) (H : Type) (enc : TypeId × Value → H) (F : Stop.Interp) :
    ReturnsInHanded {} Try.checked os 3 .any ((Rows.OpenSpec.upto Rows.pathsTellsSpec).pre6 enc Try.prog Try.f3 Rows.pathsTellsUptoRow.domain false) (((Rows.OpenSpec.upto Rows.pathsTellsSpec).at F).post enc Try.prog Try.f3 false true false false) := by
  refine returnsInHanded_of_cond (C := Try.checked) (s := Rows.OpenSpec.upto Rows.pathsTellsSpec) (k := Rows.uptoSmall) rfl own started (by kernel_rfl) Try.func3
    (OpenSpec.witness (enc := enc) (C := Try.checked) (s := Rows.OpenSpec.upto Rows.pathsTellsSpec) (k := Rows.uptoSmall) rfl false ⟨#[], #[.agg #[.int .i64 0, .int .i64 0, .int .i64 0, .int .i64 0, .int .i64 0, .int .i64 0, .int .i64 0], .int .i64 0, .int .i64 0, .bool true, .slice none 0 0], []⟩ 8 (by kernel_rfl) (by kernel_rfl) (by kernel_rfl)
      (x := ([.agg [.lit (.int .i64 0), .lit (.int .i64 0), .lit (.int .i64 0), .lit (.int .i64 0), .lit (.int .i64 0), .lit (.int .i64 0), .lit (.int .i64 0)], .lit (.int .i64 0), .lit (.int .i64 0), .lit (.bool true), .nil], [], [])) (by kernel_rfl) rfl (by kernel_rfl)) ?_
  intro W base args ds gs before hval hW _ hk _
  refine contract H enc W base args ds gs before hval hW ?_
  have h := of_decide_eq_true hk
  rw [bulkAll_eq] at h
  have happ : ∀ l r : List (DataW H), dwbL (l ++ r) = dwbL l + dwbL r := by
    intro l r
    induction l with
    | nil => simp [dwbL]
    | cons x l ih => simp only [List.cons_append, dwbL, ih]; omega
  rw [happ] at h
  omega

theorem over : Rows.pathsTellsUptoRow.holds Try.pinned (Rows.OpenSpec.upto Rows.pathsTellsSpec) :=
  OpenClaim.holds_of_cond 3 Try.f3 rfl rfl rfl rfl rfl rfl rfl ⟨rfl, rfl, rfl, rfl, rfl⟩ rfl rfl rfl rfl rfl (by kernel_rfl) Try.func3 (by kernel_rfl)
    (of_decide_eq_true (by kernel_rfl)) (by unfold Func.isWrapper; first | (rw [if_pos (by decide +kernel)]; kernel_rfl) | (rw [if_neg (by decide +kernel)]; exact ⟨rfl, rfl⟩))
    (fun os started H enc _ F => lifted os started H enc F)

theorem proved : Rows.PathsTellsUptoSaid :=
  over
end Go.Proofs.Ytcphdjljojcpnaa.pathsTells
