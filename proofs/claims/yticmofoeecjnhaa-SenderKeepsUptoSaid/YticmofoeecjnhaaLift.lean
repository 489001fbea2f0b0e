/- What every law's lift takes: the bound on what comes in. -/
import Derived.Test.YticmofoeecjnhaaRows
import Derived.Test.YticmofoeecjnhaaHL
import Derived.Test.YticmofoeecjnhaaProg
namespace Go.Proofs.Yticmofoeecjnhaa
open Go.HL Go.ChangeShapes Go.WideShapes Go.ChangeAt Go.RowKit
set_option maxRecDepth 100000
theorem own : ownKnob Try.prog.godebug = none := by kernel_rfl
mutual
theorem bulk_eq {H : Type} : (d : DataW H) → Rows.uptoBulk d = dwb d
  | .lit l => by cases l <;> simp only [Rows.uptoBulk, dwb]
  | .nil => by simp only [Rows.uptoBulk, dwb]
  | .ptr d => by simp only [Rows.uptoBulk, dwb, bulk_eq d]
  | .slice a b => by simp only [Rows.uptoBulk, dwb, bulkAll_eq a, bulkAll_eq b]
  | .agg p => by simp only [Rows.uptoBulk, dwb, bulkAll_eq p]
  | .iface _ d => by simp only [Rows.uptoBulk, dwb, bulk_eq d]
  | .map e => by simp only [Rows.uptoBulk, dwb, bulkE_eq e]
  | .held _ => by simp only [Rows.uptoBulk, dwb]
theorem bulkAll_eq {H : Type} : (l : List (DataW H)) → Rows.uptoBulkAll l = dwbL l
  | [] => by simp only [Rows.uptoBulkAll, dwbL]
  | d :: r => by simp only [Rows.uptoBulkAll, dwbL, bulk_eq d, bulkAll_eq r]
theorem bulkE_eq {H : Type} : (l : List (Lit × DataW H)) → Rows.uptoBulkEntries l = dwbE l
  | [] => by simp only [Rows.uptoBulkEntries, dwbE]
  | d :: r => by simp only [Rows.uptoBulkEntries, dwbE, bulkE1_eq d, bulkE_eq r]
theorem bulkE1_eq {H : Type} : (x : Lit × DataW H) → Rows.uptoBulkEntry x = dwbE1 x
  | (l, d) => by cases l <;> simp only [Rows.uptoBulkEntry, dwbE1, bulk_eq d]
end
theorem dwbL_append {H : Type} (l r : List (DataW H)) : dwbL (l ++ r) = dwbL l + dwbL r := by
  induction l with
  | nil => simp [dwbL]
  | cons x l ih => simp only [List.cons_append, dwbL, ih]; omega
theorem dwb_le {H : Type} {ds gs : List (DataW H)} (hk : Rows.uptoSmall H (ds ++ gs) = true) : dwbL ds ≤ 1048576 := by
  have h := of_decide_eq_true hk
  rw [bulkAll_eq, dwbL_append] at h
  omega
end Go.Proofs.Yticmofoeecjnhaa
