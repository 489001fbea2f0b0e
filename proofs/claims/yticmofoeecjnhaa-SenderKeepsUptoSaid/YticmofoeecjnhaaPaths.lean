/- The functions of package paths, and the document's, as what they compute. -/
import Derived.Test.YticmofoeecjnhaaTypes
namespace Go.HL
open Go.Proofs
namespace Paths
def new (part : Int) : Path := ⟨W (2 * part), W (32 * part), 0, 0, 0, 0, 3⟩
def acked (p : Path) (bytes part : Int) (moved : Bool) : Path :=
  match moved with
  | false => p
  | true =>
    if bytes = 0 then { p with errors := 0, wait := 3, alarm := 0 } else
    if p.window ≤ p.slow then { p with errors := 0, wait := 3, alarm := 0, window := W (p.window + min bytes part) } else
    if W (p.gathered + bytes) ≥ p.window then { p with errors := 0, wait := 3, alarm := 0, gathered := W (W (p.gathered + bytes) - p.window), window := W (p.window + part) } else
    { p with errors := 0, wait := 3, alarm := 0, gathered := W (p.gathered + bytes) }
def halved (p : Path) (part : Int) : Path :=
  { p with slow := max (W (p.window.tdiv 2)) (W (4 * part)), window := min p.window (max (W (p.window.tdiv 2)) (W (4 * part))), gathered := 0 }
def late (p : Path) (part : Int) : Path :=
  { p with slow := max (W (p.window.tdiv 2)) (W (4 * part)), window := part, gathered := 0, flight := 0, errors := W (p.errors + 1), wait := min (W (2 * p.wait)) 24, alarm := 0 }
def chooseFrom (k : Nat) : List Path → Int
  | [] => 0
  | p :: r => if p.errors ≤ 3 then k else chooseFrom (k + 1) r
theorem min_if (a b : Int) : (if b < a then b else a) = min a b := by omega
theorem max_if (a b : Int) : (if b > a then b else a) = max a b := by omega
set_option maxHeartbeats 1000000
set_option maxRecDepth 100000
theorem spec_new (part : Int) : FunOK Try.prog 55 [i64 part] noHeap (new part).hv noHeap := by
  refine funOK_pure mixed Try.func55 (by decide) ?_
  conv => whnf
  repeat' (first | (refine hif_intro (fun h => ?_) (fun h => ?_) <;> conv => whnf) | (refine hwrap_raw ?_; conv => whnf))
  rfl
theorem spec_acked (p : Path) (bytes part : Int) (moved : Bool) : FunOK Try.prog 75 [p.hv, i64 bytes, i64 part, hbool moved] noHeap (acked p bytes part moved).hv noHeap := by
  cases moved
  all_goals refine funOK_pure mixed Try.func75 (by decide) ?_
  all_goals conv => whnf
  all_goals (repeat' (first | (refine hwrap_raw ?_; conv => whnf) | (refine hobl_intro ?_ ?_; (first | kernel_rfl | decide); conv => whnf) | (refine hdraw_intro ?_ ?_; kernel_rfl; conv => whnf) | (refine hcut.go ?_; conv => whnf) | (refine hcall_lend ?_; (conv => whnf); refine ⟨_, spec_halved ⟨_, _, _, _, _, _, _⟩ _, rfl, ?_⟩; conv => whnf) | (refine hif_intro (fun h => ?_) (fun h => ?_) <;> conv => whnf)))
  all_goals try simp only [List.length_map, Bool.not_eq_true', Bool.not_eq_false', beq_iff_eq, beq_eq_false_iff_ne, decide_eq_true_eq, decide_eq_false_iff_not] at *
  all_goals simp only [acked, W]
  all_goals (repeat' split)
  all_goals first | rfl | omega | (simp only [Path.hv, min_if, max_if, HV.agg.injEq, List.cons.injEq, HV.p.injEq, PV.v.injEq, Value.int.injEq, true_and, and_true] <;> first | omega | (congr 1; omega))
theorem spec_halved (p : Path) (part : Int) : FunOK Try.prog 78 [p.hv, i64 part] noHeap (halved p part).hv noHeap := by
  refine funOK_pure mixed Try.func78 (by decide) ?_
  conv => whnf
  (repeat' (first | (refine hwrap_raw ?_; conv => whnf) | (refine hobl_intro ?_ ?_; (first | kernel_rfl | decide); conv => whnf) | (refine hdraw_intro ?_ ?_; kernel_rfl; conv => whnf) | (refine hcut.go ?_; conv => whnf) | (refine hcall_lend ?_; (conv => whnf); refine ⟨_, spec_halved ⟨_, _, _, _, _, _, _⟩ _, rfl, ?_⟩; conv => whnf) | (refine hif_intro (fun h => ?_) (fun h => ?_) <;> conv => whnf)))
  all_goals try simp only [List.length_map, Bool.not_eq_true', Bool.not_eq_false', beq_iff_eq, beq_eq_false_iff_ne, decide_eq_true_eq, decide_eq_false_iff_not] at *
  all_goals simp only [halved, W]
  all_goals (repeat' split)
  all_goals first | rfl | omega | (simp only [Path.hv, min_if, max_if, HV.agg.injEq, List.cons.injEq, HV.p.injEq, PV.v.injEq, Value.int.injEq, true_and, and_true] <;> first | omega | (congr 1; omega))
theorem spec_late (p : Path) (part : Int) : FunOK Try.prog 57 [p.hv, i64 part] noHeap (late p part).hv noHeap := by
  refine funOK_pure mixed Try.func57 (by decide) ?_
  conv => whnf
  (repeat' (first | (refine hwrap_raw ?_; conv => whnf) | (refine hobl_intro ?_ ?_; (first | kernel_rfl | decide); conv => whnf) | (refine hdraw_intro ?_ ?_; kernel_rfl; conv => whnf) | (refine hcut.go ?_; conv => whnf) | (refine hcall_lend ?_; (conv => whnf); refine ⟨_, spec_halved ⟨_, _, _, _, _, _, _⟩ _, rfl, ?_⟩; conv => whnf) | (refine hif_intro (fun h => ?_) (fun h => ?_) <;> conv => whnf)))
  all_goals try simp only [List.length_map, Bool.not_eq_true', Bool.not_eq_false', beq_iff_eq, beq_eq_false_iff_ne, decide_eq_true_eq, decide_eq_false_iff_not] at *
  all_goals simp only [late, W]
  all_goals (repeat' split)
  all_goals first | rfl | omega | (simp only [Path.hv, min_if, max_if, HV.agg.injEq, List.cons.injEq, HV.p.injEq, PV.v.injEq, Value.int.injEq, true_and, and_true] <;> first | omega | (congr 1; omega))
theorem spec_open (p : Path) : FunOK Try.prog 88 [p.hv] noHeap (hbool (decide (p.flight < p.window))) noHeap := by
  refine funOK_pure mixed Try.func88 (by decide) ?_
  conv => whnf
theorem spec_choose (ps : List Path) (hb : ps.length < 2 ^ 62) : FunOK Try.prog 77 [.p (.sl 7 (ps.map Path.row))] noHeap (i64 (chooseFrom 0 ps)) noHeap := by
  refine funOK_pure mixed Try.func77 (by decide) ?_
  conv => whnf
  refine ⟨{ k : Nat // k ≤ ps.length ∧ chooseFrom k (ps.drop k) = chooseFrom 0 ps }, fun k => hs 17 [(5, .p (.sl 7 (ps.map Path.row))), (6, i64 (ps.map Path.row).length), (7, i64 k.1)] [], fun k => ps.length - k.1, ⟨0, by simp⟩, ?_, ?_⟩
  · exact hle_hs [] rfl rfl rfl rfl ⟨⟨rfl, rfl⟩, ⟨rfl, rfl⟩, ⟨rfl, rfl⟩, trivial⟩ trivial
  · rintro ⟨k, hk, hi⟩
    conv => whnf
    refine hif_intro (fun h => ?_) (fun h => ?_)
    · have hlt : k < ps.length := by simpa using h
      conv => whnf
      refine hrow_intro (r := (ps[k]).row) (by simp) (by simp [hlt]) ?_
      conv => whnf
      rw [List.drop_eq_getElem_cons hlt] at hi
      simp only [chooseFrom] at hi
      refine hif_intro (fun h => ?_) (fun h => ?_)
      · conv => whnf
        rw [if_pos (by simp only [decide_eq_true_eq] at h; omega)] at hi
        rw [hi]
      · conv => whnf
        refine hwrap_fit (W_fit (by simp; omega) (by simp; omega)) ?_
        conv => whnf
        rw [if_neg (by simp only [decide_eq_false_iff_not] at h; omega)] at hi
        exact ⟨⟨k + 1, hlt, hi⟩, hle_hs [] rfl rfl rfl rfl ⟨⟨rfl, rfl⟩, ⟨rfl, rfl⟩, ⟨rfl, by simp; rfl⟩, trivial⟩ trivial, by simp; omega⟩
    · conv => whnf
      have hge : ps.length ≤ k := by simpa using h
      rw [List.drop_eq_nil_of_le hge] at hi
      rw [← hi]; rfl
end Paths
end Go.HL
