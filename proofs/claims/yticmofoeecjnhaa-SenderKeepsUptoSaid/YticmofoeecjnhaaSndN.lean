/- The sender: what is handed on, as values. -/
import Derived.Test.YticmofoeecjnhaaSndM
namespace Go.HL
open Go.Proofs
namespace Snd
open Ser
set_option maxHeartbeats 8000000
set_option maxRecDepth 100000
set_option linter.unusedSimpArgs false
theorem spec_pump (s : Sender) (h : PF 62 s) (hm : inI s.config.packet) (hp : s.paths.length = 1 ∨ s.paths.length = 2) :
    FunOK Try.prog 30 [s.hv] noHeap (.tup [(pump s).1.hv, .p (.sl 3 ((pump s).2.map Packet.row))]) noHeap := by
  rcases hp with hp | hp
  · refine funOK_freeze Try.func30 (spec_pumpo1 s h hm hp) ?_
    generalize pump s = d
    conv => whnf
    rfl
  · refine funOK_freeze Try.func30 (spec_pumpo2 s h hm hp) ?_
    generalize pump s = d
    conv => whnf
    rfl
theorem spec_ownp (s : Sender) (hs : Fit s) : FunOK Try.prog 52 [s.hv] noHeap s.hv noHeap := by
  refine funOK_freeze Try.func52 (spec_own s hs) ?_
  conv => whnf
  rfl
theorem spec_calm (s : Sender) : FunOK Try.prog 51 [s.hv] noHeap (hbool (calm s)) noHeap := by
  refine funOK_pure mixed Try.func51 (by decide) ?_
  conv => whnf
  (repeat' (first | (refine hwrap_raw ?_; conv => whnf) | (refine hobl_intro ?_ ?_; (first | kernel_rfl | decide); conv => whnf) | (refine hdraw_intro ?_ ?_; kernel_rfl; conv => whnf) | (refine hcut.go ?_; conv => whnf) | (refine hif_intro (fun h => ?_) (fun h => ?_) <;> conv => whnf)))
  all_goals try simp only [Bool.not_eq_true', Bool.not_eq_false', beq_iff_eq, beq_eq_false_iff_ne, decide_eq_true_eq, decide_eq_false_iff_not, List.length_map] at *
  · have h' : s.queue.length = 0 := by omega
    show hbool _ = hbool _
    refine congrArg hbool ?_
    rw [Bool.eq_iff_iff]; simp only [calm, h', beq_iff_eq, Bool.and_eq_true, decide_eq_true_eq, true_and, decide_true]; omega
  · have h' : s.queue.length ≠ 0 := by omega
    show hbool _ = hbool _
    refine congrArg hbool ?_
    rw [calm, decide_eq_false h', Bool.false_and]
def wrgS (c : Config) : Int :=
  if c.streams < 1 ∨ c.streams > 4 ∨ c.paths < 1 ∨ c.paths > 2 ∨ c.part < 1 ∨ c.part > 16 ∨ c.packet < 40 ∨ c.packet > 120 ∨ c.waiting < 1 ∨ c.waiting > 12 ∨ c.first < 0 ∨ c.first ≥ 65536 then 3 else
  if (c).turns < 1 ∨ (c).turns > 5 then 1 else 0
theorem spec_wrgS (c : Config) : FunOK Try.prog 53 [c.hv] noHeap (i64 (wrgS c)) noHeap := by
  refine funOK_pure mixed Try.func53 (by decide) ?_
  conv => whnf
  (repeat' (first | (refine hwrap_raw ?_; conv => whnf) | (refine hobl_intro ?_ ?_; (first | kernel_rfl | decide); conv => whnf) | (refine hdraw_intro ?_ ?_; kernel_rfl; conv => whnf) | (refine hcut.go ?_; conv => whnf) | (refine hif_intro (fun h => ?_) (fun h => ?_) <;> conv => whnf)))
  all_goals try simp only [Bool.not_eq_true', Bool.not_eq_false', beq_iff_eq, beq_eq_false_iff_ne, decide_eq_true_eq, decide_eq_false_iff_not] at *
  all_goals first | (simp only [wrgS]; (repeat' split) <;> first | rfl | omega) | trace_state
end Snd
end Go.HL
