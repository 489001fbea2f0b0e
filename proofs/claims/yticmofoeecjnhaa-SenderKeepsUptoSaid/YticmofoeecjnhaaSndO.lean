/- The sender: what is sent. -/
import Derived.Test.YticmofoeecjnhaaSndN
namespace Go.HL
open Go.Proofs
namespace Snd
open Ser
set_option maxHeartbeats 8000000
set_option maxRecDepth 100000
set_option linter.unusedSimpArgs false
def sendR (s : Sender) (m : Message) : Sender × Int × Int := if sendErr s m = 0 then (sendS s m, (s.fates.length : Int), 0) else (noS, 0, sendErr s m)
theorem sendR_no {s : Sender} {m : Message} {e : Int} (h : sendErr s m = e) (he : e ≠ 0) : sendR s m = (noS, 0, e) := by rw [sendR, h, if_neg he]
theorem sendR_yes {s : Sender} {m : Message} (h : sendErr s m = 0) : sendR s m = (sendS s m, (s.fates.length : Int), 0) := by rw [sendR, if_pos h]
theorem spec_sendo (s : Sender) (m : Message) (hs : Fit s) (hd : m.data.length < 2 ^ 38) :
    FunOK Try.prog 28 [s.hv, m.hv] noHeap (.tup [sndO (sendR s m).1 0 1 2 3 4 5, i64 (sendR s m).2.1, i64 (sendR s m).2.2]) (lk .free (sndB (sendR s m).1 0 1 2 3 4 5 [])) := by
  have hs' := hs
  obtain ⟨h1, h2, h3, h4, h5, h6, h7⟩ := hs
  refine funOK_of mixed Try.func28 (by decide) [] (fun _ => .inl rfl) ?_
  conv => whnf
  (repeat' (first | (refine hwrap_raw ?_; conv => whnf) | (refine hobl_intro ?_ ?_; (first | kernel_rfl | decide); conv => whnf) | (refine hdraw_intro ?_ ?_; kernel_rfl; conv => whnf) | (refine hcut.go ?_; conv => whnf) | (refine hif_intro (fun h => ?_) (fun h => ?_) <;> conv => whnf)))
  all_goals try simp only [Bool.not_eq_true', Bool.not_eq_false', beq_iff_eq, beq_eq_false_iff_ne, decide_eq_true_eq, decide_eq_false_iff_not, List.length_map] at *
  all_goals first
    | (rw [sendR_no (e := 3) (by simp only [sendErr]; (repeat' split) <;> first | rfl | omega) (by decide)]; exact hfin_of [(0, none), (1, none), (2, none), (3, none), (4, none), (5, none)] rfl rfl trivial rfl rfl ⟨⟨rfl, .inr ⟨rfl, rfl⟩⟩, ⟨rfl, .inr ⟨rfl, rfl⟩⟩, ⟨rfl, .inr ⟨rfl, rfl⟩⟩, ⟨rfl, .inr ⟨rfl, rfl⟩⟩, ⟨rfl, .inr ⟨rfl, rfl⟩⟩, ⟨rfl, .inr ⟨rfl, rfl⟩⟩, trivial⟩)
    | (rw [sendR_no (e := 4) (by simp only [sendErr]; (repeat' split) <;> first | rfl | omega) (by decide)]; exact hfin_of [(0, none), (1, none), (2, none), (3, none), (4, none), (5, none)] rfl rfl trivial rfl rfl ⟨⟨rfl, .inr ⟨rfl, rfl⟩⟩, ⟨rfl, .inr ⟨rfl, rfl⟩⟩, ⟨rfl, .inr ⟨rfl, rfl⟩⟩, ⟨rfl, .inr ⟨rfl, rfl⟩⟩, ⟨rfl, .inr ⟨rfl, rfl⟩⟩, ⟨rfl, .inr ⟨rfl, rfl⟩⟩, trivial⟩)
    | (rw [sendR_no (e := 7) (by simp only [sendErr]; (repeat' split) <;> first | rfl | omega) (by decide)]; exact hfin_of [(0, none), (1, none), (2, none), (3, none), (4, none), (5, none)] rfl rfl trivial rfl rfl ⟨⟨rfl, .inr ⟨rfl, rfl⟩⟩, ⟨rfl, .inr ⟨rfl, rfl⟩⟩, ⟨rfl, .inr ⟨rfl, rfl⟩⟩, ⟨rfl, .inr ⟨rfl, rfl⟩⟩, ⟨rfl, .inr ⟨rfl, rfl⟩⟩, ⟨rfl, .inr ⟨rfl, rfl⟩⟩, trivial⟩)
    | rw [sendR_yes (by simp only [sendErr]; (repeat' split) <;> first | rfl | omega)]
  ((refine hcall_own [(0, 20), (1, 21), (2, 22), (3, 23), (4, 24), (5, 25)]  ?_; (conv => whnf); refine ⟨_, _,  spec_own s hs', ⟨⟨⟨rfl, rfl⟩, ⟨⟨rfl, rfl⟩, ⟨⟨rfl, rfl⟩, ⟨⟨rfl, rfl⟩, ⟨⟨rfl, rfl⟩, ⟨⟨rfl, rfl⟩, trivial⟩⟩⟩⟩⟩⟩, rfl, rfl, rfl⟩, ?_⟩; conv => whnf); try (refine hcut.go ?_; conv => whnf))
  ((refine hcall_own [(0, 26)]  ?_; (conv => whnf); refine ⟨_, _,  Cl.clone_bytes m.data (by omega), ⟨⟨⟨rfl, rfl⟩, trivial⟩, rfl, rfl, rfl⟩, ?_⟩; conv => whnf); try (refine hcut.go ?_; conv => whnf))
  refine hobl_intro (c := ((s.queue.map Queued.row).length + 1) * 96 ≤ 140737488355328) (by simp; omega) ?_; conv => whnf
  refine hobl_intro (c := ((s.fates.map fun n => [pi n]).length + 1) * 8 ≤ 140737488355328) (by simp; omega) ?_; conv => whnf
  refine hfin_of [(0, some 80), (1, some 21), (2, some 22), (3, some 23), (4, some 24), (5, some 85)] rfl rfl trivial rfl (by rw [show (s.fates.length : Int) = ((s.fates.map fun n => [pi n]).length : Nat) by rw [List.length_map]]; rfl) ⟨⟨rfl, .inl ⟨80, rfl, ?_⟩⟩, ⟨rfl, .inl ⟨21, rfl, rfl⟩⟩, ⟨rfl, .inl ⟨22, rfl, rfl⟩⟩, ⟨rfl, .inl ⟨23, rfl, rfl⟩⟩, ⟨rfl, .inl ⟨24, rfl, rfl⟩⟩, ⟨rfl, .inl ⟨85, rfl, ?_⟩⟩, trivial⟩
  · exact row_app (f := Queued.row) rfl (by rw [List.length_map]; rfl)
  · exact row_app (f := fun n : Int => [pi n]) rfl rfl
theorem spec_send (s : Sender) (m : Message) (hs : Fit s) (hd : m.data.length < 2 ^ 38) :
    FunOK Try.prog 28 [s.hv, m.hv] noHeap (.tup [(sendR s m).1.hv, i64 (sendR s m).2.1, i64 (sendR s m).2.2]) noHeap := by
  refine funOK_freeze Try.func28 (spec_sendo s m hs hd) ?_
  generalize sendR s m = d
  conv => whnf
  rfl
end Snd
end Go.HL
