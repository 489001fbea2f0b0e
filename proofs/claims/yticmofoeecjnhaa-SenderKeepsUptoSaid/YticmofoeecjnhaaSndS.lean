/- The sender: what has come to its end. -/
import Derived.Test.YticmofoeecjnhaaSndR
namespace Go.HL
open Go.Proofs
namespace Snd
open Ser
set_option maxHeartbeats 8000000
set_option maxRecDepth 100000
set_option linter.unusedSimpArgs false
theorem con_queued_idx {g : FuncId} {c1 : List PV} {p : Queued → Bool} (hg : ∀ m : Queued, FunOK Try.prog g [m.hv, .rp c1] noHeap (hbool (p m)) noHeap) (q : List Queued) (hb : q.length < 2 ^ 62) :
    FunOK Try.prog 115 [.p (.sl 10 (q.map Queued.row)), .clo g [.rp c1]] noHeap (i64 (idxFrom p 0 q)) noHeap := by
  refine funOK_pure mixed Try.func115 (by decide) ?_
  conv => whnf
  refine ⟨{ k : Nat // k ≤ q.length ∧ idxFrom p k (q.drop k) = idxFrom p 0 q }, fun | ⟨k, _⟩ => hs 19 [(0, .p (.sl 10 (q.map Queued.row))), (1, .clo g [.rp c1]), (7, i64 (q.map Queued.row).length), (8, i64 k)] [], fun k => q.length - k.1, ⟨0, by simp⟩, ?_, ?_⟩
  · exact (hle_Q [])
  · rintro ⟨k, hk, hi⟩
    conv => whnf
    refine hif_intro (fun h => ?_) (fun h => ?_)
    · have hlt : k < q.length := by simpa using h
      conv => whnf
      refine hrow_intro (r := (q[k]).row) (by simp) (by simp [hlt]) ?_
      conv => whnf
      refine hcall_lend0 ?_; conv => whnf
      refine ⟨_, hg q[k], rfl, ?_⟩; conv => whnf
      rw [List.drop_eq_getElem_cons hlt] at hi
      simp only [idxFrom] at hi
      refine hif_intro (fun h => ?_) (fun h => ?_)
      · conv => whnf
        rw [if_pos h] at hi
        rw [← hi]
      · conv => whnf
        rw [if_neg (by rw [h]; decide)] at hi
        refine hwrap_fit (W_fit (by omega) (by omega)) ?_
        conv => whnf
        exact ⟨⟨k + 1, hlt, hi⟩, (hle_Q []), by dsimp only; omega⟩
    · conv => whnf
      have hge : q.length ≤ k := by simpa using h
      rw [List.drop_eq_nil_of_le hge] at hi
      rw [← hi]; rfl
theorem con_queued {g : FuncId} {c1 : List PV} {p : Queued → Bool} (hg : ∀ m : Queued, FunOK Try.prog g [m.hv, .rp c1] noHeap (hbool (p m)) noHeap) (q : List Queued) (hb : q.length < 2 ^ 62) :
    FunOK Try.prog 107 [.p (.sl 10 (q.map Queued.row)), .clo g [.rp c1]] noHeap (hbool (q.any p)) noHeap := by
  refine funOK_pure mixed Try.func107 (by decide) ?_
  conv => whnf
  ((refine hcall_lend ?_; (conv => whnf); refine ⟨_, con_queued_idx hg q hb, rfl, ?_⟩; conv => whnf); try (refine hcut.go ?_; conv => whnf))
  rw [idx_any q 0]
theorem con_sent_idx {g : FuncId} {c1 : List PV} {p : Sent → Bool} (hg : ∀ m : Sent, FunOK Try.prog g [m.hv, .rp c1] noHeap (hbool (p m)) noHeap) (q : List Sent) (hb : q.length < 2 ^ 62) :
    FunOK Try.prog 125 [.p (.sl 20 (q.map Sent.row)), .clo g [.rp c1]] noHeap (i64 (idxFrom p 0 q)) noHeap := by
  refine funOK_pure mixed Try.func125 (by decide) ?_
  conv => whnf
  refine ⟨{ k : Nat // k ≤ q.length ∧ idxFrom p k (q.drop k) = idxFrom p 0 q }, fun | ⟨k, _⟩ => hs 19 [(0, .p (.sl 20 (q.map Sent.row))), (1, .clo g [.rp c1]), (7, i64 (q.map Sent.row).length), (8, i64 k)] [], fun k => q.length - k.1, ⟨0, by simp⟩, ?_, ?_⟩
  · exact (hle_Q [])
  · rintro ⟨k, hk, hi⟩
    conv => whnf
    refine hif_intro (fun h => ?_) (fun h => ?_)
    · have hlt : k < q.length := by simpa using h
      conv => whnf
      refine hrow_intro (r := (q[k]).row) (by simp) (by simp [hlt]) ?_
      conv => whnf
      refine hcall_lend0 ?_; conv => whnf
      refine ⟨_, hg q[k], rfl, ?_⟩; conv => whnf
      rw [List.drop_eq_getElem_cons hlt] at hi
      simp only [idxFrom] at hi
      refine hif_intro (fun h => ?_) (fun h => ?_)
      · conv => whnf
        rw [if_pos h] at hi
        rw [← hi]
      · conv => whnf
        rw [if_neg (by rw [h]; decide)] at hi
        refine hwrap_fit (W_fit (by omega) (by omega)) ?_
        conv => whnf
        exact ⟨⟨k + 1, hlt, hi⟩, (hle_Q []), by dsimp only; omega⟩
    · conv => whnf
      have hge : q.length ≤ k := by simpa using h
      rw [List.drop_eq_nil_of_le hge] at hi
      rw [← hi]; rfl
theorem con_sent {g : FuncId} {c1 : List PV} {p : Sent → Bool} (hg : ∀ m : Sent, FunOK Try.prog g [m.hv, .rp c1] noHeap (hbool (p m)) noHeap) (q : List Sent) (hb : q.length < 2 ^ 62) :
    FunOK Try.prog 109 [.p (.sl 20 (q.map Sent.row)), .clo g [.rp c1]] noHeap (hbool (q.any p)) noHeap := by
  refine funOK_pure mixed Try.func109 (by decide) ?_
  conv => whnf
  ((refine hcall_lend ?_; (conv => whnf); refine ⟨_, con_sent_idx hg q hb, rfl, ?_⟩; conv => whnf); try (refine hcut.go ?_; conv => whnf))
  rw [idx_any q 0]
theorem spec_set1 (id : Int) (m : Queued) : FunOK Try.prog 108 [m.hv, .rp [pi id]] noHeap (hbool (decide (m.id = id))) noHeap := by
  refine funOK_pure mixed Try.func108 (by decide) ?_
  conv => whnf
  try rfl
theorem spec_set2 (id : Int) (x : Sent) : FunOK Try.prog 110 [x.hv, .rp [pi id]] noHeap (hbool (decide (x.id = id) && decide (x.state ≠ 2))) noHeap := by
  refine funOK_pure mixed Try.func110 (by decide) ?_
  conv => whnf
  (repeat' (first | (refine hwrap_raw ?_; conv => whnf) | (refine hobl_intro ?_ ?_; (first | kernel_rfl | decide); conv => whnf) | (refine hdraw_intro ?_ ?_; kernel_rfl; conv => whnf) | (refine hcut.go ?_; conv => whnf) | (refine hif_intro (fun h => ?_) (fun h => ?_) <;> conv => whnf)))
  all_goals try simp only [Bool.not_eq_true', Bool.not_eq_false', beq_iff_eq, beq_eq_false_iff_ne, decide_eq_true_eq, decide_eq_false_iff_not] at *
  · show hbool _ = hbool _
    refine congrArg hbool ?_
    rw [Bool.eq_iff_iff]; simp [*]
  · show hbool _ = hbool _
    refine congrArg hbool ?_
    rw [Bool.eq_iff_iff]; simp [*]
theorem ix_snoc {α β : Type} (f : Nat → α → β) (A : List α) (p : α) (B : List β) : (A ++ [p]).mapIdx f ++ B = A.mapIdx f ++ f A.length p :: B := by
  rw [List.mapIdx_concat]; simp
theorem spec_settle (s : Sender)  (hs : Fit s) : FunOK Try.prog 79 [.ptr 1000000 0] (lk .free (pH0 s )) (.tup []) (lk .free (pD0 (settle s) )) := by
  obtain ⟨h1, h2, h3, h4, h5, h6, h7⟩ := hs
  refine funOK_of mixed Try.func79 (by decide) [1000000, 1000001, 1000002, 1000003, 1000004, 1000005, 1000006] lk_pins ?_
  conv => whnf
  refine ⟨{ x : List Int × List Int // s.fates = x.1 ++ x.2 }, fun | ⟨(A, B), _⟩ => hsP [1000000, 1000001, 1000002, 1000003, 1000004, 1000005, 1000006] 41 [(0, .ptr 1000000 0), (7, .own 1000006), (8, i64 s.fates.length), (9, i64 A.length)] (pH0 { s with fates := A.mapIdx (settled s) ++ B } ), fun x => x.1.2.length, ⟨([], s.fates), rfl⟩, ?_, ?_⟩
  · exact (hle_P [(1000000, some 1000000), (1000001, some 1000001), (1000002, some 1000002), (1000003, some 1000003), (1000004, some 1000004), (1000005, some 1000005), (1000006, some 1000006)] (by repeat' (first | exact trivial | exact rfl | (refine ⟨⟨rfl, ?_⟩, ?_⟩) | (refine ⟨rfl, ?_⟩) | ((exact i64_eq (by (first | omega | (simp only [List.length_map, List.length_append, List.length_take, List.length_drop, List.length_cons, List.length_nil] <;> omega) | (simp <;> omega))))) | (simp; done) | (simp; rfl))) (by repeat' (first | exact trivial | exact rfl | exact .inl rfl | exact .inr rfl | (refine ⟨⟨rfl, .inl ⟨_, rfl, ?_⟩⟩, ?_⟩) | (refine ⟨⟨rfl, _, rfl, ?_⟩, ?_⟩) | (refine ⟨⟨rfl, .inr ⟨rfl, ?_⟩⟩, ?_⟩) | (refine ⟨rfl, ?_⟩) | ((exact i64_eq (by (first | omega | (simp only [List.length_map, List.length_append, List.length_take, List.length_drop, List.length_cons, List.length_nil] <;> omega) | (simp <;> omega))))) | (simp; done) | (simp; rfl))))
  rintro ⟨⟨A, B⟩, h⟩
  dsimp only at h
  conv => whnf
  cases B with
  | cons f B =>
    have hz := zip_cons h
    ((refine hif_T ?_; conv => whnf); try (refine hcut.go ?_; conv => whnf))
    refine hobl_intro (by simp; omega) ?_; conv => whnf
    refine hrow_mid (f := fun n : Int => [pi n]) (a := A.mapIdx (settled s)) (b := B) (s := f) rfl (by simp) ?_; conv => whnf
    by_cases c1 : f = 1
    case neg =>
      rw [show (f == 1) = false from beq_eq_false_iff_ne.2 c1]
      conv => whnf
      ((refine hwrap_F ?_; conv => whnf); try (refine hcut.go ?_; conv => whnf))
      exact ⟨⟨(A ++ [f], B), zip_next h⟩, (hle_P [(1000000, some 1000000), (1000001, some 1000001), (1000002, some 1000002), (1000003, some 1000003), (1000004, some 1000004), (1000005, some 1000005), (1000006, some 1000006)] (by repeat' (first | exact trivial | exact rfl | (refine ⟨⟨rfl, ?_⟩, ?_⟩) | (refine ⟨rfl, ?_⟩) | ((exact row_eqs (by rw [ix_snoc, settled, if_neg (fun h => c1 h.1)]))) | (simp; done) | (simp; rfl))) (by repeat' (first | exact trivial | exact rfl | exact .inl rfl | exact .inr rfl | (refine ⟨⟨rfl, .inl ⟨_, rfl, ?_⟩⟩, ?_⟩) | (refine ⟨⟨rfl, _, rfl, ?_⟩, ?_⟩) | (refine ⟨⟨rfl, .inr ⟨rfl, ?_⟩⟩, ?_⟩) | (refine ⟨rfl, ?_⟩) | ((exact row_eqs (by rw [ix_snoc, settled, if_neg (fun h => c1 h.1)]))) | (simp; done) | (simp; rfl)))), by simp⟩
    case pos =>
      rw [show (f == 1) = true from beq_iff_eq.2 c1]
      refine hif_true rfl ?_; conv => whnf
      ((refine hcall_lend ?_; (conv => whnf); refine ⟨_, con_queued (fun m => spec_set1 (A.length : Int) m) s.queue (by omega), rfl, ?_⟩; conv => whnf); try (refine hcut.go ?_; conv => whnf))
      cases c2 : (s.queue.any fun m => decide (m.id = (A.length : Int))) with
      | true =>
        conv => whnf
        try (refine hif_false rfl ?_; conv => whnf)
        conv => whnf
        ((refine hwrap_F ?_; conv => whnf); try (refine hcut.go ?_; conv => whnf))
        exact ⟨⟨(A ++ [f], B), zip_next h⟩, (hle_P [(1000000, some 1000000), (1000001, some 1000001), (1000002, some 1000002), (1000003, some 1000003), (1000004, some 1000004), (1000005, some 1000005), (1000006, some 1000006)] (by repeat' (first | exact trivial | exact rfl | (refine ⟨⟨rfl, ?_⟩, ?_⟩) | (refine ⟨rfl, ?_⟩) | ((exact row_eqs (by rw [ix_snoc, settled, if_neg (fun h => absurd (c2.symm.trans h.2.1) (by decide))]))) | (simp; done) | (simp; rfl))) (by repeat' (first | exact trivial | exact rfl | exact .inl rfl | exact .inr rfl | (refine ⟨⟨rfl, .inl ⟨_, rfl, ?_⟩⟩, ?_⟩) | (refine ⟨⟨rfl, _, rfl, ?_⟩, ?_⟩) | (refine ⟨⟨rfl, .inr ⟨rfl, ?_⟩⟩, ?_⟩) | (refine ⟨rfl, ?_⟩) | ((exact row_eqs (by rw [ix_snoc, settled, if_neg (fun h => absurd (c2.symm.trans h.2.1) (by decide))]))) | (simp; done) | (simp; rfl)))), by simp⟩
      | false =>
        conv => whnf
        try (refine hif_true rfl ?_; conv => whnf)
        repeat (refine hcut.go ?_; conv => whnf)
        ((refine hcall_lend ?_; (conv => whnf); refine ⟨_, con_sent (fun x => spec_set2 (A.length : Int) x) s.out (by have := h3.len; omega), rfl, ?_⟩; conv => whnf); try (refine hcut.go ?_; conv => whnf))
        cases c3 : (s.out.any fun x => decide (x.id = (A.length : Int)) && decide (x.state ≠ 2)) with
        | true =>
          conv => whnf
          ((refine hwrap_F ?_; conv => whnf); try (refine hcut.go ?_; conv => whnf))
          exact ⟨⟨(A ++ [f], B), zip_next h⟩, (hle_P [(1000000, some 1000000), (1000001, some 1000001), (1000002, some 1000002), (1000003, some 1000003), (1000004, some 1000004), (1000005, some 1000005), (1000006, some 1000006)] (by repeat' (first | exact trivial | exact rfl | (refine ⟨⟨rfl, ?_⟩, ?_⟩) | (refine ⟨rfl, ?_⟩) | ((exact row_eqs (by rw [ix_snoc, settled, if_neg (fun h => absurd (c3.symm.trans h.2.2) (by decide))]))) | (simp; done) | (simp; rfl))) (by repeat' (first | exact trivial | exact rfl | exact .inl rfl | exact .inr rfl | (refine ⟨⟨rfl, .inl ⟨_, rfl, ?_⟩⟩, ?_⟩) | (refine ⟨⟨rfl, _, rfl, ?_⟩, ?_⟩) | (refine ⟨⟨rfl, .inr ⟨rfl, ?_⟩⟩, ?_⟩) | (refine ⟨rfl, ?_⟩) | ((exact row_eqs (by rw [ix_snoc, settled, if_neg (fun h => absurd (c3.symm.trans h.2.2) (by decide))]))) | (simp; done) | (simp; rfl)))), by simp⟩
        | false =>
          conv => whnf
          refine hobl_intro (by simp; omega) ?_; conv => whnf
          refine hrow_mid (f := fun n : Int => [pi n]) (a := A.mapIdx (settled s)) (b := B) (s := f) rfl (by simp) ?_; conv => whnf
          ((refine hdraw_intro ?_ ?_; (· kernel_rfl); conv => whnf); try (refine hcut.go ?_; conv => whnf))
          ((refine hwrap_F ?_; conv => whnf); try (refine hcut.go ?_; conv => whnf))
          exact ⟨⟨(A ++ [f], B), zip_next h⟩, (hle_P [(1000000, some 1000000), (1000001, some 1000001), (1000002, some 1000002), (1000003, some 1000003), (1000004, some 1000004), (1000005, some 1000005), (1000006, some 1000006)] (by repeat' (first | exact trivial | exact rfl | (refine ⟨⟨rfl, ?_⟩, ?_⟩) | (refine ⟨rfl, ?_⟩) | ((rw [ix_snoc, settled, if_pos ⟨c1, c2, c3⟩]; refine Eq.symm (row_set (f := fun n : Int => [pi n]) (a := A.mapIdx (settled s)) (b := B) ?_ ?_); all_goals first | rfl | (simp; done))) | (simp; done) | (simp; rfl))) (by repeat' (first | exact trivial | exact rfl | exact .inl rfl | exact .inr rfl | (refine ⟨⟨rfl, .inl ⟨_, rfl, ?_⟩⟩, ?_⟩) | (refine ⟨⟨rfl, _, rfl, ?_⟩, ?_⟩) | (refine ⟨⟨rfl, .inr ⟨rfl, ?_⟩⟩, ?_⟩) | (refine ⟨rfl, ?_⟩) | ((rw [ix_snoc, settled, if_pos ⟨c1, c2, c3⟩]; refine Eq.symm (row_set (f := fun n : Int => [pi n]) (a := A.mapIdx (settled s)) (b := B) ?_ ?_); all_goals first | rfl | (simp; done))) | (simp; done) | (simp; rfl)))), by simp⟩
  | nil =>
    have hz := zip_nil h
    rw [List.append_nil] at h
    ((refine hif_F ?_; conv => whnf); try (refine hcut.go ?_; conv => whnf))
    (exact hfin_P [(1000000, some 1000000), (1000001, some 1000001), (1000002, some 1000002), (1000003, some 1000003), (1000004, some 1000004), (1000005, some 1000005), (1000006, some 1000006), (0, some 1000001), (1, some 1000002), (2, some 1000003), (3, some 1000004), (4, some 1000005), (5, some 1000006)] (by first | rfl | ((exact row_eqs (by rw [settle, h, List.append_nil]))) ) (by repeat' (first | exact trivial | exact rfl | exact .inl rfl | exact .inr rfl | (refine ⟨⟨rfl, .inl ⟨_, rfl, ?_⟩⟩, ?_⟩) | (refine ⟨⟨rfl, _, rfl, ?_⟩, ?_⟩) | (refine ⟨⟨rfl, .inr ⟨rfl, ?_⟩⟩, ?_⟩) | (refine ⟨rfl, ?_⟩) | ((exact row_eqs (by rw [settle, h, List.append_nil]))) | (simp; done) | (simp; rfl))))
end Snd
end Go.HL
