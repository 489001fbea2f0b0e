/- The sender: a message is gone without. -/
import Derived.Test.YticmofoeecjnhaaSndB
namespace Go.HL
open Go.Proofs
namespace Snd
open Ser
set_option maxHeartbeats 4000000
set_option maxRecDepth 100000
set_option linter.unusedSimpArgs false
theorem end1_out (id : Int) (s : Sender) (m : Queued) : (end1 id s m).out.length ≤ s.out.length + 1 ∧ Sco.total (end1 id s m).out = Sco.total s.out := by
  unfold end1
  split
  · simp [Sco.total, endOf]
  · exact ⟨by omega, rfl⟩
theorem ends_out (id : Int) : ∀ (q : List Queued) (s : Sender), (q.foldl (end1 id) s).out.length ≤ s.out.length + q.length ∧ Sco.total (q.foldl (end1 id) s).out = Sco.total s.out
  | [], s => ⟨by simp, rfl⟩
  | m :: q, s => by
    obtain ⟨h1, h2⟩ := end1_out id s m
    obtain ⟨h3, h4⟩ := ends_out id q (end1 id s m)
    simp only [List.foldl_cons, List.length_cons]
    exact ⟨by omega, by omega⟩
theorem end1_keeps (id : Int) (s : Sender) (m : Queued) : end1 id s m = { s with out := (end1 id s m).out, next := (end1 id s m).next } := by
  unfold end1; split <;> rfl
theorem ends_keeps (id : Int) : ∀ (q : List Queued) (s : Sender), q.foldl (end1 id) s = { s with out := (q.foldl (end1 id) s).out, next := (q.foldl (end1 id) s).next }
  | [], s => rfl
  | m :: q, s => by
    have h1 := end1_keeps id s m
    have h2 := ends_keeps id q (end1 id s m)
    simp only [List.foldl_cons]
    rw [h2]
    generalize q.foldl (end1 id) (end1 id s m) = z
    rw [h1]
theorem give_total (id : Int) (l : List Sent) : Sco.total (l.map (Sco.give id)) = Sco.total l := by
  have : ∀ s : Sent, (Sco.give id s).chunk = s.chunk := fun s => by unfold Sco.give; split <;> rfl
  simp only [Sco.total, List.map_map]
  congr 1
  exact List.map_congr_left fun s _ => by simp [this]
def giveF (s : Sender) (id : Nat) (o : List Sent) (n : Int) : Sender := { s with fates := s.fates.set id 3, out := o, next := n }
theorem ends_form (s : Sender) (id : Nat) (q : List Queued) : ∃ o n, q.foldl (end1 id) { s with fates := s.fates.set id 3 } = giveF s id o n ∧ o.length ≤ s.out.length + q.length ∧ Sco.total o = Sco.total s.out := by
  have h1 := ends_keeps id q { s with fates := s.fates.set id 3 }
  obtain ⟨h2, h3⟩ := ends_out id q { s with fates := s.fates.set id 3 }
  exact ⟨_, _, h1, h2, h3⟩
theorem spec_giveP3 (s : Sender)  (id : Nat) (hs : Fit s) (hid : id < s.fates.length) (h9 : s.out.length < 2 ^ 30) : FunOK Try.prog 86 [.ptr 1000000 0, i64 id] (lk .free (pH3 s )) (.tup []) (lk .free (pD3 (giveS s id) )) := by
  obtain ⟨h1, h2, h3, h4, h5, h6, h7⟩ := hs
  have hg : giveS s id = flights { (s.queue.foldl (end1 id) { s with fates := s.fates.set id 3 }) with queue := s.queue.filter fun m => decide (m.id ≠ id), sched := if s.sched.hand = id then { s.sched with hand := -1 } else s.sched, out := (s.queue.foldl (end1 id) { s with fates := s.fates.set id 3 }).out.map (Sco.give id), forward := true } := rfl
  refine funOK_of mixed Try.func86 (by decide) [1000000, 1000001, 1000002, 1000003, 1000004, 1000005, 1000006, 1000007] lk_pins ?_
  conv => whnf
  ((refine hobl_O ?_; conv => whnf); try (refine hcut.go ?_; conv => whnf))
  refine hrow_at id rfl hid ?_; conv => whnf
  ((refine hdraw_intro ?_ ?_; (· kernel_rfl); conv => whnf); try (refine hcut.go ?_; conv => whnf))
  refine ⟨{ x : (List Queued × List Queued) × List Sent × Int // s.queue = x.1.1 ++ x.1.2 ∧ x.1.1.foldl (end1 id) { s with fates := s.fates.set id 3 } = giveF s id x.2.1 x.2.2 ∧ x.2.1.length ≤ s.out.length + x.1.1.length ∧ Sco.total x.2.1 = Sco.total s.out },
    fun | ⟨((A, B), o, n), _⟩ => hsP [1000000, 1000001, 1000002, 1000003, 1000004, 1000005, 1000006, 1000007] 121 [(0, .ptr 1000000 0), (3, .ptr 3 0), (17, .own 1000001), (18, i64 s.queue.length), (19, i64 A.length)] (snG3 (giveF s id o n)  1000001 1000002 900 1000004 1000005 1000006 1000007 [(1000003, .dead), (3, .live (.cells 3 [i64 id]))]), fun x => x.1.1.2.length, ⟨(([], s.queue), s.out, s.next), rfl, rfl, by simp, rfl⟩, ?_, ?_⟩
  · exact (hle_P [(1000000, some 1000000), (1000001, some 1000001), (1000002, some 1000002), (1000003, some 1000003), (1000004, some 1000004), (1000005, some 1000005), (1000006, some 1000006), (1000007, some 1000007), (900, some 1000003), (3, some 3)] (by repeat' (first | exact trivial | exact rfl | (refine ⟨⟨rfl, ?_⟩, ?_⟩) | (refine ⟨rfl, ?_⟩) | ((exact i64_eq (by (first | omega | (simp only [List.length_map, List.length_append, List.length_take, List.length_drop, List.length_cons, List.length_nil] <;> omega) | (simp <;> omega))))) | ((exact row_eqs (by simp [giveF, List.map_set]))) | (simp; done) | (simp; rfl))) (by repeat' (first | exact trivial | exact rfl | exact .inl rfl | exact .inr rfl | (refine ⟨⟨rfl, .inl ⟨_, rfl, ?_⟩⟩, ?_⟩) | (refine ⟨⟨rfl, _, rfl, ?_⟩, ?_⟩) | (refine ⟨⟨rfl, .inr ⟨rfl, ?_⟩⟩, ?_⟩) | (refine ⟨rfl, ?_⟩) | ((exact i64_eq (by (first | omega | (simp only [List.length_map, List.length_append, List.length_take, List.length_drop, List.length_cons, List.length_nil] <;> omega) | (simp <;> omega))))) | ((exact row_eqs (by simp [giveF, List.map_set]))) | (simp; done) | (simp; rfl))))
  rintro ⟨⟨⟨A, B⟩, o, n⟩, k1, k2, k3, k4⟩
  dsimp only at k1 k2 k3 k4
  conv => whnf
  cases B with
  | cons m B =>
    have hz := zip_cons k1
    have hnext : (A ++ [m]).foldl (end1 id) { s with fates := s.fates.set id 3 } = end1 id (giveF s id o n) m := by rw [List.foldl_append, k2]; rfl
    ((refine hif_T ?_; conv => whnf); try (refine hcut.go ?_; conv => whnf))
    refine hobl_intro (by simp [giveF]; omega) ?_; conv => whnf
    refine hrow_mid k1 rfl ?_; conv => whnf
    by_cases c1 : m.id = id
    case neg =>
      refine hif_false (by simpa using c1) ?_; conv => whnf
      repeat (refine hcut.go ?_; conv => whnf)
      ((refine hwrap_F ?_; conv => whnf); try (refine hcut.go ?_; conv => whnf))
      rw [end1, if_neg (by intro h; exact c1 h.1)] at hnext
      exact ⟨⟨((A ++ [m], B), o, n), zip_next k1, hnext, by simp; omega, k4⟩, (hle_P [(1000000, some 1000000), (1000001, some 1000001), (1000002, some 1000002), (1000003, some 1000003), (1000004, some 1000004), (1000005, some 1000005), (1000006, some 1000006), (1000007, some 1000007), (900, some 900), (3, some 3)]), by simp⟩
    refine hif_true (by simpa using c1) ?_; conv => whnf
    by_cases c2 : m.parts > 0
    case neg =>
      refine hif_false (by simpa using c2) ?_; conv => whnf
      repeat (refine hcut.go ?_; conv => whnf)
      ((refine hwrap_F ?_; conv => whnf); try (refine hcut.go ?_; conv => whnf))
      rw [end1, if_neg (by intro h; exact c2 h.2)] at hnext
      exact ⟨⟨((A ++ [m], B), o, n), zip_next k1, hnext, by simp; omega, k4⟩, (hle_P [(1000000, some 1000000), (1000001, some 1000001), (1000002, some 1000002), (1000003, some 1000003), (1000004, some 1000004), (1000005, some 1000005), (1000006, some 1000006), (1000007, some 1000007), (900, some 900), (3, some 3)]), by simp⟩
    refine hif_true (by simpa using c2) ?_; conv => whnf
    repeat (refine hcut.go ?_; conv => whnf)
    rw [end1, if_pos ⟨c1, c2⟩] at hnext
    ((refine hcall_lend ?_; (conv => whnf); refine ⟨_, spec_tag n, rfl, ?_⟩; conv => whnf); try (refine hcut.go ?_; conv => whnf))
    ((refine hcall_lend ?_; (conv => whnf); refine ⟨_, spec_tag m.mid, rfl, ?_⟩; conv => whnf); try (refine hcut.go ?_; conv => whnf))
    refine hobl_intro (c := ((o.map Sent.row).length + 1) * 200 ≤ 140737488355328) (by rw [List.length_map]; omega) ?_; conv => whnf
    ((refine hdraw_intro ?_ ?_; (· kernel_rfl); conv => whnf); try (refine hcut.go ?_; conv => whnf))
    ((first | refine hwrap_W ?_ | refine hwrap_raw ?_); (conv => whnf); try (refine hcut.go ?_; conv => whnf))
    ((refine hwrap_F ?_; conv => whnf); try (refine hcut.go ?_; conv => whnf))
    refine ⟨⟨((A ++ [m], B), o ++ [endOf n m], W (n + 1)), zip_next k1, hnext, by simp; omega, by rw [Sco.total_app, k4]; simp [Sco.total, endOf]⟩, (hle_P [(1000000, some 1000000), (1000001, some 1000001), (1000002, some 1000002), (1000003, some 1000003), (1000004, some 1000004), (1000005, some 1000005), (1000006, some 1000006), (1000007, some 1000007), (900, some 64), (3, some 3)] (by repeat' (first | exact trivial | exact rfl | (refine ⟨⟨rfl, ?_⟩, ?_⟩) | (refine ⟨rfl, ?_⟩) | ((exact row_app (f := Sent.row) rfl (by rw [endOf, c1]; rfl))) | (simp; done) | (simp; rfl))) (by repeat' (first | exact trivial | exact rfl | exact .inl rfl | exact .inr rfl | (refine ⟨⟨rfl, .inl ⟨_, rfl, ?_⟩⟩, ?_⟩) | (refine ⟨⟨rfl, _, rfl, ?_⟩, ?_⟩) | (refine ⟨⟨rfl, .inr ⟨rfl, ?_⟩⟩, ?_⟩) | (refine ⟨rfl, ?_⟩) | ((exact row_app (f := Sent.row) rfl (by rw [endOf, c1]; rfl))) | (simp; done) | (simp; rfl)))), by simp⟩
  | nil =>
    have hz := zip_nil k1
    rw [List.append_nil] at k1
    rw [← k1] at k2
    rw [hg, k2]
    ((refine hif_F ?_; conv => whnf); try (refine hcut.go ?_; conv => whnf))
    ((refine hcall_give [false, true] [(1000000, 1000001)] [(0, 85)] ?_; (conv => whnf); refine ⟨_, _, _, _, del_queued (fun m => spec_giveC id m) s.queue (by omega), ⟨rfl, rfl, rfl, ⟨⟨rfl, _, rfl, .inl ⟨rfl, rfl⟩⟩, trivial⟩, ⟨⟨rfl, rfl⟩, trivial⟩, rfl, rfl, rfl⟩, ?_⟩; conv => whnf); try (refine hcut.go ?_; conv => whnf))
    have hsz : Sco.Sized o := ⟨by omega, by rw [k4]; exact h3.bytes⟩
    by_cases c1 : s.sched.hand = id
    · rw [if_pos c1]
      ((refine hdraw_intro ?_ ?_; (· kernel_rfl); conv => whnf); try (refine hcut.go ?_; conv => whnf))
      refine hif_true ?_ ?_
      · simp [giveF, c1]
      conv => whnf
      repeat (refine hcut.go ?_; conv => whnf)
      ((refine hcall_own [(0, 109)] ?_; (conv => whnf); refine ⟨_, _,  Sco.spec_give o id hsz, ⟨⟨⟨rfl, rfl⟩, trivial⟩, rfl, rfl, rfl⟩, ?_⟩; conv => whnf); try (refine hcut.go ?_; conv => whnf))
      ((refine hdraw_intro ?_ ?_; (· kernel_rfl); conv => whnf); try (refine hcut.go ?_; conv => whnf))
      ((refine hcall_give [] [(1000000, 1000000), (1000001, 85), (1000002, 1000002), (1000003, 109), (1000004, 1000004), (1000005, 1000005), (1000006, 1000006), (1000007, 1000007)] [(0, 910), (1, 911), (2, 912), (3, 913), (4, 914), (5, 915)] ?_; (conv => whnf); refine ⟨_, _, _, _, spec_flights3 { (giveF s id o n) with queue := s.queue.filter fun m => !(m.id == (id : Int)), sched := { s.sched with hand := -1 }, out := o.map (Sco.give id) }  ⟨by simp; exact hsz.len, by rw [give_total]; exact hsz.bytes⟩ h4, ⟨rfl, rfl, rfl, ⟨⟨rfl, _, rfl, .inl ⟨rfl, rfl⟩⟩, ⟨⟨rfl, _, rfl, .inl ⟨rfl, rfl⟩⟩, ⟨⟨rfl, _, rfl, .inl ⟨rfl, rfl⟩⟩, ⟨⟨rfl, _, rfl, .inl ⟨rfl, rfl⟩⟩, ⟨⟨rfl, _, rfl, .inl ⟨rfl, rfl⟩⟩, ⟨⟨rfl, _, rfl, .inl ⟨rfl, rfl⟩⟩, ⟨⟨rfl, _, rfl, .inl ⟨rfl, rfl⟩⟩, ⟨⟨rfl, _, rfl, .inl ⟨rfl, rfl⟩⟩, trivial⟩⟩⟩⟩⟩⟩⟩⟩, ⟨⟨rfl, rfl⟩, ⟨⟨rfl, rfl⟩, ⟨⟨rfl, rfl⟩, ⟨⟨rfl, rfl⟩, ⟨⟨rfl, rfl⟩, ⟨⟨rfl, rfl⟩, trivial⟩⟩⟩⟩⟩⟩, rfl, rfl, rfl⟩, ?_⟩; conv => whnf); try (refine hcut.go ?_; conv => whnf))
      (exact hfin_P [(1000000, some 1000000), (1000001, some 1000001), (1000002, some 1000002), (1000003, some 1000003), (1000004, some 1000004), (1000005, some 1000005), (1000006, some 1000006), (1000007, some 1000007), (0, some 910), (1, some 911), (2, some 912), (3, some 913), (4, some 914), (5, some 915)] (by first | rfl | ((exact row_eqs (by congr 1; exact List.filter_congr fun m _ => by rw [Bool.eq_iff_iff]; simp))) ) (by repeat' (first | exact trivial | exact rfl | exact .inl rfl | exact .inr rfl | (refine ⟨⟨rfl, .inl ⟨_, rfl, ?_⟩⟩, ?_⟩) | (refine ⟨⟨rfl, _, rfl, ?_⟩, ?_⟩) | (refine ⟨⟨rfl, .inr ⟨rfl, ?_⟩⟩, ?_⟩) | (refine ⟨rfl, ?_⟩) | ((exact row_eqs (by congr 1; exact List.filter_congr fun m _ => by rw [Bool.eq_iff_iff]; simp))) | (simp; done) | (simp; rfl))))
    · rw [if_neg c1]
      ((refine hdraw_intro ?_ ?_; (· kernel_rfl); conv => whnf); try (refine hcut.go ?_; conv => whnf))
      refine hif_false ?_ ?_
      · simp [giveF, c1]
      conv => whnf
      repeat (refine hcut.go ?_; conv => whnf)
      ((refine hcall_own [(0, 109)] ?_; (conv => whnf); refine ⟨_, _,  Sco.spec_give o id hsz, ⟨⟨⟨rfl, rfl⟩, trivial⟩, rfl, rfl, rfl⟩, ?_⟩; conv => whnf); try (refine hcut.go ?_; conv => whnf))
      ((refine hdraw_intro ?_ ?_; (· kernel_rfl); conv => whnf); try (refine hcut.go ?_; conv => whnf))
      ((refine hcall_give [] [(1000000, 1000000), (1000001, 85), (1000002, 1000002), (1000003, 109), (1000004, 1000004), (1000005, 1000005), (1000006, 1000006), (1000007, 1000007)] [(0, 910), (1, 911), (2, 912), (3, 913), (4, 914), (5, 915)] ?_; (conv => whnf); refine ⟨_, _, _, _, spec_flights3 { (giveF s id o n) with queue := s.queue.filter fun m => !(m.id == (id : Int)), sched := s.sched, out := o.map (Sco.give id) }  ⟨by simp; exact hsz.len, by rw [give_total]; exact hsz.bytes⟩ h4, ⟨rfl, rfl, rfl, ⟨⟨rfl, _, rfl, .inl ⟨rfl, rfl⟩⟩, ⟨⟨rfl, _, rfl, .inl ⟨rfl, rfl⟩⟩, ⟨⟨rfl, _, rfl, .inl ⟨rfl, rfl⟩⟩, ⟨⟨rfl, _, rfl, .inl ⟨rfl, rfl⟩⟩, ⟨⟨rfl, _, rfl, .inl ⟨rfl, rfl⟩⟩, ⟨⟨rfl, _, rfl, .inl ⟨rfl, rfl⟩⟩, ⟨⟨rfl, _, rfl, .inl ⟨rfl, rfl⟩⟩, ⟨⟨rfl, _, rfl, .inl ⟨rfl, rfl⟩⟩, trivial⟩⟩⟩⟩⟩⟩⟩⟩, ⟨⟨rfl, rfl⟩, ⟨⟨rfl, rfl⟩, ⟨⟨rfl, rfl⟩, ⟨⟨rfl, rfl⟩, ⟨⟨rfl, rfl⟩, ⟨⟨rfl, rfl⟩, trivial⟩⟩⟩⟩⟩⟩, rfl, rfl, rfl⟩, ?_⟩; conv => whnf); try (refine hcut.go ?_; conv => whnf))
      (exact hfin_P [(1000000, some 1000000), (1000001, some 1000001), (1000002, some 1000002), (1000003, some 1000003), (1000004, some 1000004), (1000005, some 1000005), (1000006, some 1000006), (1000007, some 1000007), (0, some 910), (1, some 911), (2, some 912), (3, some 913), (4, some 914), (5, some 915)] (by first | rfl | ((exact row_eqs (by congr 1; exact List.filter_congr fun m _ => by rw [Bool.eq_iff_iff]; simp))) ) (by repeat' (first | exact trivial | exact rfl | exact .inl rfl | exact .inr rfl | (refine ⟨⟨rfl, .inl ⟨_, rfl, ?_⟩⟩, ?_⟩) | (refine ⟨⟨rfl, _, rfl, ?_⟩, ?_⟩) | (refine ⟨⟨rfl, .inr ⟨rfl, ?_⟩⟩, ?_⟩) | (refine ⟨rfl, ?_⟩) | ((exact row_eqs (by congr 1; exact List.filter_congr fun m _ => by rw [Bool.eq_iff_iff]; simp))) | (simp; done) | (simp; rfl))))
theorem spec_giveP4 (s : Sender)  (id : Nat) (hs : Fit s) (hid : id < s.fates.length) (h9 : s.out.length < 2 ^ 30) : FunOK Try.prog 86 [.ptr 1000000 0, i64 id] (lk .free (pH4 s )) (.tup []) (lk .free (pD4 (giveS s id) )) := by
  obtain ⟨h1, h2, h3, h4, h5, h6, h7⟩ := hs
  have hg : giveS s id = flights { (s.queue.foldl (end1 id) { s with fates := s.fates.set id 3 }) with queue := s.queue.filter fun m => decide (m.id ≠ id), sched := if s.sched.hand = id then { s.sched with hand := -1 } else s.sched, out := (s.queue.foldl (end1 id) { s with fates := s.fates.set id 3 }).out.map (Sco.give id), forward := true } := rfl
  refine funOK_of mixed Try.func86 (by decide) [1000000, 1000001, 1000002, 1000003, 1000004, 1000005, 1000006, 1000007] lk_pins ?_
  conv => whnf
  ((refine hobl_O ?_; conv => whnf); try (refine hcut.go ?_; conv => whnf))
  refine hrow_at id rfl hid ?_; conv => whnf
  ((refine hdraw_intro ?_ ?_; (· kernel_rfl); conv => whnf); try (refine hcut.go ?_; conv => whnf))
  refine ⟨{ x : (List Queued × List Queued) × List Sent × Int // s.queue = x.1.1 ++ x.1.2 ∧ x.1.1.foldl (end1 id) { s with fates := s.fates.set id 3 } = giveF s id x.2.1 x.2.2 ∧ x.2.1.length ≤ s.out.length + x.1.1.length ∧ Sco.total x.2.1 = Sco.total s.out },
    fun | ⟨((A, B), o, n), _⟩ => hsP [1000000, 1000001, 1000002, 1000003, 1000004, 1000005, 1000006, 1000007] 121 [(0, .ptr 1000000 0), (3, .ptr 3 0), (17, .own 1000001), (18, i64 s.queue.length), (19, i64 A.length)] (snG4 (giveF s id o n)  1000001 1000002 900 1000004 1000005 1000006 1000007 [(1000003, .dead), (3, .live (.cells 3 [i64 id]))]), fun x => x.1.1.2.length, ⟨(([], s.queue), s.out, s.next), rfl, rfl, by simp, rfl⟩, ?_, ?_⟩
  · exact (hle_P [(1000000, some 1000000), (1000001, some 1000001), (1000002, some 1000002), (1000003, some 1000003), (1000004, some 1000004), (1000005, some 1000005), (1000006, some 1000006), (1000007, some 1000007), (900, some 1000003), (3, some 3)] (by repeat' (first | exact trivial | exact rfl | (refine ⟨⟨rfl, ?_⟩, ?_⟩) | (refine ⟨rfl, ?_⟩) | ((exact i64_eq (by (first | omega | (simp only [List.length_map, List.length_append, List.length_take, List.length_drop, List.length_cons, List.length_nil] <;> omega) | (simp <;> omega))))) | ((exact row_eqs (by simp [giveF, List.map_set]))) | (simp; done) | (simp; rfl))) (by repeat' (first | exact trivial | exact rfl | exact .inl rfl | exact .inr rfl | (refine ⟨⟨rfl, .inl ⟨_, rfl, ?_⟩⟩, ?_⟩) | (refine ⟨⟨rfl, _, rfl, ?_⟩, ?_⟩) | (refine ⟨⟨rfl, .inr ⟨rfl, ?_⟩⟩, ?_⟩) | (refine ⟨rfl, ?_⟩) | ((exact i64_eq (by (first | omega | (simp only [List.length_map, List.length_append, List.length_take, List.length_drop, List.length_cons, List.length_nil] <;> omega) | (simp <;> omega))))) | ((exact row_eqs (by simp [giveF, List.map_set]))) | (simp; done) | (simp; rfl))))
  rintro ⟨⟨⟨A, B⟩, o, n⟩, k1, k2, k3, k4⟩
  dsimp only at k1 k2 k3 k4
  conv => whnf
  cases B with
  | cons m B =>
    have hz := zip_cons k1
    have hnext : (A ++ [m]).foldl (end1 id) { s with fates := s.fates.set id 3 } = end1 id (giveF s id o n) m := by rw [List.foldl_append, k2]; rfl
    ((refine hif_T ?_; conv => whnf); try (refine hcut.go ?_; conv => whnf))
    refine hobl_intro (by simp [giveF]; omega) ?_; conv => whnf
    refine hrow_mid k1 rfl ?_; conv => whnf
    by_cases c1 : m.id = id
    case neg =>
      refine hif_false (by simpa using c1) ?_; conv => whnf
      repeat (refine hcut.go ?_; conv => whnf)
      ((refine hwrap_F ?_; conv => whnf); try (refine hcut.go ?_; conv => whnf))
      rw [end1, if_neg (by intro h; exact c1 h.1)] at hnext
      exact ⟨⟨((A ++ [m], B), o, n), zip_next k1, hnext, by simp; omega, k4⟩, (hle_P [(1000000, some 1000000), (1000001, some 1000001), (1000002, some 1000002), (1000003, some 1000003), (1000004, some 1000004), (1000005, some 1000005), (1000006, some 1000006), (1000007, some 1000007), (900, some 900), (3, some 3)]), by simp⟩
    refine hif_true (by simpa using c1) ?_; conv => whnf
    by_cases c2 : m.parts > 0
    case neg =>
      refine hif_false (by simpa using c2) ?_; conv => whnf
      repeat (refine hcut.go ?_; conv => whnf)
      ((refine hwrap_F ?_; conv => whnf); try (refine hcut.go ?_; conv => whnf))
      rw [end1, if_neg (by intro h; exact c2 h.2)] at hnext
      exact ⟨⟨((A ++ [m], B), o, n), zip_next k1, hnext, by simp; omega, k4⟩, (hle_P [(1000000, some 1000000), (1000001, some 1000001), (1000002, some 1000002), (1000003, some 1000003), (1000004, some 1000004), (1000005, some 1000005), (1000006, some 1000006), (1000007, some 1000007), (900, some 900), (3, some 3)]), by simp⟩
    refine hif_true (by simpa using c2) ?_; conv => whnf
    repeat (refine hcut.go ?_; conv => whnf)
    rw [end1, if_pos ⟨c1, c2⟩] at hnext
    ((refine hcall_lend ?_; (conv => whnf); refine ⟨_, spec_tag n, rfl, ?_⟩; conv => whnf); try (refine hcut.go ?_; conv => whnf))
    ((refine hcall_lend ?_; (conv => whnf); refine ⟨_, spec_tag m.mid, rfl, ?_⟩; conv => whnf); try (refine hcut.go ?_; conv => whnf))
    refine hobl_intro (c := ((o.map Sent.row).length + 1) * 200 ≤ 140737488355328) (by rw [List.length_map]; omega) ?_; conv => whnf
    ((refine hdraw_intro ?_ ?_; (· kernel_rfl); conv => whnf); try (refine hcut.go ?_; conv => whnf))
    ((first | refine hwrap_W ?_ | refine hwrap_raw ?_); (conv => whnf); try (refine hcut.go ?_; conv => whnf))
    ((refine hwrap_F ?_; conv => whnf); try (refine hcut.go ?_; conv => whnf))
    refine ⟨⟨((A ++ [m], B), o ++ [endOf n m], W (n + 1)), zip_next k1, hnext, by simp; omega, by rw [Sco.total_app, k4]; simp [Sco.total, endOf]⟩, (hle_P [(1000000, some 1000000), (1000001, some 1000001), (1000002, some 1000002), (1000003, some 1000003), (1000004, some 1000004), (1000005, some 1000005), (1000006, some 1000006), (1000007, some 1000007), (900, some 64), (3, some 3)] (by repeat' (first | exact trivial | exact rfl | (refine ⟨⟨rfl, ?_⟩, ?_⟩) | (refine ⟨rfl, ?_⟩) | ((exact row_app (f := Sent.row) rfl (by rw [endOf, c1]; rfl))) | (simp; done) | (simp; rfl))) (by repeat' (first | exact trivial | exact rfl | exact .inl rfl | exact .inr rfl | (refine ⟨⟨rfl, .inl ⟨_, rfl, ?_⟩⟩, ?_⟩) | (refine ⟨⟨rfl, _, rfl, ?_⟩, ?_⟩) | (refine ⟨⟨rfl, .inr ⟨rfl, ?_⟩⟩, ?_⟩) | (refine ⟨rfl, ?_⟩) | ((exact row_app (f := Sent.row) rfl (by rw [endOf, c1]; rfl))) | (simp; done) | (simp; rfl)))), by simp⟩
  | nil =>
    have hz := zip_nil k1
    rw [List.append_nil] at k1
    rw [← k1] at k2
    rw [hg, k2]
    ((refine hif_F ?_; conv => whnf); try (refine hcut.go ?_; conv => whnf))
    ((refine hcall_give [false, true] [(1000000, 1000001)] [(0, 85)] ?_; (conv => whnf); refine ⟨_, _, _, _, del_queued (fun m => spec_giveC id m) s.queue (by omega), ⟨rfl, rfl, rfl, ⟨⟨rfl, _, rfl, .inl ⟨rfl, rfl⟩⟩, trivial⟩, ⟨⟨rfl, rfl⟩, trivial⟩, rfl, rfl, rfl⟩, ?_⟩; conv => whnf); try (refine hcut.go ?_; conv => whnf))
    have hsz : Sco.Sized o := ⟨by omega, by rw [k4]; exact h3.bytes⟩
    by_cases c1 : s.sched.hand = id
    · rw [if_pos c1]
      ((refine hdraw_intro ?_ ?_; (· kernel_rfl); conv => whnf); try (refine hcut.go ?_; conv => whnf))
      refine hif_true ?_ ?_
      · simp [giveF, c1]
      conv => whnf
      repeat (refine hcut.go ?_; conv => whnf)
      ((refine hcall_own [(0, 109)] ?_; (conv => whnf); refine ⟨_, _,  Sco.spec_give o id hsz, ⟨⟨⟨rfl, rfl⟩, trivial⟩, rfl, rfl, rfl⟩, ?_⟩; conv => whnf); try (refine hcut.go ?_; conv => whnf))
      ((refine hdraw_intro ?_ ?_; (· kernel_rfl); conv => whnf); try (refine hcut.go ?_; conv => whnf))
      ((refine hcall_give [] [(1000000, 1000000), (1000001, 85), (1000002, 1000002), (1000003, 109), (1000004, 1000004), (1000005, 1000005), (1000006, 1000006), (1000007, 1000007)] [(0, 910), (1, 911), (2, 912), (3, 913), (4, 914), (5, 915)] ?_; (conv => whnf); refine ⟨_, _, _, _, spec_flights4 { (giveF s id o n) with queue := s.queue.filter fun m => !(m.id == (id : Int)), sched := { s.sched with hand := -1 }, out := o.map (Sco.give id) }  ⟨by simp; exact hsz.len, by rw [give_total]; exact hsz.bytes⟩ h4, ⟨rfl, rfl, rfl, ⟨⟨rfl, _, rfl, .inl ⟨rfl, rfl⟩⟩, ⟨⟨rfl, _, rfl, .inl ⟨rfl, rfl⟩⟩, ⟨⟨rfl, _, rfl, .inl ⟨rfl, rfl⟩⟩, ⟨⟨rfl, _, rfl, .inl ⟨rfl, rfl⟩⟩, ⟨⟨rfl, _, rfl, .inl ⟨rfl, rfl⟩⟩, ⟨⟨rfl, _, rfl, .inl ⟨rfl, rfl⟩⟩, ⟨⟨rfl, _, rfl, .inl ⟨rfl, rfl⟩⟩, ⟨⟨rfl, _, rfl, .inl ⟨rfl, rfl⟩⟩, trivial⟩⟩⟩⟩⟩⟩⟩⟩, ⟨⟨rfl, rfl⟩, ⟨⟨rfl, rfl⟩, ⟨⟨rfl, rfl⟩, ⟨⟨rfl, rfl⟩, ⟨⟨rfl, rfl⟩, ⟨⟨rfl, rfl⟩, trivial⟩⟩⟩⟩⟩⟩, rfl, rfl, rfl⟩, ?_⟩; conv => whnf); try (refine hcut.go ?_; conv => whnf))
      (exact hfin_P [(1000000, some 1000000), (1000001, some 1000001), (1000002, some 1000002), (1000003, some 1000003), (1000004, some 1000004), (1000005, some 1000005), (1000006, some 1000006), (1000007, some 1000007), (0, some 910), (1, some 911), (2, some 912), (3, some 913), (4, some 914), (5, some 915)] (by first | rfl | ((exact row_eqs (by congr 1; exact List.filter_congr fun m _ => by rw [Bool.eq_iff_iff]; simp))) ) (by repeat' (first | exact trivial | exact rfl | exact .inl rfl | exact .inr rfl | (refine ⟨⟨rfl, .inl ⟨_, rfl, ?_⟩⟩, ?_⟩) | (refine ⟨⟨rfl, _, rfl, ?_⟩, ?_⟩) | (refine ⟨⟨rfl, .inr ⟨rfl, ?_⟩⟩, ?_⟩) | (refine ⟨rfl, ?_⟩) | ((exact row_eqs (by congr 1; exact List.filter_congr fun m _ => by rw [Bool.eq_iff_iff]; simp))) | (simp; done) | (simp; rfl))))
    · rw [if_neg c1]
      ((refine hdraw_intro ?_ ?_; (· kernel_rfl); conv => whnf); try (refine hcut.go ?_; conv => whnf))
      refine hif_false ?_ ?_
      · simp [giveF, c1]
      conv => whnf
      repeat (refine hcut.go ?_; conv => whnf)
      ((refine hcall_own [(0, 109)] ?_; (conv => whnf); refine ⟨_, _,  Sco.spec_give o id hsz, ⟨⟨⟨rfl, rfl⟩, trivial⟩, rfl, rfl, rfl⟩, ?_⟩; conv => whnf); try (refine hcut.go ?_; conv => whnf))
      ((refine hdraw_intro ?_ ?_; (· kernel_rfl); conv => whnf); try (refine hcut.go ?_; conv => whnf))
      ((refine hcall_give [] [(1000000, 1000000), (1000001, 85), (1000002, 1000002), (1000003, 109), (1000004, 1000004), (1000005, 1000005), (1000006, 1000006), (1000007, 1000007)] [(0, 910), (1, 911), (2, 912), (3, 913), (4, 914), (5, 915)] ?_; (conv => whnf); refine ⟨_, _, _, _, spec_flights4 { (giveF s id o n) with queue := s.queue.filter fun m => !(m.id == (id : Int)), sched := s.sched, out := o.map (Sco.give id) }  ⟨by simp; exact hsz.len, by rw [give_total]; exact hsz.bytes⟩ h4, ⟨rfl, rfl, rfl, ⟨⟨rfl, _, rfl, .inl ⟨rfl, rfl⟩⟩, ⟨⟨rfl, _, rfl, .inl ⟨rfl, rfl⟩⟩, ⟨⟨rfl, _, rfl, .inl ⟨rfl, rfl⟩⟩, ⟨⟨rfl, _, rfl, .inl ⟨rfl, rfl⟩⟩, ⟨⟨rfl, _, rfl, .inl ⟨rfl, rfl⟩⟩, ⟨⟨rfl, _, rfl, .inl ⟨rfl, rfl⟩⟩, ⟨⟨rfl, _, rfl, .inl ⟨rfl, rfl⟩⟩, ⟨⟨rfl, _, rfl, .inl ⟨rfl, rfl⟩⟩, trivial⟩⟩⟩⟩⟩⟩⟩⟩, ⟨⟨rfl, rfl⟩, ⟨⟨rfl, rfl⟩, ⟨⟨rfl, rfl⟩, ⟨⟨rfl, rfl⟩, ⟨⟨rfl, rfl⟩, ⟨⟨rfl, rfl⟩, trivial⟩⟩⟩⟩⟩⟩, rfl, rfl, rfl⟩, ?_⟩; conv => whnf); try (refine hcut.go ?_; conv => whnf))
      (exact hfin_P [(1000000, some 1000000), (1000001, some 1000001), (1000002, some 1000002), (1000003, some 1000003), (1000004, some 1000004), (1000005, some 1000005), (1000006, some 1000006), (1000007, some 1000007), (0, some 910), (1, some 911), (2, some 912), (3, some 913), (4, some 914), (5, some 915)] (by first | rfl | ((exact row_eqs (by congr 1; exact List.filter_congr fun m _ => by rw [Bool.eq_iff_iff]; simp))) ) (by repeat' (first | exact trivial | exact rfl | exact .inl rfl | exact .inr rfl | (refine ⟨⟨rfl, .inl ⟨_, rfl, ?_⟩⟩, ?_⟩) | (refine ⟨⟨rfl, _, rfl, ?_⟩, ?_⟩) | (refine ⟨⟨rfl, .inr ⟨rfl, ?_⟩⟩, ?_⟩) | (refine ⟨rfl, ?_⟩) | ((exact row_eqs (by congr 1; exact List.filter_congr fun m _ => by rw [Bool.eq_iff_iff]; simp))) | (simp; done) | (simp; rfl))))
end Snd
end Go.HL
