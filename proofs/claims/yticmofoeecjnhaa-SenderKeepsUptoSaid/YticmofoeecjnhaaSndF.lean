/- The sender: what has waited too long. -/
import Derived.Test.YticmofoeecjnhaaSndE
namespace Go.HL
open Go.Proofs
namespace Snd
open Ser
set_option maxHeartbeats 8000000
set_option maxRecDepth 100000
set_option linter.unusedSimpArgs false
theorem end1_sum (id : Int) (s : Sender) (m : Queued) : (end1 id s m).out.length = s.out.length + (if m.id = id ∧ m.parts > 0 then 1 else 0) := by
  unfold end1; split <;> simp
theorem ends_sum (id : Int) : ∀ (q : List Queued) (s : Sender), (q.foldl (end1 id) s).out.length + (q.filter fun m => decide (m.id ≠ id)).length ≤ s.out.length + q.length
  | [], s => by simp
  | m :: q, s => by
    have h1 := end1_sum id s m
    have h2 := ends_sum id q (end1 id s m)
    rw [List.foldl_cons, List.filter_cons, List.length_cons]
    by_cases c : m.id = id
    · simp [c] at h1 h2 ⊢; split at h1 <;> omega
    · simp [c] at h1 h2 ⊢; omega
theorem ends_mem (id : Int) : ∀ (q : List Queued) (s : Sender), ∀ x ∈ (q.foldl (end1 id) s).out, x ∈ s.out ∨ x.id = id
  | [], s, x, h => .inl h
  | m :: q, s, x, h => by
    rcases ends_mem id q (end1 id s m) x h with h | h
    · unfold end1 at h
      split at h
      · rename_i c
        rcases List.mem_append.1 h with h | h
        · exact .inl h
        · rw [List.mem_singleton] at h; subst h; exact .inr c.1
      · exact .inl h
    · exact .inr h
structure GFit (s : Sender) : Prop where
  fit : Fit s
  sum : s.out.length + s.queue.length < 2 ^ 30
  qid : ∀ m ∈ s.queue, 0 ≤ m.id ∧ m.id < s.fates.length
  xid : ∀ x ∈ s.out, 0 ≤ x.id ∧ x.id < s.fates.length
structure Rest (s t : Sender) : Prop where
  config : t.config = s.config
  clock : t.clock = s.clock
  had : t.sched.had = s.sched.had
  paths : t.paths.length = s.paths.length
  cum : t.cum = s.cum
  room : t.room = s.room
  mids : t.mids = s.mids
  fates : t.fates.length = s.fates.length
  sum : t.out.length + t.queue.length ≤ s.out.length + s.queue.length
theorem Rest.refl (s : Sender) : Rest s s := ⟨rfl, rfl, rfl, rfl, rfl, rfl, rfl, rfl, Nat.le_refl _⟩
theorem Rest.trans {a b c : Sender} (h : Rest a b) (k : Rest b c) : Rest a c := ⟨k.config.trans h.config, k.clock.trans h.clock, k.had.trans h.had, k.paths.trans h.paths, k.cum.trans h.cum, k.room.trans h.room, k.mids.trans h.mids, k.fates.trans h.fates, Nat.le_trans k.sum h.sum⟩
theorem give_rest (s : Sender) (id : Nat) : Rest s (giveS s id) ∧ Sco.total (giveS s id).out = Sco.total s.out ∧ (∀ m ∈ (giveS s id).queue, m ∈ s.queue) ∧ (∀ x ∈ (giveS s id).out, x.id = id ∨ ∃ y ∈ s.out, y.id = x.id) := by
  obtain ⟨o, n, h1, h2, h3⟩ := ends_form s id s.queue
  have hs := ends_sum id s.queue { s with fates := s.fates.set id 3 }
  have hm := ends_mem id s.queue { s with fates := s.fates.set id 3 }
  rw [h1] at hs hm
  have hg : giveS s id = flights { (giveF s id o n) with queue := s.queue.filter fun m => decide (m.id ≠ id), sched := if s.sched.hand = id then { s.sched with hand := -1 } else s.sched, out := o.map (Sco.give id), forward := true } := by
    show flights { (s.queue.foldl (end1 id) { s with fates := s.fates.set id 3 }) with queue := s.queue.filter fun m => decide (m.id ≠ id), sched := if s.sched.hand = id then { s.sched with hand := -1 } else s.sched, out := (s.queue.foldl (end1 id) { s with fates := s.fates.set id 3 }).out.map (Sco.give id), forward := true } = _
    rw [h1]; rfl
  have hid : ∀ y : Sent, (Sco.give id y).id = y.id := fun y => by unfold Sco.give; split <;> rfl
  rw [hg]
  refine ⟨⟨rfl, rfl, ?_, ?_, rfl, rfl, rfl, ?_, ?_⟩, ?_, ?_, ?_⟩
  · show (if s.sched.hand = id then { s.sched with hand := -1 } else s.sched : Sched).had = _; split <;> rfl
  · show (s.paths.mapIdx _).length = _; simp
  · show (s.fates.set id 3).length = _; simp
  · show (o.map (Sco.give id)).length + _ ≤ _
    rw [List.length_map]; exact hs
  · show Sco.total (o.map (Sco.give id)) = _
    rw [give_total, h3]
  · intro m h; exact (List.mem_filter.1 h).1
  · intro x h
    obtain ⟨y, hy, rfl⟩ := List.mem_map.1 h
    rcases hm y hy with h | h
    · exact .inr ⟨y, h, (hid y).symm⟩
    · exact .inl ((hid y).trans h)
theorem give_fit {s : Sender} (h : GFit s) {id : Nat} (hid : id < s.fates.length) : GFit (giveS s id) := by
  obtain ⟨r, h1, h2, h3⟩ := give_rest s id
  obtain ⟨⟨f1, f2, f3, f4, f5, f6, f7⟩, g2, g3, g4⟩ := h
  have hs := r.sum
  have hq : (giveS s id).queue.length ≤ s.queue.length := by
    have : (giveS s id).queue = s.queue.filter fun m : Queued => decide (m.id ≠ (id : Int)) := rfl
    rw [this]; exact List.length_filter_le _ _
  refine ⟨⟨by omega, by rw [r.had]; exact f2, ⟨by omega, by rw [h1]; exact f3.bytes⟩, by rw [r.paths]; exact f4, by rw [r.mids]; exact f5, by rw [r.fates]; exact f6, fun m hm => f7 m (h2 m hm)⟩, by omega, fun m hm => by rw [r.fates]; exact g3 m (h2 m hm), fun x hx => ?_⟩
  rw [r.fates]
  rcases h3 x hx with e | ⟨y, hy, e⟩
  · rw [e]; omega
  · rw [← e]; exact g4 y hy
theorem expQ_fit {s : Sender} (h : GFit s) {m : Queued} (hm : 0 ≤ m.id ∧ m.id < s.fates.length) : GFit (expQ s m) ∧ Rest s (expQ s m) := by
  unfold expQ
  split
  · obtain ⟨k, hk⟩ : ∃ k : Nat, m.id = k := ⟨m.id.toNat, by omega⟩
    rw [hk]
    exact ⟨give_fit h (by omega), (give_rest s k).1⟩
  · exact ⟨h, Rest.refl s⟩
theorem expX_fit {s : Sender} (h : GFit s) {x : Sent} (hm : 0 ≤ x.id ∧ x.id < s.fates.length) : GFit (expX s x) ∧ Rest s (expX s x) := by
  unfold expX
  split
  · obtain ⟨k, hk⟩ : ∃ k : Nat, x.id = k := ⟨x.id.toNat, by omega⟩
    rw [hk]
    exact ⟨give_fit h (by omega), (give_rest s k).1⟩
  · exact ⟨h, Rest.refl s⟩
theorem spec_expire3 (s : Sender)  (hs : GFit s) : FunOK Try.prog 59 [.ptr 1000000 0] (lk .free (pH3 s )) (.tup []) (lk .free (pD3 (expire s) )) := by
  have hs' := hs
  obtain ⟨⟨h1, h2, h3, h4, h5, h6, h7⟩, g2, g3, g4⟩ := hs
  generalize hE : expire s = E
  refine funOK_of mixed Try.func59 (by decide) [1000000, 1000001, 1000002, 1000003, 1000004, 1000005, 1000006, 1000007] lk_pins ?_
  conv => whnf
  ((refine hcall_give [] [(1000000, 1000001)] [(0, 11)] ?_; (conv => whnf); refine ⟨_, _, _, _, cloneQ s.queue (by omega), ⟨rfl, rfl, rfl, ⟨⟨rfl, _, rfl, .inl ⟨rfl, rfl⟩⟩, trivial⟩, ⟨⟨rfl, rfl⟩, trivial⟩, rfl, rfl, rfl⟩, ?_⟩; conv => whnf); try (refine hcut.go ?_; conv => whnf))
  refine ⟨{ x : (List Queued × List Queued) × Sender // s.queue = x.1.1 ++ x.1.2 ∧ x.1.1.foldl expQ s = x.2 ∧ GFit x.2 ∧ Rest s x.2 },
    fun | ⟨((A, B), t), _⟩ => hsP [1000000, 1000001, 1000002, 1000003, 1000004, 1000005, 1000006, 1000007] 85 [(0, .ptr 1000000 0), (11, .own 11), (12, i64 s.queue.length), (13, i64 A.length)] (snG3 t  900 901 902 903 904 905 1000007 [(1000001, .dead), (1000002, .dead), (1000003, .dead), (1000004, .dead), (1000005, .dead), (1000006, .dead), (11, rowQ s.queue)]), fun x => x.1.1.2.length, ⟨(([], s.queue), s), rfl, rfl, hs', Rest.refl s⟩, ?_, ?_⟩
  · exact (hle_P [(1000000, some 1000000), (1000001, some 1000001), (1000002, some 1000002), (1000003, some 1000003), (1000004, some 1000004), (1000005, some 1000005), (1000006, some 1000006), (1000007, some 1000007), (900, some 1000001), (901, some 1000002), (902, some 1000003), (903, some 1000004), (904, some 1000005), (905, some 1000006), (11, some 11)])
  rintro ⟨⟨⟨A, B⟩, t⟩, k1, k2, k3, k4⟩
  dsimp only at k1 k2 k3 k4
  refine hwp_gen fun Q hQ => ?_
  conv => whnf
  cases B with
  | cons m B =>
    have hz := zip_cons k1
    have hnext : (A ++ [m]).foldl expQ s = expQ t m := by rw [List.foldl_append, k2]; rfl
    have hm := g3 m (zip_mem k1)
    have ht := k4.fates
    obtain ⟨id, hid⟩ : ∃ k : Nat, m.id = k := ⟨m.id.toNat, by omega⟩
    obtain ⟨kn, kr⟩ := expQ_fit k3 (m := m) (by omega)
    ((refine hif_T ?_; conv => whnf); try (refine hcut.go ?_; conv => whnf))
    ((refine hobl_O ?_; conv => whnf); try (refine hcut.go ?_; conv => whnf))
    refine hrow_mid k1 rfl ?_; conv => whnf
    ((refine hcall_give [] [(1000000, 1000000), (1000001, 900), (1000002, 901), (1000003, 902), (1000004, 903), (1000005, 904), (1000006, 905), (1000007, 1000007)] [] ?_; (conv => whnf); refine ⟨_, _, _, _, spec_old3 t  m.came m.message.life, ⟨rfl, rfl, rfl, ⟨⟨rfl, _, rfl, .inl ⟨rfl, rfl⟩⟩, ⟨⟨rfl, _, rfl, .inl ⟨rfl, rfl⟩⟩, ⟨⟨rfl, _, rfl, .inl ⟨rfl, rfl⟩⟩, ⟨⟨rfl, _, rfl, .inl ⟨rfl, rfl⟩⟩, ⟨⟨rfl, _, rfl, .inl ⟨rfl, rfl⟩⟩, ⟨⟨rfl, _, rfl, .inl ⟨rfl, rfl⟩⟩, ⟨⟨rfl, _, rfl, .inl ⟨rfl, rfl⟩⟩, ⟨⟨rfl, _, rfl, .inl ⟨rfl, rfl⟩⟩, trivial⟩⟩⟩⟩⟩⟩⟩⟩, trivial, rfl, rfl, rfl⟩, ?_⟩; conv => whnf); try (refine hcut.go ?_; conv => whnf))
    cases ho : old t.clock m.came m.message.life with
    | true =>
      rw [expQ, if_pos ho] at hnext kn kr
      have pg := spec_giveP3 t  id k3.fit (by omega) (by have := k3.sum; omega)
      rw [← hid] at pg
      conv => whnf
      repeat (refine hcut.go ?_; conv => whnf)
      ((refine hcall_give [] [(1000000, 1000000), (1000001, 900), (1000002, 901), (1000003, 902), (1000004, 903), (1000005, 904), (1000006, 905), (1000007, 1000007)] [(0, 910), (1, 911), (2, 912), (3, 913), (4, 914), (5, 915)] ?_; (conv => whnf); refine ⟨_, _, _, _, pg, ⟨rfl, rfl, rfl, ⟨⟨rfl, _, rfl, .inl ⟨rfl, rfl⟩⟩, ⟨⟨rfl, _, rfl, .inl ⟨rfl, rfl⟩⟩, ⟨⟨rfl, _, rfl, .inl ⟨rfl, rfl⟩⟩, ⟨⟨rfl, _, rfl, .inl ⟨rfl, rfl⟩⟩, ⟨⟨rfl, _, rfl, .inl ⟨rfl, rfl⟩⟩, ⟨⟨rfl, _, rfl, .inl ⟨rfl, rfl⟩⟩, ⟨⟨rfl, _, rfl, .inl ⟨rfl, rfl⟩⟩, ⟨⟨rfl, _, rfl, .inl ⟨rfl, rfl⟩⟩, trivial⟩⟩⟩⟩⟩⟩⟩⟩, ⟨⟨rfl, rfl⟩, ⟨⟨rfl, rfl⟩, ⟨⟨rfl, rfl⟩, ⟨⟨rfl, rfl⟩, ⟨⟨rfl, rfl⟩, ⟨⟨rfl, rfl⟩, trivial⟩⟩⟩⟩⟩⟩, rfl, rfl, rfl⟩, ?_⟩; conv => whnf); try (refine hcut.go ?_; conv => whnf))
      ((refine hwrap_F ?_; conv => whnf); try (refine hcut.go ?_; conv => whnf))
      refine hQ _ _ ?_; conv => whnf
      exact ⟨⟨((A ++ [m], B), giveS t m.id), zip_next k1, hnext, kn, k4.trans kr⟩, (hle_P [(1000000, some 1000000), (1000001, some 1000001), (1000002, some 1000002), (1000003, some 1000003), (1000004, some 1000004), (1000005, some 1000005), (1000006, some 1000006), (1000007, some 1000007), (900, some 910), (901, some 911), (902, some 912), (903, some 913), (904, some 914), (905, some 915), (11, some 11)]), by simp⟩
    | false =>
      rw [expQ, if_neg (by rw [ho]; decide)] at hnext
      conv => whnf
      repeat (refine hcut.go ?_; conv => whnf)
      ((refine hwrap_F ?_; conv => whnf); try (refine hcut.go ?_; conv => whnf))
      refine hQ _ _ ?_; conv => whnf
      exact ⟨⟨((A ++ [m], B), t), zip_next k1, hnext, k3, k4⟩, (hle_P [(1000000, some 1000000), (1000001, some 1000001), (1000002, some 1000002), (1000003, some 1000003), (1000004, some 1000004), (1000005, some 1000005), (1000006, some 1000006), (1000007, some 1000007), (900, some 900), (901, some 901), (902, some 902), (903, some 903), (904, some 904), (905, some 905), (11, some 11)]), by simp⟩
  | nil =>
    have hz := zip_nil k1
    rw [List.append_nil] at k1
    rw [← k1] at k2
    have hE2 : t.out.foldl expX t = E := by rw [← hE, expire, k2]
    have ko := k3.sum
    ((refine hif_F ?_; conv => whnf); try (refine hcut.go ?_; conv => whnf))
    refine hQ _ _ ?_; conv => whnf
    ((refine hcall_give [] [(1000000, 902)] [(0, 34)] ?_; (conv => whnf); refine ⟨_, _, _, _, cloneX t.out (by omega), ⟨rfl, rfl, rfl, ⟨⟨rfl, _, rfl, .inl ⟨rfl, rfl⟩⟩, trivial⟩, ⟨⟨rfl, rfl⟩, trivial⟩, rfl, rfl, rfl⟩, ?_⟩; conv => whnf); try (refine hcut.go ?_; conv => whnf))
    refine ⟨{ x : (List Sent × List Sent) × Sender // t.out = x.1.1 ++ x.1.2 ∧ x.1.1.foldl expX t = x.2 ∧ GFit x.2 ∧ Rest t x.2 },
      fun | ⟨((A, B), u), _⟩ => hsP [1000000, 1000001, 1000002, 1000003, 1000004, 1000005, 1000006, 1000007] 85 [(0, .ptr 1000000 0), (34, .own 34), (35, i64 t.out.length), (36, i64 A.length)] (snG3 u  900 901 902 903 904 905 1000007 [(1000001, .dead), (1000002, .dead), (1000003, .dead), (1000004, .dead), (1000005, .dead), (1000006, .dead), (34, rowX t.out)]), fun x => x.1.1.2.length, ⟨(([], t.out), t), rfl, rfl, k3, Rest.refl t⟩, ?_, ?_⟩
    · exact (hle_P [(1000000, some 1000000), (1000001, some 1000001), (1000002, some 1000002), (1000003, some 1000003), (1000004, some 1000004), (1000005, some 1000005), (1000006, some 1000006), (1000007, some 1000007), (900, some 900), (901, some 901), (902, some 902), (903, some 903), (904, some 904), (905, some 905), (34, some 34)])
    have g4 := k3.xid
    clear hs' g3 g2 k4 k2 k1 hE hQ Q
    rintro ⟨⟨⟨A, B⟩, u⟩, k1, k2, k3, k4⟩
    dsimp only at k1 k2 k3 k4
    refine hwp_gen fun Q hQ => ?_
    conv => whnf
    cases B with
    | cons x B =>
      have hz := zip_cons k1
      have hnext : (A ++ [x]).foldl expX t = expX u x := by rw [List.foldl_append, k2]; rfl
      have hm := g4 x (zip_mem k1)
      have ht := k4.fates
      obtain ⟨id, hid⟩ : ∃ k : Nat, x.id = k := ⟨x.id.toNat, by omega⟩
      obtain ⟨kn, kr⟩ := expX_fit k3 (x := x) (by omega)
      have hidl : id < u.fates.length := by omega
      have pg := spec_giveP3 u  id k3.fit hidl (by have := k3.sum; omega)
      rw [← hid] at pg
      obtain ⟨f, hf⟩ : ∃ f, u.fates[id]? = some f := ⟨_, List.getElem?_eq_getElem hidl⟩
      have hdue : dueX u x = (decide (f = 1) && (decide (x.state ≠ 2) && (old u.clock x.came x.life || (decide (x.state = 3) && (decide (x.tries > 0) && decide (x.times > x.tries)))))) := by
        unfold dueX
        rw [hid, Int.toNat_natCast, hf]; rfl
      ((refine hif_T ?_; conv => whnf); try (refine hcut.go ?_; conv => whnf))
      ((refine hobl_O ?_; conv => whnf); try (refine hcut.go ?_; conv => whnf))
      refine hrow_mid k1 rfl ?_; conv => whnf
      refine hobl_intro (by simp; omega) ?_; conv => whnf
      refine hrow_q hf (by omega) ?_; conv => whnf
      by_cases d1 : f = 1
      case neg =>
        refine hif_false ?_ ?_
        · simpa using d1
        conv => whnf
        ((refine hdraw_intro ?_ ?_; (· kernel_rfl); conv => whnf); try (refine hcut.go ?_; conv => whnf))
        repeat (refine hcut.go ?_; conv => whnf)
        ((refine hwrap_F ?_; conv => whnf); try (refine hcut.go ?_; conv => whnf))
        refine hQ _ _ ?_; conv => whnf
        rw [expX, if_neg (by rw [hdue]; simp [d1])] at hnext
        exact ⟨⟨((A ++ [x], B), u), zip_next k1, hnext, k3, k4⟩, (hle_P [(1000000, some 1000000), (1000001, some 1000001), (1000002, some 1000002), (1000003, some 1000003), (1000004, some 1000004), (1000005, some 1000005), (1000006, some 1000006), (1000007, some 1000007), (900, some 900), (901, some 901), (902, some 902), (903, some 903), (904, some 904), (905, some 905), (34, some 34)]), by simp⟩
      refine hif_true ?_ ?_
      · simpa using d1
      conv => whnf
      by_cases d2 : x.state = 2
      case pos =>
        refine hif_false ?_ ?_
        · simpa using d2
        conv => whnf
        ((refine hdraw_intro ?_ ?_; (· kernel_rfl); conv => whnf); try (refine hcut.go ?_; conv => whnf))
        repeat (refine hcut.go ?_; conv => whnf)
        ((refine hwrap_F ?_; conv => whnf); try (refine hcut.go ?_; conv => whnf))
        refine hQ _ _ ?_; conv => whnf
        rw [expX, if_neg (by rw [hdue]; simp [d1, d2])] at hnext
        exact ⟨⟨((A ++ [x], B), u), zip_next k1, hnext, k3, k4⟩, (hle_P [(1000000, some 1000000), (1000001, some 1000001), (1000002, some 1000002), (1000003, some 1000003), (1000004, some 1000004), (1000005, some 1000005), (1000006, some 1000006), (1000007, some 1000007), (900, some 900), (901, some 901), (902, some 902), (903, some 903), (904, some 904), (905, some 905), (34, some 34)]), by simp⟩
      refine hif_true ?_ ?_
      · simpa using d2
      conv => whnf
      ((refine hcall_give [] [(1000000, 1000000), (1000001, 900), (1000002, 901), (1000003, 902), (1000004, 903), (1000005, 904), (1000006, 905), (1000007, 1000007)] [] ?_; (conv => whnf); refine ⟨_, _, _, _, spec_old3 u  x.came x.life, ⟨rfl, rfl, rfl, ⟨⟨rfl, _, rfl, .inl ⟨rfl, rfl⟩⟩, ⟨⟨rfl, _, rfl, .inl ⟨rfl, rfl⟩⟩, ⟨⟨rfl, _, rfl, .inl ⟨rfl, rfl⟩⟩, ⟨⟨rfl, _, rfl, .inl ⟨rfl, rfl⟩⟩, ⟨⟨rfl, _, rfl, .inl ⟨rfl, rfl⟩⟩, ⟨⟨rfl, _, rfl, .inl ⟨rfl, rfl⟩⟩, ⟨⟨rfl, _, rfl, .inl ⟨rfl, rfl⟩⟩, ⟨⟨rfl, _, rfl, .inl ⟨rfl, rfl⟩⟩, trivial⟩⟩⟩⟩⟩⟩⟩⟩, trivial, rfl, rfl, rfl⟩, ?_⟩; conv => whnf); try (refine hcut.go ?_; conv => whnf))
      cases d3 : old u.clock x.came x.life with
      | true =>
        conv => whnf
        ((refine hdraw_intro ?_ ?_; (· kernel_rfl); conv => whnf); try (refine hcut.go ?_; conv => whnf))
        repeat (refine hcut.go ?_; conv => whnf)
        ((refine hcall_give [] [(1000000, 1000000), (1000001, 900), (1000002, 901), (1000003, 902), (1000004, 903), (1000005, 904), (1000006, 905), (1000007, 1000007)] [(0, 910), (1, 911), (2, 912), (3, 913), (4, 914), (5, 915)] ?_; (conv => whnf); refine ⟨_, _, _, _, pg, ⟨rfl, rfl, rfl, ⟨⟨rfl, _, rfl, .inl ⟨rfl, rfl⟩⟩, ⟨⟨rfl, _, rfl, .inl ⟨rfl, rfl⟩⟩, ⟨⟨rfl, _, rfl, .inl ⟨rfl, rfl⟩⟩, ⟨⟨rfl, _, rfl, .inl ⟨rfl, rfl⟩⟩, ⟨⟨rfl, _, rfl, .inl ⟨rfl, rfl⟩⟩, ⟨⟨rfl, _, rfl, .inl ⟨rfl, rfl⟩⟩, ⟨⟨rfl, _, rfl, .inl ⟨rfl, rfl⟩⟩, ⟨⟨rfl, _, rfl, .inl ⟨rfl, rfl⟩⟩, trivial⟩⟩⟩⟩⟩⟩⟩⟩, ⟨⟨rfl, rfl⟩, ⟨⟨rfl, rfl⟩, ⟨⟨rfl, rfl⟩, ⟨⟨rfl, rfl⟩, ⟨⟨rfl, rfl⟩, ⟨⟨rfl, rfl⟩, trivial⟩⟩⟩⟩⟩⟩, rfl, rfl, rfl⟩, ?_⟩; conv => whnf); try (refine hcut.go ?_; conv => whnf))
        ((refine hwrap_F ?_; conv => whnf); try (refine hcut.go ?_; conv => whnf))
        refine hQ _ _ ?_; conv => whnf
        rw [expX, if_pos (by rw [hdue]; simp [d1, d2, d3])] at hnext kn kr
        exact ⟨⟨((A ++ [x], B), giveS u x.id), zip_next k1, hnext, kn, k4.trans kr⟩, (hle_P [(1000000, some 1000000), (1000001, some 1000001), (1000002, some 1000002), (1000003, some 1000003), (1000004, some 1000004), (1000005, some 1000005), (1000006, some 1000006), (1000007, some 1000007), (900, some 910), (901, some 911), (902, some 912), (903, some 913), (904, some 914), (905, some 915), (34, some 34)]), by simp⟩
      | false =>
      conv => whnf
      by_cases d4 : x.state = 3
      case neg =>
        refine hif_false ?_ ?_
        · simpa using d4
        conv => whnf
        ((refine hdraw_intro ?_ ?_; (· kernel_rfl); conv => whnf); try (refine hcut.go ?_; conv => whnf))
        repeat (refine hcut.go ?_; conv => whnf)
        ((refine hwrap_F ?_; conv => whnf); try (refine hcut.go ?_; conv => whnf))
        refine hQ _ _ ?_; conv => whnf
        rw [expX, if_neg (by rw [hdue]; simp [d1, d2, d3, d4])] at hnext
        exact ⟨⟨((A ++ [x], B), u), zip_next k1, hnext, k3, k4⟩, (hle_P [(1000000, some 1000000), (1000001, some 1000001), (1000002, some 1000002), (1000003, some 1000003), (1000004, some 1000004), (1000005, some 1000005), (1000006, some 1000006), (1000007, some 1000007), (900, some 900), (901, some 901), (902, some 902), (903, some 903), (904, some 904), (905, some 905), (34, some 34)]), by simp⟩
      refine hif_true ?_ ?_
      · simpa using d4
      conv => whnf
      by_cases d5 : x.tries > 0
      case neg =>
        refine hif_false ?_ ?_
        · simpa using d5
        conv => whnf
        ((refine hdraw_intro ?_ ?_; (· kernel_rfl); conv => whnf); try (refine hcut.go ?_; conv => whnf))
        repeat (refine hcut.go ?_; conv => whnf)
        ((refine hwrap_F ?_; conv => whnf); try (refine hcut.go ?_; conv => whnf))
        refine hQ _ _ ?_; conv => whnf
        rw [expX, if_neg (by rw [hdue]; simp [d1, d2, d3, d4, d5])] at hnext
        exact ⟨⟨((A ++ [x], B), u), zip_next k1, hnext, k3, k4⟩, (hle_P [(1000000, some 1000000), (1000001, some 1000001), (1000002, some 1000002), (1000003, some 1000003), (1000004, some 1000004), (1000005, some 1000005), (1000006, some 1000006), (1000007, some 1000007), (900, some 900), (901, some 901), (902, some 902), (903, some 903), (904, some 904), (905, some 905), (34, some 34)]), by simp⟩
      refine hif_true ?_ ?_
      · simpa using d5
      conv => whnf
      ((refine hdraw_intro ?_ ?_; (· kernel_rfl); conv => whnf); try (refine hcut.go ?_; conv => whnf))
      by_cases d6 : x.times > x.tries
      case neg =>
        refine hif_false ?_ ?_
        · simpa using d6
        conv => whnf
        repeat (refine hcut.go ?_; conv => whnf)
        ((refine hwrap_F ?_; conv => whnf); try (refine hcut.go ?_; conv => whnf))
        refine hQ _ _ ?_; conv => whnf
        rw [expX, if_neg (by rw [hdue]; simp [d1, d2, d3, d4, d5, d6])] at hnext
        exact ⟨⟨((A ++ [x], B), u), zip_next k1, hnext, k3, k4⟩, (hle_P [(1000000, some 1000000), (1000001, some 1000001), (1000002, some 1000002), (1000003, some 1000003), (1000004, some 1000004), (1000005, some 1000005), (1000006, some 1000006), (1000007, some 1000007), (900, some 900), (901, some 901), (902, some 902), (903, some 903), (904, some 904), (905, some 905), (34, some 34)]), by simp⟩
      refine hif_true ?_ ?_
      · simpa using d6
      conv => whnf
      repeat (refine hcut.go ?_; conv => whnf)
      ((refine hcall_give [] [(1000000, 1000000), (1000001, 900), (1000002, 901), (1000003, 902), (1000004, 903), (1000005, 904), (1000006, 905), (1000007, 1000007)] [(0, 910), (1, 911), (2, 912), (3, 913), (4, 914), (5, 915)] ?_; (conv => whnf); refine ⟨_, _, _, _, pg, ⟨rfl, rfl, rfl, ⟨⟨rfl, _, rfl, .inl ⟨rfl, rfl⟩⟩, ⟨⟨rfl, _, rfl, .inl ⟨rfl, rfl⟩⟩, ⟨⟨rfl, _, rfl, .inl ⟨rfl, rfl⟩⟩, ⟨⟨rfl, _, rfl, .inl ⟨rfl, rfl⟩⟩, ⟨⟨rfl, _, rfl, .inl ⟨rfl, rfl⟩⟩, ⟨⟨rfl, _, rfl, .inl ⟨rfl, rfl⟩⟩, ⟨⟨rfl, _, rfl, .inl ⟨rfl, rfl⟩⟩, ⟨⟨rfl, _, rfl, .inl ⟨rfl, rfl⟩⟩, trivial⟩⟩⟩⟩⟩⟩⟩⟩, ⟨⟨rfl, rfl⟩, ⟨⟨rfl, rfl⟩, ⟨⟨rfl, rfl⟩, ⟨⟨rfl, rfl⟩, ⟨⟨rfl, rfl⟩, ⟨⟨rfl, rfl⟩, trivial⟩⟩⟩⟩⟩⟩, rfl, rfl, rfl⟩, ?_⟩; conv => whnf); try (refine hcut.go ?_; conv => whnf))
      ((refine hwrap_F ?_; conv => whnf); try (refine hcut.go ?_; conv => whnf))
      refine hQ _ _ ?_; conv => whnf
      rw [expX, if_pos (by rw [hdue]; simp [d1, d2, d3, d4, d5, d6])] at hnext kn kr
      exact ⟨⟨((A ++ [x], B), giveS u x.id), zip_next k1, hnext, kn, k4.trans kr⟩, (hle_P [(1000000, some 1000000), (1000001, some 1000001), (1000002, some 1000002), (1000003, some 1000003), (1000004, some 1000004), (1000005, some 1000005), (1000006, some 1000006), (1000007, some 1000007), (900, some 910), (901, some 911), (902, some 912), (903, some 913), (904, some 914), (905, some 915), (34, some 34)]), by simp⟩
    | nil =>
      have hz := zip_nil k1
      rw [List.append_nil] at k1
      rw [← k1] at k2
      ((refine hif_F ?_; conv => whnf); try (refine hcut.go ?_; conv => whnf))
      refine hQ _ _ ?_; conv => whnf
      have hu : u = E := by rw [← k2, hE2]
      rw [← hu]
      (exact hfin_P [(1000000, some 1000000), (1000001, some 1000001), (1000002, some 1000002), (1000003, some 1000003), (1000004, some 1000004), (1000005, some 1000005), (1000006, some 1000006), (1000007, some 1000007), (0, some 900), (1, some 901), (2, some 902), (3, some 903), (4, some 904), (5, some 905)])
theorem spec_expire4 (s : Sender)  (hs : GFit s) : FunOK Try.prog 59 [.ptr 1000000 0] (lk .free (pH4 s )) (.tup []) (lk .free (pD4 (expire s) )) := by
  have hs' := hs
  obtain ⟨⟨h1, h2, h3, h4, h5, h6, h7⟩, g2, g3, g4⟩ := hs
  generalize hE : expire s = E
  refine funOK_of mixed Try.func59 (by decide) [1000000, 1000001, 1000002, 1000003, 1000004, 1000005, 1000006, 1000007] lk_pins ?_
  conv => whnf
  ((refine hcall_give [] [(1000000, 1000001)] [(0, 11)] ?_; (conv => whnf); refine ⟨_, _, _, _, cloneQ s.queue (by omega), ⟨rfl, rfl, rfl, ⟨⟨rfl, _, rfl, .inl ⟨rfl, rfl⟩⟩, trivial⟩, ⟨⟨rfl, rfl⟩, trivial⟩, rfl, rfl, rfl⟩, ?_⟩; conv => whnf); try (refine hcut.go ?_; conv => whnf))
  refine ⟨{ x : (List Queued × List Queued) × Sender // s.queue = x.1.1 ++ x.1.2 ∧ x.1.1.foldl expQ s = x.2 ∧ GFit x.2 ∧ Rest s x.2 },
    fun | ⟨((A, B), t), _⟩ => hsP [1000000, 1000001, 1000002, 1000003, 1000004, 1000005, 1000006, 1000007] 85 [(0, .ptr 1000000 0), (11, .own 11), (12, i64 s.queue.length), (13, i64 A.length)] (snG4 t  900 901 902 903 904 905 1000007 [(1000001, .dead), (1000002, .dead), (1000003, .dead), (1000004, .dead), (1000005, .dead), (1000006, .dead), (11, rowQ s.queue)]), fun x => x.1.1.2.length, ⟨(([], s.queue), s), rfl, rfl, hs', Rest.refl s⟩, ?_, ?_⟩
  · exact (hle_P [(1000000, some 1000000), (1000001, some 1000001), (1000002, some 1000002), (1000003, some 1000003), (1000004, some 1000004), (1000005, some 1000005), (1000006, some 1000006), (1000007, some 1000007), (900, some 1000001), (901, some 1000002), (902, some 1000003), (903, some 1000004), (904, some 1000005), (905, some 1000006), (11, some 11)])
  rintro ⟨⟨⟨A, B⟩, t⟩, k1, k2, k3, k4⟩
  dsimp only at k1 k2 k3 k4
  refine hwp_gen fun Q hQ => ?_
  conv => whnf
  cases B with
  | cons m B =>
    have hz := zip_cons k1
    have hnext : (A ++ [m]).foldl expQ s = expQ t m := by rw [List.foldl_append, k2]; rfl
    have hm := g3 m (zip_mem k1)
    have ht := k4.fates
    obtain ⟨id, hid⟩ : ∃ k : Nat, m.id = k := ⟨m.id.toNat, by omega⟩
    obtain ⟨kn, kr⟩ := expQ_fit k3 (m := m) (by omega)
    ((refine hif_T ?_; conv => whnf); try (refine hcut.go ?_; conv => whnf))
    ((refine hobl_O ?_; conv => whnf); try (refine hcut.go ?_; conv => whnf))
    refine hrow_mid k1 rfl ?_; conv => whnf
    ((refine hcall_give [] [(1000000, 1000000), (1000001, 900), (1000002, 901), (1000003, 902), (1000004, 903), (1000005, 904), (1000006, 905), (1000007, 1000007)] [] ?_; (conv => whnf); refine ⟨_, _, _, _, spec_old4 t  m.came m.message.life, ⟨rfl, rfl, rfl, ⟨⟨rfl, _, rfl, .inl ⟨rfl, rfl⟩⟩, ⟨⟨rfl, _, rfl, .inl ⟨rfl, rfl⟩⟩, ⟨⟨rfl, _, rfl, .inl ⟨rfl, rfl⟩⟩, ⟨⟨rfl, _, rfl, .inl ⟨rfl, rfl⟩⟩, ⟨⟨rfl, _, rfl, .inl ⟨rfl, rfl⟩⟩, ⟨⟨rfl, _, rfl, .inl ⟨rfl, rfl⟩⟩, ⟨⟨rfl, _, rfl, .inl ⟨rfl, rfl⟩⟩, ⟨⟨rfl, _, rfl, .inl ⟨rfl, rfl⟩⟩, trivial⟩⟩⟩⟩⟩⟩⟩⟩, trivial, rfl, rfl, rfl⟩, ?_⟩; conv => whnf); try (refine hcut.go ?_; conv => whnf))
    cases ho : old t.clock m.came m.message.life with
    | true =>
      rw [expQ, if_pos ho] at hnext kn kr
      have pg := spec_giveP4 t  id k3.fit (by omega) (by have := k3.sum; omega)
      rw [← hid] at pg
      conv => whnf
      repeat (refine hcut.go ?_; conv => whnf)
      ((refine hcall_give [] [(1000000, 1000000), (1000001, 900), (1000002, 901), (1000003, 902), (1000004, 903), (1000005, 904), (1000006, 905), (1000007, 1000007)] [(0, 910), (1, 911), (2, 912), (3, 913), (4, 914), (5, 915)] ?_; (conv => whnf); refine ⟨_, _, _, _, pg, ⟨rfl, rfl, rfl, ⟨⟨rfl, _, rfl, .inl ⟨rfl, rfl⟩⟩, ⟨⟨rfl, _, rfl, .inl ⟨rfl, rfl⟩⟩, ⟨⟨rfl, _, rfl, .inl ⟨rfl, rfl⟩⟩, ⟨⟨rfl, _, rfl, .inl ⟨rfl, rfl⟩⟩, ⟨⟨rfl, _, rfl, .inl ⟨rfl, rfl⟩⟩, ⟨⟨rfl, _, rfl, .inl ⟨rfl, rfl⟩⟩, ⟨⟨rfl, _, rfl, .inl ⟨rfl, rfl⟩⟩, ⟨⟨rfl, _, rfl, .inl ⟨rfl, rfl⟩⟩, trivial⟩⟩⟩⟩⟩⟩⟩⟩, ⟨⟨rfl, rfl⟩, ⟨⟨rfl, rfl⟩, ⟨⟨rfl, rfl⟩, ⟨⟨rfl, rfl⟩, ⟨⟨rfl, rfl⟩, ⟨⟨rfl, rfl⟩, trivial⟩⟩⟩⟩⟩⟩, rfl, rfl, rfl⟩, ?_⟩; conv => whnf); try (refine hcut.go ?_; conv => whnf))
      ((refine hwrap_F ?_; conv => whnf); try (refine hcut.go ?_; conv => whnf))
      refine hQ _ _ ?_; conv => whnf
      exact ⟨⟨((A ++ [m], B), giveS t m.id), zip_next k1, hnext, kn, k4.trans kr⟩, (hle_P [(1000000, some 1000000), (1000001, some 1000001), (1000002, some 1000002), (1000003, some 1000003), (1000004, some 1000004), (1000005, some 1000005), (1000006, some 1000006), (1000007, some 1000007), (900, some 910), (901, some 911), (902, some 912), (903, some 913), (904, some 914), (905, some 915), (11, some 11)]), by simp⟩
    | false =>
      rw [expQ, if_neg (by rw [ho]; decide)] at hnext
      conv => whnf
      repeat (refine hcut.go ?_; conv => whnf)
      ((refine hwrap_F ?_; conv => whnf); try (refine hcut.go ?_; conv => whnf))
      refine hQ _ _ ?_; conv => whnf
      exact ⟨⟨((A ++ [m], B), t), zip_next k1, hnext, k3, k4⟩, (hle_P [(1000000, some 1000000), (1000001, some 1000001), (1000002, some 1000002), (1000003, some 1000003), (1000004, some 1000004), (1000005, some 1000005), (1000006, some 1000006), (1000007, some 1000007), (900, some 900), (901, some 901), (902, some 902), (903, some 903), (904, some 904), (905, some 905), (11, some 11)]), by simp⟩
  | nil =>
    have hz := zip_nil k1
    rw [List.append_nil] at k1
    rw [← k1] at k2
    have hE2 : t.out.foldl expX t = E := by rw [← hE, expire, k2]
    have ko := k3.sum
    ((refine hif_F ?_; conv => whnf); try (refine hcut.go ?_; conv => whnf))
    refine hQ _ _ ?_; conv => whnf
    ((refine hcall_give [] [(1000000, 902)] [(0, 34)] ?_; (conv => whnf); refine ⟨_, _, _, _, cloneX t.out (by omega), ⟨rfl, rfl, rfl, ⟨⟨rfl, _, rfl, .inl ⟨rfl, rfl⟩⟩, trivial⟩, ⟨⟨rfl, rfl⟩, trivial⟩, rfl, rfl, rfl⟩, ?_⟩; conv => whnf); try (refine hcut.go ?_; conv => whnf))
    refine ⟨{ x : (List Sent × List Sent) × Sender // t.out = x.1.1 ++ x.1.2 ∧ x.1.1.foldl expX t = x.2 ∧ GFit x.2 ∧ Rest t x.2 },
      fun | ⟨((A, B), u), _⟩ => hsP [1000000, 1000001, 1000002, 1000003, 1000004, 1000005, 1000006, 1000007] 85 [(0, .ptr 1000000 0), (34, .own 34), (35, i64 t.out.length), (36, i64 A.length)] (snG4 u  900 901 902 903 904 905 1000007 [(1000001, .dead), (1000002, .dead), (1000003, .dead), (1000004, .dead), (1000005, .dead), (1000006, .dead), (34, rowX t.out)]), fun x => x.1.1.2.length, ⟨(([], t.out), t), rfl, rfl, k3, Rest.refl t⟩, ?_, ?_⟩
    · exact (hle_P [(1000000, some 1000000), (1000001, some 1000001), (1000002, some 1000002), (1000003, some 1000003), (1000004, some 1000004), (1000005, some 1000005), (1000006, some 1000006), (1000007, some 1000007), (900, some 900), (901, some 901), (902, some 902), (903, some 903), (904, some 904), (905, some 905), (34, some 34)])
    have g4 := k3.xid
    clear hs' g3 g2 k4 k2 k1 hE hQ Q
    rintro ⟨⟨⟨A, B⟩, u⟩, k1, k2, k3, k4⟩
    dsimp only at k1 k2 k3 k4
    refine hwp_gen fun Q hQ => ?_
    conv => whnf
    cases B with
    | cons x B =>
      have hz := zip_cons k1
      have hnext : (A ++ [x]).foldl expX t = expX u x := by rw [List.foldl_append, k2]; rfl
      have hm := g4 x (zip_mem k1)
      have ht := k4.fates
      obtain ⟨id, hid⟩ : ∃ k : Nat, x.id = k := ⟨x.id.toNat, by omega⟩
      obtain ⟨kn, kr⟩ := expX_fit k3 (x := x) (by omega)
      have hidl : id < u.fates.length := by omega
      have pg := spec_giveP4 u  id k3.fit hidl (by have := k3.sum; omega)
      rw [← hid] at pg
      obtain ⟨f, hf⟩ : ∃ f, u.fates[id]? = some f := ⟨_, List.getElem?_eq_getElem hidl⟩
      have hdue : dueX u x = (decide (f = 1) && (decide (x.state ≠ 2) && (old u.clock x.came x.life || (decide (x.state = 3) && (decide (x.tries > 0) && decide (x.times > x.tries)))))) := by
        unfold dueX
        rw [hid, Int.toNat_natCast, hf]; rfl
      ((refine hif_T ?_; conv => whnf); try (refine hcut.go ?_; conv => whnf))
      ((refine hobl_O ?_; conv => whnf); try (refine hcut.go ?_; conv => whnf))
      refine hrow_mid k1 rfl ?_; conv => whnf
      refine hobl_intro (by simp; omega) ?_; conv => whnf
      refine hrow_q hf (by omega) ?_; conv => whnf
      by_cases d1 : f = 1
      case neg =>
        refine hif_false ?_ ?_
        · simpa using d1
        conv => whnf
        ((refine hdraw_intro ?_ ?_; (· kernel_rfl); conv => whnf); try (refine hcut.go ?_; conv => whnf))
        repeat (refine hcut.go ?_; conv => whnf)
        ((refine hwrap_F ?_; conv => whnf); try (refine hcut.go ?_; conv => whnf))
        refine hQ _ _ ?_; conv => whnf
        rw [expX, if_neg (by rw [hdue]; simp [d1])] at hnext
        exact ⟨⟨((A ++ [x], B), u), zip_next k1, hnext, k3, k4⟩, (hle_P [(1000000, some 1000000), (1000001, some 1000001), (1000002, some 1000002), (1000003, some 1000003), (1000004, some 1000004), (1000005, some 1000005), (1000006, some 1000006), (1000007, some 1000007), (900, some 900), (901, some 901), (902, some 902), (903, some 903), (904, some 904), (905, some 905), (34, some 34)]), by simp⟩
      refine hif_true ?_ ?_
      · simpa using d1
      conv => whnf
      by_cases d2 : x.state = 2
      case pos =>
        refine hif_false ?_ ?_
        · simpa using d2
        conv => whnf
        ((refine hdraw_intro ?_ ?_; (· kernel_rfl); conv => whnf); try (refine hcut.go ?_; conv => whnf))
        repeat (refine hcut.go ?_; conv => whnf)
        ((refine hwrap_F ?_; conv => whnf); try (refine hcut.go ?_; conv => whnf))
        refine hQ _ _ ?_; conv => whnf
        rw [expX, if_neg (by rw [hdue]; simp [d1, d2])] at hnext
        exact ⟨⟨((A ++ [x], B), u), zip_next k1, hnext, k3, k4⟩, (hle_P [(1000000, some 1000000), (1000001, some 1000001), (1000002, some 1000002), (1000003, some 1000003), (1000004, some 1000004), (1000005, some 1000005), (1000006, some 1000006), (1000007, some 1000007), (900, some 900), (901, some 901), (902, some 902), (903, some 903), (904, some 904), (905, some 905), (34, some 34)]), by simp⟩
      refine hif_true ?_ ?_
      · simpa using d2
      conv => whnf
      ((refine hcall_give [] [(1000000, 1000000), (1000001, 900), (1000002, 901), (1000003, 902), (1000004, 903), (1000005, 904), (1000006, 905), (1000007, 1000007)] [] ?_; (conv => whnf); refine ⟨_, _, _, _, spec_old4 u  x.came x.life, ⟨rfl, rfl, rfl, ⟨⟨rfl, _, rfl, .inl ⟨rfl, rfl⟩⟩, ⟨⟨rfl, _, rfl, .inl ⟨rfl, rfl⟩⟩, ⟨⟨rfl, _, rfl, .inl ⟨rfl, rfl⟩⟩, ⟨⟨rfl, _, rfl, .inl ⟨rfl, rfl⟩⟩, ⟨⟨rfl, _, rfl, .inl ⟨rfl, rfl⟩⟩, ⟨⟨rfl, _, rfl, .inl ⟨rfl, rfl⟩⟩, ⟨⟨rfl, _, rfl, .inl ⟨rfl, rfl⟩⟩, ⟨⟨rfl, _, rfl, .inl ⟨rfl, rfl⟩⟩, trivial⟩⟩⟩⟩⟩⟩⟩⟩, trivial, rfl, rfl, rfl⟩, ?_⟩; conv => whnf); try (refine hcut.go ?_; conv => whnf))
      cases d3 : old u.clock x.came x.life with
      | true =>
        conv => whnf
        ((refine hdraw_intro ?_ ?_; (· kernel_rfl); conv => whnf); try (refine hcut.go ?_; conv => whnf))
        repeat (refine hcut.go ?_; conv => whnf)
        ((refine hcall_give [] [(1000000, 1000000), (1000001, 900), (1000002, 901), (1000003, 902), (1000004, 903), (1000005, 904), (1000006, 905), (1000007, 1000007)] [(0, 910), (1, 911), (2, 912), (3, 913), (4, 914), (5, 915)] ?_; (conv => whnf); refine ⟨_, _, _, _, pg, ⟨rfl, rfl, rfl, ⟨⟨rfl, _, rfl, .inl ⟨rfl, rfl⟩⟩, ⟨⟨rfl, _, rfl, .inl ⟨rfl, rfl⟩⟩, ⟨⟨rfl, _, rfl, .inl ⟨rfl, rfl⟩⟩, ⟨⟨rfl, _, rfl, .inl ⟨rfl, rfl⟩⟩, ⟨⟨rfl, _, rfl, .inl ⟨rfl, rfl⟩⟩, ⟨⟨rfl, _, rfl, .inl ⟨rfl, rfl⟩⟩, ⟨⟨rfl, _, rfl, .inl ⟨rfl, rfl⟩⟩, ⟨⟨rfl, _, rfl, .inl ⟨rfl, rfl⟩⟩, trivial⟩⟩⟩⟩⟩⟩⟩⟩, ⟨⟨rfl, rfl⟩, ⟨⟨rfl, rfl⟩, ⟨⟨rfl, rfl⟩, ⟨⟨rfl, rfl⟩, ⟨⟨rfl, rfl⟩, ⟨⟨rfl, rfl⟩, trivial⟩⟩⟩⟩⟩⟩, rfl, rfl, rfl⟩, ?_⟩; conv => whnf); try (refine hcut.go ?_; conv => whnf))
        ((refine hwrap_F ?_; conv => whnf); try (refine hcut.go ?_; conv => whnf))
        refine hQ _ _ ?_; conv => whnf
        rw [expX, if_pos (by rw [hdue]; simp [d1, d2, d3])] at hnext kn kr
        exact ⟨⟨((A ++ [x], B), giveS u x.id), zip_next k1, hnext, kn, k4.trans kr⟩, (hle_P [(1000000, some 1000000), (1000001, some 1000001), (1000002, some 1000002), (1000003, some 1000003), (1000004, some 1000004), (1000005, some 1000005), (1000006, some 1000006), (1000007, some 1000007), (900, some 910), (901, some 911), (902, some 912), (903, some 913), (904, some 914), (905, some 915), (34, some 34)]), by simp⟩
      | false =>
      conv => whnf
      by_cases d4 : x.state = 3
      case neg =>
        refine hif_false ?_ ?_
        · simpa using d4
        conv => whnf
        ((refine hdraw_intro ?_ ?_; (· kernel_rfl); conv => whnf); try (refine hcut.go ?_; conv => whnf))
        repeat (refine hcut.go ?_; conv => whnf)
        ((refine hwrap_F ?_; conv => whnf); try (refine hcut.go ?_; conv => whnf))
        refine hQ _ _ ?_; conv => whnf
        rw [expX, if_neg (by rw [hdue]; simp [d1, d2, d3, d4])] at hnext
        exact ⟨⟨((A ++ [x], B), u), zip_next k1, hnext, k3, k4⟩, (hle_P [(1000000, some 1000000), (1000001, some 1000001), (1000002, some 1000002), (1000003, some 1000003), (1000004, some 1000004), (1000005, some 1000005), (1000006, some 1000006), (1000007, some 1000007), (900, some 900), (901, some 901), (902, some 902), (903, some 903), (904, some 904), (905, some 905), (34, some 34)]), by simp⟩
      refine hif_true ?_ ?_
      · simpa using d4
      conv => whnf
      by_cases d5 : x.tries > 0
      case neg =>
        refine hif_false ?_ ?_
        · simpa using d5
        conv => whnf
        ((refine hdraw_intro ?_ ?_; (· kernel_rfl); conv => whnf); try (refine hcut.go ?_; conv => whnf))
        repeat (refine hcut.go ?_; conv => whnf)
        ((refine hwrap_F ?_; conv => whnf); try (refine hcut.go ?_; conv => whnf))
        refine hQ _ _ ?_; conv => whnf
        rw [expX, if_neg (by rw [hdue]; simp [d1, d2, d3, d4, d5])] at hnext
        exact ⟨⟨((A ++ [x], B), u), zip_next k1, hnext, k3, k4⟩, (hle_P [(1000000, some 1000000), (1000001, some 1000001), (1000002, some 1000002), (1000003, some 1000003), (1000004, some 1000004), (1000005, some 1000005), (1000006, some 1000006), (1000007, some 1000007), (900, some 900), (901, some 901), (902, some 902), (903, some 903), (904, some 904), (905, some 905), (34, some 34)]), by simp⟩
      refine hif_true ?_ ?_
      · simpa using d5
      conv => whnf
      ((refine hdraw_intro ?_ ?_; (· kernel_rfl); conv => whnf); try (refine hcut.go ?_; conv => whnf))
      by_cases d6 : x.times > x.tries
      case neg =>
        refine hif_false ?_ ?_
        · simpa using d6
        conv => whnf
        repeat (refine hcut.go ?_; conv => whnf)
        ((refine hwrap_F ?_; conv => whnf); try (refine hcut.go ?_; conv => whnf))
        refine hQ _ _ ?_; conv => whnf
        rw [expX, if_neg (by rw [hdue]; simp [d1, d2, d3, d4, d5, d6])] at hnext
        exact ⟨⟨((A ++ [x], B), u), zip_next k1, hnext, k3, k4⟩, (hle_P [(1000000, some 1000000), (1000001, some 1000001), (1000002, some 1000002), (1000003, some 1000003), (1000004, some 1000004), (1000005, some 1000005), (1000006, some 1000006), (1000007, some 1000007), (900, some 900), (901, some 901), (902, some 902), (903, some 903), (904, some 904), (905, some 905), (34, some 34)]), by simp⟩
      refine hif_true ?_ ?_
      · simpa using d6
      conv => whnf
      repeat (refine hcut.go ?_; conv => whnf)
      ((refine hcall_give [] [(1000000, 1000000), (1000001, 900), (1000002, 901), (1000003, 902), (1000004, 903), (1000005, 904), (1000006, 905), (1000007, 1000007)] [(0, 910), (1, 911), (2, 912), (3, 913), (4, 914), (5, 915)] ?_; (conv => whnf); refine ⟨_, _, _, _, pg, ⟨rfl, rfl, rfl, ⟨⟨rfl, _, rfl, .inl ⟨rfl, rfl⟩⟩, ⟨⟨rfl, _, rfl, .inl ⟨rfl, rfl⟩⟩, ⟨⟨rfl, _, rfl, .inl ⟨rfl, rfl⟩⟩, ⟨⟨rfl, _, rfl, .inl ⟨rfl, rfl⟩⟩, ⟨⟨rfl, _, rfl, .inl ⟨rfl, rfl⟩⟩, ⟨⟨rfl, _, rfl, .inl ⟨rfl, rfl⟩⟩, ⟨⟨rfl, _, rfl, .inl ⟨rfl, rfl⟩⟩, ⟨⟨rfl, _, rfl, .inl ⟨rfl, rfl⟩⟩, trivial⟩⟩⟩⟩⟩⟩⟩⟩, ⟨⟨rfl, rfl⟩, ⟨⟨rfl, rfl⟩, ⟨⟨rfl, rfl⟩, ⟨⟨rfl, rfl⟩, ⟨⟨rfl, rfl⟩, ⟨⟨rfl, rfl⟩, trivial⟩⟩⟩⟩⟩⟩, rfl, rfl, rfl⟩, ?_⟩; conv => whnf); try (refine hcut.go ?_; conv => whnf))
      ((refine hwrap_F ?_; conv => whnf); try (refine hcut.go ?_; conv => whnf))
      refine hQ _ _ ?_; conv => whnf
      rw [expX, if_pos (by rw [hdue]; simp [d1, d2, d3, d4, d5, d6])] at hnext kn kr
      exact ⟨⟨((A ++ [x], B), giveS u x.id), zip_next k1, hnext, kn, k4.trans kr⟩, (hle_P [(1000000, some 1000000), (1000001, some 1000001), (1000002, some 1000002), (1000003, some 1000003), (1000004, some 1000004), (1000005, some 1000005), (1000006, some 1000006), (1000007, some 1000007), (900, some 910), (901, some 911), (902, some 912), (903, some 913), (904, some 914), (905, some 915), (34, some 34)]), by simp⟩
    | nil =>
      have hz := zip_nil k1
      rw [List.append_nil] at k1
      rw [← k1] at k2
      ((refine hif_F ?_; conv => whnf); try (refine hcut.go ?_; conv => whnf))
      refine hQ _ _ ?_; conv => whnf
      have hu : u = E := by rw [← k2, hE2]
      rw [← hu]
      (exact hfin_P [(1000000, some 1000000), (1000001, some 1000001), (1000002, some 1000002), (1000003, some 1000003), (1000004, some 1000004), (1000005, some 1000005), (1000006, some 1000006), (1000007, some 1000007), (0, some 900), (1, some 901), (2, some 902), (3, some 903), (4, some 904), (5, some 905)])
end Snd
end Go.HL
