/- The sender: what is so of any sender that came of steps (plain). -/
import Derived.Test.YticmofoeecjnhaaSndU
namespace Go.HL
open Go.Proofs
namespace Snd
open Ser
set_option maxHeartbeats 4000000
set_option maxRecDepth 100000
set_option linter.unusedSimpArgs false
structure QI (c : Config) (fates : List Int) (m : Queued) : Prop where
  id0 : 0 ≤ m.id
  id1 : m.id < fates.length
  fate : fates[m.id.toNat]? = some 1
  st0 : 0 ≤ m.message.stream
  st1 : m.message.stream < c.streams
  len1 : 1 ≤ m.message.data.length
  len2 : m.message.data.length ≤ 60
  parts : 0 ≤ m.parts
  sent : m.sent = m.parts * c.part
  left : m.sent < m.message.data.length
structure XI (np nf : Nat) (x : Sent) : Prop where
  path0 : 0 ≤ x.path
  path1 : x.path < np
  id0 : 0 ≤ x.id
  id1 : x.id < nf
  spans : x.chunk.spans = []
  skips : x.chunk.skips = []
  data : x.chunk.data.length ≤ 16
def owed (q : List Queued) : Int := (q.map fun m => 61 - m.parts).sum
structure SI (N : Nat) (s : Sender) : Prop where
  cfg : wrgS s.config = 0
  nums : ∀ (i : Nat) x, s.out[i]? = some x → x.number = s.cum + 1 + i
  next : s.next = s.cum + 1 + s.out.length
  cum : s.config.first - 1 ≤ s.cum
  owes : s.next + owed s.queue ≤ s.config.first + 61 * s.fates.length
  npaths : (s.paths.length : Int) = s.config.paths
  nhad : (s.sched.had.length : Int) = s.config.streams
  nmids : (s.mids.length : Int) = 2 * s.config.streams
  waits : (s.queue.length : Int) ≤ s.config.waiting
  queue : ∀ m ∈ s.queue, QI s.config s.fates m
  out : ∀ x ∈ s.out, XI s.paths.length s.fates.length x
  flight : ∀ (i : Nat) p, s.paths[i]? = some p → p.flight = Sco.fl i s.out
  many : s.fates.length ≤ N
  few : N ≤ 2 ^ 20
theorem wrg_zero {c : Config} (h : wrgS c = 0) : 1 ≤ c.streams ∧ c.streams ≤ 4 ∧ 1 ≤ c.paths ∧ c.paths ≤ 2 ∧ 1 ≤ c.part ∧ c.part ≤ 16 ∧ 40 ≤ c.packet ∧ c.packet ≤ 120 ∧ 1 ≤ c.waiting ∧ c.waiting ≤ 12 ∧ 0 ≤ c.first ∧ c.first < 65536 ∧ 1 ≤ (c).turns ∧ (c).turns ≤ 5 := by
  unfold wrgS at h
  split at h
  · cases h
  · split at h
    · cases h
    · omega
theorem QI.few {c : Config} {fates : List Int} {m : Queued} (h : QI c fates m) (hp : 1 ≤ c.part) : m.parts ≤ 59 := by
  have h1 := h.sent
  have h2 := h.left
  have h3 := h.len2
  have h4 := h.parts
  have h5 : m.parts * 1 ≤ m.parts * c.part := Int.mul_le_mul_of_nonneg_left hp h4
  omega
theorem owed_nn {c : Config} {fates : List Int} (hp : 1 ≤ c.part) : ∀ {q : List Queued}, (∀ m ∈ q, QI c fates m) → 0 ≤ owed q
  | [], _ => by simp [owed]
  | m :: q, h => by
    have h1 := (h m (by simp)).few hp
    have h2 := owed_nn hp (q := q) fun x hx => h x (by simp [hx])
    simp only [owed, List.map_cons, List.sum_cons] at h2 ⊢; omega
theorem owed_cons (m : Queued) (q : List Queued) : owed (m :: q) = 61 - m.parts + owed q := by simp [owed]
theorem owed_app (a b : List Queued) : owed (a ++ b) = owed a + owed b := by simp [owed]
section
variable {N : Nat} {s : Sender}
theorem SI.len (h : SI N s) : (s.out.length : Int) ≤ 61 * N := by
  have h1 := h.next
  have h2 := h.cum
  have h3 := h.owes
  have h4 := owed_nn (by have := wrg_zero h.cfg; omega) h.queue
  have h5 := h.many
  omega
theorem SI.nextle (h : SI N s) : s.next ≤ 65536 + 61 * N := by
  have h3 := h.owes
  have h4 := owed_nn (by have := wrg_zero h.cfg; omega) h.queue
  have h5 := h.many
  have h6 := wrg_zero h.cfg
  omega
theorem total_le : ∀ {l : List Sent}, (∀ x ∈ l, x.chunk.data.length ≤ 16) → Sco.total l ≤ 16 * l.length
  | [], _ => by simp [Sco.total]
  | x :: l, h => by
    have h1 := h x (by simp)
    have h2 := total_le (l := l) fun y hy => h y (by simp [hy])
    rw [Sco.total_cons, List.length_cons]; omega
theorem SI.total (h : SI N s) : (Sco.total s.out : Int) ≤ 16 * (61 * N) := by
  have h1 := total_le fun x hx => (h.out x hx).data
  have h2 := h.len
  omega
theorem SI.fit (h : SI N s) : Fit s := by
  have h1 := h.len
  have h2 := h.few
  have h3 := h.total
  have h4 := wrg_zero h.cfg
  have h5 := h.npaths
  have h6 := h.nhad
  have h7 := h.nmids
  have h8 := h.waits
  have h9 := h.many
  exact ⟨by omega, by omega, ⟨by omega, by omega⟩, by omega, by omega, by omega, fun m hm => by have := (h.queue m hm).len2; omega⟩
theorem SI.right (h : SI N s) : Sco.Right s.out s.cum s.paths.length := by
  have h1 := h.npaths
  have h2 := wrg_zero h.cfg
  have h3 := h.nextle
  have h4 := h.next
  have h5 := h.cum
  have h6 := h.few
  exact ⟨fun x hx => ⟨(h.out x hx).path0, (h.out x hx).path1⟩, by omega, by omega, by omega, by omega, h.nums⟩
theorem SI.pf (h : SI N s) : PF 62 s := by
  have h1 := h.len
  have h2 := h.few
  have h3 := h.total
  have h4 := wrg_zero h.cfg
  have h5 := h.npaths
  have h6 := h.nhad
  have h7 := h.nmids
  have h8 := h.waits
  have h9 := h.many
  refine ⟨⟨h.fit, by omega, fun m hm => ⟨(h.queue m hm).id0, (h.queue m hm).id1⟩, fun x hx => ⟨(h.out x hx).id0, (h.out x hx).id1⟩⟩, by omega, by omega, by omega, fun m hm => ?_, fun x hx => ?_, by omega, by omega⟩
  · have q := h.queue m hm
    have q1 := q.st0
    have q2 := q.st1
    have q3 := q.len2
    have q4 := q.sent
    have q5 := q.parts
    have q6 : 0 ≤ m.parts * s.config.part := Int.mul_nonneg q5 (by omega)
    refine ⟨⟨q1, by omega, by omega, by omega, fun _ => ?_⟩, by omega, by omega, q.left, by omega⟩
    unfold midAt
    split <;> omega
  · have q := h.out x hx
    exact ⟨by rw [q.spans]; decide, by rw [q.skips]; decide⟩
theorem SI.mono {M : Nat} (h : SI N s) (h1 : N ≤ M) (h2 : M ≤ 2 ^ 20) : SI M s := ⟨h.cfg, h.nums, h.next, h.cum, h.owes, h.npaths, h.nhad, h.nmids, h.waits, h.queue, h.out, h.flight, Nat.le_trans h.many h1, h2⟩
end
theorem new_si {c : Config} (h : wrgS c = 0) : SI 0 (newS c) := by
  obtain ⟨h1, h2, h3, h4, h5, h6, h7, h8, h9, h10, h11, h12, h13, h14⟩ := wrg_zero h
  refine ⟨h, fun i x hx => ?_, ?_, ?_, ?_, ?_, ?_, ?_, ?_, fun m hm => ?_, fun x hx => ?_, fun i p hp => ?_, ?_, by decide⟩
  · simp [newS] at hx
  · simp [newS]
  · show c.first - 1 ≤ c.first - 1; omega
  · show c.first + owed [] ≤ c.first + 61 * (([] : List Int).length : Int); simp [owed]
  · show ((List.replicate c.paths.toNat (Paths.new c.part)).length : Int) = c.paths; simp; omega
  · show ((Sch.new c.streams).had.length : Int) = c.streams
    simp [Sch.new]; omega
  · show ((List.replicate (2 * c.streams).toNat (0 : Int)).length : Int) = 2 * c.streams; simp; omega
  · show (([] : List Queued).length : Int) ≤ c.waiting; simp; omega
  · simp [newS] at hm
  · simp [newS] at hx
  · have hp : (List.replicate c.paths.toNat (Paths.new c.part))[i]? = some p := hp
    rw [List.getElem?_replicate] at hp
    split at hp
    · cases hp; simp [Paths.new, Sco.fl, newS]
    · cases hp
  · show ([] : List Int).length ≤ 0; simp
theorem QI.more {c : Config} {fates : List Int} {m : Queued} (h : QI c fates m) (f : Int) : QI c (fates ++ [f]) m :=
  ⟨h.id0, by have := h.id1; simp; omega, by have := h.id0; have := h.id1; rw [List.getElem?_append_left (by omega)]; exact h.fate, h.st0, h.st1, h.len1, h.len2, h.parts, h.sent, h.left⟩
theorem XI.more {np nf nf' : Nat} {x : Sent} (h : XI np nf x) (hn : nf ≤ nf') : XI np nf' x := ⟨h.path0, h.path1, h.id0, by have := h.id1; omega, h.spans, h.skips, h.data⟩
theorem send_si {N : Nat} {s : Sender} {m : Message} (h : SI N s) (he : sendErr s m = 0) (hN : N + 1 ≤ 2 ^ 20) : SI (N + 1) (sendS s m) := by
  unfold sendErr at he
  split at he
  · cases he
  split at he
  · cases he
  split at he
  · cases he
  rename_i c1 c2 c3
  refine ⟨h.cfg, h.nums, h.next, h.cum, ?_, h.npaths, h.nhad, h.nmids, ?_, fun q hq => ?_, fun x hx => (h.out x hx).more (by simp [sendS]), h.flight, ?_, hN⟩
  · have h1 := h.owes
    show s.next + owed (s.queue ++ [⟨s.fates.length, -1, s.clock, 0, 0, m⟩]) ≤ s.config.first + 61 * ((s.fates ++ [1]).length : Int)
    rw [owed_app, owed_cons]
    simp only [owed, List.map_nil, List.sum_nil, List.length_append, List.length_cons, List.length_nil] at h1 ⊢
    push_cast; omega
  · show ((s.queue ++ [_]).length : Int) ≤ s.config.waiting
    simp; omega
  · rcases List.mem_append.1 hq with hq | hq
    · exact (h.queue q hq).more 1
    · rw [List.mem_singleton] at hq; subst hq
      exact ⟨by simp, by simp [sendS]; omega, by simp [sendS], by dsimp only; omega, by show m.stream < s.config.streams; omega, by dsimp only; omega, by dsimp only; omega, by simp, by simp, by dsimp only; omega⟩
  · have := h.many
    show (s.fates ++ [1]).length ≤ N + 1; simp; omega
theorem end1_owes (id : Int) (s : Sender) (m : Queued) (hm : m.parts ≤ 60) : W (s.next + 1) = s.next + 1 → (end1 id s m).next + owed ([m].filter fun m => decide (m.id ≠ id)) ≤ s.next + owed [m] := by
  intro hW
  unfold end1
  by_cases c : m.id = id
  · have e1 : [m].filter (fun m => decide (m.id ≠ id)) = [] := by simp [c]
    rw [e1]
    split
    · show W (s.next + 1) + owed [] ≤ _
      simp only [owed, List.map_nil, List.sum_nil, List.map_cons, List.sum_cons]; omega
    · simp only [owed, List.map_nil, List.sum_nil, List.map_cons, List.sum_cons]; omega
  · rw [if_neg (fun h => c h.1)]
    simp [c, owed]
theorem ends_num (id : Int) : ∀ (q : List Queued) (s : Sender), (∀ m ∈ q, m.parts ≤ 60) → -1000 ≤ s.next → s.next + q.length < 2 ^ 60 → s.next = s.cum + 1 + s.out.length → (∀ (i : Nat) x, s.out[i]? = some x → x.number = s.cum + 1 + i) →
    (q.foldl (end1 id) s).next = s.cum + 1 + (q.foldl (end1 id) s).out.length ∧ (∀ (i : Nat) x, (q.foldl (end1 id) s).out[i]? = some x → x.number = s.cum + 1 + i) ∧ (q.foldl (end1 id) s).next + owed (q.filter fun m => decide (m.id ≠ id)) ≤ s.next + owed q
  | [], s, _, _, _, h1, h2 => ⟨h1, h2, Int.le_refl _⟩
  | m :: q, s, hq, h0, hb, h1, h2 => by
    have hW : W (s.next + 1) = s.next + 1 := by simp only [List.length_cons] at hb; exact W_fit (by omega) (by omega)
    have hk := end1_keeps id s m
    have hcum : (end1 id s m).cum = s.cum := by rw [hk]
    have ho := end1_owes id s m (hq m (by simp)) hW
    have h1' : (end1 id s m).next = (end1 id s m).cum + 1 + (end1 id s m).out.length ∧ s.next ≤ (end1 id s m).next ∧ (end1 id s m).next ≤ s.next + 1 := by
      unfold end1
      split
      · dsimp only; rw [hW]; simp; omega
      · exact ⟨h1, by omega, by omega⟩
    have h2' : ∀ (i : Nat) x, (end1 id s m).out[i]? = some x → x.number = (end1 id s m).cum + 1 + i := by
      rw [hcum]
      unfold end1
      split
      · intro i x hx
        have hx : (s.out ++ [endOf s.next m])[i]? = some x := hx
        rcases Nat.lt_or_ge i s.out.length with hi | hi
        · rw [List.getElem?_append_left hi] at hx; exact h2 i x hx
        · rw [List.getElem?_append_right hi] at hx
          have : i - s.out.length = 0 := by
            rcases Nat.eq_zero_or_pos (i - s.out.length) with h | h
            · exact h
            · rw [List.getElem?_eq_none (by simp; omega)] at hx; cases hx
          rw [this] at hx
          cases hx
          show s.next = _
          omega
      · exact h2
    obtain ⟨r1, r2, r3⟩ := ends_num id q (end1 id s m) (fun x hx => hq x (by simp [hx])) (by omega) (by simp only [List.length_cons] at hb; push_cast at hb; omega) h1'.1 h2'
    rw [List.foldl_cons]
    rw [hcum] at r1 r2
    refine ⟨r1, r2, ?_⟩
    have e1 : (m :: q).filter (fun m => decide (m.id ≠ id)) = [m].filter (fun m => decide (m.id ≠ id)) ++ q.filter fun m => decide (m.id ≠ id) := by rw [← List.filter_append]; rfl
    rw [e1, owed_app, owed_cons]
    simp only [owed, List.map_cons, List.map_nil, List.sum_cons, List.sum_nil] at ho r3 ⊢
    omega
theorem ends_xi {np nf : Nat} (id : Int) (hnp : 0 < np) (hid : 0 ≤ id ∧ id < nf) : ∀ (q : List Queued) (s : Sender), (∀ x ∈ s.out, XI np nf x) → ∀ x ∈ (q.foldl (end1 id) s).out, XI np nf x
  | [], s, h, x, hx => h x hx
  | m :: q, s, h, x, hx => by
    refine ends_xi id hnp hid q (end1 id s m) (fun y hy => ?_) x hx
    unfold end1 at hy
    split at hy
    · rename_i c
      rcases List.mem_append.1 hy with hy | hy
      · exact h y hy
      · rw [List.mem_singleton] at hy; subst hy
        exact ⟨Int.le_refl _, by show (0 : Int) < np; omega, by show 0 ≤ m.id; omega, by show m.id < nf; omega, rfl, rfl, by simp [endOf]⟩
    · exact h y hy
theorem flights_at {s : Sender} {i : Nat} {p : Path} (h : (flights s).paths[i]? = some p) : p.flight = Sco.fl i s.out := by
  have h : (s.paths.mapIdx fun i p => flP s.out i p)[i]? = some p := h
  rw [List.getElem?_mapIdx] at h
  cases hp : s.paths[i]? with
  | none => rw [hp] at h; cases h
  | some q => rw [hp] at h; cases h; rfl
theorem give_out (s : Sender) (id : Nat) : (giveS s id).out = (s.queue.foldl (end1 id) { s with fates := s.fates.set id 3 }).out.map (Sco.give id) := rfl
theorem give_next (s : Sender) (id : Nat) : (giveS s id).next = (s.queue.foldl (end1 id) { s with fates := s.fates.set id 3 }).next := rfl
theorem give_queue (s : Sender) (id : Nat) : (giveS s id).queue = s.queue.filter fun m => decide (m.id ≠ (id : Int)) := rfl
theorem give_fates (s : Sender) (id : Nat) : (giveS s id).fates = s.fates.set id 3 := by
  show (s.queue.foldl (end1 id) { s with fates := s.fates.set id 3 }).fates = _
  rw [ends_keeps]
theorem give_flight {s : Sender} {id : Nat} {i : Nat} {p : Path} (h : (giveS s id).paths[i]? = some p) : p.flight = Sco.fl i (giveS s id).out := by
  unfold giveS at h ⊢
  dsimp only at h ⊢
  have := flights_at h
  exact this
theorem give_si {N : Nat} {s : Sender} (h : SI N s) {id : Nat} (hid : id < s.fates.length) : SI N (giveS s id) := by
  obtain ⟨r, -, -, -⟩ := give_rest s id
  have hw := wrg_zero h.cfg
  have hl := h.nextle
  have hw2 := h.waits
  have hf := h.few
  have hc := h.cum
  have hn := h.next
  obtain ⟨e1, e2, e3⟩ := ends_num id s.queue { s with fates := s.fates.set id 3 } (fun m hm => by have := (h.queue m hm).few (by omega); omega) (by dsimp only; omega) (by dsimp only; omega) h.next h.nums
  refine ⟨by rw [r.config]; exact h.cfg, fun i x hx => ?_, ?_, by rw [r.config, r.cum]; exact h.cum, ?_, by rw [r.paths, r.config]; exact h.npaths, by rw [r.had, r.config]; exact h.nhad, by rw [r.mids, r.config]; exact h.nmids, ?_, fun m hm => ?_, fun x hx => ?_, fun i p hp => ?_, by rw [r.fates]; exact h.many, h.few⟩
  · rw [give_out, List.getElem?_map] at hx
    cases hy : (s.queue.foldl (end1 id) { s with fates := s.fates.set id 3 }).out[i]? with
    | none => rw [hy] at hx; cases hx
    | some y =>
      rw [hy] at hx
      cases hx
      rw [r.cum, show (Sco.give id y).number = y.number by unfold Sco.give; split <;> rfl]
      exact e2 i y hy
  · rw [give_next, give_out, r.cum, List.length_map]; exact e1
  · rw [give_next, give_queue, r.config, r.fates]
    have := h.owes
    dsimp only at e3
    omega
  · rw [give_queue, r.config]
    have := List.length_filter_le (fun m : Queued => decide (m.id ≠ (id : Int))) s.queue
    omega
  · rw [give_queue] at hm
    obtain ⟨hm1, hm2⟩ := List.mem_filter.1 hm
    have hm2 : m.id ≠ id := of_decide_eq_true hm2
    have q := h.queue m hm1
    have q0 := q.id0
    rw [r.config, give_fates]
    exact ⟨q.id0, by rw [List.length_set]; exact q.id1, by rw [List.getElem?_set_ne (by omega)]; exact q.fate, q.st0, q.st1, q.len1, q.len2, q.parts, q.sent, q.left⟩
  · rw [give_out] at hx
    obtain ⟨y, hy, rfl⟩ := List.mem_map.1 hx
    have hp := h.npaths
    have := ends_xi (np := s.paths.length) (nf := s.fates.length) id (by omega) ⟨by omega, by omega⟩ s.queue { s with fates := s.fates.set id 3 } h.out y hy
    rw [r.paths, r.fates]
    unfold Sco.give
    split
    · exact ⟨this.path0, this.path1, this.id0, this.id1, this.spans, this.skips, this.data⟩
    · exact this
  · exact give_flight hp
theorem expQ_si {N : Nat} {s : Sender} (h : SI N s) {m : Queued} (hm : 0 ≤ m.id ∧ m.id < s.fates.length) : SI N (expQ s m) ∧ (expQ s m).fates.length = s.fates.length := by
  unfold expQ
  split
  · obtain ⟨k, hk⟩ : ∃ k : Nat, m.id = k := ⟨m.id.toNat, by omega⟩
    rw [hk]; exact ⟨give_si h (by omega), by rw [give_fates, List.length_set]⟩
  · exact ⟨h, rfl⟩
theorem expX_si {N : Nat} {s : Sender} (h : SI N s) {m : Sent} (hm : 0 ≤ m.id ∧ m.id < s.fates.length) : SI N (expX s m) ∧ (expX s m).fates.length = s.fates.length := by
  unfold expX
  split
  · obtain ⟨k, hk⟩ : ∃ k : Nat, m.id = k := ⟨m.id.toNat, by omega⟩
    rw [hk]; exact ⟨give_si h (by omega), by rw [give_fates, List.length_set]⟩
  · exact ⟨h, rfl⟩
theorem expQs_si {N : Nat} : ∀ (q : List Queued) (s : Sender), SI N s → (∀ m ∈ q, 0 ≤ m.id ∧ m.id < s.fates.length) → SI N (q.foldl expQ s) ∧ (q.foldl expQ s).fates.length = s.fates.length
  | [], s, h, _ => ⟨h, rfl⟩
  | m :: q, s, h, hq => by
    obtain ⟨a, b⟩ := expQ_si h (hq m (by simp))
    obtain ⟨c, d⟩ := expQs_si q (expQ s m) a fun x hx => by rw [b]; exact hq x (by simp [hx])
    exact ⟨c, d.trans b⟩
theorem expXs_si {N : Nat} : ∀ (q : List Sent) (s : Sender), SI N s → (∀ m ∈ q, 0 ≤ m.id ∧ m.id < s.fates.length) → SI N (q.foldl expX s) ∧ (q.foldl expX s).fates.length = s.fates.length
  | [], s, h, _ => ⟨h, rfl⟩
  | m :: q, s, h, hq => by
    obtain ⟨a, b⟩ := expX_si h (hq m (by simp))
    obtain ⟨c, d⟩ := expXs_si q (expX s m) a fun x hx => by rw [b]; exact hq x (by simp [hx])
    exact ⟨c, d.trans b⟩
theorem expire_si {N : Nat} {s : Sender} (h : SI N s) : SI N (expire s) ∧ (expire s).fates.length = s.fates.length := by
  obtain ⟨a, b⟩ := expQs_si s.queue s h fun m hm => ⟨(h.queue m hm).id0, (h.queue m hm).id1⟩
  obtain ⟨c, d⟩ := expXs_si (s.queue.foldl expQ s).out _ a fun x hx => ⟨(a.out x hx).id0, (a.out x hx).id1⟩
  exact ⟨c, d.trans b⟩
end Snd
end Go.HL
