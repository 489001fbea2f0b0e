/- The sender: who is not to be lost is not (plain). -/
import Derived.Test.YticmofoeecjnhaaSndW
namespace Go.HL
open Go.Proofs
namespace Snd
open Ser
set_option maxHeartbeats 4000000
set_option maxRecDepth 100000
set_option linter.unusedSimpArgs false
def Loose (L : List Message) (k : Nat) : Prop := ∀ m, L[k]? = some m → m.life ≠ 0 ∨ m.tries ≠ 0
structure KI (L : List Message) (s : Sender) : Prop where
  len : s.fates.length = L.length
  queue : ∀ m ∈ s.queue, L[m.id.toNat]? = some m.message
  out : ∀ x ∈ s.out, (x.life > 0 ∨ x.tries > 0) → Loose L x.id.toNat
  gone : ∀ k : Nat, s.fates[k]? = some 3 → Loose L k
theorem ends_loose {L : List Message} (id : Int) : ∀ (q : List Queued) (s : Sender), (∀ x ∈ s.out, (x.life > 0 ∨ x.tries > 0) → Loose L x.id.toNat) → ∀ x ∈ (q.foldl (end1 id) s).out, (x.life > 0 ∨ x.tries > 0) → Loose L x.id.toNat
  | [], s, h, x, hx => h x hx
  | m :: q, s, h, x, hx => by
    refine ends_loose id q (end1 id s m) (fun y hy => ?_) x hx
    unfold end1 at hy
    split at hy
    · rcases List.mem_append.1 hy with hy | hy
      · exact h y hy
      · rw [List.mem_singleton] at hy; subst hy
        intro hh; rcases hh with hh | hh <;> exact absurd hh (Int.lt_irrefl 0)
    · exact h y hy
section
variable {L : List Message} {s : Sender}
theorem give_ki (h : KI L s) {id : Nat} (hid : Loose L id) : KI L (giveS s id) := by
  refine ⟨by rw [give_fates, List.length_set]; exact h.len, fun m hm => ?_, fun x hx => ?_, fun k hk => ?_⟩
  · rw [give_queue] at hm; exact h.queue m (List.mem_filter.1 hm).1
  · rw [give_out] at hx
    obtain ⟨y, hy, rfl⟩ := List.mem_map.1 hx
    have := ends_loose id s.queue { s with fates := s.fates.set id 3 } h.out y hy
    unfold Sco.give
    split <;> exact this
  · rw [give_fates] at hk
    by_cases e : id = k
    · subst e; exact hid
    · rw [List.getElem?_set_ne e] at hk; exact h.gone k hk
theorem expQ_ki (h : KI L s) {m : Queued} (hm : L[m.id.toNat]? = some m.message) (h0 : 0 ≤ m.id) : KI L (expQ s m) := by
  unfold expQ
  split
  · rename_i c
    obtain ⟨k, hk⟩ : ∃ k : Nat, m.id = k := ⟨m.id.toNat, by omega⟩
    rw [hk] at hm ⊢
    refine give_ki h fun y hy => ?_
    rw [Int.toNat_natCast, hy] at hm
    cases hm
    unfold old at c
    simp only [Bool.and_eq_true, decide_eq_true_eq] at c
    left; omega
  · exact h
theorem expX_ki (h : KI L s) {x : Sent} (hx : (x.life > 0 ∨ x.tries > 0) → Loose L x.id.toNat) (h0 : 0 ≤ x.id) : KI L (expX s x) := by
  unfold expX
  split
  · rename_i c
    obtain ⟨k, hk⟩ : ∃ k : Nat, x.id = k := ⟨x.id.toNat, by omega⟩
    rw [hk] at hx ⊢
    refine give_ki h (hx ?_)
    unfold dueX old at c
    simp only [Bool.and_eq_true, Bool.or_eq_true, decide_eq_true_eq] at c
    rcases c.2.2 with d | d
    · exact .inl d.1
    · exact .inr d.2.1
  · exact h
theorem expQs_ki : ∀ (q : List Queued) {s : Sender}, KI L s → (∀ m ∈ q, L[m.id.toNat]? = some m.message ∧ 0 ≤ m.id) → KI L (q.foldl expQ s)
  | [], _, h, _ => h
  | m :: q, s, h, hq => expQs_ki q (expQ_ki h (hq m (by simp)).1 (hq m (by simp)).2) fun x hx => hq x (by simp [hx])
theorem expXs_ki : ∀ (q : List Sent) {s : Sender}, KI L s → (∀ x ∈ q, ((x.life > 0 ∨ x.tries > 0) → Loose L x.id.toNat) ∧ 0 ≤ x.id) → KI L (q.foldl expX s)
  | [], _, h, _ => h
  | m :: q, s, h, hq => expXs_ki q (expX_ki h (hq m (by simp)).1 (hq m (by simp)).2) fun x hx => hq x (by simp [hx])
theorem expire_ki {N : Nat} (h : KI L s) (hs : SI N s) : KI L (expire s) := by
  have h1 := expQs_ki s.queue h fun m hm => ⟨h.queue m hm, (hs.queue m hm).id0⟩
  obtain ⟨h2, -⟩ := expQs_si s.queue s hs fun m hm => ⟨(hs.queue m hm).id0, (hs.queue m hm).id1⟩
  exact expXs_ki _ h1 fun x hx => ⟨h1.out x hx, (h2.out x hx).id0⟩
theorem KI.side {t : Sender} (h : KI L s) (h1 : t.fates = s.fates) (h2 : ∀ m ∈ t.queue, ∃ y ∈ s.queue, y.id = m.id ∧ y.message = m.message) (h3 : ∀ x ∈ t.out, ∃ y ∈ s.out, y.id = x.id ∧ y.life = x.life ∧ y.tries = x.tries) : KI L t := by
  refine ⟨by rw [h1]; exact h.len, fun m hm => ?_, fun x hx => ?_, by rw [h1]; exact h.gone⟩
  · obtain ⟨y, hy, e1, e2⟩ := h2 m hm; rw [← e1, ← e2]; exact h.queue y hy
  · obtain ⟨y, hy, e1, e2, e3⟩ := h3 x hx; rw [← e1, ← e2, ← e3]; exact h.out y hy
theorem forward_ki {o : List (List Chunk)} (h : KI L s) : KI L (forward ⟨s, o⟩).s := by
  unfold forward
  split
  · exact h
  · exact h.side rfl (fun m hm => ⟨m, hm, rfl, rfl⟩) fun x hx => ⟨x, hx, rfl, rfl, rfl⟩
theorem fly_ki {p : Pump} (h : KI L p.s) (i path : Nat) : KI L (fly p i path).s := by
  unfold fly
  split
  · exact h
  · rename_i x hx
    refine h.side rfl (fun m hm => ⟨m, hm, rfl, rfl⟩) fun y hy => ?_
    rcases List.mem_or_eq_of_mem_set hy with hy | rfl
    · exact ⟨y, hy, rfl, rfl, rfl⟩
    · exact ⟨x, List.mem_of_getElem? hx, rfl, rfl, rfl⟩
theorem agains_ki {path : Nat} : ∀ (l : List Nat) {p : Pump}, KI L p.s → KI L (l.foldl (again1 path) p).s
  | [], _, h => h
  | i :: l, p, h => by
    refine agains_ki l ?_
    unfold again1
    split
    · exact h
    · split
      · exact fly_ki h _ _
      · exact h
theorem cut_ki (h : KI L s) {k : Nat} {m : Queued} (hm : s.queue[k]? = some m) : KI L (cutS s k m) := by
  have hmq := List.mem_of_getElem? hm
  refine ⟨h.len, fun y hy => ?_, fun x hx => ?_, h.gone⟩
  · have hy : y ∈ (if decide (m.sent + many s m = m.message.data.length) then s.queue.eraseIdx k else s.queue.set k { m with mid := midOf s m, sent := m.sent + many s m, parts := W (m.parts + 1) }) := hy
    split at hy
    · exact h.queue y (List.mem_of_mem_eraseIdx hy)
    · rcases List.mem_or_eq_of_mem_set hy with hy | rfl
      · exact h.queue y hy
      · exact h.queue m hmq
  · have hx : x ∈ s.out ++ [_] := hx
    rcases List.mem_append.1 hx with hx | hx
    · exact h.out x hx
    · rw [List.mem_singleton] at hx; subst hx
      intro hh y hy
      rw [show L[m.id.toNat]? = some m.message from h.queue m hmq] at hy
      cases hy
      have hh : m.message.life > 0 ∨ m.message.tries > 0 := hh
      omega
theorem next_ki {p q : Pump} (h : KI L p.s) (hq : next p = some q) : KI L q.s := by
  obtain ⟨s, o⟩ := p
  unfold next at hq
  dsimp only at hq h
  split at hq
  · cases hq
  cases hm : s.queue[(turnOf s).toNat]? with
  | none => rw [hm] at hq; cases hq
  | some m =>
    rw [hm] at hq
    dsimp only at hq
    split at hq
    · cases hq
    · cases hq
      rw [next1_cut]
      exact fly_ki (p := ⟨cutS s (turnOf s).toNat m, o⟩) (cut_ki h hm) _ _
theorem nexts_ki : ∀ (n : Nat) {p : Pump}, KI L p.s → KI L (nexts n p).s
  | 0, _, h => h
  | n + 1, p, h => by
    unfold nexts
    split
    · exact h
    · rename_i q hq; exact nexts_ki n (next_ki h hq)
theorem pump_ki {N : Nat} (h : KI L s) (hs : SI N s) : KI L (pump s).1 := by
  have h1 : KI L (pumpP s).s := nexts_ki 61 (agains_ki _ (forward_ki (expire_ki h hs)))
  exact h1.side rfl (fun m hm => ⟨m, hm, rfl, rfl⟩) fun x hx => ⟨x, hx, rfl, rfl, rfl⟩
theorem send_ki {N : Nat} (h : KI L s) (hs : SI N s) (m : Message) : KI (L ++ [m]) (sendS s m) := by
  have hl := h.len
  have up : ∀ {k : Nat}, k < L.length → Loose L k → Loose (L ++ [m]) k := fun hk hh y hy => by
    rw [List.getElem?_append_left hk] at hy; exact hh y hy
  refine ⟨by show (s.fates ++ [1]).length = _; simp; omega, fun q hq => ?_, fun x hx => ?_, fun k hk => ?_⟩
  · have hq : q ∈ s.queue ++ [_] := hq
    rcases List.mem_append.1 hq with hq | hq
    · have := h.queue q hq
      rw [List.getElem?_append_left (List.getElem?_eq_some_iff.1 this).1]; exact this
    · rw [List.mem_singleton] at hq; subst hq
      show (L ++ [m])[((s.fates.length : Nat) : Int).toNat]? = some m
      rw [Int.toNat_natCast, hl, List.getElem?_append_right (Nat.le_refl _), Nat.sub_self]; rfl
  · intro hh y hy
    have hx : x ∈ s.out := hx
    have h1 := h.out x hx hh
    have h2 := (hs.out x hx).id1
    have h3 := (hs.out x hx).id0
    exact up (by omega) h1 y hy
  · have hk : (s.fates ++ [1])[k]? = some 3 := hk
    rcases Nat.lt_or_ge k s.fates.length with hk2 | hk2
    · rw [List.getElem?_append_left hk2] at hk; exact up (by omega) (h.gone k hk)
    · rw [List.getElem?_append_right hk2] at hk
      rcases Nat.eq_zero_or_pos (k - s.fates.length) with e | e
      · rw [e] at hk; cases hk
      · rw [List.getElem?_eq_none (by simp; omega)] at hk; cases hk
theorem late1_ki (h : KI L s) (part : Int) (i : Nat) : KI L (late1 part s i) := by
  unfold late1
  split
  · exact h
  split
  · exact h
  have h2 : ∀ f, KI L { s with out := s.out.map (Sco.late i), paths := f } := fun f => h.side rfl (fun m hm => ⟨m, hm, rfl, rfl⟩) fun x hx => by
    obtain ⟨y, hy, rfl⟩ := List.mem_map.1 (show x ∈ s.out.map (Sco.late i) from hx)
    exact ⟨y, hy, by unfold Sco.late; split <;> rfl, by unfold Sco.late; split <;> rfl, by unfold Sco.late; split <;> rfl⟩
  dsimp only
  split
  · exact (h2 []).side rfl (fun m hm => ⟨m, hm, rfl, rfl⟩) fun x hx => ⟨x, hx, rfl, rfl, rfl⟩
  · exact h2 _
theorem lates_ki (part : Int) : ∀ (l : List Nat) {s : Sender}, KI L s → KI L (l.foldl (late1 part) s)
  | [], _, h => h
  | i :: l, _, h => lates_ki part l (late1_ki h part i)
theorem tick_ki (h : KI L s) : KI L (tick s) := lates_ki _ _ (h.side rfl (fun m hm => ⟨m, hm, rfl, rfl⟩) fun x hx => ⟨x, hx, rfl, rfl, rfl⟩)
end
theorem ends_cfg (s : Sender) (id : Nat) : (giveS s id).config = s.config := (give_rest s id).1.config
theorem expQs_cfg : ∀ (q : List Queued) (s : Sender), (∀ m ∈ q, 0 ≤ m.id) → (q.foldl expQ s).config = s.config
  | [], _, _ => rfl
  | m :: q, s, h => by
    rw [List.foldl_cons, expQs_cfg q _ fun x hx => h x (by simp [hx])]
    unfold expQ
    split
    · have := h m (by simp)
      rw [show m.id = ((m.id.toNat : Nat) : Int) by omega]; exact ends_cfg s _
    · rfl
theorem expXs_cfg : ∀ (q : List Sent) (s : Sender), (∀ m ∈ q, 0 ≤ m.id) → (q.foldl expX s).config = s.config
  | [], _, _ => rfl
  | m :: q, s, h => by
    rw [List.foldl_cons, expXs_cfg q _ fun x hx => h x (by simp [hx])]
    unfold expX
    split
    · have := h m (by simp)
      rw [show m.id = ((m.id.toNat : Nat) : Int) by omega]; exact ends_cfg s _
    · rfl
theorem expire_cfg {N : Nat} {s : Sender} (h : SI N s) : (expire s).config = s.config := by
  obtain ⟨h2, -⟩ := expQs_si s.queue s h fun m hm => ⟨(h.queue m hm).id0, (h.queue m hm).id1⟩
  unfold expire
  rw [expXs_cfg _ _ fun x hx => (h2.out x hx).id0, expQs_cfg _ _ fun m hm => (h.queue m hm).id0]
theorem fly_cfg (p : Pump) (i c : Nat) : (fly p i c).s.config = p.s.config := by unfold fly; split <;> rfl
theorem agains_cfg {c : Nat} : ∀ (l : List Nat) (p : Pump), (l.foldl (again1 c) p).s.config = p.s.config
  | [], _ => rfl
  | i :: l, p => by
    rw [List.foldl_cons, agains_cfg l]
    unfold again1
    split
    · rfl
    · split
      · exact fly_cfg _ _ _
      · rfl
theorem next_cfg {p q : Pump} (h : next p = some q) : q.s.config = p.s.config := by
  obtain ⟨s, o⟩ := p
  unfold next at h
  dsimp only at h
  split at h
  · cases h
  cases hm : s.queue[(turnOf s).toNat]? with
  | none => rw [hm] at h; cases h
  | some m =>
    rw [hm] at h
    dsimp only at h
    split at h
    · cases h
    · cases h
      rw [next1_cut, fly_cfg]; rfl
theorem nexts_cfg : ∀ (n : Nat) (p : Pump), (nexts n p).s.config = p.s.config
  | 0, _ => rfl
  | n + 1, p => by
    unfold nexts
    split
    · rfl
    · rename_i q hq; rw [nexts_cfg n q, next_cfg hq]
theorem forward_cfg (p : Pump) : (forward p).s.config = p.s.config := by unfold forward; split <;> rfl
theorem pump_cfg {N : Nat} {s : Sender} (h : SI N s) : (pump s).1.config = s.config := by
  show (pumpP s).s.config = _
  unfold pumpP
  rw [nexts_cfg]
  unfold again
  rw [agains_cfg, forward_cfg]
  exact expire_cfg h
theorem late1_cfg (part : Int) (s : Sender) (i : Nat) : (late1 part s i).config = s.config := by
  unfold late1
  split
  · rfl
  split
  · rfl
  · dsimp only
    split <;> rfl
theorem lates_cfg (part : Int) : ∀ (l : List Nat) (s : Sender), (l.foldl (late1 part) s).config = s.config
  | [], _ => rfl
  | i :: l, s => by rw [List.foldl_cons, lates_cfg part l, late1_cfg]
theorem tick_cfg (s : Sender) : (tick s).config = s.config := lates_cfg _ _ _
theorem step_bulk {l : List Step} (h : bulkR (l.map Step.row) ≤ 1048576) : (∀ x ∈ l, x.message.data.length ≤ 1048576) ∧ l.length ≤ 1048576 := by
  have h1 : ∀ x : Step, x.message.data.length + 1 ≤ bulkL x.row := fun x => by
    have h1 := len_bulk (f := bRow) (fun x => by simp [bRow, bulkL, PV.bulk]) x.message.data
    simp only [Step.row, bulkL, PV.bulk]; omega
  refine ⟨fun x hx => ?_, ?_⟩
  · have h2 := mem_bulk (f := Step.row) hx
    have := h1 x; omega
  · have := len_bulk (f := Step.row) (fun x => by have := h1 x; omega) l
    omega
end Snd
end Go.HL
