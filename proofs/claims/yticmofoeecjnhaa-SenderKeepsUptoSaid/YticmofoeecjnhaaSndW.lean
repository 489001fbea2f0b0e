/- The sender: what is so of any sender stays so (plain). -/
import Derived.Test.YticmofoeecjnhaaSndV
namespace Go.HL
open Go.Proofs
namespace Snd
open Ser
set_option maxHeartbeats 4000000
set_option maxRecDepth 100000
set_option linter.unusedSimpArgs false
theorem setAt_len {α : Type} (l : List α) (k : Nat) (f : α → α) : (setAt l k f).length = l.length := by
  unfold setAt; split <;> simp
theorem setAt_get {α : Type} {l : List α} {k : Nat} {f : α → α} {i : Nat} {y : α} (h : (setAt l k f)[i]? = some y) : (i ≠ k ∧ l[i]? = some y) ∨ (i = k ∧ ∃ x, l[k]? = some x ∧ y = f x) := by
  unfold setAt at h
  split at h
  · rename_i hn
    by_cases e : i = k
    · subst e; rw [hn] at h; cases h
    · exact .inl ⟨e, h⟩
  · rename_i x hx
    by_cases e : i = k
    · subst e
      have hk := (List.getElem?_eq_some_iff.1 hx).1
      rw [List.getElem?_set_self hk] at h
      cases h
      exact .inr ⟨rfl, x, hx, rfl⟩
    · rw [List.getElem?_set_ne (fun h => e h.symm)] at h; exact .inl ⟨e, h⟩
theorem fl_cons (p : Int) (x : Sent) (l : List Sent) : Sco.fl p (x :: l) = Sco.fl p [x] + Sco.fl p l := by
  rw [show x :: l = [x] ++ l from rfl, Sco.fl_app]
theorem fl_set (p : Int) : ∀ {l : List Sent} {i : Nat} {x : Sent}, l[i]? = some x → ∀ y, Sco.fl p (l.set i y) + Sco.fl p [x] = Sco.fl p l + Sco.fl p [y]
  | [], i, x, h, y => by simp at h
  | z :: l, 0, x, h, y => by
    simp only [List.getElem?_cons_zero, Option.some.injEq] at h
    subst h
    rw [List.set_cons_zero, fl_cons, fl_cons p z l]; omega
  | z :: l, i + 1, x, h, y => by
    simp only [List.getElem?_cons_succ] at h
    have := fl_set p h y
    rw [List.set_cons_succ, fl_cons, fl_cons p z l]; omega
section
variable {N : Nat} {s : Sender}
theorem SI.side (h : SI N s) {ps : List Path} {k : Int} {r : Int} {f : Bool} {z : Int} (hl : ps.length = s.paths.length) (hf : ∀ (i : Nat) p, ps[i]? = some p → p.flight = Sco.fl i s.out) :
    SI N { s with paths := ps, clock := k, room := r, forward := f, recover := z } :=
  ⟨h.cfg, h.nums, h.next, h.cum, h.owes, by show (ps.length : Int) = _; rw [hl]; exact h.npaths, h.nhad, h.nmids, h.waits, h.queue, fun x hx => by show XI ps.length _ x; rw [hl]; exact h.out x hx, hf, h.many, h.few⟩
theorem choose_lt' (h : SI N s) : choose s < s.paths.length := (choose_is h.pf.some).2
theorem forward_si {o : List (List Chunk)} (h : SI N s) : SI N (forward ⟨s, o⟩).s := by
  unfold forward
  split
  · exact h
  · refine h.side (setAt_len _ _ _) fun i p hp => ?_
    rcases setAt_get hp with ⟨-, hp⟩ | ⟨rfl, q, hq, rfl⟩
    · exact h.flight i p hp
    · rw [← h.flight _ q hq]
      unfold alarm; split <;> rfl
theorem fly_si {p : Pump} (h : SI N p.s) {i path : Nat} {x : Sent} (hx : p.s.out[i]? = some x) (hst : x.state ≠ 1) (hp : path < p.s.paths.length) : SI N (fly p i path).s := by
  obtain ⟨s, o⟩ := p
  dsimp only at h hx hp
  have hxm := List.mem_of_getElem? hx
  have hxi := h.out x hxm
  have hil := (List.getElem?_eq_some_iff.1 hx).1
  have hw := wrg_zero h.cfg
  have hnp := h.npaths
  have htot := h.total
  have hfew := h.few
  have h0 : ∀ q : Int, Sco.fl q [x] = 0 := fun q => by rw [Sco.fl_one, if_neg (fun h => hst h.1)]
  unfold fly
  simp only [hx]
  refine ⟨h.cfg, fun j y hy => ?_, ?_, h.cum, h.owes, ?_, h.nhad, h.nmids, h.waits, h.queue, fun y hy => ?_, fun j q hq => ?_, h.many, h.few⟩
  · have hy : (s.out.set i (flyX x path))[j]? = some y := hy
    by_cases e : i = j
    · subst e
      rw [List.getElem?_set_self hil] at hy
      cases hy
      exact h.nums i x hx
    · rw [List.getElem?_set_ne e] at hy; exact h.nums j y hy
  · show s.next = s.cum + 1 + ((s.out.set i _).length : Int)
    rw [List.length_set]; exact h.next
  · show ((setAt s.paths path _).length : Int) = _
    rw [setAt_len]; exact h.npaths
  · have hy : y ∈ s.out.set i (flyX x path) := hy
    show XI (setAt s.paths path _).length _ y
    rw [setAt_len]
    rcases List.mem_or_eq_of_mem_set hy with hy | rfl
    · exact h.out y hy
    · exact ⟨by show (0 : Int) ≤ path; omega, by show (path : Int) < s.paths.length; omega, hxi.id0, hxi.id1, hxi.spans, hxi.skips, hxi.data⟩
  · show q.flight = (Sco.fl j (s.out.set i (flyX x path)) : Nat)
    have e1 := fl_set (j : Int) hx (flyX x path)
    rw [h0] at e1
    have e2 : Sco.fl (j : Int) [flyX x path] = if path = j then x.chunk.data.length else 0 := by
      rw [Sco.fl_one]
      by_cases e : path = j
      · rw [if_pos e, if_pos ⟨rfl, by show (path : Int) = j; omega⟩]; rfl
      · rw [if_neg e, if_neg (by rintro ⟨-, h⟩; have h : (path : Int) = j := h; omega)]
    rcases setAt_get hq with ⟨ne, hq⟩ | ⟨rfl, w, hw2, rfl⟩
    · rw [h.flight j q hq]
      rw [if_neg (fun h => ne h.symm)] at e2
      omega
    · rw [if_pos rfl] at e2
      have e3 := h.flight j w hw2
      have e4 := Sco.fl_le (j : Int) s.out
      have e5 := hxi.data
      show W (w.flight + x.chunk.data.length) = _
      rw [e3, W_fit (by omega) (by omega)]
      omega
theorem again1_si {p : Pump} (h : SI N p.s) {path : Nat} (hp : path < p.s.paths.length) (i : Nat) : SI N (again1 path p i).s ∧ (again1 path p i).s.paths.length = p.s.paths.length := by
  unfold again1
  split
  · exact ⟨h, rfl⟩
  · rename_i x hx
    split
    · rename_i c
      refine ⟨fly_si h hx (by rw [c.1]; decide) hp, ?_⟩
      unfold fly
      simp only [hx]
      exact setAt_len _ _ _
    · exact ⟨h, rfl⟩
theorem agains_si {path : Nat} : ∀ (L : List Nat) {p : Pump}, SI N p.s → path < p.s.paths.length → SI N (L.foldl (again1 path) p).s
  | [], _, h, _ => h
  | i :: L, p, h, hp => by
    obtain ⟨a, b⟩ := again1_si h hp i
    exact agains_si L a (by rw [b]; exact hp)
theorem again_si {p : Pump} (h : SI N p.s) : SI N (again p).s := agains_si _ h (choose_lt' h)
theorem owed_set {q : List Queued} {k : Nat} {m y : Queued} (h : q[k]? = some m) : owed (q.set k y) = owed q + m.parts - y.parts := by
  obtain ⟨a, b, rfl, rfl⟩ : ∃ a b, q = a ++ m :: b ∧ a.length = k := ⟨q.take k, q.drop (k + 1), by
    have hk := (List.getElem?_eq_some_iff.1 h)
    obtain ⟨hk, e⟩ := hk
    rw [← e, List.getElem_cons_drop, List.take_append_drop], by have := (List.getElem?_eq_some_iff.1 h).1; simp; omega⟩
  rw [List.set_append_right _ _ (Nat.le_refl _), Nat.sub_self, List.set_cons_zero, owed_app, owed_app, owed_cons, owed_cons]; omega
theorem owed_erase {q : List Queued} {k : Nat} {m : Queued} (h : q[k]? = some m) : owed (q.eraseIdx k) = owed q + m.parts - 61 := by
  obtain ⟨a, b, rfl, rfl⟩ : ∃ a b, q = a ++ m :: b ∧ a.length = k := ⟨q.take k, q.drop (k + 1), by
    have hk := (List.getElem?_eq_some_iff.1 h)
    obtain ⟨hk, e⟩ := hk
    rw [← e, List.getElem_cons_drop, List.take_append_drop], by have := (List.getElem?_eq_some_iff.1 h).1; simp; omega⟩
  rw [List.eraseIdx_append_of_length_le (Nat.le_refl _), Nat.sub_self, List.eraseIdx_cons_zero, owed_app, owed_app, owed_cons]; omega
theorem midsOf_len (s : Sender) (m : Queued) : (midsOf s m).length = s.mids.length := by
  unfold midsOf; split
  · exact setAt_len _ _ _
  · rfl
theorem had_len (sc : Sched) (m : Queued) (n : Int) (o : Bool) : (Sch.had sc m n o).had.length = sc.had.length := by
  unfold Sch.had
  dsimp only
  split <;> simp
def cutS (s : Sender) (k : Nat) (m : Queued) : Sender :=
  { s with mids := midsOf s m, sched := Sch.had s.sched { m with mid := midOf s m } (many s m) (decide (m.sent + many s m = m.message.data.length)), out := s.out ++ [⟨s.next, m.id, 0, 0, 0, 0, m.came, m.message.life, m.message.tries, cut s m (many s m)⟩], next := W (s.next + 1), queue := if decide (m.sent + many s m = m.message.data.length) then s.queue.eraseIdx k else s.queue.set k { m with mid := midOf s m, sent := m.sent + many s m, parts := W (m.parts + 1) } }
theorem next1_cut (s : Sender) (o : List (List Chunk)) (k : Nat) (m : Queued) : next1 ⟨s, o⟩ k m (many s m) = fly ⟨cutS s k m, o⟩ s.out.length (choose s) := rfl
theorem cut_si (h : SI N s) {k : Nat} {m : Queued} (hm : s.queue[k]? = some m) : SI N (cutS s k m) := by
  have hw := wrg_zero h.cfg
  have q := h.queue m (List.mem_of_getElem? hm)
  have hfew := q.few (by omega)
  have hN := h.few
  have hnl := h.nextle
  have hcum := h.cum
  have hnx := h.next
  have hp := h.npaths
  have q1 := q.parts
  have q2 := q.sent
  have q3 := q.left
  have q4 := q.len2
  have q5 : 0 ≤ m.parts * s.config.part := Int.mul_nonneg q1 (by omega)
  obtain ⟨n1, n2, n3⟩ := many_is (s := s) (m := m) (by omega) (by omega) (by omega) q3 (by omega)
  have n4 : many s m ≤ s.config.part := by unfold many; split <;> omega
  have hW : W (s.next + 1) = s.next + 1 := W_fit (by omega) (by omega)
  have hWp : W (m.parts + 1) = m.parts + 1 := W_fit (by omega) (by omega)
  refine ⟨h.cfg, fun j y hy => ?_, ?_, h.cum, ?_, h.npaths, ?_, ?_, ?_, fun y hy => ?_, fun y hy => ?_, fun j p hp => ?_, h.many, h.few⟩
  · have hy : (s.out ++ [_])[j]? = some y := hy
    rcases Nat.lt_or_ge j s.out.length with hj | hj
    · rw [List.getElem?_append_left hj] at hy; exact h.nums j y hy
    · rw [List.getElem?_append_right hj] at hy
      have e : j - s.out.length = 0 := by
        rcases Nat.eq_zero_or_pos (j - s.out.length) with h | h
        · exact h
        · rw [List.getElem?_eq_none (by simp; omega)] at hy; cases hy
      rw [e] at hy
      cases hy
      show s.next = s.cum + 1 + j
      omega
  · show W (s.next + 1) = s.cum + 1 + ((s.out ++ [_]).length : Int)
    rw [hW, List.length_append, List.length_singleton]; push_cast; omega
  · have := h.owes
    show W (s.next + 1) + owed (if decide (m.sent + many s m = m.message.data.length) then s.queue.eraseIdx k else s.queue.set k { m with mid := midOf s m, sent := m.sent + many s m, parts := W (m.parts + 1) }) ≤ s.config.first + 61 * (s.fates.length : Int)
    rw [hW]
    split
    · rw [owed_erase hm]; omega
    · rw [owed_set hm]; dsimp only; rw [hWp]; omega
  · show ((Sch.had s.sched _ _ _).had.length : Int) = _
    rw [had_len]; exact h.nhad
  · show ((midsOf s m).length : Int) = _
    rw [midsOf_len]; exact h.nmids
  · show ((if decide (m.sent + many s m = m.message.data.length) then s.queue.eraseIdx k else s.queue.set k { m with mid := midOf s m, sent := m.sent + many s m, parts := W (m.parts + 1) }).length : Int) ≤ s.config.waiting
    have := h.waits
    split
    · rw [List.length_eraseIdx]; split <;> omega
    · rw [List.length_set]; exact this
  · have hy : y ∈ (if decide (m.sent + many s m = m.message.data.length) then s.queue.eraseIdx k else s.queue.set k { m with mid := midOf s m, sent := m.sent + many s m, parts := W (m.parts + 1) }) := hy
    show QI s.config s.fates y
    split at hy
    · exact h.queue y (List.mem_of_mem_eraseIdx hy)
    · rename_i c
      have c : m.sent + many s m ≠ m.message.data.length := by simpa using c
      rcases List.mem_or_eq_of_mem_set hy with hy | rfl
      · exact h.queue y hy
      · have e : many s m = s.config.part := by
          unfold many at c ⊢
          split at c
          · omega
          · rename_i c2; rw [if_neg c2]
        refine ⟨q.id0, q.id1, q.fate, q.st0, q.st1, q.len1, q.len2, ?_, ?_, ?_⟩
        · show 0 ≤ W (m.parts + 1); omega
        · show m.sent + many s m = W (m.parts + 1) * s.config.part
          rw [hWp, e, q2, Int.add_mul, Int.one_mul]
        · show m.sent + many s m < m.message.data.length; omega
  · have hy : y ∈ s.out ++ [_] := hy
    rcases List.mem_append.1 hy with hy | hy
    · exact h.out y hy
    · rw [List.mem_singleton] at hy; subst hy
      refine ⟨Int.le_refl _, by show (0 : Int) < s.paths.length; omega, q.id0, q.id1, rfl, rfl, ?_⟩
      show ((m.message.data.drop m.sent.toNat).take (many s m).toNat).length ≤ 16
      rw [List.length_take]; omega
  · show p.flight = (Sco.fl j (s.out ++ [_]) : Nat)
    rw [Sco.fl_app, h.flight j p hp, Sco.fl_one, if_neg (by rintro ⟨h, -⟩; cases h)]; rfl
theorem next_si {p q : Pump} (h : SI N p.s) (hq : next p = some q) : SI N q.s := by
  obtain ⟨s, o⟩ := p
  unfold next at hq
  dsimp only at hq h
  split at hq
  · cases hq
  rename_i c
  cases hm : s.queue[(turnOf s).toNat]? with
  | none => rw [hm] at hq; cases hq
  | some m =>
    rw [hm] at hq
    dsimp only at hq
    split at hq
    · cases hq
    · cases hq
      rw [next1_cut]
      have h2 := cut_si h hm
      exact fly_si (p := ⟨cutS s (turnOf s).toNat m, o⟩) h2 (x := ⟨s.next, m.id, 0, 0, 0, 0, m.came, m.message.life, m.message.tries, cut s m (many s m)⟩) (by show (s.out ++ [_])[s.out.length]? = _; simp) (by intro h; cases h) (choose_lt' h)
theorem nexts_si : ∀ (n : Nat) {p : Pump}, SI N p.s → SI N (nexts n p).s
  | 0, _, h => h
  | n + 1, p, h => by
    unfold nexts
    split
    · exact h
    · rename_i q hq; exact nexts_si n (next_si h hq)
theorem woken_si (h : SI N s) : SI N (woken s) := by
  refine h.side (by simp) fun i p hp => ?_
  rw [List.getElem?_map] at hp
  cases hq : s.paths[i]? with
  | none => rw [hq] at hp; cases hp
  | some q =>
    rw [hq] at hp
    cases hp
    rw [← h.flight i q hq]
    unfold wake
    split
    · rfl
    · split <;> rfl
theorem pump_si (h : SI N s) : SI N (pump s).1 := woken_si (nexts_si 61 (again_si (forward_si (expire_si h).1)))
theorem fl_late (i j : Nat) : ∀ l : List Sent, Sco.fl j (l.map (Sco.late i)) = if i = j then 0 else Sco.fl j l
  | [] => by simp [Sco.fl]
  | x :: l => by
    rw [List.map_cons, fl_cons, fl_late i j l, fl_cons (j : Int) x l, Sco.fl_one, Sco.fl_one]
    unfold Sco.late
    by_cases c : x.state = 1 ∧ x.path = i
    · rw [if_pos c, if_neg (by rintro ⟨h, -⟩; cases h)]
      by_cases e : i = j
      · rw [if_pos e, if_pos e]
      · rw [if_neg e, if_neg e, if_neg (by rintro ⟨-, h⟩; have := c.2; omega)]
    · rw [if_neg c]
      by_cases e : i = j
      · subst e; rw [if_pos rfl, if_pos rfl, if_neg c]
      · rw [if_neg e, if_neg e]
theorem late1_si (h : SI N s) (part : Int) (i : Nat) : SI N (late1 part s i) := by
  unfold late1
  split
  · exact h
  rename_i p hp
  split
  · exact h
  have hil := (List.getElem?_eq_some_iff.1 hp).1
  have h2 : SI N { s with out := s.out.map (Sco.late i), paths := s.paths.set i (Paths.late p part) } := by
    have e : ∀ x, (Sco.late i x).number = x.number ∧ (Sco.late i x).path = x.path ∧ (Sco.late i x).id = x.id ∧ (Sco.late i x).chunk = x.chunk := fun x => by unfold Sco.late; split <;> exact ⟨rfl, rfl, rfl, rfl⟩
    refine ⟨h.cfg, fun j y hy => ?_, ?_, h.cum, h.owes, ?_, h.nhad, h.nmids, h.waits, h.queue, fun y hy => ?_, fun j q hq => ?_, h.many, h.few⟩
    · have hy : (s.out.map (Sco.late i))[j]? = some y := hy
      rw [List.getElem?_map] at hy
      cases hz : s.out[j]? with
      | none => rw [hz] at hy; cases hy
      | some z => rw [hz] at hy; cases hy; rw [(e z).1]; exact h.nums j z hz
    · show s.next = s.cum + 1 + ((s.out.map (Sco.late i)).length : Int)
      rw [List.length_map]; exact h.next
    · show ((s.paths.set i _).length : Int) = _
      rw [List.length_set]; exact h.npaths
    · have hy : y ∈ s.out.map (Sco.late i) := hy
      obtain ⟨z, hz, rfl⟩ := List.mem_map.1 hy
      have q := h.out z hz
      obtain ⟨g1, g2, g3, g4⟩ := e z
      show XI (s.paths.set i _).length _ _
      rw [List.length_set]
      exact ⟨by rw [g2]; exact q.path0, by rw [g2]; exact q.path1, by rw [g3]; exact q.id0, by rw [g3]; exact q.id1, by rw [g4]; exact q.spans, by rw [g4]; exact q.skips, by rw [g4]; exact q.data⟩
    · have hq : (s.paths.set i (Paths.late p part))[j]? = some q := hq
      show q.flight = (Sco.fl j (s.out.map (Sco.late i)) : Nat)
      rw [fl_late]
      by_cases e : i = j
      · subst e
        rw [List.getElem?_set_self hil] at hq
        cases hq
        rw [if_pos rfl]; rfl
      · rw [List.getElem?_set_ne e] at hq
        rw [if_neg e]; exact h.flight j q hq
  dsimp only
  split
  · exact h2.side rfl h2.flight
  · exact h2
theorem lates_si (part : Int) : ∀ (L : List Nat) {s : Sender}, SI N s → SI N (L.foldl (late1 part) s)
  | [], _, h => h
  | i :: L, _, h => lates_si part L (late1_si h part i)
theorem tick_si (h : SI N s) : SI N (tick s) := lates_si _ _ (h.side rfl h.flight)
end
end Snd
end Go.HL
