/- The law SchedTells: the document's answer of whose turn it is. -/
import Derived.Test.YtciifagmpoagpaaKit
import Derived.Test.YtciifagmpoagpaaSched
namespace Go.HL
open Go.Proofs
namespace Sch
set_option maxHeartbeats 4000000
set_option maxRecDepth 100000
set_option linter.unusedSimpArgs false
/-- the first one of an order that waits -/
def pick (q : List Queued) : List Int → Int
  | [] => -1
  | k :: r => if first q k ≥ 0 then first q k else pick q r
theorem pick_skip {q : List Queued} : ∀ {H : List Int} {R : List Int}, (∀ h ∈ H, ¬ first q h ≥ 0) → pick q (H ++ R) = pick q R
  | [], R, _ => rfl
  | h :: H, R, hh => by
    rw [List.cons_append, pick, if_neg (hh h (by simp))]
    exact pick_skip fun x hx => hh x (by simp [hx])
theorem after_pick {q : List Queued} {last n : Int} (h1 : 0 ≤ last) (h2 : last < 2 ^ 41) : ∀ (j k : Nat), k + j < 2 ^ 41 → after q last n k j = pick q ((List.range' k j).map fun i : Nat => (last + 1 + (i : Int)).tmod n)
  | 0, k, _ => rfl
  | j + 1, k, hk => by
    rw [after, List.range'_succ, List.map_cons, pick, after_pick h1 h2 j (k + 1) (by omega), W_fit (z := last + 1) (by omega) (by omega), W_fit (by omega) (by omega)]
theorem rank_pick {q : List Queued} : ∀ (j k : Nat), rankFrom q k j = pick q ((List.range' k j).map fun i : Nat => (i : Int))
  | 0, k => rfl
  | j + 1, k => by rw [rankFrom, List.range'_succ, List.map_cons, pick, rank_pick j (k + 1)]
/-- the least one of those that are meant -/
def am (p : Nat → Bool) (had : List Int) (best : Int) (k : Nat) : List Int → Int
  | [] => best
  | n :: r => if p k = true ∧ (best < 0 ∨ n < had[best.toNat]?.getD 0) then am p had k (k + 1) r else am p had best (k + 1) r
theorem am_least {q : List Queued} {had : List Int} : ∀ (l : List Int) (best : Int) (k : Nat), leastFrom q had best k l = am (fun k => decide (first q k ≥ 0)) had best k l
  | [], _, _ => rfl
  | n :: r, best, k => by
    rw [leastFrom, am, am_least r, am_least r]
    simp only [decide_eq_true_eq]
def Arg (p : Nat → Bool) (had : List Int) (k : Nat) (b : Int) : Prop :=
  (b = -1 ∧ ∀ i : Nat, i < k → p i = false) ∨ ∃ m : Nat, b = m ∧ m < k ∧ p m = true ∧ ∀ i : Nat, i < k → p i = true → had[m]?.getD 0 ≤ had[i]?.getD 0 ∧ (i < m → had[m]?.getD 0 < had[i]?.getD 0)
theorem am_arg {p : Nat → Bool} {had : List Int} : ∀ (j k : Nat) (b : Int), k + j = had.length → Arg p had k b → Arg p had had.length (am p had b k (had.drop k))
  | 0, k, b, h, a => by
    rw [List.drop_eq_nil_of_le (by omega), am]
    rwa [show k = had.length by omega] at a
  | j + 1, k, b, h, a => by
    have hlt : k < had.length := by omega
    have hg : had[k]?.getD 0 = had[k] := by simp [hlt]
    rw [List.drop_eq_getElem_cons hlt, am]
    split
    · rename_i c
      refine am_arg j (k + 1) k (by omega) (.inr ⟨k, rfl, by omega, c.1, fun i hi hp => ?_⟩)
      rcases a with ⟨rfl, h1⟩ | ⟨m, rfl, h1, h2, h3⟩
      · have : i = k := by
          by_cases e : i = k
          · exact e
          · have := h1 i (by omega); rw [hp] at this; cases this
        subst this; exact ⟨Int.le_refl _, fun h => by omega⟩
      · rcases c.2 with c2 | c2
        · omega
        rw [Int.toNat_natCast] at c2
        by_cases e : i = k
        · subst e; exact ⟨Int.le_refl _, fun h => by omega⟩
        · have := h3 i (by omega) hp
          rw [hg]; omega
    · rename_i c
      refine am_arg j (k + 1) b (by omega) ?_
      rcases a with ⟨rfl, h1⟩ | ⟨m, rfl, h1, h2, h3⟩
      · refine .inl ⟨rfl, fun i hi => ?_⟩
        by_cases e : i = k
        · subst e
          cases hp : p i with
          | false => rfl
          | true => exact absurd ⟨hp, .inl (by decide)⟩ c
        · exact h1 i (by omega)
      · refine .inr ⟨m, rfl, by omega, h2, fun i hi hp => ?_⟩
        by_cases e : i = k
        · subst e
          have : ¬ had[i] < had[m]?.getD 0 := fun h => c ⟨hp, .inr (by rw [Int.toNat_natCast]; exact h)⟩
          rw [hg]; omega
        · exact h3 i (by omega) hp
theorem arg_one {p : Nat → Bool} {had : List Int} {n : Nat} {b b' : Int} (h : Arg p had n b) (h' : Arg p had n b') : b = b' := by
  rcases h with ⟨rfl, h1⟩ | ⟨m, rfl, h1, h2, h3⟩ <;> rcases h' with ⟨rfl, h4⟩ | ⟨m', rfl, h4, h5, h6⟩
  · rfl
  · rw [h1 m' h4] at h5; cases h5
  · rw [h4 m h1] at h2; cases h2
  · have h7 := h3 m' h4 h5
    have h8 := h6 m h1 h2
    by_cases e : m = m'
    · rw [e]
    · rcases Nat.lt_or_gt_of_ne e with e | e
      · have := h8.2 e; omega
      · have := h7.2 e; omega
/-- the order by what each has had -/
def nextO (had : List Int) (H : List Int) : Int := am (fun k => decide ((k : Int) ∉ H)) had (-1) 0 had
def fairO (had : List Int) : Nat → List Int → List Int
  | 0, H => H
  | j + 1, H => fairO had j (H ++ [nextO had H])
theorem fairO_pre {had : List Int} : ∀ (j : Nat) (H : List Int), ∃ R, fairO had j H = H ++ R
  | 0, H => ⟨[], by simp [fairO]⟩
  | j + 1, H => by
    obtain ⟨R, h⟩ := fairO_pre (had := had) j (H ++ [nextO had H])
    exact ⟨nextO had H :: R, by rw [fairO, h]; simp⟩
theorem fairO_len {had : List Int} : ∀ (j : Nat) (H : List Int), (fairO had j H).length = H.length + j
  | 0, H => rfl
  | j + 1, H => by rw [fairO, fairO_len j]; simp; omega
theorem all_len : ∀ (n : Nat) (H : List Int), (∀ i : Nat, i < n → (i : Int) ∈ H) → n ≤ H.length
  | 0, _, _ => Nat.zero_le _
  | n + 1, H, h => by
    have h1 := all_len n (H.erase (n : Int)) fun i hi => (List.mem_erase_of_ne (by omega)).2 (h i (by omega))
    have h2 : (n : Int) ∈ H := h n (by omega)
    rw [List.length_erase_of_mem h2] at h1
    have := List.length_pos_of_mem h2
    omega
theorem nextO_arg (had H : List Int) : Arg (fun k => decide ((k : Int) ∉ H)) had had.length (nextO had H) := by
  have := am_arg (p := fun k => decide ((k : Int) ∉ H)) (had := had) had.length 0 (-1) (by omega) (.inl ⟨rfl, fun i hi => by omega⟩)
  exact this
theorem fair_pick {s : Sched} {q : List Queued} : ∀ (j : Nat) (H : List Int), H.length + j = s.had.length → ((List.range s.had.length).filter fun i : Nat => decide ((i : Int) ∉ H)).length ≤ j → (∀ h ∈ H, ¬ first q h ≥ 0) →
    pick q (fairO s.had j H) = least s q
  | 0, H, h1, h2, h3 => by
    have hall : ∀ i : Nat, i < s.had.length → (i : Int) ∈ H := fun i hi => by
      have h4 : (List.range s.had.length).filter (fun i : Nat => decide ((i : Int) ∉ H)) = [] := List.eq_nil_of_length_eq_zero (by omega)
      rw [List.filter_eq_nil_iff] at h4
      simpa using h4 i (by simpa using hi)
    have ha : Arg (fun k => decide (first q k ≥ 0)) s.had s.had.length (-1) := .inl ⟨rfl, fun i hi => by simpa using h3 _ (hall i hi)⟩
    have hl := am_arg (p := fun k => decide (first q k ≥ 0)) (had := s.had) s.had.length 0 (-1) (by omega) (.inl ⟨rfl, fun i hi => by omega⟩)
    have he := arg_one ha hl
    have h5 := pick_skip (R := []) h3
    rw [List.append_nil] at h5
    rw [fairO, h5, pick, least, am_least]
    show _ = if am _ s.had (-1) 0 s.had < 0 then _ else _
    rw [show am (fun k => decide (first q k ≥ 0)) s.had (-1) 0 s.had = -1 from he.symm, if_pos (by decide)]
  | j + 1, H, h1, h2, h3 => by
    rw [fairO]
    have hn := nextO_arg s.had H
    generalize nextO s.had H = b at hn ⊢
    have hn' := hn
    rcases hn' with ⟨rfl, g1⟩ | ⟨m, rfl, g1, g2, g3⟩
    · have := all_len s.had.length H fun i hi => by simpa using g1 i hi
      omega
    by_cases c : first q m ≥ 0
    · have ha : Arg (fun k => decide (first q k ≥ 0)) s.had s.had.length m := .inr ⟨m, rfl, g1, by simpa using c, fun i hi hp => g3 i hi (by
        have hp : first q i ≥ 0 := by simpa using hp
        have : (i : Int) ∉ H := fun hc => h3 _ hc hp
        simpa using this)⟩
      have hl := am_arg (p := fun k => decide (first q k ≥ 0)) (had := s.had) s.had.length 0 (-1) (by omega) (.inl ⟨rfl, fun i hi => by omega⟩)
      have he := arg_one ha hl
      obtain ⟨R, hR⟩ := fairO_pre (had := s.had) j (H ++ [(m : Int)])
      rw [hR, List.append_assoc, pick_skip h3]
      show (if first q m ≥ 0 then first q m else _) = _
      rw [if_pos c, least, am_least]
      show _ = if am _ s.had (-1) 0 s.had < 0 then _ else first q (am _ s.had (-1) 0 s.had)
      rw [show am (fun k => decide (first q k ≥ 0)) s.had (-1) 0 s.had = m from he.symm, if_neg (by omega)]
    · have g2 : (m : Int) ∉ H := by simpa using g2
      refine fair_pick j (H ++ [(m : Int)]) (by simp; omega) ?_ fun h hh => ?_
      · have e : (List.range s.had.length).filter (fun i : Nat => decide ((i : Int) ∉ H ++ [(m : Int)])) = ((List.range s.had.length).filter fun i : Nat => decide ((i : Int) ∉ H)).filter fun i : Nat => decide (i ≠ m) := by
          rw [List.filter_filter]
          refine List.filter_congr fun i _ => ?_
          by_cases e1 : i = m <;> by_cases e2 : (i : Int) ∈ H <;> simp [e1, e2] <;> omega
        rw [e]
        have := (List.length_filter_lt_length_iff_exists (p := fun i : Nat => decide (i ≠ m)) (l := (List.range s.had.length).filter fun i : Nat => decide ((i : Int) ∉ H))).2 ⟨m, by simp [g1, g2], by simp⟩
        omega
      · rcases List.mem_append.1 hh with hh | hh
        · exact h3 h hh
        · rw [List.mem_singleton] at hh; subst hh; exact c
/-- the keys of a map that were put in -/
def mark (H : List Int) (b : Int) : List Int := if b ∈ H then H else H ++ [b]
def keys (O : List Int) : List Int := O.foldl mark []
theorem keys_snoc (O : List Int) (b : Int) : keys (O ++ [b]) = mark (keys O) b := by simp [keys]
theorem mem_mark {H : List Int} {b x : Int} : x ∈ mark H b ↔ x ∈ H ∨ x = b := by
  unfold mark
  split
  · rename_i h
    exact ⟨.inl, fun h' => h'.elim id fun e => e ▸ h⟩
  · simp
theorem mem_fold : ∀ (O : List Int) (H : List Int) (x : Int), x ∈ O.foldl mark H ↔ x ∈ H ∨ x ∈ O
  | [], H, x => by simp
  | b :: O, H, x => by rw [List.foldl_cons, mem_fold O, mem_mark, List.mem_cons, or_assoc]
theorem mem_keys {O : List Int} {x : Int} : x ∈ keys O ↔ x ∈ O := by rw [keys, mem_fold]; simp
def ent (n : Int) : Value × List PV := (.int .i64 n, [pb true])
theorem find_ent (b : Int) : ∀ H : List Int, findV (H.map ent) (.int .i64 b) = if b ∈ H then some [pb true] else none
  | [] => rfl
  | x :: H => by
    rw [List.map_cons, ent, findV, find_ent b H]
    by_cases e : b = x
    · subst e; simp [keyEq]
    · have : keyEq (.int .i64 b) (.int .i64 x) = false := by simpa [keyEq] using e
      rw [this]
      simp [e]
theorem put_ent (b : Int) : ∀ H : List Int, putV (H.map ent) (.int .i64 b) [pb true] = (mark H b).map ent
  | [] => rfl
  | x :: H => by
    rw [List.map_cons, show ent x = (.int .i64 x, [pb true]) from rfl, putV, put_ent b H]
    by_cases e : b = x
    · subst e; simp [keyEq, mark, ent]
    · have : keyEq (.int .i64 b) (.int .i64 x) = false := by simpa [keyEq] using e
      rw [this]
      unfold mark
      by_cases e2 : b ∈ H
      · simp [e, e2, ent]
      · simp [e, e2, ent]
theorem spec_waits (q : List Queued) (stream : Int) (hb : q.length < 2 ^ 62) : FunOK Try.prog 21 [qs q, i64 stream] noHeap (i64 (first q stream)) noHeap := by
  refine funOK_pure mixed Try.func21 (by decide) ?_
  conv => whnf
  refine ⟨{ k : Nat // k ≤ q.length ∧ idxFrom (fun m : Queued => m.message.stream == stream) k (q.drop k) = first q stream }, fun | ⟨k, _⟩ => hs 21 [(1, i64 stream), (7, qs q), (8, i64 q.length), (9, i64 k)] [], fun k => q.length - k.1, ⟨0, by simp [first]⟩, ?_, ?_⟩
  · exact (hle_hs [] rfl rfl rfl rfl (by repeat' (first | exact trivial | exact rfl | (refine ⟨⟨rfl, ?_⟩, ?_⟩) | (refine ⟨rfl, ?_⟩) | (simp; done) | (simp; rfl))) (by repeat' (first | exact trivial | exact rfl | exact .inl rfl | exact .inr rfl | (refine ⟨⟨rfl, .inl ⟨_, rfl, ?_⟩⟩, ?_⟩) | (refine ⟨⟨rfl, _, rfl, ?_⟩, ?_⟩) | (refine ⟨⟨rfl, .inr ⟨rfl, ?_⟩⟩, ?_⟩) | (refine ⟨rfl, ?_⟩) | (simp; done) | (simp; rfl))))
  rintro ⟨k, hk, hi⟩
  conv => whnf
  by_cases c : k < q.length
  · rw [List.drop_eq_getElem_cons c] at hi
    simp only [idxFrom] at hi
    ((refine hif_true ?_ ?_; (· (first | rfl | assumption | omega | (simp only [gt_iff_lt, ge_iff_le, decide_eq_true_eq, decide_eq_false_iff_not, beq_iff_eq, bne_iff_ne, ne_eq, beq_eq_false_iff_ne, bne_eq_false_iff_eq, List.length_map, List.length_append, List.length_cons, List.length_nil, List.length_take, List.length_drop, Bool.not_eq_true', Bool.not_eq_false', Bool.not_eq_true, Bool.not_eq_false, Decidable.not_not, Nat.cast_ofNat, Int.natCast_add] <;> omega) | (simp <;> omega))); conv => whnf); try (refine hcut.go ?_; conv => whnf))
    refine hrow_at k rfl c ?_; conv => whnf
    refine hif_intro (fun h => ?_) (fun h => ?_)
    · conv => whnf
      rw [if_pos h] at hi
      rw [← hi]
    · conv => whnf
      rw [if_neg (by rw [h]; decide)] at hi
      ((refine hwrap_fit (W_fit ?_ ?_) ?_; (· (first | omega | (simp only [List.length_map, List.length_append, List.length_take, List.length_drop, List.length_cons, List.length_nil] <;> omega) | (simp <;> omega))); (· (first | omega | (simp only [List.length_map, List.length_append, List.length_take, List.length_drop, List.length_cons, List.length_nil] <;> omega) | (simp <;> omega))); conv => whnf); try (refine hcut.go ?_; conv => whnf))
      exact ⟨⟨k + 1, c, hi⟩, (hle_hs [] rfl rfl rfl rfl (by repeat' (first | exact trivial | exact rfl | (refine ⟨⟨rfl, ?_⟩, ?_⟩) | (refine ⟨rfl, ?_⟩) | (simp; done) | (simp; rfl))) (by repeat' (first | exact trivial | exact rfl | exact .inl rfl | exact .inr rfl | (refine ⟨⟨rfl, .inl ⟨_, rfl, ?_⟩⟩, ?_⟩) | (refine ⟨⟨rfl, _, rfl, ?_⟩, ?_⟩) | (refine ⟨⟨rfl, .inr ⟨rfl, ?_⟩⟩, ?_⟩) | (refine ⟨rfl, ?_⟩) | (simp; done) | (simp; rfl)))), by dsimp only; omega⟩
  · rw [List.drop_eq_nil_of_le (by omega)] at hi
    ((refine hif_false ?_ ?_; (· (first | rfl | assumption | omega | (simp only [gt_iff_lt, ge_iff_le, decide_eq_true_eq, decide_eq_false_iff_not, beq_iff_eq, bne_iff_ne, ne_eq, beq_eq_false_iff_ne, bne_eq_false_iff_eq, List.length_map, List.length_append, List.length_cons, List.length_nil, List.length_take, List.length_drop, Bool.not_eq_true', Bool.not_eq_false', Bool.not_eq_true, Bool.not_eq_false, Decidable.not_not, Nat.cast_ofNat, Int.natCast_add] <;> omega) | (simp <;> omega))); conv => whnf); try (refine hcut.go ?_; conv => whnf))
    rw [← hi]; rfl
theorem spec_sameSched (s : Sched) (hb : s.had.length < 2 ^ 62) : FunOK Try.prog 7 [s.hv, s.hv] noHeap (hbool true) noHeap := by
  refine funOK_pure mixed Try.func7 (by decide) ?_
  conv => whnf
  repeat' (refine hif_false ?_ ?_; · simp; done
           conv => whnf)
  repeat (refine hcut.go ?_; conv => whnf)
  refine ⟨{ k : Nat // k ≤ s.had.length }, fun | ⟨k, _⟩ => hs 45 [(2, .ptr 2 0), (3, .ptr 3 0), (29, i64 s.had.length), (30, i64 k)] [(2, .live (.cells 24 s.cells)), (3, .live (.cells 24 s.cells))], fun x => s.had.length - x.1, ⟨0, by omega⟩, ?_, ?_⟩
  · exact (hle_hs [(2, some 2), (3, some 3)] rfl rfl rfl rfl (by repeat' (first | exact trivial | exact rfl | (refine ⟨⟨rfl, ?_⟩, ?_⟩) | (refine ⟨rfl, ?_⟩) | (simp; done) | (simp; rfl))) (by repeat' (first | exact trivial | exact rfl | exact .inl rfl | exact .inr rfl | (refine ⟨⟨rfl, .inl ⟨_, rfl, ?_⟩⟩, ?_⟩) | (refine ⟨⟨rfl, _, rfl, ?_⟩, ?_⟩) | (refine ⟨⟨rfl, .inr ⟨rfl, ?_⟩⟩, ?_⟩) | (refine ⟨rfl, ?_⟩) | (simp; done) | (simp; rfl))))
  rintro ⟨k, hk⟩
  conv => whnf
  by_cases c : k < s.had.length
  · ((refine hif_true ?_ ?_; (· (first | rfl | assumption | omega | (simp only [gt_iff_lt, ge_iff_le, decide_eq_true_eq, decide_eq_false_iff_not, beq_iff_eq, bne_iff_ne, ne_eq, beq_eq_false_iff_ne, bne_eq_false_iff_eq, List.length_map, List.length_append, List.length_cons, List.length_nil, List.length_take, List.length_drop, Bool.not_eq_true', Bool.not_eq_false', Bool.not_eq_true, Bool.not_eq_false, Decidable.not_not, Nat.cast_ofNat, Int.natCast_add] <;> omega) | (simp <;> omega))); conv => whnf); try (refine hcut.go ?_; conv => whnf))
    refine hrow_at k rfl c ?_; conv => whnf
    refine hrow_at k rfl c ?_; conv => whnf
    ((refine hdraw_intro ?_ ?_; (· kernel_rfl); conv => whnf); try (refine hcut.go ?_; conv => whnf))
    refine hif_false (by simp) ?_; conv => whnf
    (try (refine hcut.go ?_; conv => whnf))
    ((refine hwrap_fit (W_fit ?_ ?_) ?_; (· (first | omega | (simp only [List.length_map, List.length_append, List.length_take, List.length_drop, List.length_cons, List.length_nil] <;> omega) | (simp <;> omega))); (· (first | omega | (simp only [List.length_map, List.length_append, List.length_take, List.length_drop, List.length_cons, List.length_nil] <;> omega) | (simp <;> omega))); conv => whnf); try (refine hcut.go ?_; conv => whnf))
    exact ⟨⟨k + 1, c⟩, (hle_hs [(2, some 2), (3, some 3)] rfl rfl rfl rfl (by repeat' (first | exact trivial | exact rfl | (refine ⟨⟨rfl, ?_⟩, ?_⟩) | (refine ⟨rfl, ?_⟩) | (simp; done) | (simp; rfl))) (by repeat' (first | exact trivial | exact rfl | exact .inl rfl | exact .inr rfl | (refine ⟨⟨rfl, .inl ⟨_, rfl, ?_⟩⟩, ?_⟩) | (refine ⟨⟨rfl, _, rfl, ?_⟩, ?_⟩) | (refine ⟨⟨rfl, .inr ⟨rfl, ?_⟩⟩, ?_⟩) | (refine ⟨rfl, ?_⟩) | (simp; done) | (simp; rfl)))), by dsimp only; omega⟩
  · ((refine hif_false ?_ ?_; (· (first | rfl | assumption | omega | (simp only [gt_iff_lt, ge_iff_le, decide_eq_true_eq, decide_eq_false_iff_not, beq_iff_eq, bne_iff_ne, ne_eq, beq_eq_false_iff_ne, bne_eq_false_iff_eq, List.length_map, List.length_append, List.length_cons, List.length_nil, List.length_take, List.length_drop, Bool.not_eq_true', Bool.not_eq_false', Bool.not_eq_true, Bool.not_eq_false, Decidable.not_not, Nat.cast_ofNat, Int.natCast_add] <;> omega) | (simp <;> omega))); conv => whnf); try (refine hcut.go ?_; conv => whnf))
theorem had_at (s : Sched) (m : Queued) (bytes : Int) (over : Bool) : (s.had.mapIdx fun k n => if (k : Int) = m.message.stream then W (n + bytes) else n) = (had s m bytes over).had := by
  unfold had
  dsimp only
  apply List.ext_getElem
  · split <;> simp
  · intro i h1 h2
    have hi : i < s.had.length := by simpa using h1
    rw [List.getElem_mapIdx]
    split
    · rename_i e
      have hm : 0 ≤ m.message.stream ∧ m.message.stream < s.had.length := by omega
      simp only [if_pos hm]
      rw [List.getElem_set]
      rw [if_pos (by omega), show m.message.stream.toNat = i by omega]
      simp [hi]
    · rename_i e
      by_cases hm : 0 ≤ m.message.stream ∧ m.message.stream < s.had.length
      · simp only [if_pos hm]
        rw [List.getElem_set, if_neg (by omega)]
      · simp only [if_neg hm]
abbrev rowI (l : List Int) : HSlot := .live (.row 3 1 (l.map fun n => [pi n]))
theorem spec_rhad (s : Sched) (m : Queued) (bytes : Int) (over : Bool) (hb : s.had.length < 2 ^ 40) : FunOK Try.prog 9 [s.hv, m.hv, i64 bytes, hbool over] noHeap (had s m bytes over).hv noHeap := by
  refine funOK_pure mixed Try.func9 (by decide) ?_
  have hf := had_at s m bytes over
  generalize hT : had s m bytes over = T at hf
  have h1 : T.last = m.message.stream := by rw [← hT]; rfl
  have h2 : T.hand = if over then -1 else m.id := by rw [← hT]; rfl
  obtain ⟨a1, a2, a3⟩ := T
  dsimp only at h1 h2 hf
  subst h1
  rw [← hf, h2]
  clear hT hf h2
  cases over
  all_goals
    conv => whnf
    repeat (refine hcut.go ?_; conv => whnf)
  · refine ⟨{ x : List Int × List Int // s.had = x.1 ++ x.2 }, fun | ⟨(a, b), _⟩ => hs 44 [(2, i64 bytes), (5, .ptr 5 0), (8, .ptr 8 0), (9, .ptr 9 0), (21, ints s.had), (22, i64 s.had.length), (23, i64 a.length)] [(5, .live (.cells 30 m.cells)), (8, .live (.cells 24 [i64 0, i64 0, hnil])), (9, .live (.cells 24 [i64 m.message.stream, i64 m.id, .own 900])), (900, rowI (a.mapIdx fun k n => if (k : Int) = m.message.stream then W (n + bytes) else n))], fun x => x.1.2.length, ⟨([], s.had), rfl⟩, ?_, ?_⟩
    · exact (hle_hs [(5, some 5), (8, some 8), (9, some 9), (900, none)] rfl rfl rfl rfl (by repeat' (first | exact trivial | exact rfl | (refine ⟨⟨rfl, ?_⟩, ?_⟩) | (refine ⟨rfl, ?_⟩) | (simp; done) | (simp; rfl))) (by repeat' (first | exact trivial | exact rfl | exact .inl rfl | exact .inr rfl | (refine ⟨⟨rfl, .inl ⟨_, rfl, ?_⟩⟩, ?_⟩) | (refine ⟨⟨rfl, _, rfl, ?_⟩, ?_⟩) | (refine ⟨⟨rfl, .inr ⟨rfl, ?_⟩⟩, ?_⟩) | (refine ⟨rfl, ?_⟩) | (simp; done) | (simp; rfl))))
    rintro ⟨⟨a, b⟩, h⟩
    dsimp only at h
    cases b with
    | cons n b =>
      have hz := zip_cons h
      have hsn : (a ++ [n]).mapIdx (fun k n => if (k : Int) = m.message.stream then W (n + bytes) else n) = (a.mapIdx fun k n => if (k : Int) = m.message.stream then W (n + bytes) else n) ++ [if (a.length : Int) = m.message.stream then W (n + bytes) else n] := by rw [List.mapIdx_concat]
      conv => whnf
      ((refine hif_true ?_ ?_; (· (first | rfl | assumption | omega | (simp only [gt_iff_lt, ge_iff_le, decide_eq_true_eq, decide_eq_false_iff_not, beq_iff_eq, bne_iff_ne, ne_eq, beq_eq_false_iff_ne, bne_eq_false_iff_eq, List.length_map, List.length_append, List.length_cons, List.length_nil, List.length_take, List.length_drop, Bool.not_eq_true', Bool.not_eq_false', Bool.not_eq_true, Bool.not_eq_false, Decidable.not_not, Nat.cast_ofNat, Int.natCast_add] <;> omega) | (simp <;> omega))); conv => whnf); try (refine hcut.go ?_; conv => whnf))
      refine hrow_mid h rfl ?_; conv => whnf
      repeat (refine hcut.go ?_; conv => whnf)
      by_cases c : (a.length : Int) = m.message.stream
      · rw [if_pos c] at hsn
        refine hif_true (by simpa using c) ?_; conv => whnf
        (try (refine hcut.go ?_; conv => whnf))
        refine hwrap_raw ?_; conv => whnf
        (try (refine hcut.go ?_; conv => whnf))
        refine hobl_intro (c := (((a.mapIdx fun k n => if (k : Int) = m.message.stream then W (n + bytes) else n).map fun n => [pi n]).length + 1) * 8 ≤ 140737488355328) (by simp; omega) ?_; conv => whnf
        (try (refine hcut.go ?_; conv => whnf))
        ((refine hwrap_fit (W_fit ?_ ?_) ?_; (· (first | omega | (simp only [List.length_map, List.length_append, List.length_take, List.length_drop, List.length_cons, List.length_nil] <;> omega) | (simp <;> omega))); (· (first | omega | (simp only [List.length_map, List.length_append, List.length_take, List.length_drop, List.length_cons, List.length_nil] <;> omega) | (simp <;> omega))); conv => whnf); try (refine hcut.go ?_; conv => whnf))
        exact ⟨⟨(a ++ [n], b), zip_next h⟩, (hle_hs [(5, some 5), (8, some 8), (9, some 9), (900, some 40)] rfl rfl rfl rfl (by repeat' (first | exact trivial | exact rfl | (refine ⟨⟨rfl, ?_⟩, ?_⟩) | (refine ⟨rfl, ?_⟩) | ((exact row_app (f := fun n => [pi n]) hsn rfl)) | (simp; done) | (simp; rfl))) (by repeat' (first | exact trivial | exact rfl | exact .inl rfl | exact .inr rfl | (refine ⟨⟨rfl, .inl ⟨_, rfl, ?_⟩⟩, ?_⟩) | (refine ⟨⟨rfl, _, rfl, ?_⟩, ?_⟩) | (refine ⟨⟨rfl, .inr ⟨rfl, ?_⟩⟩, ?_⟩) | (refine ⟨rfl, ?_⟩) | ((exact row_app (f := fun n => [pi n]) hsn rfl)) | (simp; done) | (simp; rfl)))), by simp⟩
      · rw [if_neg c] at hsn
        refine hif_false (by simpa using c) ?_; conv => whnf
        (try (refine hcut.go ?_; conv => whnf))
        refine hobl_intro (c := (((a.mapIdx fun k n => if (k : Int) = m.message.stream then W (n + bytes) else n).map fun n => [pi n]).length + 1) * 8 ≤ 140737488355328) (by simp; omega) ?_; conv => whnf
        (try (refine hcut.go ?_; conv => whnf))
        ((refine hwrap_fit (W_fit ?_ ?_) ?_; (· (first | omega | (simp only [List.length_map, List.length_append, List.length_take, List.length_drop, List.length_cons, List.length_nil] <;> omega) | (simp <;> omega))); (· (first | omega | (simp only [List.length_map, List.length_append, List.length_take, List.length_drop, List.length_cons, List.length_nil] <;> omega) | (simp <;> omega))); conv => whnf); try (refine hcut.go ?_; conv => whnf))
        exact ⟨⟨(a ++ [n], b), zip_next h⟩, (hle_hs [(5, some 5), (8, some 8), (9, some 9), (900, some 40)] rfl rfl rfl rfl (by repeat' (first | exact trivial | exact rfl | (refine ⟨⟨rfl, ?_⟩, ?_⟩) | (refine ⟨rfl, ?_⟩) | ((exact row_app (f := fun n => [pi n]) hsn rfl)) | (simp; done) | (simp; rfl))) (by repeat' (first | exact trivial | exact rfl | exact .inl rfl | exact .inr rfl | (refine ⟨⟨rfl, .inl ⟨_, rfl, ?_⟩⟩, ?_⟩) | (refine ⟨⟨rfl, _, rfl, ?_⟩, ?_⟩) | (refine ⟨⟨rfl, .inr ⟨rfl, ?_⟩⟩, ?_⟩) | (refine ⟨rfl, ?_⟩) | ((exact row_app (f := fun n => [pi n]) hsn rfl)) | (simp; done) | (simp; rfl)))), by simp⟩
    | nil =>
      have hz := zip_nil h
      rw [List.append_nil] at h
      conv => whnf
      ((refine hif_false ?_ ?_; (· (first | rfl | assumption | omega | (simp only [gt_iff_lt, ge_iff_le, decide_eq_true_eq, decide_eq_false_iff_not, beq_iff_eq, bne_iff_ne, ne_eq, beq_eq_false_iff_ne, bne_eq_false_iff_eq, List.length_map, List.length_append, List.length_cons, List.length_nil, List.length_take, List.length_drop, Bool.not_eq_true', Bool.not_eq_false', Bool.not_eq_true, Bool.not_eq_false, Decidable.not_not, Nat.cast_ofNat, Int.natCast_add] <;> omega) | (simp <;> omega))); conv => whnf); try (refine hcut.go ?_; conv => whnf))
      rw [h]
      try rfl
  · refine ⟨{ x : List Int × List Int // s.had = x.1 ++ x.2 }, fun | ⟨(a, b), _⟩ => hs 44 [(2, i64 bytes), (5, .ptr 5 0), (8, .ptr 8 0), (9, .ptr 9 0), (21, ints s.had), (22, i64 s.had.length), (23, i64 a.length)] [(5, .live (.cells 30 m.cells)), (8, .live (.cells 24 [i64 0, i64 0, hnil])), (9, .live (.cells 24 [i64 m.message.stream, i64 (-1), .own 900])), (900, rowI (a.mapIdx fun k n => if (k : Int) = m.message.stream then W (n + bytes) else n))], fun x => x.1.2.length, ⟨([], s.had), rfl⟩, ?_, ?_⟩
    · exact (hle_hs [(5, some 5), (8, some 8), (9, some 9), (900, none)] rfl rfl rfl rfl (by repeat' (first | exact trivial | exact rfl | (refine ⟨⟨rfl, ?_⟩, ?_⟩) | (refine ⟨rfl, ?_⟩) | (simp; done) | (simp; rfl))) (by repeat' (first | exact trivial | exact rfl | exact .inl rfl | exact .inr rfl | (refine ⟨⟨rfl, .inl ⟨_, rfl, ?_⟩⟩, ?_⟩) | (refine ⟨⟨rfl, _, rfl, ?_⟩, ?_⟩) | (refine ⟨⟨rfl, .inr ⟨rfl, ?_⟩⟩, ?_⟩) | (refine ⟨rfl, ?_⟩) | (simp; done) | (simp; rfl))))
    rintro ⟨⟨a, b⟩, h⟩
    dsimp only at h
    cases b with
    | cons n b =>
      have hz := zip_cons h
      have hsn : (a ++ [n]).mapIdx (fun k n => if (k : Int) = m.message.stream then W (n + bytes) else n) = (a.mapIdx fun k n => if (k : Int) = m.message.stream then W (n + bytes) else n) ++ [if (a.length : Int) = m.message.stream then W (n + bytes) else n] := by rw [List.mapIdx_concat]
      conv => whnf
      ((refine hif_true ?_ ?_; (· (first | rfl | assumption | omega | (simp only [gt_iff_lt, ge_iff_le, decide_eq_true_eq, decide_eq_false_iff_not, beq_iff_eq, bne_iff_ne, ne_eq, beq_eq_false_iff_ne, bne_eq_false_iff_eq, List.length_map, List.length_append, List.length_cons, List.length_nil, List.length_take, List.length_drop, Bool.not_eq_true', Bool.not_eq_false', Bool.not_eq_true, Bool.not_eq_false, Decidable.not_not, Nat.cast_ofNat, Int.natCast_add] <;> omega) | (simp <;> omega))); conv => whnf); try (refine hcut.go ?_; conv => whnf))
      refine hrow_mid h rfl ?_; conv => whnf
      repeat (refine hcut.go ?_; conv => whnf)
      by_cases c : (a.length : Int) = m.message.stream
      · rw [if_pos c] at hsn
        refine hif_true (by simpa using c) ?_; conv => whnf
        (try (refine hcut.go ?_; conv => whnf))
        refine hwrap_raw ?_; conv => whnf
        (try (refine hcut.go ?_; conv => whnf))
        refine hobl_intro (c := (((a.mapIdx fun k n => if (k : Int) = m.message.stream then W (n + bytes) else n).map fun n => [pi n]).length + 1) * 8 ≤ 140737488355328) (by simp; omega) ?_; conv => whnf
        (try (refine hcut.go ?_; conv => whnf))
        ((refine hwrap_fit (W_fit ?_ ?_) ?_; (· (first | omega | (simp only [List.length_map, List.length_append, List.length_take, List.length_drop, List.length_cons, List.length_nil] <;> omega) | (simp <;> omega))); (· (first | omega | (simp only [List.length_map, List.length_append, List.length_take, List.length_drop, List.length_cons, List.length_nil] <;> omega) | (simp <;> omega))); conv => whnf); try (refine hcut.go ?_; conv => whnf))
        exact ⟨⟨(a ++ [n], b), zip_next h⟩, (hle_hs [(5, some 5), (8, some 8), (9, some 9), (900, some 40)] rfl rfl rfl rfl (by repeat' (first | exact trivial | exact rfl | (refine ⟨⟨rfl, ?_⟩, ?_⟩) | (refine ⟨rfl, ?_⟩) | ((exact row_app (f := fun n => [pi n]) hsn rfl)) | (simp; done) | (simp; rfl))) (by repeat' (first | exact trivial | exact rfl | exact .inl rfl | exact .inr rfl | (refine ⟨⟨rfl, .inl ⟨_, rfl, ?_⟩⟩, ?_⟩) | (refine ⟨⟨rfl, _, rfl, ?_⟩, ?_⟩) | (refine ⟨⟨rfl, .inr ⟨rfl, ?_⟩⟩, ?_⟩) | (refine ⟨rfl, ?_⟩) | ((exact row_app (f := fun n => [pi n]) hsn rfl)) | (simp; done) | (simp; rfl)))), by simp⟩
      · rw [if_neg c] at hsn
        refine hif_false (by simpa using c) ?_; conv => whnf
        (try (refine hcut.go ?_; conv => whnf))
        refine hobl_intro (c := (((a.mapIdx fun k n => if (k : Int) = m.message.stream then W (n + bytes) else n).map fun n => [pi n]).length + 1) * 8 ≤ 140737488355328) (by simp; omega) ?_; conv => whnf
        (try (refine hcut.go ?_; conv => whnf))
        ((refine hwrap_fit (W_fit ?_ ?_) ?_; (· (first | omega | (simp only [List.length_map, List.length_append, List.length_take, List.length_drop, List.length_cons, List.length_nil] <;> omega) | (simp <;> omega))); (· (first | omega | (simp only [List.length_map, List.length_append, List.length_take, List.length_drop, List.length_cons, List.length_nil] <;> omega) | (simp <;> omega))); conv => whnf); try (refine hcut.go ?_; conv => whnf))
        exact ⟨⟨(a ++ [n], b), zip_next h⟩, (hle_hs [(5, some 5), (8, some 8), (9, some 9), (900, some 40)] rfl rfl rfl rfl (by repeat' (first | exact trivial | exact rfl | (refine ⟨⟨rfl, ?_⟩, ?_⟩) | (refine ⟨rfl, ?_⟩) | ((exact row_app (f := fun n => [pi n]) hsn rfl)) | (simp; done) | (simp; rfl))) (by repeat' (first | exact trivial | exact rfl | exact .inl rfl | exact .inr rfl | (refine ⟨⟨rfl, .inl ⟨_, rfl, ?_⟩⟩, ?_⟩) | (refine ⟨⟨rfl, _, rfl, ?_⟩, ?_⟩) | (refine ⟨⟨rfl, .inr ⟨rfl, ?_⟩⟩, ?_⟩) | (refine ⟨rfl, ?_⟩) | ((exact row_app (f := fun n => [pi n]) hsn rfl)) | (simp; done) | (simp; rfl)))), by simp⟩
    | nil =>
      have hz := zip_nil h
      rw [List.append_nil] at h
      conv => whnf
      ((refine hif_false ?_ ?_; (· (first | rfl | assumption | omega | (simp only [gt_iff_lt, ge_iff_le, decide_eq_true_eq, decide_eq_false_iff_not, beq_iff_eq, bne_iff_ne, ne_eq, beq_eq_false_iff_ne, bne_eq_false_iff_eq, List.length_map, List.length_append, List.length_cons, List.length_nil, List.length_take, List.length_drop, Bool.not_eq_true', Bool.not_eq_false', Bool.not_eq_true, Bool.not_eq_false, Decidable.not_not, Nat.cast_ofNat, Int.natCast_add] <;> omega) | (simp <;> omega))); conv => whnf); try (refine hcut.go ?_; conv => whnf))
      rw [h]
      try rfl
/-- an order is gone through -/
theorem spec_rnext (turns : Int) (s : Sched) (q : List Queued) (h9 : s.had.length < 2 ^ 36) (hb : q.length < 2 ^ 60) (hl : 0 < s.had.length → 0 ≤ s.last ∧ s.last < s.had.length) : FunOK Try.prog 6 [i64 turns, s.hv, qs q] noHeap (i64 (next turns s q)) noHeap := by
  refine funOK_pure mixed Try.func6 (by decide) ?_
  have hb : q.length < 2 ^ 62 := by omega
  have hl1 : (s.had.map fun n => [pi n]).length = s.had.length := by simp
  conv => whnf
  by_cases c1 : (q.length : Int) = 0
  · rw [next, if_pos c1]
    refine hif_true (by simpa using c1) ?_; conv => whnf
    repeat (refine hcut.go ?_; conv => whnf)
  rw [next, if_neg c1]
  refine hif_false (by simpa using c1) ?_; conv => whnf
  by_cases c2 : (s.had.length : Int) = 0
  · rw [if_pos c2]
    refine hif_true (by simpa using c2) ?_; conv => whnf
    repeat (refine hcut.go ?_; conv => whnf)
  rw [if_neg c2]
  obtain ⟨g1, g2⟩ := hl (by omega)
  have hafter := after_pick (q := q) (last := s.last) (n := s.had.length) g1 (by omega) s.had.length 0 (by omega)
  refine hif_false (by simpa using c2) ?_; conv => whnf
  repeat (refine hcut.go ?_; conv => whnf)
  by_cases c3 : turns = 2
  · subst c3
    rw [if_pos rfl]
    conv => whnf
    repeat (refine hcut.go ?_; conv => whnf)
    refine ⟨{ k : Nat // k ≤ q.length ∧ idxFrom (fun m : Queued => m.id == s.hand) k (q.drop k) = inHand s q }, fun | ⟨k, _⟩ => hs 127 [(0, i64 2), (2, qs q), (4, .ptr 4 0), (7, i64 s.had.length), (31, qs q), (32, i64 q.length), (33, i64 k)] [(4, .live (.cells 24 s.cells))], fun k => q.length - k.1, ⟨0, by simp [inHand]⟩, ?_, ?_⟩
    · exact (hle_hs [(4, some 4)] rfl rfl rfl rfl (by repeat' (first | exact trivial | exact rfl | (refine ⟨⟨rfl, ?_⟩, ?_⟩) | (refine ⟨rfl, ?_⟩) | (simp; done) | (simp; rfl))) (by repeat' (first | exact trivial | exact rfl | exact .inl rfl | exact .inr rfl | (refine ⟨⟨rfl, .inl ⟨_, rfl, ?_⟩⟩, ?_⟩) | (refine ⟨⟨rfl, _, rfl, ?_⟩, ?_⟩) | (refine ⟨⟨rfl, .inr ⟨rfl, ?_⟩⟩, ?_⟩) | (refine ⟨rfl, ?_⟩) | (simp; done) | (simp; rfl))))
    rintro ⟨k, hk, hi⟩
    refine hwp_gen fun Q hQ => ?_
    conv => whnf
    by_cases c : k < q.length
    · rw [List.drop_eq_getElem_cons c] at hi
      simp only [idxFrom] at hi
      ((refine hif_true ?_ ?_; (· (first | rfl | assumption | omega | (simp only [gt_iff_lt, ge_iff_le, decide_eq_true_eq, decide_eq_false_iff_not, beq_iff_eq, bne_iff_ne, ne_eq, beq_eq_false_iff_ne, bne_eq_false_iff_eq, List.length_map, List.length_append, List.length_cons, List.length_nil, List.length_take, List.length_drop, Bool.not_eq_true', Bool.not_eq_false', Bool.not_eq_true, Bool.not_eq_false, Decidable.not_not, Nat.cast_ofNat, Int.natCast_add] <;> omega) | (simp <;> omega))); conv => whnf); try (refine hcut.go ?_; conv => whnf))
      refine hrow_at k rfl c ?_; conv => whnf
      refine hif_intro (fun h => ?_) (fun h => ?_)
      · conv => whnf
        rw [if_pos h] at hi
        refine hQ _ _ ?_; conv => whnf
        rw [if_pos (show inHand s q ≥ 0 by rw [← hi]; omega), ← hi]
      · conv => whnf
        rw [if_neg (by rw [h]; decide)] at hi
        (try (refine hcut.go ?_; conv => whnf))
        ((refine hwrap_fit (W_fit ?_ ?_) ?_; (· (first | omega | (simp only [List.length_map, List.length_append, List.length_take, List.length_drop, List.length_cons, List.length_nil] <;> omega) | (simp <;> omega))); (· (first | omega | (simp only [List.length_map, List.length_append, List.length_take, List.length_drop, List.length_cons, List.length_nil] <;> omega) | (simp <;> omega))); conv => whnf); try (refine hcut.go ?_; conv => whnf))
        refine hQ _ _ ?_; conv => whnf
        exact ⟨⟨k + 1, c, hi⟩, (hle_hs [(4, some 4)] rfl rfl rfl rfl (by repeat' (first | exact trivial | exact rfl | (refine ⟨⟨rfl, ?_⟩, ?_⟩) | (refine ⟨rfl, ?_⟩) | (simp; done) | (simp; rfl))) (by repeat' (first | exact trivial | exact rfl | exact .inl rfl | exact .inr rfl | (refine ⟨⟨rfl, .inl ⟨_, rfl, ?_⟩⟩, ?_⟩) | (refine ⟨⟨rfl, _, rfl, ?_⟩, ?_⟩) | (refine ⟨⟨rfl, .inr ⟨rfl, ?_⟩⟩, ?_⟩) | (refine ⟨rfl, ?_⟩) | (simp; done) | (simp; rfl)))), by dsimp only; omega⟩
    · rw [List.drop_eq_nil_of_le (by omega)] at hi
      ((refine hif_false ?_ ?_; (· (first | rfl | assumption | omega | (simp only [gt_iff_lt, ge_iff_le, decide_eq_true_eq, decide_eq_false_iff_not, beq_iff_eq, bne_iff_ne, ne_eq, beq_eq_false_iff_ne, bne_eq_false_iff_eq, List.length_map, List.length_append, List.length_cons, List.length_nil, List.length_take, List.length_drop, Bool.not_eq_true', Bool.not_eq_false', Bool.not_eq_true, Bool.not_eq_false, Decidable.not_not, Nat.cast_ofNat, Int.natCast_add] <;> omega) | (simp <;> omega))); conv => whnf); try (refine hcut.go ?_; conv => whnf))
      refine hQ _ _ ?_; conv => whnf
      rw [if_neg (show ¬ inHand s q ≥ 0 by rw [← hi]; simp [idxFrom])]
      repeat (refine hcut.go ?_; conv => whnf)
      refine ⟨{ k : Nat // k ≤ s.had.length }, fun | ⟨k, _⟩ => hs 127 [(2, qs q), (4, .ptr 4 0), (7, i64 s.had.length), (10, .own 900), (11, i64 (k + 1))] [(4, .live (.cells 24 s.cells)), (900, rowI ((List.range' 0 k).map fun i : Nat => (s.last + 1 + (i : Int)).tmod s.had.length))], fun k => s.had.length - k.1, ⟨0, by omega⟩, ?_, ?_⟩
      · exact (hle_hs [(4, some 4), (900, none)] rfl rfl rfl rfl (by repeat' (first | exact trivial | exact rfl | (refine ⟨⟨rfl, ?_⟩, ?_⟩) | (refine ⟨rfl, ?_⟩) | (simp; done) | (simp; rfl))) (by repeat' (first | exact trivial | exact rfl | exact .inl rfl | exact .inr rfl | (refine ⟨⟨rfl, .inl ⟨_, rfl, ?_⟩⟩, ?_⟩) | (refine ⟨⟨rfl, _, rfl, ?_⟩, ?_⟩) | (refine ⟨⟨rfl, .inr ⟨rfl, ?_⟩⟩, ?_⟩) | (refine ⟨rfl, ?_⟩) | (simp; done) | (simp; rfl))))
      rintro ⟨k, hk⟩
      refine hwp_gen fun Q hQ => ?_
      conv => whnf
      by_cases c : k < s.had.length
      · ((refine hif_true ?_ ?_; (· (first | rfl | assumption | omega | (simp only [gt_iff_lt, ge_iff_le, decide_eq_true_eq, decide_eq_false_iff_not, beq_iff_eq, bne_iff_ne, ne_eq, beq_eq_false_iff_ne, bne_eq_false_iff_eq, List.length_map, List.length_append, List.length_cons, List.length_nil, List.length_take, List.length_drop, Bool.not_eq_true', Bool.not_eq_false', Bool.not_eq_true, Bool.not_eq_false, Decidable.not_not, Nat.cast_ofNat, Int.natCast_add] <;> omega) | (simp <;> omega))); conv => whnf); try (refine hcut.go ?_; conv => whnf))
        ((refine hwrap_fit (W_fit ?_ ?_) ?_; (· (first | omega | (simp only [List.length_map, List.length_append, List.length_take, List.length_drop, List.length_cons, List.length_nil] <;> omega) | (simp <;> omega))); (· (first | omega | (simp only [List.length_map, List.length_append, List.length_take, List.length_drop, List.length_cons, List.length_nil] <;> omega) | (simp <;> omega))); conv => whnf); try (refine hcut.go ?_; conv => whnf))
        ((refine hobl_intro ?_ ?_; (· (first | omega | (simp only [List.length_map, List.length_append, List.length_take, List.length_drop, List.length_cons, List.length_nil] <;> omega) | (simp <;> omega))); conv => whnf); try (refine hcut.go ?_; conv => whnf))
        refine hobl_intro (c := ((((List.range' 0 k).map fun i : Nat => (s.last + 1 + (i : Int)).tmod s.had.length).map fun n => [pi n]).length + 1) * 8 ≤ 140737488355328) (by simp; omega) ?_; conv => whnf
        (try (refine hcut.go ?_; conv => whnf))
        ((refine hwrap_fit (W_fit ?_ ?_) ?_; (· (first | omega | (simp only [List.length_map, List.length_append, List.length_take, List.length_drop, List.length_cons, List.length_nil] <;> omega) | (simp <;> omega))); (· (first | omega | (simp only [List.length_map, List.length_append, List.length_take, List.length_drop, List.length_cons, List.length_nil] <;> omega) | (simp <;> omega))); conv => whnf); try (refine hcut.go ?_; conv => whnf))
        refine hQ _ _ ?_; conv => whnf
        exact ⟨⟨k + 1, c⟩, (hle_hs [(4, some 4), (900, some 62)] rfl rfl rfl rfl (by repeat' (first | exact trivial | exact rfl | (refine ⟨⟨rfl, ?_⟩, ?_⟩) | (refine ⟨rfl, ?_⟩) | ((exact i64_eq (by (first | omega | (simp only [List.length_map, List.length_append, List.length_take, List.length_drop, List.length_cons, List.length_nil] <;> omega) | (simp <;> omega))))) | ((refine row_app (f := fun n => [pi n]) (x := (s.last + ((k : Int) + 1)).tmod s.had.length) (by rw [List.range'_concat, List.map_append, show s.last + ((k : Int) + 1) = s.last + 1 + (k : Int) by omega]; simp) rfl)) | (simp; done) | (simp; rfl))) (by repeat' (first | exact trivial | exact rfl | exact .inl rfl | exact .inr rfl | (refine ⟨⟨rfl, .inl ⟨_, rfl, ?_⟩⟩, ?_⟩) | (refine ⟨⟨rfl, _, rfl, ?_⟩, ?_⟩) | (refine ⟨⟨rfl, .inr ⟨rfl, ?_⟩⟩, ?_⟩) | (refine ⟨rfl, ?_⟩) | ((exact i64_eq (by (first | omega | (simp only [List.length_map, List.length_append, List.length_take, List.length_drop, List.length_cons, List.length_nil] <;> omega) | (simp <;> omega))))) | ((refine row_app (f := fun n => [pi n]) (x := (s.last + ((k : Int) + 1)).tmod s.had.length) (by rw [List.range'_concat, List.map_append, show s.last + ((k : Int) + 1) = s.last + 1 + (k : Int) by omega]; simp) rfl)) | (simp; done) | (simp; rfl)))), by dsimp only; omega⟩
      · ((refine hif_false ?_ ?_; (· (first | rfl | assumption | omega | (simp only [gt_iff_lt, ge_iff_le, decide_eq_true_eq, decide_eq_false_iff_not, beq_iff_eq, bne_iff_ne, ne_eq, beq_eq_false_iff_ne, bne_eq_false_iff_eq, List.length_map, List.length_append, List.length_cons, List.length_nil, List.length_take, List.length_drop, Bool.not_eq_true', Bool.not_eq_false', Bool.not_eq_true, Bool.not_eq_false, Decidable.not_not, Nat.cast_ofNat, Int.natCast_add] <;> omega) | (simp <;> omega))); conv => whnf); try (refine hcut.go ?_; conv => whnf))
        refine hQ _ _ ?_; conv => whnf
        have hkk : k = s.had.length := by omega
        subst hkk
        rw [hafter]
        obtain ⟨O, hO⟩ : ∃ O, O = ((List.range' 0 s.had.length).map fun i : Nat => (s.last + 1 + (i : Int)).tmod s.had.length) := ⟨_, rfl⟩
        rw [← hO]
        generalize hN : pick q O = N
        have hOl : O.length = s.had.length := by rw [hO]; simp
        refine ⟨{ x : List Int × List Int // (O) = x.1 ++ x.2 ∧ pick q x.2 = N }, fun | ⟨(a, b), _⟩ => hs 127 [(2, qs q), (114, .own 900), (115, i64 (O).length), (116, i64 a.length)] [(900, rowI (O))], fun x => x.1.2.length, ⟨([], O), rfl, hN⟩, ?_, ?_⟩
        · exact (hle_hs [(900, some 900)] rfl rfl rfl rfl (by repeat' (first | exact trivial | exact rfl | (refine ⟨⟨rfl, ?_⟩, ?_⟩) | (refine ⟨rfl, ?_⟩) | ((exact i64_eq (by rw [hO]; simp))) | ((exact row_eqs (by rw [hO]))) | (simp; done) | (simp; rfl))) (by repeat' (first | exact trivial | exact rfl | exact .inl rfl | exact .inr rfl | (refine ⟨⟨rfl, .inl ⟨_, rfl, ?_⟩⟩, ?_⟩) | (refine ⟨⟨rfl, _, rfl, ?_⟩, ?_⟩) | (refine ⟨⟨rfl, .inr ⟨rfl, ?_⟩⟩, ?_⟩) | (refine ⟨rfl, ?_⟩) | ((exact i64_eq (by rw [hO]; simp))) | ((exact row_eqs (by rw [hO]))) | (simp; done) | (simp; rfl))))
        rintro ⟨⟨a, b⟩, h, hp⟩
        dsimp only at h hp
        refine hwp_gen fun Q hQ => ?_
        cases b with
        | cons k b =>
          have hz := zip_cons h
          rw [pick] at hp
          conv => whnf
          refine hif_true (by rw [decide_eq_true_eq]; omega) ?_; conv => whnf
          ((refine hobl_intro ?_ ?_; (· (first | omega | (simp only [List.length_map, List.length_append, List.length_take, List.length_drop, List.length_cons, List.length_nil] <;> omega) | (simp <;> omega))); conv => whnf); try (refine hcut.go ?_; conv => whnf))
          refine hrow_mid h rfl ?_; conv => whnf
          ((refine hcall_lend ?_; (conv => whnf); refine ⟨_, spec_waits q k hb, rfl, ?_⟩; conv => whnf); try (refine hcut.go ?_; conv => whnf))
          by_cases c : first q k ≥ 0
          · rw [if_pos c] at hp
            refine hif_true (by simpa using c) ?_; conv => whnf
            refine hQ _ _ ?_; conv => whnf
            rw [hp]
          · rw [if_neg c] at hp
            refine hif_false (by simpa using c) ?_; conv => whnf
            (try (refine hcut.go ?_; conv => whnf))
            refine hwrap_fit (W_fit (by omega) (by omega)) ?_; conv => whnf
            refine hQ _ _ ?_; conv => whnf
            exact ⟨⟨(a ++ [k], b), zip_next h, hp⟩, (hle_hs [(900, some 900)] rfl rfl rfl rfl (by repeat' (first | exact trivial | exact rfl | (refine ⟨⟨rfl, ?_⟩, ?_⟩) | (refine ⟨rfl, ?_⟩) | (simp; done) | (simp; rfl))) (by repeat' (first | exact trivial | exact rfl | exact .inl rfl | exact .inr rfl | (refine ⟨⟨rfl, .inl ⟨_, rfl, ?_⟩⟩, ?_⟩) | (refine ⟨⟨rfl, _, rfl, ?_⟩, ?_⟩) | (refine ⟨⟨rfl, .inr ⟨rfl, ?_⟩⟩, ?_⟩) | (refine ⟨rfl, ?_⟩) | (simp; done) | (simp; rfl)))), by simp⟩
        | nil =>
          have hz := zip_nil h
          conv => whnf
          refine hif_false (by rw [decide_eq_false_iff_not]; omega) ?_; conv => whnf
          refine hQ _ _ ?_; conv => whnf
          rw [← hp]; rfl
  rw [if_neg c3]
  refine hif_false (by simpa using c3) ?_; conv => whnf
  repeat (refine hcut.go ?_; conv => whnf)
  refine hif_false (by simpa using c3) ?_; conv => whnf
  repeat (refine hcut.go ?_; conv => whnf)
  by_cases c4 : turns = 3
  · subst c4
    rw [if_pos rfl]
    conv => whnf
    repeat (refine hcut.go ?_; conv => whnf)
    refine ⟨{ k : Nat // k ≤ s.had.length }, fun | ⟨k, _⟩ => hs 127 [(2, qs q), (4, .ptr 4 0), (7, i64 s.had.length), (10, .own 900), (11, i64 (k + 1))] [(4, .live (.cells 24 s.cells)), (900, rowI ((List.range' 0 k).map fun i : Nat => (s.last + 1 + (i : Int)).tmod s.had.length))], fun k => s.had.length - k.1, ⟨0, by omega⟩, ?_, ?_⟩
    · exact (hle_hs [(4, some 4), (900, none)] rfl rfl rfl rfl (by repeat' (first | exact trivial | exact rfl | (refine ⟨⟨rfl, ?_⟩, ?_⟩) | (refine ⟨rfl, ?_⟩) | (simp; done) | (simp; rfl))) (by repeat' (first | exact trivial | exact rfl | exact .inl rfl | exact .inr rfl | (refine ⟨⟨rfl, .inl ⟨_, rfl, ?_⟩⟩, ?_⟩) | (refine ⟨⟨rfl, _, rfl, ?_⟩, ?_⟩) | (refine ⟨⟨rfl, .inr ⟨rfl, ?_⟩⟩, ?_⟩) | (refine ⟨rfl, ?_⟩) | (simp; done) | (simp; rfl))))
    rintro ⟨k, hk⟩
    refine hwp_gen fun Q hQ => ?_
    conv => whnf
    by_cases c : k < s.had.length
    · ((refine hif_true ?_ ?_; (· (first | rfl | assumption | omega | (simp only [gt_iff_lt, ge_iff_le, decide_eq_true_eq, decide_eq_false_iff_not, beq_iff_eq, bne_iff_ne, ne_eq, beq_eq_false_iff_ne, bne_eq_false_iff_eq, List.length_map, List.length_append, List.length_cons, List.length_nil, List.length_take, List.length_drop, Bool.not_eq_true', Bool.not_eq_false', Bool.not_eq_true, Bool.not_eq_false, Decidable.not_not, Nat.cast_ofNat, Int.natCast_add] <;> omega) | (simp <;> omega))); conv => whnf); try (refine hcut.go ?_; conv => whnf))
      ((refine hwrap_fit (W_fit ?_ ?_) ?_; (· (first | omega | (simp only [List.length_map, List.length_append, List.length_take, List.length_drop, List.length_cons, List.length_nil] <;> omega) | (simp <;> omega))); (· (first | omega | (simp only [List.length_map, List.length_append, List.length_take, List.length_drop, List.length_cons, List.length_nil] <;> omega) | (simp <;> omega))); conv => whnf); try (refine hcut.go ?_; conv => whnf))
      ((refine hobl_intro ?_ ?_; (· (first | omega | (simp only [List.length_map, List.length_append, List.length_take, List.length_drop, List.length_cons, List.length_nil] <;> omega) | (simp <;> omega))); conv => whnf); try (refine hcut.go ?_; conv => whnf))
      refine hobl_intro (c := ((((List.range' 0 k).map fun i : Nat => (s.last + 1 + (i : Int)).tmod s.had.length).map fun n => [pi n]).length + 1) * 8 ≤ 140737488355328) (by simp; omega) ?_; conv => whnf
      (try (refine hcut.go ?_; conv => whnf))
      ((refine hwrap_fit (W_fit ?_ ?_) ?_; (· (first | omega | (simp only [List.length_map, List.length_append, List.length_take, List.length_drop, List.length_cons, List.length_nil] <;> omega) | (simp <;> omega))); (· (first | omega | (simp only [List.length_map, List.length_append, List.length_take, List.length_drop, List.length_cons, List.length_nil] <;> omega) | (simp <;> omega))); conv => whnf); try (refine hcut.go ?_; conv => whnf))
      refine hQ _ _ ?_; conv => whnf
      exact ⟨⟨k + 1, c⟩, (hle_hs [(4, some 4), (900, some 62)] rfl rfl rfl rfl (by repeat' (first | exact trivial | exact rfl | (refine ⟨⟨rfl, ?_⟩, ?_⟩) | (refine ⟨rfl, ?_⟩) | ((exact i64_eq (by (first | omega | (simp only [List.length_map, List.length_append, List.length_take, List.length_drop, List.length_cons, List.length_nil] <;> omega) | (simp <;> omega))))) | ((refine row_app (f := fun n => [pi n]) (x := (s.last + ((k : Int) + 1)).tmod s.had.length) (by rw [List.range'_concat, List.map_append, show s.last + ((k : Int) + 1) = s.last + 1 + (k : Int) by omega]; simp) rfl)) | (simp; done) | (simp; rfl))) (by repeat' (first | exact trivial | exact rfl | exact .inl rfl | exact .inr rfl | (refine ⟨⟨rfl, .inl ⟨_, rfl, ?_⟩⟩, ?_⟩) | (refine ⟨⟨rfl, _, rfl, ?_⟩, ?_⟩) | (refine ⟨⟨rfl, .inr ⟨rfl, ?_⟩⟩, ?_⟩) | (refine ⟨rfl, ?_⟩) | ((exact i64_eq (by (first | omega | (simp only [List.length_map, List.length_append, List.length_take, List.length_drop, List.length_cons, List.length_nil] <;> omega) | (simp <;> omega))))) | ((refine row_app (f := fun n => [pi n]) (x := (s.last + ((k : Int) + 1)).tmod s.had.length) (by rw [List.range'_concat, List.map_append, show s.last + ((k : Int) + 1) = s.last + 1 + (k : Int) by omega]; simp) rfl)) | (simp; done) | (simp; rfl)))), by dsimp only; omega⟩
    · ((refine hif_false ?_ ?_; (· (first | rfl | assumption | omega | (simp only [gt_iff_lt, ge_iff_le, decide_eq_true_eq, decide_eq_false_iff_not, beq_iff_eq, bne_iff_ne, ne_eq, beq_eq_false_iff_ne, bne_eq_false_iff_eq, List.length_map, List.length_append, List.length_cons, List.length_nil, List.length_take, List.length_drop, Bool.not_eq_true', Bool.not_eq_false', Bool.not_eq_true, Bool.not_eq_false, Decidable.not_not, Nat.cast_ofNat, Int.natCast_add] <;> omega) | (simp <;> omega))); conv => whnf); try (refine hcut.go ?_; conv => whnf))
      refine hQ _ _ ?_; conv => whnf
      have hkk : k = s.had.length := by omega
      subst hkk
      rw [hafter]
      obtain ⟨O, hO⟩ : ∃ O, O = ((List.range' 0 s.had.length).map fun i : Nat => (s.last + 1 + (i : Int)).tmod s.had.length) := ⟨_, rfl⟩
      rw [← hO]
      generalize hN : pick q O = N
      have hOl : O.length = s.had.length := by rw [hO]; simp
      refine ⟨{ x : List Int × List Int // (O) = x.1 ++ x.2 ∧ pick q x.2 = N }, fun | ⟨(a, b), _⟩ => hs 127 [(2, qs q), (114, .own 900), (115, i64 (O).length), (116, i64 a.length)] [(900, rowI (O))], fun x => x.1.2.length, ⟨([], O), rfl, hN⟩, ?_, ?_⟩
      · exact (hle_hs [(900, some 900)] rfl rfl rfl rfl (by repeat' (first | exact trivial | exact rfl | (refine ⟨⟨rfl, ?_⟩, ?_⟩) | (refine ⟨rfl, ?_⟩) | ((exact i64_eq (by rw [hO]; simp))) | ((exact row_eqs (by rw [hO]))) | (simp; done) | (simp; rfl))) (by repeat' (first | exact trivial | exact rfl | exact .inl rfl | exact .inr rfl | (refine ⟨⟨rfl, .inl ⟨_, rfl, ?_⟩⟩, ?_⟩) | (refine ⟨⟨rfl, _, rfl, ?_⟩, ?_⟩) | (refine ⟨⟨rfl, .inr ⟨rfl, ?_⟩⟩, ?_⟩) | (refine ⟨rfl, ?_⟩) | ((exact i64_eq (by rw [hO]; simp))) | ((exact row_eqs (by rw [hO]))) | (simp; done) | (simp; rfl))))
      rintro ⟨⟨a, b⟩, h, hp⟩
      dsimp only at h hp
      refine hwp_gen fun Q hQ => ?_
      cases b with
      | cons k b =>
        have hz := zip_cons h
        rw [pick] at hp
        conv => whnf
        refine hif_true (by rw [decide_eq_true_eq]; omega) ?_; conv => whnf
        ((refine hobl_intro ?_ ?_; (· (first | omega | (simp only [List.length_map, List.length_append, List.length_take, List.length_drop, List.length_cons, List.length_nil] <;> omega) | (simp <;> omega))); conv => whnf); try (refine hcut.go ?_; conv => whnf))
        refine hrow_mid h rfl ?_; conv => whnf
        ((refine hcall_lend ?_; (conv => whnf); refine ⟨_, spec_waits q k hb, rfl, ?_⟩; conv => whnf); try (refine hcut.go ?_; conv => whnf))
        by_cases c : first q k ≥ 0
        · rw [if_pos c] at hp
          refine hif_true (by simpa using c) ?_; conv => whnf
          refine hQ _ _ ?_; conv => whnf
          rw [hp]
        · rw [if_neg c] at hp
          refine hif_false (by simpa using c) ?_; conv => whnf
          (try (refine hcut.go ?_; conv => whnf))
          refine hwrap_fit (W_fit (by omega) (by omega)) ?_; conv => whnf
          refine hQ _ _ ?_; conv => whnf
          exact ⟨⟨(a ++ [k], b), zip_next h, hp⟩, (hle_hs [(900, some 900)] rfl rfl rfl rfl (by repeat' (first | exact trivial | exact rfl | (refine ⟨⟨rfl, ?_⟩, ?_⟩) | (refine ⟨rfl, ?_⟩) | (simp; done) | (simp; rfl))) (by repeat' (first | exact trivial | exact rfl | exact .inl rfl | exact .inr rfl | (refine ⟨⟨rfl, .inl ⟨_, rfl, ?_⟩⟩, ?_⟩) | (refine ⟨⟨rfl, _, rfl, ?_⟩, ?_⟩) | (refine ⟨⟨rfl, .inr ⟨rfl, ?_⟩⟩, ?_⟩) | (refine ⟨rfl, ?_⟩) | (simp; done) | (simp; rfl)))), by simp⟩
      | nil =>
        have hz := zip_nil h
        conv => whnf
        refine hif_false (by rw [decide_eq_false_iff_not]; omega) ?_; conv => whnf
        refine hQ _ _ ?_; conv => whnf
        rw [← hp]; rfl
  rw [if_neg c4]
  refine hif_false (by simpa using c4) ?_; conv => whnf
  repeat (refine hcut.go ?_; conv => whnf)
  by_cases c5 : turns = 4
  · subst c5
    rw [if_pos rfl, rank_pick]
    conv => whnf
    repeat (refine hcut.go ?_; conv => whnf)
    refine ⟨{ k : Nat // k ≤ s.had.length }, fun | ⟨k, _⟩ => hs 127 [(2, qs q), (10, .own 900), (65, i64 s.had.length), (66, i64 k)] [(900, rowI ((List.range' 0 k).map fun i : Nat => (i : Int)))], fun k => s.had.length - k.1, ⟨0, by omega⟩, ?_, ?_⟩
    · exact (hle_hs [(900, none)] rfl rfl rfl rfl (by repeat' (first | exact trivial | exact rfl | (refine ⟨⟨rfl, ?_⟩, ?_⟩) | (refine ⟨rfl, ?_⟩) | (simp; done) | (simp; rfl))) (by repeat' (first | exact trivial | exact rfl | exact .inl rfl | exact .inr rfl | (refine ⟨⟨rfl, .inl ⟨_, rfl, ?_⟩⟩, ?_⟩) | (refine ⟨⟨rfl, _, rfl, ?_⟩, ?_⟩) | (refine ⟨⟨rfl, .inr ⟨rfl, ?_⟩⟩, ?_⟩) | (refine ⟨rfl, ?_⟩) | (simp; done) | (simp; rfl))))
    rintro ⟨k, hk⟩
    refine hwp_gen fun Q hQ => ?_
    conv => whnf
    by_cases c : k < s.had.length
    · ((refine hif_true ?_ ?_; (· (first | rfl | assumption | omega | (simp only [gt_iff_lt, ge_iff_le, decide_eq_true_eq, decide_eq_false_iff_not, beq_iff_eq, bne_iff_ne, ne_eq, beq_eq_false_iff_ne, bne_eq_false_iff_eq, List.length_map, List.length_append, List.length_cons, List.length_nil, List.length_take, List.length_drop, Bool.not_eq_true', Bool.not_eq_false', Bool.not_eq_true, Bool.not_eq_false, Decidable.not_not, Nat.cast_ofNat, Int.natCast_add] <;> omega) | (simp <;> omega))); conv => whnf); try (refine hcut.go ?_; conv => whnf))
      refine hobl_intro (c := ((((List.range' 0 k).map fun i : Nat => (i : Int)).map fun n => [pi n]).length + 1) * 8 ≤ 140737488355328) (by simp; omega) ?_; conv => whnf
      (try (refine hcut.go ?_; conv => whnf))
      ((refine hwrap_fit (W_fit ?_ ?_) ?_; (· (first | omega | (simp only [List.length_map, List.length_append, List.length_take, List.length_drop, List.length_cons, List.length_nil] <;> omega) | (simp <;> omega))); (· (first | omega | (simp only [List.length_map, List.length_append, List.length_take, List.length_drop, List.length_cons, List.length_nil] <;> omega) | (simp <;> omega))); conv => whnf); try (refine hcut.go ?_; conv => whnf))
      refine hQ _ _ ?_; conv => whnf
      exact ⟨⟨k + 1, c⟩, (hle_hs [(900, some 72)] rfl rfl rfl rfl (by repeat' (first | exact trivial | exact rfl | (refine ⟨⟨rfl, ?_⟩, ?_⟩) | (refine ⟨rfl, ?_⟩) | ((exact row_app (f := fun n => [pi n]) (x := (k : Int)) (by rw [List.range'_concat]; simp) rfl)) | (simp; done) | (simp; rfl))) (by repeat' (first | exact trivial | exact rfl | exact .inl rfl | exact .inr rfl | (refine ⟨⟨rfl, .inl ⟨_, rfl, ?_⟩⟩, ?_⟩) | (refine ⟨⟨rfl, _, rfl, ?_⟩, ?_⟩) | (refine ⟨⟨rfl, .inr ⟨rfl, ?_⟩⟩, ?_⟩) | (refine ⟨rfl, ?_⟩) | ((exact row_app (f := fun n => [pi n]) (x := (k : Int)) (by rw [List.range'_concat]; simp) rfl)) | (simp; done) | (simp; rfl)))), by dsimp only; omega⟩
    · ((refine hif_false ?_ ?_; (· (first | rfl | assumption | omega | (simp only [gt_iff_lt, ge_iff_le, decide_eq_true_eq, decide_eq_false_iff_not, beq_iff_eq, bne_iff_ne, ne_eq, beq_eq_false_iff_ne, bne_eq_false_iff_eq, List.length_map, List.length_append, List.length_cons, List.length_nil, List.length_take, List.length_drop, Bool.not_eq_true', Bool.not_eq_false', Bool.not_eq_true, Bool.not_eq_false, Decidable.not_not, Nat.cast_ofNat, Int.natCast_add] <;> omega) | (simp <;> omega))); conv => whnf); try (refine hcut.go ?_; conv => whnf))
      refine hQ _ _ ?_; conv => whnf
      have hkk : k = s.had.length := by omega
      subst hkk
      obtain ⟨O, hO⟩ : ∃ O, O = ((List.range' 0 s.had.length).map fun i : Nat => (i : Int)) := ⟨_, rfl⟩
      rw [← hO]
      generalize hN : pick q O = N
      have hOl : O.length = s.had.length := by rw [hO]; simp
      refine ⟨{ x : List Int × List Int // (O) = x.1 ++ x.2 ∧ pick q x.2 = N }, fun | ⟨(a, b), _⟩ => hs 127 [(2, qs q), (114, .own 900), (115, i64 (O).length), (116, i64 a.length)] [(900, rowI (O))], fun x => x.1.2.length, ⟨([], O), rfl, hN⟩, ?_, ?_⟩
      · exact (hle_hs [(900, some 900)] rfl rfl rfl rfl (by repeat' (first | exact trivial | exact rfl | (refine ⟨⟨rfl, ?_⟩, ?_⟩) | (refine ⟨rfl, ?_⟩) | ((exact i64_eq (by rw [hO]; simp))) | ((exact row_eqs (by rw [hO]))) | (simp; done) | (simp; rfl))) (by repeat' (first | exact trivial | exact rfl | exact .inl rfl | exact .inr rfl | (refine ⟨⟨rfl, .inl ⟨_, rfl, ?_⟩⟩, ?_⟩) | (refine ⟨⟨rfl, _, rfl, ?_⟩, ?_⟩) | (refine ⟨⟨rfl, .inr ⟨rfl, ?_⟩⟩, ?_⟩) | (refine ⟨rfl, ?_⟩) | ((exact i64_eq (by rw [hO]; simp))) | ((exact row_eqs (by rw [hO]))) | (simp; done) | (simp; rfl))))
      rintro ⟨⟨a, b⟩, h, hp⟩
      dsimp only at h hp
      refine hwp_gen fun Q hQ => ?_
      cases b with
      | cons k b =>
        have hz := zip_cons h
        rw [pick] at hp
        conv => whnf
        refine hif_true (by rw [decide_eq_true_eq]; omega) ?_; conv => whnf
        ((refine hobl_intro ?_ ?_; (· (first | omega | (simp only [List.length_map, List.length_append, List.length_take, List.length_drop, List.length_cons, List.length_nil] <;> omega) | (simp <;> omega))); conv => whnf); try (refine hcut.go ?_; conv => whnf))
        refine hrow_mid h rfl ?_; conv => whnf
        ((refine hcall_lend ?_; (conv => whnf); refine ⟨_, spec_waits q k hb, rfl, ?_⟩; conv => whnf); try (refine hcut.go ?_; conv => whnf))
        by_cases c : first q k ≥ 0
        · rw [if_pos c] at hp
          refine hif_true (by simpa using c) ?_; conv => whnf
          refine hQ _ _ ?_; conv => whnf
          rw [hp]
        · rw [if_neg c] at hp
          refine hif_false (by simpa using c) ?_; conv => whnf
          (try (refine hcut.go ?_; conv => whnf))
          refine hwrap_fit (W_fit (by omega) (by omega)) ?_; conv => whnf
          refine hQ _ _ ?_; conv => whnf
          exact ⟨⟨(a ++ [k], b), zip_next h, hp⟩, (hle_hs [(900, some 900)] rfl rfl rfl rfl (by repeat' (first | exact trivial | exact rfl | (refine ⟨⟨rfl, ?_⟩, ?_⟩) | (refine ⟨rfl, ?_⟩) | (simp; done) | (simp; rfl))) (by repeat' (first | exact trivial | exact rfl | exact .inl rfl | exact .inr rfl | (refine ⟨⟨rfl, .inl ⟨_, rfl, ?_⟩⟩, ?_⟩) | (refine ⟨⟨rfl, _, rfl, ?_⟩, ?_⟩) | (refine ⟨⟨rfl, .inr ⟨rfl, ?_⟩⟩, ?_⟩) | (refine ⟨rfl, ?_⟩) | (simp; done) | (simp; rfl)))), by simp⟩
      | nil =>
        have hz := zip_nil h
        conv => whnf
        refine hif_false (by rw [decide_eq_false_iff_not]; omega) ?_; conv => whnf
        refine hQ _ _ ?_; conv => whnf
        rw [← hp]; rfl
  rw [if_neg c5]
  refine hif_false (by simpa using c5) ?_; conv => whnf
  repeat (refine hcut.go ?_; conv => whnf)
  by_cases c6 : turns = 5
  · subst c6
    rw [if_pos rfl, ← fair_pick s.had.length [] (by simp) (by simpa using List.length_filter_le _ (List.range s.had.length)) (by simp)]
    conv => whnf
    repeat (refine hcut.go ?_; conv => whnf)
    obtain ⟨O, hO⟩ : ∃ O, O = fairO s.had s.had.length [] := ⟨_, rfl⟩
    rw [← hO]
    generalize hN : pick q O = N
    have hOl : O.length = s.had.length := by rw [hO, fairO_len]; simp
    refine ⟨{ x : Nat × List Int // x.1 ≤ s.had.length ∧ x.2.length = x.1 ∧ fairO s.had (s.had.length - x.1) x.2 = O }, fun | ⟨(j, H), _⟩ => hs 127 [(2, qs q), (4, .ptr 4 0), (7, i64 s.had.length), (10, .own 900), (13, .mp 901), (77, i64 s.had.length), (78, i64 j)] [(4, .live (.cells 24 s.cells)), (900, rowI H), (901, .live (.map 4 false ((keys H).map ent)))], fun x => s.had.length - x.1.1, ⟨(0, []), by dsimp only; omega, rfl, by dsimp only; rw [hO]; rfl⟩, ?_, ?_⟩
    · exact (hle_hs [(4, some 4), (900, none), (901, some 76)] rfl rfl rfl rfl (by repeat' (first | exact trivial | exact rfl | (refine ⟨⟨rfl, ?_⟩, ?_⟩) | (refine ⟨rfl, ?_⟩) | (simp; done) | (simp; rfl))) (by repeat' (first | exact trivial | exact rfl | exact .inl rfl | exact .inr rfl | (refine ⟨⟨rfl, .inl ⟨_, rfl, ?_⟩⟩, ?_⟩) | (refine ⟨⟨rfl, _, rfl, ?_⟩, ?_⟩) | (refine ⟨⟨rfl, .inr ⟨rfl, ?_⟩⟩, ?_⟩) | (refine ⟨rfl, ?_⟩) | (simp; done) | (simp; rfl))))
    rintro ⟨⟨j, H⟩, h1, h2, h3⟩
    dsimp only at h1 h2 h3
    refine hwp_gen fun Q0 hQ0 => ?_
    conv => whnf
    by_cases c : j < s.had.length
    · obtain ⟨d, hd⟩ : ∃ d, s.had.length - j = d + 1 := ⟨s.had.length - j - 1, by omega⟩
      have hd2 : s.had.length - (j + 1) = d := by omega
      rw [hd, fairO] at h3
      ((refine hif_true ?_ ?_; (· (first | rfl | assumption | omega | (simp only [gt_iff_lt, ge_iff_le, decide_eq_true_eq, decide_eq_false_iff_not, beq_iff_eq, bne_iff_ne, ne_eq, beq_eq_false_iff_ne, bne_eq_false_iff_eq, List.length_map, List.length_append, List.length_cons, List.length_nil, List.length_take, List.length_drop, Bool.not_eq_true', Bool.not_eq_false', Bool.not_eq_true, Bool.not_eq_false, Decidable.not_not, Nat.cast_ofNat, Int.natCast_add] <;> omega) | (simp <;> omega))); conv => whnf); try (refine hcut.go ?_; conv => whnf))
      refine ⟨{ x : Nat × Int // x.1 ≤ s.had.length ∧ (x.2 < 0 ∨ x.2 < x.1) ∧ am (fun k => decide ((k : Int) ∉ H)) s.had x.2 x.1 (s.had.drop x.1) = nextO s.had H }, fun | ⟨(k, b), _⟩ => hs 127 [(2, qs q), (4, .ptr 4 0), (7, i64 s.had.length), (10, .own 900), (13, .mp 901), (77, i64 s.had.length), (78, i64 j), (14, i64 b), (80, i64 s.had.length), (81, i64 k)] [(4, .live (.cells 24 s.cells)), (900, rowI H), (901, .live (.map 4 false ((keys H).map ent)))], fun x => s.had.length - x.1.1, ⟨(0, -1), by dsimp only; omega, .inl (by dsimp only; omega), rfl⟩, ?_, ?_⟩
      · exact (hle_hs [(4, some 4), (900, some 900), (901, some 901)] rfl rfl rfl rfl (by repeat' (first | exact trivial | exact rfl | (refine ⟨⟨rfl, ?_⟩, ?_⟩) | (refine ⟨rfl, ?_⟩) | (simp; done) | (simp; rfl))) (by repeat' (first | exact trivial | exact rfl | exact .inl rfl | exact .inr rfl | (refine ⟨⟨rfl, .inl ⟨_, rfl, ?_⟩⟩, ?_⟩) | (refine ⟨⟨rfl, _, rfl, ?_⟩, ?_⟩) | (refine ⟨⟨rfl, .inr ⟨rfl, ?_⟩⟩, ?_⟩) | (refine ⟨rfl, ?_⟩) | (simp; done) | (simp; rfl))))
      rintro ⟨⟨k, b⟩, g1, g2, g3⟩
      dsimp only at g1 g2 g3
      refine hwp_gen fun Q hQ => ?_
      conv => whnf
      by_cases c7 : k < s.had.length
      · rw [List.drop_eq_getElem_cons c7, am] at g3
        ((refine hif_true ?_ ?_; (· (first | rfl | assumption | omega | (simp only [gt_iff_lt, ge_iff_le, decide_eq_true_eq, decide_eq_false_iff_not, beq_iff_eq, bne_iff_ne, ne_eq, beq_eq_false_iff_ne, bne_eq_false_iff_eq, List.length_map, List.length_append, List.length_cons, List.length_nil, List.length_take, List.length_drop, Bool.not_eq_true', Bool.not_eq_false', Bool.not_eq_true, Bool.not_eq_false, Decidable.not_not, Nat.cast_ofNat, Int.natCast_add] <;> omega) | (simp <;> omega))); conv => whnf); try (refine hcut.go ?_; conv => whnf))
        have hf := find_ent (k : Int) (keys H)
        by_cases c8 : (k : Int) ∈ H
        · rw [if_pos (mem_keys.2 c8)] at hf
          rw [if_neg (by simp [c8])] at g3
          refine ⟨_, hf.symm, ?_⟩; conv => whnf
          ((refine hdraw_intro ?_ ?_; (· kernel_rfl); conv => whnf); try (refine hcut.go ?_; conv => whnf))
          (try (refine hcut.go ?_; conv => whnf))
          ((refine hwrap_fit (W_fit ?_ ?_) ?_; (· (first | omega | (simp only [List.length_map, List.length_append, List.length_take, List.length_drop, List.length_cons, List.length_nil] <;> omega) | (simp <;> omega))); (· (first | omega | (simp only [List.length_map, List.length_append, List.length_take, List.length_drop, List.length_cons, List.length_nil] <;> omega) | (simp <;> omega))); conv => whnf); try (refine hcut.go ?_; conv => whnf))
          refine hQ _ _ ?_; conv => whnf
          exact ⟨⟨(k + 1, b), c7, by dsimp only; omega, g3⟩, (hle_hs [(4, some 4), (900, some 900), (901, some 901)] rfl rfl rfl rfl (by repeat' (first | exact trivial | exact rfl | (refine ⟨⟨rfl, ?_⟩, ?_⟩) | (refine ⟨rfl, ?_⟩) | (simp; done) | (simp; rfl))) (by repeat' (first | exact trivial | exact rfl | exact .inl rfl | exact .inr rfl | (refine ⟨⟨rfl, .inl ⟨_, rfl, ?_⟩⟩, ?_⟩) | (refine ⟨⟨rfl, _, rfl, ?_⟩, ?_⟩) | (refine ⟨⟨rfl, .inr ⟨rfl, ?_⟩⟩, ?_⟩) | (refine ⟨rfl, ?_⟩) | (simp; done) | (simp; rfl)))), by dsimp only; omega⟩
        · rw [if_neg (fun h => c8 (mem_keys.1 h))] at hf
          refine ⟨_, hf.symm, ?_⟩; conv => whnf
          by_cases c9 : b < 0
          · rw [if_pos ⟨by simp [c8], .inl c9⟩] at g3
            refine hif_true (by simpa using c9) ?_; conv => whnf
            ((refine hdraw_intro ?_ ?_; (· kernel_rfl); conv => whnf); try (refine hcut.go ?_; conv => whnf))
            (try (refine hcut.go ?_; conv => whnf))
            ((refine hwrap_fit (W_fit ?_ ?_) ?_; (· (first | omega | (simp only [List.length_map, List.length_append, List.length_take, List.length_drop, List.length_cons, List.length_nil] <;> omega) | (simp <;> omega))); (· (first | omega | (simp only [List.length_map, List.length_append, List.length_take, List.length_drop, List.length_cons, List.length_nil] <;> omega) | (simp <;> omega))); conv => whnf); try (refine hcut.go ?_; conv => whnf))
            refine hQ _ _ ?_; conv => whnf
            exact ⟨⟨(k + 1, (k : Int)), c7, .inr (by dsimp only; omega), g3⟩, (hle_hs [(4, some 4), (900, some 900), (901, some 901)] rfl rfl rfl rfl (by repeat' (first | exact trivial | exact rfl | (refine ⟨⟨rfl, ?_⟩, ?_⟩) | (refine ⟨rfl, ?_⟩) | (simp; done) | (simp; rfl))) (by repeat' (first | exact trivial | exact rfl | exact .inl rfl | exact .inr rfl | (refine ⟨⟨rfl, .inl ⟨_, rfl, ?_⟩⟩, ?_⟩) | (refine ⟨⟨rfl, _, rfl, ?_⟩, ?_⟩) | (refine ⟨⟨rfl, .inr ⟨rfl, ?_⟩⟩, ?_⟩) | (refine ⟨rfl, ?_⟩) | (simp; done) | (simp; rfl)))), by dsimp only; omega⟩
          · obtain ⟨m, hbm⟩ : ∃ m : Nat, b = m := ⟨b.toNat, by omega⟩
            have hm : m < s.had.length := by omega
            have hg : s.had[m]?.getD 0 = s.had[m] := by simp [hm]
            rw [show b.toNat = m by omega, hg] at g3
            refine hif_false (by simpa using c9) ?_; conv => whnf
            refine hrow_at k rfl c7 ?_; conv => whnf
            refine hrow_at m hbm hm ?_; conv => whnf
            ((refine hdraw_intro ?_ ?_; (· kernel_rfl); conv => whnf); try (refine hcut.go ?_; conv => whnf))
            by_cases c10 : s.had[k] < s.had[m]
            · rw [if_pos ⟨by simp [c8], .inr c10⟩] at g3
              refine hif_true (by simpa using c10) ?_; conv => whnf
              (try (refine hcut.go ?_; conv => whnf))
              ((refine hwrap_fit (W_fit ?_ ?_) ?_; (· (first | omega | (simp only [List.length_map, List.length_append, List.length_take, List.length_drop, List.length_cons, List.length_nil] <;> omega) | (simp <;> omega))); (· (first | omega | (simp only [List.length_map, List.length_append, List.length_take, List.length_drop, List.length_cons, List.length_nil] <;> omega) | (simp <;> omega))); conv => whnf); try (refine hcut.go ?_; conv => whnf))
              refine hQ _ _ ?_; conv => whnf
              exact ⟨⟨(k + 1, (k : Int)), c7, .inr (by dsimp only; omega), g3⟩, (hle_hs [(4, some 4), (900, some 900), (901, some 901)] rfl rfl rfl rfl (by repeat' (first | exact trivial | exact rfl | (refine ⟨⟨rfl, ?_⟩, ?_⟩) | (refine ⟨rfl, ?_⟩) | (simp; done) | (simp; rfl))) (by repeat' (first | exact trivial | exact rfl | exact .inl rfl | exact .inr rfl | (refine ⟨⟨rfl, .inl ⟨_, rfl, ?_⟩⟩, ?_⟩) | (refine ⟨⟨rfl, _, rfl, ?_⟩, ?_⟩) | (refine ⟨⟨rfl, .inr ⟨rfl, ?_⟩⟩, ?_⟩) | (refine ⟨rfl, ?_⟩) | (simp; done) | (simp; rfl)))), by dsimp only; omega⟩
            · rw [if_neg (fun h => h.2.elim c9 c10)] at g3
              refine hif_false (by simpa using c10) ?_; conv => whnf
              (try (refine hcut.go ?_; conv => whnf))
              ((refine hwrap_fit (W_fit ?_ ?_) ?_; (· (first | omega | (simp only [List.length_map, List.length_append, List.length_take, List.length_drop, List.length_cons, List.length_nil] <;> omega) | (simp <;> omega))); (· (first | omega | (simp only [List.length_map, List.length_append, List.length_take, List.length_drop, List.length_cons, List.length_nil] <;> omega) | (simp <;> omega))); conv => whnf); try (refine hcut.go ?_; conv => whnf))
              refine hQ _ _ ?_; conv => whnf
              exact ⟨⟨(k + 1, b), c7, .inr (by dsimp only; omega), g3⟩, (hle_hs [(4, some 4), (900, some 900), (901, some 901)] rfl rfl rfl rfl (by repeat' (first | exact trivial | exact rfl | (refine ⟨⟨rfl, ?_⟩, ?_⟩) | (refine ⟨rfl, ?_⟩) | (simp; done) | (simp; rfl))) (by repeat' (first | exact trivial | exact rfl | exact .inl rfl | exact .inr rfl | (refine ⟨⟨rfl, .inl ⟨_, rfl, ?_⟩⟩, ?_⟩) | (refine ⟨⟨rfl, _, rfl, ?_⟩, ?_⟩) | (refine ⟨⟨rfl, .inr ⟨rfl, ?_⟩⟩, ?_⟩) | (refine ⟨rfl, ?_⟩) | (simp; done) | (simp; rfl)))), by dsimp only; omega⟩
      · rw [List.drop_eq_nil_of_le (by omega), am] at g3
        subst g3
        ((refine hif_false ?_ ?_; (· (first | rfl | assumption | omega | (simp only [gt_iff_lt, ge_iff_le, decide_eq_true_eq, decide_eq_false_iff_not, beq_iff_eq, bne_iff_ne, ne_eq, beq_eq_false_iff_ne, bne_eq_false_iff_eq, List.length_map, List.length_append, List.length_cons, List.length_nil, List.length_take, List.length_drop, Bool.not_eq_true', Bool.not_eq_false', Bool.not_eq_true, Bool.not_eq_false, Decidable.not_not, Nat.cast_ofNat, Int.natCast_add] <;> omega) | (simp <;> omega))); conv => whnf); try (refine hcut.go ?_; conv => whnf))
        refine hQ _ _ ?_; conv => whnf
        refine ⟨_, (put_ent _ _).symm, ?_⟩; conv => whnf
        refine hobl_intro (c := ((H.map fun n => [pi n]).length + 1) * 8 ≤ 140737488355328) (by simp; omega) ?_; conv => whnf
        (try (refine hcut.go ?_; conv => whnf))
        ((refine hwrap_fit (W_fit ?_ ?_) ?_; (· (first | omega | (simp only [List.length_map, List.length_append, List.length_take, List.length_drop, List.length_cons, List.length_nil] <;> omega) | (simp <;> omega))); (· (first | omega | (simp only [List.length_map, List.length_append, List.length_take, List.length_drop, List.length_cons, List.length_nil] <;> omega) | (simp <;> omega))); conv => whnf); try (refine hcut.go ?_; conv => whnf))
        refine hQ0 _ _ ?_; conv => whnf
        exact ⟨⟨(j + 1, H ++ [nextO s.had H]), c, by simp [h2], by dsimp only; rw [hd2]; exact h3⟩, (hle_hs [(4, some 4), (900, some 112), (901, some 901)] rfl rfl rfl rfl (by repeat' (first | exact trivial | exact rfl | (refine ⟨⟨rfl, ?_⟩, ?_⟩) | (refine ⟨rfl, ?_⟩) | ((exact row_app (f := fun n => [pi n]) rfl rfl)) | ((simp [keys_snoc])) | (simp; done) | (simp; rfl))) (by repeat' (first | exact trivial | exact rfl | exact .inl rfl | exact .inr rfl | (refine ⟨⟨rfl, .inl ⟨_, rfl, ?_⟩⟩, ?_⟩) | (refine ⟨⟨rfl, _, rfl, ?_⟩, ?_⟩) | (refine ⟨⟨rfl, .inr ⟨rfl, ?_⟩⟩, ?_⟩) | (refine ⟨rfl, ?_⟩) | ((exact row_app (f := fun n => [pi n]) rfl rfl)) | ((simp [keys_snoc])) | (simp; done) | (simp; rfl)))), by dsimp only; omega⟩
    · have hjj : j = s.had.length := by omega
      subst hjj
      rw [Nat.sub_self, fairO] at h3
      ((refine hif_false ?_ ?_; (· (first | rfl | assumption | omega | (simp only [gt_iff_lt, ge_iff_le, decide_eq_true_eq, decide_eq_false_iff_not, beq_iff_eq, bne_iff_ne, ne_eq, beq_eq_false_iff_ne, bne_eq_false_iff_eq, List.length_map, List.length_append, List.length_cons, List.length_nil, List.length_take, List.length_drop, Bool.not_eq_true', Bool.not_eq_false', Bool.not_eq_true, Bool.not_eq_false, Decidable.not_not, Nat.cast_ofNat, Int.natCast_add] <;> omega) | (simp <;> omega))); conv => whnf); try (refine hcut.go ?_; conv => whnf))
      refine hQ0 _ _ ?_; conv => whnf
      refine ⟨{ x : List Int × List Int // (O) = x.1 ++ x.2 ∧ pick q x.2 = N }, fun | ⟨(a, b), _⟩ => hs 127 [(2, qs q), (114, .own 900), (115, i64 (O).length), (116, i64 a.length)] [(900, rowI (O))], fun x => x.1.2.length, ⟨([], O), rfl, hN⟩, ?_, ?_⟩
      · exact (hle_hs [(900, some 900)] rfl rfl rfl rfl (by repeat' (first | exact trivial | exact rfl | (refine ⟨⟨rfl, ?_⟩, ?_⟩) | (refine ⟨rfl, ?_⟩) | ((exact i64_eq (by rw [← h3]; simp))) | ((exact row_eqs (by rw [h3]))) | (simp; done) | (simp; rfl))) (by repeat' (first | exact trivial | exact rfl | exact .inl rfl | exact .inr rfl | (refine ⟨⟨rfl, .inl ⟨_, rfl, ?_⟩⟩, ?_⟩) | (refine ⟨⟨rfl, _, rfl, ?_⟩, ?_⟩) | (refine ⟨⟨rfl, .inr ⟨rfl, ?_⟩⟩, ?_⟩) | (refine ⟨rfl, ?_⟩) | ((exact i64_eq (by rw [← h3]; simp))) | ((exact row_eqs (by rw [h3]))) | (simp; done) | (simp; rfl))))
      rintro ⟨⟨a, b⟩, h, hp⟩
      dsimp only at h hp
      refine hwp_gen fun Q hQ => ?_
      cases b with
      | cons k b =>
        have hz := zip_cons h
        rw [pick] at hp
        conv => whnf
        refine hif_true (by rw [decide_eq_true_eq]; omega) ?_; conv => whnf
        ((refine hobl_intro ?_ ?_; (· (first | omega | (simp only [List.length_map, List.length_append, List.length_take, List.length_drop, List.length_cons, List.length_nil] <;> omega) | (simp <;> omega))); conv => whnf); try (refine hcut.go ?_; conv => whnf))
        refine hrow_mid h rfl ?_; conv => whnf
        ((refine hcall_lend ?_; (conv => whnf); refine ⟨_, spec_waits q k hb, rfl, ?_⟩; conv => whnf); try (refine hcut.go ?_; conv => whnf))
        by_cases c : first q k ≥ 0
        · rw [if_pos c] at hp
          refine hif_true (by simpa using c) ?_; conv => whnf
          refine hQ _ _ ?_; conv => whnf
          rw [hp]
        · rw [if_neg c] at hp
          refine hif_false (by simpa using c) ?_; conv => whnf
          (try (refine hcut.go ?_; conv => whnf))
          refine hwrap_fit (W_fit (by omega) (by omega)) ?_; conv => whnf
          refine hQ _ _ ?_; conv => whnf
          exact ⟨⟨(a ++ [k], b), zip_next h, hp⟩, (hle_hs [(900, some 900)] rfl rfl rfl rfl (by repeat' (first | exact trivial | exact rfl | (refine ⟨⟨rfl, ?_⟩, ?_⟩) | (refine ⟨rfl, ?_⟩) | (simp; done) | (simp; rfl))) (by repeat' (first | exact trivial | exact rfl | exact .inl rfl | exact .inr rfl | (refine ⟨⟨rfl, .inl ⟨_, rfl, ?_⟩⟩, ?_⟩) | (refine ⟨⟨rfl, _, rfl, ?_⟩, ?_⟩) | (refine ⟨⟨rfl, .inr ⟨rfl, ?_⟩⟩, ?_⟩) | (refine ⟨rfl, ?_⟩) | (simp; done) | (simp; rfl)))), by simp⟩
      | nil =>
        have hz := zip_nil h
        conv => whnf
        refine hif_false (by rw [decide_eq_false_iff_not]; omega) ?_; conv => whnf
        refine hQ _ _ ?_; conv => whnf
        rw [← hp]; rfl
  rw [if_neg c6]
  refine hif_false (by simpa using c6) ?_; conv => whnf
end Sch
end Go.HL
