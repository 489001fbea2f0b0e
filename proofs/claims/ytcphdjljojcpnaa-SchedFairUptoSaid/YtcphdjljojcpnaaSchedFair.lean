/- SchedFair: of streams that all have enough to send none has had more than a part more than another one. -/
import Derived.Test.YtcphdjljojcpnaaSchedWaits
namespace Go.HL
open Go.Proofs
namespace Sch
set_option maxHeartbeats 2000000
set_option maxRecDepth 100000
set_option linter.unusedSimpArgs false

/-- one message of each stream -/
def all (n : Nat) : List Queued := (List.range n).map fun k : Nat => msg (k : Int) (k : Int)
theorem all_len (n : Nat) : (all n).length = n := by simp [all]
theorem all_get {n k : Nat} (h : k < (all n).length) : (all n)[k] = msg (k : Int) (k : Int) := by simp [all]
theorem all_succ (n : Nat) : all (n + 1) = all n ++ [msg n n] := by simp [all, List.range_succ]
theorem first_all : ∀ {n : Nat} {st : Int}, 0 ≤ st → st < n → first (all n) st = st := by
  intro n st h0 h1
  have hmem : msg st st ∈ all n := by
    refine List.mem_map.2 ⟨st.toNat, List.mem_range.2 (by omega), ?_⟩
    rw [Int.toNat_of_nonneg h0]
  have hge : 0 ≤ first (all n) st := by
    rcases Int.lt_or_le (first (all n) st) 0 with h | h
    · have := idx_none (p := fun m : Queued => m.message.stream == st) (l := all n) (k := 0) h _ hmem
      simp [msg] at this
    · exact h
  obtain ⟨i, h1', h2, h3, h4⟩ := idx_some hge
  rw [first, h2]
  rw [all_get] at h3
  simp [msg] at h3
  simp; omega
theorem first_out {n : Nat} {st : Int} (h : st < 0 ∨ (n : Int) ≤ st) : first (all n) st = -1 := by
  rcases Int.lt_or_le (first (all n) st) 0 with h2 | h2
  · have := idx_ge (p := fun m : Queued => m.message.stream == st) (l := all n) (k := 0)
    have e : first (all n) st = idxFrom (fun m : Queued => m.message.stream == st) 0 (all n) := rfl
    omega
  · obtain ⟨i, h1', h2, h3, h4⟩ := idx_some h2
    rw [all_get] at h3
    simp [msg] at h3
    rw [all_len] at h1'
    omega

/-- whose turn it is, by parts -/
theorem next_parts {n : Nat} {s : Sched} (hn : 0 < n) (hl : s.had.length = n) (h0 : 0 ≤ s.last) (h1 : s.last < n) (h9 : n < 100) : next 3 s (all n) = (s.last + 1) % n := by
  rw [next, if_neg (by rw [all_len]; omega), if_neg (by omega), if_neg (by decide), if_pos rfl, hl]
  obtain ⟨m, hm⟩ : ∃ m, n = m + 1 := ⟨n - 1, by omega⟩
  have e1 : W (s.last + 1) = s.last + 1 := W_fit (by omega) (by omega)
  have e2 : W (W (s.last + 1) + (0 : Nat)) = s.last + 1 := by rw [e1]; simp; exact e1
  have e3 : (s.last + 1).tmod (n : Int) = (s.last + 1) % n := Int.tmod_eq_emod_of_nonneg (by omega)
  have e4 : first (all n) ((s.last + 1) % n) = (s.last + 1) % n := first_all (Int.emod_nonneg _ (by omega)) (Int.emod_lt_of_pos _ (by omega))
  have hge : 0 ≤ (s.last + 1) % n := Int.emod_nonneg _ (by omega)
  show after (all n) s.last n 0 n = _
  generalize hq : all n = q at e4 ⊢
  rw [hm] at *
  show (if first q ((W (W (s.last + 1) + (0 : Nat))).tmod ((m + 1 : Nat) : Int)) ≥ 0 then first q ((W (W (s.last + 1) + (0 : Nat))).tmod ((m + 1 : Nat) : Int)) else _) = _
  rw [e2, e3, e4, if_pos hge]

/-- the least one, of all -/
theorem least_spec {n : Nat} {had : List Int} (hl : had.length = n) : ∀ {l : List Int} {k : Nat} {best : Int}, k + l.length = n → (∀ i, (h : i < l.length) → had[k + i]? = some l[i]) →
    ((best = -1 ∧ k = 0) ∨ (0 ≤ best ∧ best < k ∧ ∀ i, i < k → had[best.toNat]?.getD 0 ≤ had[i]?.getD 0)) → 0 < n →
    0 ≤ leastFrom (all n) had best k l ∧ leastFrom (all n) had best k l < n ∧ ∀ i, i < n → had[(leastFrom (all n) had best k l).toNat]?.getD 0 ≤ had[i]?.getD 0
  | [], k, best, h1, h2, h3, h0 => by
    simp only [leastFrom]
    simp at h1
    rcases h3 with ⟨_, h3⟩ | ⟨h3, h4, h5⟩
    · omega
    · exact ⟨h3, by omega, fun i hi => h5 i (by omega)⟩
  | x :: r, k, best, h1, h2, h3, h0 => by
    simp only [List.length_cons] at h1
    have hx : had[k]? = some x := by have := h2 0 (by simp); simpa using this
    have hr : ∀ i, (h : i < r.length) → had[k + 1 + i]? = some r[i] := fun i h => by
      have := h2 (i + 1) (by simp; omega)
      rw [show k + 1 + i = k + (i + 1) by omega]
      simpa using this
    have hf : first (all n) k = k := first_all (by omega) (by omega)
    simp only [leastFrom, hf]
    rcases h3 with ⟨h3, h4⟩ | ⟨h3, h4, h5⟩
    · rw [if_pos ⟨by omega, .inl (by omega)⟩]
      refine least_spec hl (by omega) hr (.inr ⟨by omega, by omega, fun i hi => ?_⟩) h0
      have : i = k := by omega
      subst this
      simp
    · split
      · rename_i hlt
        have hlt : x < had[best.toNat]?.getD 0 := by rcases hlt.2 with h | h; omega; exact h
        refine least_spec hl (by omega) hr (.inr ⟨by omega, by omega, fun i hi => ?_⟩) h0
        rw [Int.toNat_natCast, hx]
        rcases Nat.lt_or_ge i k with h | h
        · have := h5 i h; simp only [Option.getD_some]; omega
        · have : i = k := by omega
          subst this; rw [hx]; simp
      · rename_i hlt
        have hlt : ¬ x < had[best.toNat]?.getD 0 := fun h => hlt ⟨by omega, .inr h⟩
        refine least_spec hl (by omega) hr (.inr ⟨h3, by omega, fun i hi => ?_⟩) h0
        rcases Nat.lt_or_ge i k with h | h
        · exact h5 i h
        · have : i = k := by omega
          subst this; rw [hx]; simp only [Option.getD_some]; omega
theorem next_fair {n : Nat} {s : Sched} (hn : 0 < n) (hl : s.had.length = n) : 0 ≤ next 5 s (all n) ∧ next 5 s (all n) < n ∧ ∀ i, i < n → s.had[(next 5 s (all n)).toNat]?.getD 0 ≤ s.had[i]?.getD 0 := by
  rw [next, if_neg (by rw [all_len]; omega), if_neg (by omega), if_neg (by decide), if_neg (by decide), if_neg (by decide), if_pos rfl]
  obtain ⟨h1, h2, h3⟩ := least_spec hl (l := s.had) (k := 0) (best := -1) (by omega) (fun i h => by rw [Nat.zero_add, List.getElem?_eq_getElem h]) (.inl ⟨rfl, rfl⟩) hn
  rw [least, if_neg (by omega), first_all h1 h2]
  exact ⟨h1, h2, h3⟩

theorem setD {l : List Int} {t : Nat} (h : t < l.length) (a : Int) (i : Nat) : (l.set t a)[i]?.getD 0 = if t = i then a else l[i]?.getD 0 := by
  rw [List.getElem?_set]
  split
  · first | rfl | (rw [if_pos h]; rfl)
  · rfl
/-- what holds behind so many turns: how often each one had a turn -/
structure FI (n : Nat) (part : Int) (fair : Bool) (k : Nat) (s : Sched) (had : List Int) : Prop where
  len : had.length = n
  slen : s.had.length = n
  lo : ∀ i : Nat, i < n → 0 ≤ had[i]?.getD 0 ∧ had[i]?.getD 0 ≤ k
  close : ∀ i j : Nat, i < n → j < n → had[i]?.getD 0 ≤ had[j]?.getD 0 + 1
  bytes : ∀ i : Nat, i < n → s.had[i]?.getD 0 = part * had[i]?.getD 0
  turn : 0 ≤ s.last ∧ s.last < n
  round : fair = false → ∃ q : Int, ∀ i : Nat, i < n → had[i]?.getD 0 = if (i : Int) ≤ s.last then q + 1 else q
theorem FI.start {n : Nat} (part : Int) (fair : Bool) (hn : 0 < n) (h4 : n ≤ 4) : FI n part fair 0 (new n) (List.replicate n 0) := by
  have e1 : W ((n : Int) - 1) = n - 1 := W_fit (by omega) (by omega)
  have e2 : (max (n : Int) 0).toNat = n := by omega
  have hg : ∀ i : Nat, (List.replicate n (0 : Int))[i]?.getD 0 = 0 := by
    intro i
    rw [List.getElem?_replicate]
    split <;> rfl
  have hd : (new n).had = List.replicate n 0 := by simp only [new, e2]
  have hlast : (new n).last = n - 1 := by simp only [new, e1]
  refine ⟨by simp, by rw [hd]; simp, ?_, ?_, ?_, by rw [hlast]; omega, ?_⟩
  · intro i _; rw [hg]; omega
  · intro i j _ _; rw [hg, hg]; omega
  · intro i _; rw [hd, hg]; simp
  · intro _
    refine ⟨-1, fun i hi => ?_⟩
    rw [hlast, hg, if_pos (by omega)]; rfl
theorem FI.next {n : Nat} {part : Int} {fair : Bool} {k : Nat} {s : Sched} {hd : List Int} (h : FI n part fair k s hd) (hn : 0 < n) (h4 : n ≤ 4) (hp : 1 ≤ part) (hp2 : part ≤ 16) (hk : k < 100) :
    ∃ t : Nat, t < n ∧ Sch.next (if fair then 5 else 3) s (all n) = t ∧ FI n part fair (k + 1) (had s (msg t t) part false) (hd.set t (hd[t]?.getD 0 + 1)) := by
  have hturn : ∃ t : Nat, t < n ∧ Sch.next (if fair then 5 else 3) s (all n) = t ∧ (∀ i : Nat, i < n → fair = true → hd[t]?.getD 0 ≤ hd[i]?.getD 0) ∧ (fair = false → (t : Int) = (s.last + 1) % n) := by
    cases fair with
    | true =>
      obtain ⟨h1, h2, h3⟩ := next_fair hn h.slen
      refine ⟨(Sch.next 5 s (all n)).toNat, by omega, by simp; omega, fun i hi _ => ?_, fun h => (by cases h)⟩
      have := h3 i hi
      rw [h.bytes _ (by omega), h.bytes i hi] at this
      exact Int.le_of_mul_le_mul_left this (by omega)
    | false =>
      have h1 := next_parts hn h.slen h.turn.1 h.turn.2 (by omega)
      have h2 : 0 ≤ (s.last + 1) % n := Int.emod_nonneg _ (by omega)
      have h3 : (s.last + 1) % n < n := Int.emod_lt_of_pos _ (by omega)
      exact ⟨((s.last + 1) % n).toNat, by omega, by simp [h1]; omega, fun i hi h => (by cases h), fun _ => by omega⟩
  obtain ⟨t, ht, hnext, hleast, hround⟩ := hturn
  have hlo := h.lo
  have hW : W (s.had[t]?.getD 0 + part) = part * (hd[t]?.getD 0 + 1) := by
    have h1 := h.lo t ht
    have h2 : 0 ≤ part * hd[t]?.getD 0 := Int.mul_nonneg (by omega) h1.1
    have h3 : part * hd[t]?.getD 0 ≤ 16 * 100 := Int.mul_le_mul hp2 (by omega) h1.1 (by omega)
    rw [h.bytes t ht, W_fit (by omega) (by omega), Int.mul_add, Int.mul_one]
  have hs' : (had s (msg t t) part false).had = s.had.set t (part * (hd[t]?.getD 0 + 1)) := by
    simp only [had, msg, Int.toNat_natCast, hW]
    rw [if_pos ⟨by omega, by rw [h.slen]; omega⟩]
  refine ⟨t, ht, hnext, ⟨by simp [h.len], by rw [hs']; simp [h.slen], ?_, ?_, ?_, ?_, ?_⟩⟩
  · intro i hi
    rw [setD (by rw [h.len]; exact ht)]
    have h1 := hlo i hi
    have h2 := hlo t ht
    split <;> push_cast <;> omega
  · intro i j hi hj
    rw [setD (by rw [h.len]; exact ht), setD (by rw [h.len]; exact ht)]
    have h1 := h.close i j hi hj
    have h2 := h.close t j ht hj
    have h3 := h.close i t hi ht
    cases hf : fair with
    | true =>
      have h4 := hleast j hj hf
      split <;> split <;> omega
    | false =>
      obtain ⟨q, hq⟩ := h.round hf
      have h4 := hround hf
      have e1 := hq i hi
      have e2 := hq j hj
      have e3 := hq t ht
      have e0 := hq 0 (by omega)
      have hl := h.turn
      have h5 : (t : Int) = if s.last = n - 1 then 0 else s.last + 1 := by
        rw [h4]
        split
        · rename_i h; rw [h, show (n : Int) - 1 + 1 = n by omega, Int.emod_self]
        · exact Int.emod_eq_of_lt (by omega) (by omega)
      split at h5 <;> split at e1 <;> split at e2 <;> split at e3 <;> split <;> split <;> omega
  · intro i hi
    rw [hs', setD (by rw [h.slen]; exact ht), setD (by rw [h.len]; exact ht)]
    split
    · rfl
    · exact h.bytes i hi
  · show 0 ≤ (t : Int) ∧ (t : Int) < n
    omega
  · intro hf
    obtain ⟨q, hq⟩ := h.round hf
    have h4 := hround hf
    have hl := h.turn
    have h5 : (t : Int) = if s.last = n - 1 then 0 else s.last + 1 := by
      rw [h4]
      split
      · rename_i h; rw [h, show (n : Int) - 1 + 1 = n by omega, Int.emod_self]
      · exact Int.emod_eq_of_lt (by omega) (by omega)
    have e3 := hq t ht
    refine ⟨if s.last = n - 1 then q + 1 else q, fun i hi => ?_⟩
    have e1 := hq i hi
    rw [setD (by rw [h.len]; exact ht)]
    show (if t = i then hd[t]?.getD 0 + 1 else hd[i]?.getD 0) = if (i : Int) ≤ (t : Int) then (if s.last = n - 1 then q + 1 else q) + 1 else if s.last = n - 1 then q + 1 else q
    by_cases hc : s.last = n - 1
    · rw [if_pos hc] at h5
      rw [if_pos hc]
      split at e1 <;> split at e3 <;> split <;> split <;> omega
    · rw [if_neg hc] at h5
      rw [if_neg hc]
      split at e1 <;> split at e3 <;> split <;> split <;> omega

theorem fair (streams part times : Int) (byBytes : Bool) : FunOK Try.prog 8 [i64 streams, i64 part, i64 times, hbool byBytes] noHeap (hbool true) noHeap := by
  refine funOK_pure mixed Try.func8 (by decide) ?_
  conv => whnf
  refine hcall_lend ?_; conv => whnf
  refine ⟨_, spec_alive, rfl, ?_⟩; conv => whnf
  refine hif_intro (fun h => ?_) (fun h1 => ?_) <;> conv => whnf
  refine hif_intro (fun h => ?_) (fun h2 => ?_) <;> conv => whnf
  refine hif_intro (fun h => ?_) (fun h3 => ?_) <;> conv => whnf
  refine hif_intro (fun h => ?_) (fun h4 => ?_) <;> conv => whnf
  refine hif_intro (fun h => ?_) (fun h5 => ?_) <;> conv => whnf
  refine hif_intro (fun h => ?_) (fun h6 => ?_) <;> conv => whnf
  simp only [decide_eq_false_iff_not] at h1 h2 h3 h4 h5 h6
  obtain ⟨n, rfl⟩ : ∃ n : Nat, streams = n := ⟨streams.toNat, by omega⟩
  refine ⟨{ k : Nat // k ≤ n }, fun | ⟨k, _⟩ => hs 106 [(0, i64 n), (1, i64 part), (2, i64 times), (3, hbool byBytes), (9, .own 900), (43, i64 n), (44, i64 k)] [(900, .live (.row 42 10 ((all k).map Queued.row)))], fun x => n - x.1, ⟨0, by omega⟩, ?_, ?_⟩
  · exact hle_hs [(900, none)] rfl rfl rfl rfl ⟨⟨rfl, rfl⟩, ⟨rfl, rfl⟩, ⟨rfl, rfl⟩, ⟨rfl, rfl⟩, ⟨rfl, rfl⟩, ⟨rfl, rfl⟩, ⟨rfl, rfl⟩, trivial⟩ ⟨⟨rfl, .inr ⟨rfl, rfl⟩⟩, trivial⟩
  rintro ⟨k, hk⟩
  conv => whnf
  refine hif_intro (fun c => ?_) (fun c => ?_)
  · have hlt : k < n := by simpa using c
    conv => whnf
    refine hcall_pure ?_; conv => whnf
    refine ⟨_, spec_msg k k, rfl, ?_⟩; conv => whnf
    refine hobl_intro (c := (((all k).map Queued.row).length + 1) * 96 ≤ 140737488355328) (by rw [List.length_map, all_len]; omega) ?_; conv => whnf
    refine hwrap_fit (W_fit (by omega) (by omega)) ?_; conv => whnf
    refine ⟨⟨k + 1, hlt⟩, hle_hs [(900, some 52)] rfl rfl rfl rfl ⟨⟨rfl, rfl⟩, ⟨rfl, rfl⟩, ⟨rfl, rfl⟩, ⟨rfl, rfl⟩, ⟨rfl, rfl⟩, ⟨rfl, rfl⟩, ⟨rfl, by simp; rfl⟩, trivial⟩ ⟨⟨rfl, .inl ⟨52, rfl, ?_⟩⟩, trivial⟩, by dsimp only; omega⟩
    show HSlot.live (.row _ 10 ((all k).map Queued.row ++ [(msg k k).row])) = HSlot.live (.row _ 10 ((all (k + 1)).map Queued.row))
    rw [all_succ, List.map_append]
    rfl
  have hkn : k = n := by have := of_decide_eq_false c; omega
  subst hkn
  conv => whnf
  refine hcut.meet PUnit (fun _ => hs 106 [(0, i64 k), (1, i64 part), (2, i64 times), (9, .own 900), (11, i64 (if byBytes then 5 else 3))] [(900, .live (.row 42 10 ((all k).map Queued.row)))]) ?_ ?_
  · conv => whnf
    refine hif_intro (fun hb => ?_) (fun hb => ?_)
    · subst hb
      conv => whnf
      exact ⟨⟨⟩, hle_hs [(900, some 900)] rfl rfl rfl rfl ⟨⟨rfl, rfl⟩, ⟨rfl, rfl⟩, ⟨rfl, rfl⟩, ⟨rfl, rfl⟩, ⟨rfl, rfl⟩, trivial⟩ ⟨⟨rfl, .inl ⟨900, rfl, rfl⟩⟩, trivial⟩⟩
    · subst hb
      conv => whnf
      exact ⟨⟨⟩, hle_hs [(900, some 900)] rfl rfl rfl rfl ⟨⟨rfl, rfl⟩, ⟨rfl, rfl⟩, ⟨rfl, rfl⟩, ⟨rfl, rfl⟩, ⟨rfl, rfl⟩, trivial⟩ ⟨⟨rfl, .inl ⟨900, rfl, rfl⟩⟩, trivial⟩⟩
  rintro ⟨⟩
  conv => whnf
  refine hcall_pure ?_; conv => whnf
  refine ⟨_, spec_new k (by omega), rfl, ?_⟩
  have hstart := FI.start part byBytes (n := k) (by omega) (by omega)
  generalize new k = s0 at hstart ⊢
  conv => whnf
  refine hobl_intro (c := 0 ≤ (k : Int) ∧ (k : Int) = k ∧ (k : Int) * 8 ≤ 140737488355328) (by omega) ?_; conv => whnf
  refine ⟨{ x : Nat × Sched × List Int // (x.1 : Int) ≤ times ∧ FI k part byBytes x.1 x.2.1 x.2.2 }, fun | ⟨(j, s, hd), _⟩ => hs 106 [(1, i64 part), (9, .own 900), (11, i64 (if byBytes then 5 else 3)), (12, .ptr 12 0), (13, .own 901), (59, i64 times), (60, i64 j)] [(900, .live (.row 42 10 ((all k).map Queued.row))), (12, .live (.cells 36 s.cells)), (901, .live (.row 3 1 (hd.map fun n => [pi n])))], fun x => times.toNat - x.1.1, ⟨(0, s0, List.replicate k 0), by dsimp only; omega, hstart⟩, ?_, ?_⟩
  · refine hle_hs [(900, some 900), (12, some 12), (901, some 58)] rfl rfl rfl rfl ⟨⟨rfl, rfl⟩, ⟨rfl, rfl⟩, ⟨rfl, rfl⟩, ⟨rfl, rfl⟩, ⟨rfl, rfl⟩, ⟨rfl, rfl⟩, ⟨rfl, rfl⟩, trivial⟩ ⟨⟨rfl, .inl ⟨900, rfl, rfl⟩⟩, ⟨rfl, .inl ⟨12, rfl, rfl⟩⟩, ⟨rfl, .inl ⟨58, rfl, ?_⟩⟩, trivial⟩
    show HSlot.live (.row _ 1 (List.replicate (k : Int).toNat [pi 0])) = HSlot.live (.row _ 1 ((List.replicate k (0 : Int)).map fun n => [pi n]))
    rw [List.map_replicate]
    rfl
  rintro ⟨⟨j, s, hd⟩, hj, hinv⟩
  dsimp only at hj hinv
  have hal : ((all k).map Queued.row).length = k := by rw [List.length_map, all_len]
  conv => whnf
  refine hif_intro (fun c1 => ?_) (fun c1 => ?_)
  · have hjt : (j : Int) < times := by simpa using c1
    obtain ⟨t, ht, hnext, hn⟩ := hinv.next (by omega) (by omega) (by omega) (by omega) (by omega)
    conv => whnf
    refine hcall_lend ?_; conv => whnf
    refine ⟨_, spec_next (if byBytes then 5 else 3) s (all k) (by rw [hinv.slen]; omega) (by rw [all_len]; omega), rfl, ?_⟩
    rw [hnext]
    conv => whnf
    refine hif_false ?_ ?_
    · refine decide_eq_false ?_
      rw [hal]; omega
    conv => whnf
    have hdl : (hd.map fun n => [pi n]).length = k := by rw [List.length_map, hinv.len]
    refine hobl_intro (by rw [hdl]; omega) ?_; conv => whnf
    refine hrow_at (f := fun n => [pi n]) (l := hd) t (by omega) (by rw [hinv.len]; exact ht) ?_; conv => whnf
    have hv := hinv.lo t ht
    have hget : hd[t]'(by rw [hinv.len]; exact ht) = hd[t]?.getD 0 := by rw [List.getElem?_eq_getElem (by rw [hinv.len]; exact ht)]; rfl
    refine hwrap_fit (W_fit (by rw [hget]; omega) (by rw [hget]; omega)) ?_; conv => whnf
    refine hobl_intro (by rw [hdl]; omega) ?_; conv => whnf
    refine hrow_at (f := fun n => [pi n]) (l := hd) t (by omega) (by rw [hinv.len]; exact ht) ?_; conv => whnf
    refine hobl_intro (by rw [hal]; omega) ?_; conv => whnf
    refine hrow_at (f := Queued.row) (l := all k) t (by omega) (by rw [all_len]; exact ht) ?_
    rw [all_get]
    conv => whnf
    refine hcall_pure ?_; conv => whnf
    refine ⟨_, spec_had s (msg t t) part false (by rw [hinv.slen]; omega), rfl, ?_⟩
    generalize had s (msg t t) part false = s' at hn ⊢
    conv => whnf
    refine hdraw_intro ?_ ?_
    · kernel_rfl
    conv => whnf
    refine hwrap_fit (W_fit (by omega) (by omega)) ?_; conv => whnf
    refine ⟨⟨(j + 1, s', hd.set t (hd[t]?.getD 0 + 1)), by dsimp only; omega, hn⟩, hle_hs [(900, some 900), (12, some 12), (901, some 901)] rfl rfl rfl rfl ⟨⟨rfl, rfl⟩, ⟨rfl, rfl⟩, ⟨rfl, rfl⟩, ⟨rfl, rfl⟩, ⟨rfl, rfl⟩, ⟨rfl, rfl⟩, ⟨rfl, by simp; rfl⟩, trivial⟩ ⟨⟨rfl, .inl ⟨900, rfl, rfl⟩⟩, ⟨rfl, .inl ⟨12, rfl, rfl⟩⟩, ⟨rfl, .inl ⟨901, rfl, ?_⟩⟩, trivial⟩, by dsimp only; omega⟩
    show HSlot.live (.row _ 1 ((hd.map fun n => [pi n]).set t [pi (hd[t]'(by rw [hinv.len]; exact ht) + 1)])) = HSlot.live (.row _ 1 ((hd.set t (hd[t]?.getD 0 + 1)).map fun n => [pi n]))
    rw [hget, List.map_set]
  have hget : ∀ i : Nat, (h : i < hd.length) → hd[i] = hd[i]?.getD 0 := fun i h => by rw [List.getElem?_eq_getElem h]; rfl
  have hdl : (hd.map fun n => [pi n]).length = k := by rw [List.length_map, hinv.len]
  conv => whnf
  refine ⟨{ i : Nat // i ≤ k }, fun | ⟨i, _⟩ => hs 106 [(13, .own 901), (88, .own 901), (89, i64 k), (90, i64 i)] [(901, .live (.row 3 1 (hd.map fun n => [pi n])))], fun x => k - x.1, ⟨0, by omega⟩, ?_, ?_⟩
  · exact hle_hs [(901, some 901)] rfl rfl rfl rfl ⟨⟨rfl, rfl⟩, ⟨rfl, rfl⟩, ⟨rfl, congrArg (fun z : Nat => i64 z) hdl.symm⟩, ⟨rfl, rfl⟩, trivial⟩ ⟨⟨rfl, .inl ⟨901, rfl, rfl⟩⟩, trivial⟩
  rintro ⟨i, hi⟩
  conv => whnf
  refine hif_intro (fun c2 => ?_) (fun c2 => ?_)
  rotate_left
  · conv => whnf
  have hik : i < k := by simpa using c2
  conv => whnf
  refine hobl_intro (by rw [hdl]; omega) ?_; conv => whnf
  refine hrow_at (f := fun n => [pi n]) (l := hd) i (by omega) (by rw [hinv.len]; exact hik) ?_; conv => whnf
  refine ⟨{ m : Nat // m ≤ k }, fun | ⟨m, _⟩ => hs 106 [(13, .own 901), (16, i64 (hd[i]?.getD 0)), (88, .own 901), (89, i64 k), (90, i64 i), (94, .own 901), (95, i64 k), (96, i64 m)] [(901, .live (.row 3 1 (hd.map fun n => [pi n])))], fun x => k - x.1, ⟨0, by omega⟩, ?_, ?_⟩
  · exact hle_hs [(901, some 901)] rfl rfl rfl rfl ⟨⟨rfl, rfl⟩, ⟨rfl, by rw [← hget i (by rw [hinv.len]; exact hik)]; rfl⟩, ⟨rfl, rfl⟩, ⟨rfl, rfl⟩, ⟨rfl, rfl⟩, ⟨rfl, rfl⟩, ⟨rfl, congrArg (fun z : Nat => i64 z) hdl.symm⟩, ⟨rfl, rfl⟩, trivial⟩ ⟨⟨rfl, .inl ⟨901, rfl, rfl⟩⟩, trivial⟩
  rintro ⟨m, hm⟩
  conv => whnf
  refine hif_intro (fun c3 => ?_) (fun c3 => ?_)
  · have hmk : m < k := by simpa using c3
    have h1 := hinv.lo i hik
    have h2 := hinv.lo m hmk
    have h3 := hinv.close i m hik hmk
    conv => whnf
    refine hobl_intro (by rw [hdl]; omega) ?_; conv => whnf
    refine hrow_at (f := fun n => [pi n]) (l := hd) m (by omega) (by rw [hinv.len]; exact hmk) ?_
    rw [hget m (by rw [hinv.len]; exact hmk)]
    conv => whnf
    refine hwrap_fit (W_fit (by omega) (by omega)) ?_; conv => whnf
    refine hif_false (decide_eq_false (by omega)) ?_; conv => whnf
    refine hwrap_fit (W_fit (by omega) (by omega)) ?_; conv => whnf
    exact ⟨⟨m + 1, hmk⟩, hle_hs [(901, some 901)] rfl rfl rfl rfl ⟨⟨rfl, rfl⟩, ⟨rfl, rfl⟩, ⟨rfl, rfl⟩, ⟨rfl, rfl⟩, ⟨rfl, rfl⟩, ⟨rfl, rfl⟩, ⟨rfl, rfl⟩, ⟨rfl, by simp; rfl⟩, trivial⟩ ⟨⟨rfl, .inl ⟨901, rfl, rfl⟩⟩, trivial⟩, by dsimp only; omega⟩
  · conv => whnf
    refine hwrap_fit (W_fit (by omega) (by omega)) ?_; conv => whnf
    exact ⟨⟨i + 1, hik⟩, hle_hs [(901, some 901)] rfl rfl rfl rfl ⟨⟨rfl, rfl⟩, ⟨rfl, rfl⟩, ⟨rfl, rfl⟩, ⟨rfl, by simp; rfl⟩, trivial⟩ ⟨⟨rfl, .inl ⟨901, rfl, rfl⟩⟩, trivial⟩, by dsimp only; omega⟩
end Sch
end Go.HL
