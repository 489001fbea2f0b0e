/- SchedWaits: who waits has a turn. -/
import Derived.Test.YtcphdjljojcpnaaSched
namespace Go.HL
open Go.Proofs
namespace Sch
set_option maxHeartbeats 2000000
set_option maxRecDepth 100000

section
variable {α : Type} {p : α → Bool}
theorem idx_ge : ∀ {l : List α} {k : Nat}, -1 ≤ idxFrom p k l
  | [], k => by simp [idxFrom]
  | x :: r, k => by
    simp only [idxFrom]
    split
    · omega
    · exact idx_ge
theorem idx_none : ∀ {l : List α} {k : Nat}, idxFrom p k l < 0 → ∀ x ∈ l, p x = false
  | [], k, _, x, hx => by cases hx
  | y :: r, k, h, x, hx => by
    simp only [idxFrom] at h
    split at h
    · omega
    · rename_i hp
      rcases List.mem_cons.1 hx with rfl | hx
      · simpa using hp
      · exact idx_none h x hx
theorem idx_some : ∀ {l : List α} {k : Nat}, 0 ≤ idxFrom p k l → ∃ i, ∃ h : i < l.length, idxFrom p k l = ((k + i : Nat) : Int) ∧ p l[i] = true ∧ ∀ j, (hj : j < i) → p (l[j]'(Nat.lt_trans hj h)) = false
  | [], k, h => by simp [idxFrom] at h
  | y :: r, k, h => by
    simp only [idxFrom] at h ⊢
    by_cases hp : p y = true
    · exact ⟨0, by simp, by rw [if_pos hp]; simp, by simpa using hp, fun j hj => absurd hj (by omega)⟩
    · rw [if_neg hp] at h ⊢
      obtain ⟨i, h1, h2, h3, h4⟩ := idx_some h
      refine ⟨i + 1, by simp; omega, by rw [h2]; congr 1; omega, by simpa using h3, fun j hj => ?_⟩
      cases j with
      | zero => simpa using hp
      | succ j => simpa using h4 j (by omega)
end

/-- what a turn owes -/
def Good (q : List Queued) (r : Int) : Prop := ∃ k, ∃ h : k < q.length, r = k ∧ ∀ m ∈ q.take k, m.message.stream ≠ (q[k]).message.stream
theorem first_good {q : List Queued} {st : Int} (h : 0 ≤ first q st) : Good q (first q st) := by
  obtain ⟨i, h1, h2, h3, h4⟩ := idx_some h
  refine ⟨i, h1, by rw [first, h2]; simp, fun m hm => ?_⟩
  obtain ⟨j, hj, rfl⟩ := List.getElem_of_mem hm
  have hji : j < i := by simp at hj; omega
  have h5 := h4 j hji
  rw [List.getElem_take]
  simp only [beq_iff_eq, beq_eq_false_iff_ne] at h3 h5
  rw [h3]; exact h5
theorem first_none {q : List Queued} {st : Int} (h : ¬ 0 ≤ first q st) : ∀ m ∈ q, m.message.stream ≠ st := by
  intro m hm
  have h2 : first q st < 0 := by omega
  have := idx_none (p := fun m : Queued => m.message.stream == st) (l := q) (k := 0) h2 m hm
  simpa using this
theorem after_good {q : List Queued} {last n : Int} : ∀ {j k : Nat}, 0 ≤ after q last n k j → Good q (after q last n k j)
  | 0, k, h => by simp [after] at h
  | j + 1, k, h => by
    simp only [after] at h ⊢
    split
    · rename_i h1; exact first_good h1
    · rename_i h1
      rw [if_neg h1] at h
      exact after_good h
theorem after_none {q : List Queued} {last n : Int} : ∀ {j k : Nat}, ¬ 0 ≤ after q last n k j → ∀ i, k ≤ i → i < k + j → ∀ m ∈ q, m.message.stream ≠ (W (W (last + 1) + i)).tmod n
  | 0, k, h, i, h1, h2, m, hm => by omega
  | j + 1, k, h, i, h1, h2, m, hm => by
    simp only [after] at h
    split at h
    · rename_i h3; exact absurd h3 h
    · rename_i h3
      by_cases hik : i = k
      · subst hik; exact first_none h3 m hm
      · exact after_none h i (by omega) (by omega) m hm
theorem rank_good {q : List Queued} : ∀ {j k : Nat}, 0 ≤ rankFrom q k j → Good q (rankFrom q k j)
  | 0, k, h => by simp [rankFrom] at h
  | j + 1, k, h => by
    simp only [rankFrom] at h ⊢
    split
    · rename_i h1; exact first_good h1
    · rename_i h1
      rw [if_neg h1] at h
      exact rank_good h
theorem rank_none {q : List Queued} : ∀ {j k : Nat}, ¬ 0 ≤ rankFrom q k j → ∀ i : Nat, k ≤ i → i < k + j → ∀ m ∈ q, m.message.stream ≠ i
  | 0, k, h, i, h1, h2, m, hm => by omega
  | j + 1, k, h, i, h1, h2, m, hm => by
    simp only [rankFrom] at h
    split at h
    · rename_i h3; exact absurd h3 h
    · rename_i h3
      by_cases hik : i = k
      · subst hik; exact first_none h3 m hm
      · exact rank_none h i (by omega) (by omega) m hm
theorem least_keeps {q : List Queued} {had : List Int} : ∀ {l : List Int} {k : Nat} {best : Int}, 0 ≤ first q best ∧ 0 ≤ best → 0 ≤ first q (leastFrom q had best k l) ∧ 0 ≤ leastFrom q had best k l
  | [], k, best, h => h
  | n :: r, k, best, h => by
    simp only [leastFrom]
    split
    · rename_i h1; exact least_keeps ⟨h1.1, by omega⟩
    · exact least_keeps h
theorem least_has {q : List Queued} {had : List Int} : ∀ {l : List Int} {k : Nat} {best : Int}, (∃ i : Nat, k ≤ i ∧ i < k + l.length ∧ 0 ≤ first q i) → (best < 0 ∨ (0 ≤ first q best ∧ 0 ≤ best)) → 0 ≤ first q (leastFrom q had best k l) ∧ 0 ≤ leastFrom q had best k l
  | [], k, best, ⟨i, h1, h2, _⟩, hb => by simp at h2; omega
  | n :: r, k, best, ⟨i, h1, h2, h3⟩, hb => by
    rcases hb with hb | hb
    · simp only [leastFrom]
      by_cases hik : i = k
      · subst hik
        rw [if_pos ⟨h3, .inl hb⟩]
        exact least_keeps ⟨h3, by omega⟩
      · split
        · rename_i h4; exact least_keeps ⟨h4.1, by omega⟩
        · exact least_has ⟨i, by omega, by simp at h2; omega, h3⟩ (.inl hb)
    · exact least_keeps hb

theorem next_good {turns : Int} {s : Sched} {q : List Queued} (hq : q ≠ []) (h0 : 0 < s.had.length) (h9 : s.had.length < 2 ^ 40) (hl : 0 ≤ s.last) (hl2 : s.last < s.had.length) (ht : 1 ≤ turns) (ht5 : turns ≤ 5)
    (hs : ∀ m ∈ q, 0 ≤ m.message.stream ∧ m.message.stream < s.had.length) (hh : ∀ i, (h : i < q.length) → 0 < i → (q[i]).id ≠ s.hand) : Good q (next turns s q) := by
  obtain ⟨m, r, rfl⟩ : ∃ m r, q = m :: r := by cases q with
    | nil => exact absurd rfl hq
    | cons m r => exact ⟨m, r, rfl⟩
  generalize hq' : m :: r = q at *
  have hm : m ∈ q := by rw [← hq']; simp
  obtain ⟨hm1, hm2⟩ := hs m hm
  have haft : Good q (after q s.last s.had.length 0 s.had.length) := by
    by_cases h : 0 ≤ after q s.last s.had.length 0 s.had.length
    · exact after_good h
    · exfalso
      let d : Int := (m.message.stream - s.last - 1) % s.had.length
      have hd0 : 0 ≤ d := Int.emod_nonneg _ (by omega)
      have hd1 : d < s.had.length := Int.emod_lt_of_pos _ (by omega)
      refine after_none h d.toNat (by omega) (by omega) m hm ?_
      have e1 : W (s.last + 1) = s.last + 1 := W_fit (by omega) (by omega)
      have e2 : W (s.last + 1 + (d.toNat : Int)) = s.last + 1 + d := by rw [Int.toNat_of_nonneg hd0]; exact W_fit (by omega) (by omega)
      rw [e1, e2, Int.tmod_eq_emod_of_nonneg (by omega)]
      show m.message.stream = (s.last + 1 + (m.message.stream - s.last - 1) % s.had.length) % s.had.length
      rw [Int.add_emod, Int.emod_emod, ← Int.add_emod]
      rw [show s.last + 1 + (m.message.stream - s.last - 1) = m.message.stream by omega]
      exact (Int.emod_eq_of_lt hm1 hm2).symm
  have hlen : ¬ (q.length : Int) = 0 := by rw [← hq']; simp; omega
  have hlen2 : ¬ (s.had.length : Int) = 0 := by omega
  rw [next, if_neg hlen, if_neg hlen2]
  have hzero : Good q 0 := ⟨0, by omega, rfl, by simp⟩
  split
  · split
    · rename_i h
      obtain ⟨i, h1, h2, h3, h4⟩ := idx_some (show 0 ≤ idxFrom _ 0 q from h)
      rw [inHand, h2]
      cases i with
      | zero => exact hzero
      | succ i => exact absurd (by simpa using h3) (hh (i + 1) h1 (by omega))
    · exact haft
  · split
    · exact haft
    · split
      · by_cases h : 0 ≤ rankFrom q 0 s.had.length
        · exact rank_good h
        · exact absurd (show m.message.stream = (m.message.stream.toNat : Int) by omega) (rank_none h m.message.stream.toNat (by omega) (by omega) m hm)
      · split
        · have := least_has (q := q) (had := s.had) (l := s.had) (k := 0) (best := -1) ⟨m.message.stream.toNat, by omega, by omega, by
            rcases Int.lt_or_le (first q m.message.stream.toNat) 0 with h | h
            · exact absurd (show m.message.stream = (m.message.stream.toNat : Int) by omega) (first_none (by omega) m hm)
            · exact h⟩ (.inl (by omega))
          rw [least, if_neg (by omega)]
          exact first_good this.1
        · exact hzero

theorem waits (turns : Int) (s : Sched) (q : List Queued) (h9 : s.had.length < 2 ^ 40) (hb : q.length < 2 ^ 40) : FunOK Try.prog 7 [i64 turns, s.hv, qs q] noHeap (hbool true) noHeap := by
  refine funOK_pure mixed Try.func7 (by decide) ?_
  conv => whnf
  refine hcall_lend ?_; conv => whnf
  refine ⟨_, spec_alive, rfl, ?_⟩; conv => whnf
  refine hif_intro (fun h => ?_) (fun h1 => ?_) <;> conv => whnf
  refine hif_intro (fun h => ?_) (fun h2 => ?_) <;> conv => whnf
  refine hif_intro (fun h => ?_) (fun h3 => ?_) <;> conv => whnf
  refine hif_intro (fun h => ?_) (fun h4 => ?_) <;> conv => whnf
  refine hif_intro (fun h => ?_) (fun h5 => ?_) <;> conv => whnf
  simp only [decide_eq_false_iff_not, List.length_map, beq_eq_false_iff_ne] at h1 h2 h3 h4 h5
  let ok (m : Queued) (i : Nat) : Prop := (0 ≤ m.message.stream ∧ m.message.stream < s.had.length) ∧ (0 < i → m.id ≠ s.hand)
  refine ⟨{ k : Nat // k ≤ q.length ∧ ∀ i, (h : i < q.length) → i < k → ok q[i] i }, fun | ⟨k, _⟩ => hs 107 [(0, i64 turns), (2, qs q), (4, .ptr 4 0), (39, qs q), (40, i64 q.length), (41, i64 k)] [(4, .live (.cells 36 s.cells))], fun k => q.length - k.1, ⟨0, by omega, fun i _ h => absurd h (by omega)⟩, ?_, ?_⟩
  · exact hle_hs [(4, some 4)] rfl rfl rfl rfl ⟨⟨rfl, rfl⟩, ⟨rfl, rfl⟩, ⟨rfl, rfl⟩, ⟨rfl, rfl⟩, ⟨rfl, by simp; rfl⟩, ⟨rfl, rfl⟩, trivial⟩ ⟨⟨rfl, .inl ⟨4, rfl, rfl⟩⟩, trivial⟩
  rintro ⟨k, hk, hi⟩
  conv => whnf
  refine hif_intro (fun h => ?_) (fun h => ?_)
  · have hlt : k < q.length := by simpa using h
    conv => whnf
    refine hrow_intro (r := (q[k]).row) (by simp) (by simp [hlt]) ?_
    have fin : ∀ {s' : HS}, ok q[k] k → s'.n = 107 → s'.pins = [] → s'.slot 0 = i64 turns → s'.slot 2 = qs q → s'.slot 4 = .ptr 4 0 → s'.slot 39 = qs q → s'.slot 40 = i64 q.length → s'.slot 41 = i64 (W (k + 1)) → s'.heap 4 = .live (.cells 36 s.cells) →
        ∃ x' : { k : Nat // k ≤ q.length ∧ ∀ i, (h : i < q.length) → i < k → ok q[i] i }, HLe s' (match x' with | ⟨k, _⟩ => hs 107 [(0, i64 turns), (2, qs q), (4, .ptr 4 0), (39, qs q), (40, i64 q.length), (41, i64 k)] [(4, .live (.cells 36 s.cells))]) ∧ q.length - x'.1 < q.length - k := by
      intro s' a1 a2 a3 a4 a5 a6 a7 a8 a9 a10
      rw [W_nat hlt (by omega)] at a9
      exact ⟨⟨k + 1, hlt, fun i h' hlt' => by
        by_cases he : i = k
        · subst he; exact a1
        · exact hi i h' (by omega)⟩, hle_hs [(4, some 4)] a2.symm a3.symm rfl rfl ⟨⟨rfl, a4.symm⟩, ⟨rfl, a5.symm⟩, ⟨rfl, a6.symm⟩, ⟨rfl, a7.symm⟩, ⟨rfl, a8.symm⟩, ⟨rfl, a9.symm⟩, trivial⟩ ⟨⟨rfl, .inl ⟨4, rfl, a10⟩⟩, trivial⟩, by dsimp only; omega⟩
    conv => whnf
    refine hif_intro (fun c1 => ?_) (fun c1 => ?_) <;> conv => whnf
    refine hif_intro (fun c2 => ?_) (fun c2 => ?_) <;> conv => whnf
    have c1 := of_decide_eq_false c1
    have c2 : ¬ q[k].message.stream ≥ s.had.length := by simpa using c2
    refine hif_intro (fun c3 => ?_) (fun c3 => ?_)
    · conv => whnf
      refine hif_intro (fun c4 => ?_) (fun c4 => ?_) <;> conv => whnf
      have c4 : ¬ 0 < k := by simpa using c4
      refine hwrap_raw ?_; conv => whnf
      exact fin ⟨⟨by omega, by omega⟩, fun h => absurd h c4⟩ rfl rfl rfl rfl rfl rfl rfl rfl rfl
    · conv => whnf
      refine hwrap_raw ?_; conv => whnf
      exact fin ⟨⟨by omega, by omega⟩, fun _ => by simpa using c3⟩ rfl rfl rfl rfl rfl rfl rfl rfl rfl
  · have hge : q.length ≤ k := by simpa using h
    conv => whnf
    refine hcall_lend ?_; conv => whnf
    refine ⟨_, spec_next turns s q (by omega) (by omega), rfl, ?_⟩
    generalize hr : next turns s q = r
    conv => whnf
    refine hif_intro (fun c1 => ?_) (fun c1 => ?_)
    · conv => whnf
      have c1 : (q.length : Int) = 0 := by simpa using c1
      rw [next, if_pos c1] at hr
      rw [← hr]
      rfl
    have c1 : ¬ (q.length : Int) = 0 := by simpa using c1
    obtain ⟨j, hj, hjr, hall⟩ := next_good (turns := turns) (s := s) (q := q) (by rintro rfl; simp at c1) (by omega) (by omega) (by omega) (by omega) (by omega) (by omega)
      (fun m hm => by obtain ⟨i, h', rfl⟩ := List.getElem_of_mem hm; exact (hi i h' (by omega)).1) (fun i h' h0 => (hi i h' (by omega)).2 h0)
    rw [hr] at hjr
    subst hjr
    conv => whnf
    refine hif_false (decide_eq_false (by simp; omega)) ?_; conv => whnf
    refine hobl_intro (by simp; omega) ?_; conv => whnf
    refine hsub_intro (by simp; omega) ?_
    have e : ((q.map Queued.row).drop (Int.toNat 0)).take (Int.toNat ((j : Int) - 0)) = (q.take j).map Queued.row := by simp [List.map_take]
    rw [e]
    conv => whnf
    refine ⟨{ k : Nat // k ≤ j }, fun | ⟨k, _⟩ => hs 107 [(2, qs q), (9, i64 j), (90, qs (q.take j)), (91, i64 (q.take j).length), (92, i64 k)] [], fun k => j - k.1, ⟨0, by omega⟩, ?_, ?_⟩
    · exact hle_hs [] rfl rfl rfl rfl ⟨⟨rfl, rfl⟩, ⟨rfl, rfl⟩, ⟨rfl, rfl⟩, ⟨rfl, by simp; rfl⟩, ⟨rfl, rfl⟩, trivial⟩ trivial
    have hl : (q.take j).length = j := by simp; omega
    rintro ⟨i, hij⟩
    conv => whnf
    refine hif_intro (fun c => ?_) (fun c => ?_)
    · have hlt : i < (q.take j).length := by simpa using c
      conv => whnf
      refine hrow_intro (r := ((q.take j)[i]).row) (by omega) (by rw [Int.toNat_natCast, List.getElem?_map, List.getElem?_eq_getElem hlt]; rfl) ?_
      conv => whnf
      refine hrow_intro (r := (q[j]).row) (by omega) (by rw [Int.toNat_natCast, List.getElem?_map, List.getElem?_eq_getElem hj]; rfl) ?_
      conv => whnf
      refine hdraw_intro ?_ ?_
      · kernel_rfl
      conv => whnf
      have := hall _ (List.getElem_mem hlt)
      refine hif_false (by simpa using this) ?_
      conv => whnf
      refine hwrap_fit (W_fit (by omega) (by omega)) ?_; conv => whnf
      exact ⟨⟨i + 1, by omega⟩, hle_hs [] rfl rfl rfl rfl ⟨⟨rfl, rfl⟩, ⟨rfl, rfl⟩, ⟨rfl, rfl⟩, ⟨rfl, rfl⟩, ⟨rfl, by simp; rfl⟩, trivial⟩ trivial, by dsimp only; omega⟩
    · conv => whnf
end Sch
end Go.HL
