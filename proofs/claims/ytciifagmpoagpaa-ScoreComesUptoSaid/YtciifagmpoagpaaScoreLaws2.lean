/- The laws ScoreTwice and ScorePoint: what they hand back is true. -/
import Derived.Test.YtciifagmpoagpaaScoreLaws
namespace Go.HL
open Go.Proofs
namespace Sco
open Ser
set_option maxHeartbeats 4000000
set_option maxRecDepth 100000
set_option linter.unusedSimpArgs false
/-! ### Plain facts -/
theorem here_num {c : Chunk} {n : Int} {s t : Sent} (h : s.number = t.number) : here c n s = here c n t := by unfold here; rw [h]
theorem turn_num (c : Chunk) (n : Int) (s : Sent) : (turn c n s).number = s.number := by unfold turn; split <;> rfl
theorem age_num (h : Int) (s : Sent) : (age h s).number = s.number := by unfold age; (repeat' split) <;> rfl
theorem turn_path (c : Chunk) (n : Int) (s : Sent) : (turn c n s).path = s.path := by unfold turn; split <;> rfl
theorem age_path (h : Int) (s : Sent) : (age h s).path = s.path := by unfold age; (repeat' split) <;> rfl
theorem no_more (c : Chunk) (n h : Int) (t : Sent) : comes c n (age h (turn c n t)) = false := by
  have e : here c n (age h (turn c n t)) = here c n t := here_num (by rw [age_num, turn_num])
  rw [comes, e]
  by_cases hh : here c n t = true
  · by_cases hc : comes c n t = true
    · have : (age h (turn c n t)).state = 2 := by
        rw [turn, if_pos hc, age, if_neg (by simp)]
      rw [this]; simp
    · have hs : (t.state == 1 || t.state == 3) = false := by
        rw [comes, hh, Bool.true_and] at hc; simpa using hc
      have h1 : ¬ t.state = 1 := by intro h; rw [h] at hs; simp at hs
      rw [turn, if_neg hc, age, if_neg fun h => h1 h.1, hs]; simp
  · simp [hh]
theorem rise_drop : ∀ {l : List Sent} {cum n : Int}, (∀ (i : Nat) s, l[i]? = some s → s.number = cum + 1 + i) → cum ≤ n → (l.filter fun s => decide (s.number > n)) = l.drop (n - cum).toNat
  | [], cum, n, _, _ => by simp
  | s :: r, cum, n, h, hc => by
    have h0 := h 0 s rfl
    have hr : ∀ (i : Nat) t, r[i]? = some t → t.number = cum + 1 + 1 + i := by
      intro i t ht
      have := h (i + 1) t (by simpa using ht)
      omega
    rcases Int.lt_or_le cum n with hlt | hle
    · rw [List.filter_cons, if_neg (by simp; omega), rise_drop hr (by omega)]
      obtain ⟨k, hk⟩ : ∃ k, (n - cum).toNat = k + 1 := ⟨(n - cum).toNat - 1, by omega⟩
      rw [hk, List.drop_succ_cons]; congr 1; omega
    · have : n = cum := by omega
      subst this
      have hall : ∀ t ∈ (s :: r), decide (t.number > n) = true := by
        intro t ht
        obtain ⟨i, hi⟩ := List.getElem?_of_mem ht
        have := h i t hi
        simp; omega
      rw [List.filter_eq_self.2 hall]; simp
theorem sack_in {l : List Sent} {cum : Int} {c : Chunk} {paths n : Int} (hn : near cum c.tag = n) (h : ¬ (n < cum ∨ n > cum + l.length)) :
    sack l cum c paths = ((left c n l).map (age (highOf c n l)), n, comeOf c n paths.toNat l, lost (highOf c n l) (left c n l)) := by
  rw [sack, hn, if_neg h]
theorem sack_out {l : List Sent} {cum : Int} {c : Chunk} {paths : Int} (h : near cum c.tag < cum ∨ near cum c.tag > cum + l.length) :
    sack l cum c paths = (l, cum, List.replicate paths.toNat 0, []) := by
  rw [sack, if_pos h]
theorem quiet_come {c : Chunk} {n : Int} {p : Nat} : ∀ {l : List Sent}, (∀ s ∈ l, comes c n s = false) → comeOf c n p l = List.replicate p 0 := by
  intro l h
  unfold comeOf
  have gen : ∀ (l : List Sent) (z : List Int), (∀ s ∈ l, comes c n s = false) → l.foldl (come1 c n) z = z := by
    intro l
    induction l with
    | nil => intro z _; rfl
    | cons s r ih => intro z h; rw [List.foldl_cons, come1, if_neg (by rw [h s (by simp)]; decide), ih _ fun t ht => h t (by simp [ht])]
  exact gen l _ h
theorem quiet_high {c : Chunk} {n : Int} : ∀ {l : List Sent}, (∀ s ∈ l, comes c n s = false) → highOf c n l = 0 := by
  intro l h
  unfold highOf
  have gen : ∀ (l : List Sent) (z : Int), (∀ s ∈ l, comes c n s = false) → l.foldl (high1 c n) z = z := by
    intro l
    induction l with
    | nil => intro z _; rfl
    | cons s r ih => intro z h; rw [List.foldl_cons, high1, if_neg (by rw [h s (by simp)]; decide), ih _ fun t ht => h t (by simp [ht])]
  exact gen l _ h
theorem quiet_left {c : Chunk} {n : Int} {l : List Sent} (h : ∀ s ∈ l, comes c n s = false) (hn : ∀ s ∈ l, s.number > n) : left c n l = l := by
  rw [left, List.filter_eq_self.2 fun s hs => by simpa using hn s hs]
  conv => rhs; rw [← List.map_id l]
  exact List.map_congr_left fun s hs => by rw [turn, if_neg (by rw [h s hs]; decide)]; rfl
theorem quiet_age {l : List Sent} (hn : ∀ s ∈ l, 0 ≤ s.number) : l.map (age 0) = l := by
  conv => rhs; rw [← List.map_id l]
  exact List.map_congr_left fun s hs => by rw [age, if_neg fun h => by have := hn s hs; omega]; rfl
theorem quiet_lost {l : List Sent} (hn : ∀ s ∈ l, 0 ≤ s.number) : lost 0 l = [] := by
  rw [lost, List.filter_eq_nil_iff.2 fun s hs h => ?_]
  · rfl
  · have := hn s hs; simp at h; omega
theorem sack_mem {c : Chunk} {n h : Int} {l : List Sent} {s : Sent} (hs : s ∈ (left c n l).map (age h)) : ∃ t ∈ l, t.number > n ∧ s = age h (turn c n t) := by
  obtain ⟨y, hy, rfl⟩ := List.mem_map.1 hs
  obtain ⟨t, ht, rfl⟩ := List.mem_map.1 hy
  obtain ⟨h1, h2⟩ := List.mem_filter.1 ht
  exact ⟨t, h1, by simpa using h2, rfl⟩
theorem sack_right {l : List Sent} {cum paths : Int} (hr : Right l cum paths) (c : Chunk) (hl : l.length < 2 ^ 38) (hc : cum < 1000000) :
    Right (sack l cum c paths).1 (sack l cum c paths).2.1 paths ∧ cum ≤ (sack l cum c paths).2.1 ∧ (sack l cum c paths).2.1 ≤ cum + l.length := by
  by_cases k : near cum c.tag < cum ∨ near cum c.tag > cum + l.length
  · rw [sack_out k]; exact ⟨hr, Int.le_refl _, by dsimp only; omega⟩
  · rw [sack_in rfl k]
    generalize near cum c.tag = n at k ⊢
    dsimp only
    refine ⟨⟨fun s hs => ?_, hr.p0, hr.p1, by have := hr.c0; omega, by omega, fun i s hi => ?_⟩, by omega, by omega⟩
    · obtain ⟨t, ht, _, rfl⟩ := sack_mem hs
      rw [age_path, turn_path]; exact hr.path t ht
    · rw [left, rise_drop hr.rise (by omega), List.map_map] at hi
      simp only [List.getElem?_map, List.getElem?_drop, Option.map_eq_some_iff] at hi
      obtain ⟨t, ht, rfl⟩ := hi
      have := hr.rise _ t ht
      simp only [Function.comp]
      rw [age_num, turn_num, this]; omega
theorem twice {l : List Sent} {cum paths : Int} (hr : Right l cum paths) (c : Chunk) (hl : l.length < 2 ^ 38) (hc : cum < 1000000) :
    sack (sack l cum c paths).1 (sack l cum c paths).2.1 c paths = ((sack l cum c paths).1, (sack l cum c paths).2.1, List.replicate paths.toNat 0, []) := by
  by_cases k : near cum c.tag < cum ∨ near cum c.tag > cum + l.length
  · have e := sack_out (paths := paths) k
    rw [e]; dsimp only; rw [e]
  · have hc0 := hr.c0
    have hlo := near_lo (a := cum) (t := c.tag) (by omega) (by omega)
    rw [sack_in rfl k]
    generalize near cum c.tag = n at k hlo ⊢
    dsimp only
    have e : near n c.tag = n := by
      have := near_min (a := n) (t := c.tag) (d := 0) (by omega) (by omega) (by omega) (by simpa using hlo.2.2)
      simpa using this
    have q : ∀ s ∈ (left c n l).map (age (highOf c n l)), comes c n s = false := fun s hs => by obtain ⟨t, _, _, rfl⟩ := sack_mem hs; exact no_more _ _ _ _
    have g : ∀ s ∈ (left c n l).map (age (highOf c n l)), s.number > n := fun s hs => by obtain ⟨t, _, h, rfl⟩ := sack_mem hs; rw [age_num, turn_num]; exact h
    have g0 : ∀ s ∈ (left c n l).map (age (highOf c n l)), 0 ≤ s.number := fun s hs => by have := g s hs; omega
    generalize (left c n l).map (age (highOf c n l)) = A at q g g0
    rw [sack_in e (by omega), quiet_left q g, quiet_high q, quiet_come q, quiet_age g0, quiet_lost g0]

/-- a part's message is told of -/
def told (c : Chunk) (sk : List Skip) : Prop := ∃ k ∈ sk, skMatch c k = true
theorem told_skip (c : Chunk) : ∀ sk : List Skip, told c (skip c sk)
  | [] => ⟨_, List.mem_singleton.2 rfl, by simp [skMatch]⟩
  | k :: r => by
    rw [skip]
    split
    · rename_i h
      obtain ⟨h1, h2, h3⟩ := match_iff.1 h
      exact ⟨⟨k.stream, c.mid, k.ordered⟩, List.mem_cons_self .., match_iff.2 ⟨h1, h2, .inr rfl⟩⟩
    · obtain ⟨x, hx, hm⟩ := told_skip c r
      exact ⟨x, by simp [hx], hm⟩
theorem told_keep (c d : Chunk) : ∀ {sk : List Skip}, told d sk → told d (skip c sk)
  | [], ⟨k, hk, _⟩ => by simp at hk
  | k :: r, ⟨x, hx, hm⟩ => by
    rw [skip]
    split
    · rename_i h
      rcases List.mem_cons.1 hx with rfl | hx
      · obtain ⟨h1, h2, h3⟩ := match_iff.1 h
        obtain ⟨m1, m2, m3⟩ := match_iff.1 hm
        refine ⟨_, List.mem_cons_self .., match_iff.2 ⟨m1, m2, ?_⟩⟩
        rcases m3 with m3 | m3
        · exact .inl m3
        · rcases h3 with h3 | h3
          · left; rw [← m2, h2, h3]
          · right; dsimp only; rw [← h3, m3]
      · exact ⟨x, by simp [hx], hm⟩
    · rcases List.mem_cons.1 hx with rfl | hx
      · exact ⟨x, by simp, hm⟩
      · obtain ⟨y, hy, h2⟩ := told_keep c d ⟨x, hx, hm⟩
        exact ⟨y, by simp [hy], h2⟩
theorem point_spec : ∀ {b : List Sent} {z : Int} {sk : List Skip}, (∀ (i : Nat) s, b[i]? = some s → s.number = z + 1 + i) → z ≤ (pointFrom z sk b).1 ∧ (pointFrom z sk b).1 ≤ z + b.length ∧
    (∀ d, told d sk → told d (pointFrom z sk b).2) ∧ ∀ s ∈ b, s.number ≤ (pointFrom z sk b).1 → s.state = 2 ∨ (s.state = 4 ∧ told s.chunk (pointFrom z sk b).2)
  | [], z, sk, _ => by simp [pointFrom]
  | s :: r, z, sk, h => by
    have h0 := h 0 s rfl
    have hr : ∀ (i : Nat) t, r[i]? = some t → t.number = s.number + 1 + i := by
      intro i t ht
      have := h (i + 1) t (by simpa using ht)
      omega
    have stop : ∀ t ∈ s :: r, t.number ≤ z → False := by
      intro t ht hz
      obtain ⟨i, hi⟩ := List.getElem?_of_mem ht
      have := h i t hi
      omega
    rw [pointFrom]
    split
    · exact ⟨Int.le_refl _, by simp; omega, fun d hd => hd, fun t ht hz => (stop t ht hz).elim⟩
    rename_i k
    have k2 : s.state = 4 ∨ s.state = 2 := by
      apply Classical.byContradiction
      intro hc
      exact k (.inr ⟨fun e => hc (.inl e), fun e => hc (.inr e)⟩)
    split
    · rename_i k3
      split
      · exact ⟨Int.le_refl _, by simp; omega, fun d hd => hd, fun t ht hz => (stop t ht hz).elim⟩
      · obtain ⟨i1, i2, i3, i4⟩ := point_spec (sk := skip s.chunk sk) hr
        refine ⟨by omega, by simp only [List.length_cons]; push_cast; omega, fun d hd => i3 d (told_keep _ _ hd), fun t ht hz => ?_⟩
        rcases List.mem_cons.1 ht with rfl | ht
        · exact .inr ⟨k3, i3 _ (told_skip _ _)⟩
        · exact i4 t ht hz
    · rename_i k3
      obtain ⟨i1, i2, i3, i4⟩ := point_spec (sk := sk) hr
      refine ⟨by omega, by simp only [List.length_cons]; push_cast; omega, i3, fun t ht hz => ?_⟩
      rcases List.mem_cons.1 ht with rfl | ht
      · exact .inl (k2.resolve_left k3)
      · exact i4 t ht hz

/-! ### The walks -/
def part (n state : Int) : Sent := ⟨n, 0, state, 0, 0, 0, 0, 0, 0, ⟨1, 0, 0, 0, 0, false, false, [97, 98], [], 0, []⟩⟩
theorem spec_part (n state : Int) : FunOK Try.prog 23 [i64 n, i64 state] noHeap (part n state).hv noHeap := by
  refine funOK_pure mixed Try.func23 (by decide) ?_
  conv => whnf
  refine hobl_intro (by simp) ?_
  conv => whnf
  try rfl
def l0 : List Sent := [part 1 1, part 2 1, part 3 4]
def c0 : Chunk := ⟨2, 1, 0, 0, 0, false, false, [], [], 0, []⟩
theorem l0_sized : Sized l0 := ⟨by decide, by decide⟩
theorem l0_right : Right l0 0 1 := ⟨by simp [l0, part], by decide, by decide, by decide, by decide, by
  intro i s h
  match i, h with
  | 0, h => simp [l0, part] at h; subst h; rfl
  | 1, h => simp [l0, part] at h; subst h; rfl
  | 2, h => simp [l0, part] at h; subst h; rfl
  | i + 3, h => simp [l0] at h⟩
theorem l0_sack : sack l0 0 c0 1 = ([part 2 1, part 3 4], 1, [2], []) := by rfl
theorem l0_point : point [part 1 4] 0 = (1, [⟨0, 0, false⟩]) := by rfl
theorem spec_alive6 : FunOK Try.prog 12 [] noHeap (hbool true) noHeap := by
  refine funOK_pure mixed Try.func12 (by decide) ?_
  conv => whnf
  ((refine hcall_pure ?_; (conv => whnf); refine ⟨_, spec_part 1 1, rfl, ?_⟩; conv => whnf); try (refine hcut.go ?_; conv => whnf))
  ((refine hcall_pure ?_; (conv => whnf); refine ⟨_, spec_part 2 1, rfl, ?_⟩; conv => whnf); try (refine hcut.go ?_; conv => whnf))
  ((refine hcall_pure ?_; (conv => whnf); refine ⟨_, spec_part 3 4, rfl, ?_⟩; conv => whnf); try (refine hcut.go ?_; conv => whnf))
  refine hcall_pure ?_; (conv => whnf)
  refine ⟨_, spec_sack l0 0 c0 1 l0_sized l0_right (by decide), rfl, ?_⟩
  rw [l0_sack]
  conv => whnf
  ((refine hcall_pure ?_; (conv => whnf); refine ⟨_, spec_part 1 4, rfl, ?_⟩; conv => whnf); try (refine hcut.go ?_; conv => whnf))
  refine hcall_pure ?_; (conv => whnf)
  refine ⟨_, spec_point [part 1 4] 0 (by decide), rfl, ?_⟩
  rw [l0_point]
  conv => whnf
  (repeat' (first | (refine hwrap_raw ?_; conv => whnf) | (refine hobl_intro ?_ ?_; (first | kernel_rfl | decide); conv => whnf) | (refine hdraw_intro ?_ ?_; kernel_rfl; conv => whnf) | (refine hcut.go ?_; conv => whnf) | (refine hcall_lend ?_; (conv => whnf); refine ⟨_, spec_flight l0 0 l0_sized, rfl, ?_⟩; conv => whnf) | (refine hcall_own [(0, 65)]  ?_; (conv => whnf); refine ⟨_, _,  spec_give l0 0 l0_sized, ⟨⟨⟨rfl, rfl⟩, trivial⟩, rfl, rfl, rfl⟩, ?_⟩; conv => whnf) | (refine hcall_own [(0, 71)]  ?_; (conv => whnf); refine ⟨_, _,  spec_late l0 0 l0_sized, ⟨⟨⟨rfl, rfl⟩, trivial⟩, rfl, rfl, rfl⟩, ?_⟩; conv => whnf) | (refine hcall_own [(0, 77)]  ?_; (conv => whnf); refine ⟨_, _,  spec_own l0 l0_sized, ⟨⟨⟨rfl, rfl⟩, trivial⟩, rfl, rfl, rfl⟩, ?_⟩; conv => whnf) | (refine hrow_intro ?_ rfl ?_; (first | decide | kernel_rfl | omega); conv => whnf) | (refine hif_true ?_ ?_; · kernel_rfl; conv => whnf) | (refine hif_false ?_ ?_; · kernel_rfl; conv => whnf)))
  all_goals kernel_rfl
/-! ### Of a size that comes in -/
theorem bulk_chunk (c : Chunk) : c.data.length + 1 ≤ bulkL c.row ∧ c.spans.length ≤ bulkL c.row ∧ c.skips.length ≤ bulkL c.row := by
  have h1 := len_bulk (f := bRow) (fun x => by simp [bRow, bulkL, PV.bulk]) c.data
  have h2 := len_bulk (f := Span.row) (fun x => by simp [Span.row, bulkL, PV.bulk]) c.spans
  have h3 := len_bulk (f := Skip.row) (fun x => by simp [Skip.row, bulkL, PV.bulk]) c.skips
  simp only [Chunk.row, bulkL, PV.bulk]; omega
theorem bulk_sent (s : Sent) : s.chunk.data.length + 1 ≤ bulkL s.row ∧ s.chunk.spans.length ≤ bulkL s.row ∧ s.chunk.skips.length ≤ bulkL s.row := by
  have h1 := len_bulk (f := bRow) (fun x => by simp [bRow, bulkL, PV.bulk]) s.chunk.data
  have h2 := len_bulk (f := Span.row) (fun x => by simp [Span.row, bulkL, PV.bulk]) s.chunk.spans
  have h3 := len_bulk (f := Skip.row) (fun x => by simp [Skip.row, bulkL, PV.bulk]) s.chunk.skips
  simp only [Sent.row, bulkL, PV.bulk]; omega
theorem big_of {l : List Sent} (h : bulkR (l.map Sent.row) ≤ 1048576) : Big l := by
  have h1 := len_bulk (f := Sent.row) (fun s => by have := bulk_sent s; omega) l
  have h2 := sum_bulk (f := Sent.row) (g := fun s => s.chunk.data.length) (fun s => by have := bulk_sent s; omega) l
  refine ⟨⟨by omega, by unfold total; omega⟩, fun s hs => ?_⟩
  have h3 := mem_bulk (f := Sent.row) hs
  have h4 := bulk_sent s
  omega
end Sco
end Go.HL
