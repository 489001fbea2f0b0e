/- The laws ScoreTwice and ScorePoint: what they hand back is true. -/
import Derived.Test.YtmdhpdeelnlhkaaScoreLaws
namespace Go.HL
open Go.Proofs
namespace Sco
open Ser
set_option maxHeartbeats 4000000
set_option maxRecDepth 100000
set_option linter.unusedSimpArgs false
/-! ### Plain facts -/
theorem here_num {c : Chunk} {n : Int} {s t : Sent} (h : s.number = t.number) : here c n s = here c n t := by unfold here; rw [h]
theorem turn_num (c : Chunk) (n : Int) (s : Sent) : (turn c n s).number = s.number := by unfold turn; split <;> rfl
theorem age_num (h : Int) (s : Sent) : (age h s).number = s.number := by unfold age; (repeat' split) <;> rfl
theorem turn_path (c : Chunk) (n : Int) (s : Sent) : (turn c n s).path = s.path := by unfold turn; split <;> rfl
theorem age_path (h : Int) (s : Sent) : (age h s).path = s.path := by unfold age; (repeat' split) <;> rfl
theorem no_more (c : Chunk) (n h : Int) (t : Sent) : comes c n (age h (turn c n t)) = false := by
  have e : here c n (age h (turn c n t)) = here c n t := here_num (by rw [age_num, turn_num])
  rw [comes, e]
  by_cases hh : here c n t = true
  · by_cases hc : comes c n t = true
    · have : (age h (turn c n t)).state = 2 := by
        rw [turn, if_pos hc, age, if_neg (by simp)]
      rw [this]; simp
    · have hs : (t.state == 1 || t.state == 3) = false := by
        rw [comes, hh, Bool.true_and] at hc; simpa using hc
      have h1 : ¬ t.state = 1 := by intro h; rw [h] at hs; simp at hs
      rw [turn, if_neg hc, age, if_neg fun h => h1 h.1, hs]; simp
  · simp [hh]
theorem rise_drop : ∀ {l : List Sent} {cum n : Int}, (∀ (i : Nat) s, l[i]? = some s → s.number = cum + 1 + i) → cum ≤ n → (l.filter fun s => decide (s.number > n)) = l.drop (n - cum).toNat
  | [], cum, n, _, _ => by simp
  | s :: r, cum, n, h, hc => by
    have h0 := h 0 s rfl
    have hr : ∀ (i : Nat) t, r[i]? = some t → t.number = cum + 1 + 1 + i := by
      intro i t ht
      have := h (i + 1) t (by simpa using ht)
      omega
    rcases Int.lt_or_le cum n with hlt | hle
    · rw [List.filter_cons, if_neg (by simp; omega), rise_drop hr (by omega)]
      obtain ⟨k, hk⟩ : ∃ k, (n - cum).toNat = k + 1 := ⟨(n - cum).toNat - 1, by omega⟩
      rw [hk, List.drop_succ_cons]; congr 1; omega
    · have : n = cum := by omega
      subst this
      have hall : ∀ t ∈ (s :: r), decide (t.number > n) = true := by
        intro t ht
        obtain ⟨i, hi⟩ := List.getElem?_of_mem ht
        have := h i t hi
        simp; omega
      rw [List.filter_eq_self.2 hall]; simp
theorem sack_in {l : List Sent} {cum : Int} {c : Chunk} {paths n : Int} (hn : near cum c.tag = n) (h : ¬ (n < cum ∨ n > cum + l.length)) :
    sack l cum c paths = ((left c n l).map (age (highOf c n l)), n, comeOf c n paths.toNat l, lost (highOf c n l) (left c n l)) := by
  rw [sack, hn, if_neg h]
theorem sack_out {l : List Sent} {cum : Int} {c : Chunk} {paths : Int} (h : near cum c.tag < cum ∨ near cum c.tag > cum + l.length) :
    sack l cum c paths = (l, cum, List.replicate paths.toNat 0, []) := by
  rw [sack, if_pos h]
theorem quiet_come {c : Chunk} {n : Int} {p : Nat} : ∀ {l : List Sent}, (∀ s ∈ l, comes c n s = false) → comeOf c n p l = List.replicate p 0 := by
  intro l h
  unfold comeOf
  have gen : ∀ (l : List Sent) (z : List Int), (∀ s ∈ l, comes c n s = false) → l.foldl (come1 c n) z = z := by
    intro l
    induction l with
    | nil => intro z _; rfl
    | cons s r ih => intro z h; rw [List.foldl_cons, come1, if_neg (by rw [h s (by simp)]; decide), ih _ fun t ht => h t (by simp [ht])]
  exact gen l _ h
theorem quiet_high {c : Chunk} {n : Int} : ∀ {l : List Sent}, (∀ s ∈ l, comes c n s = false) → highOf c n l = 0 := by
  intro l h
  unfold highOf
  have gen : ∀ (l : List Sent) (z : Int), (∀ s ∈ l, comes c n s = false) → l.foldl (high1 c n) z = z := by
    intro l
    induction l with
    | nil => intro z _; rfl
    | cons s r ih => intro z h; rw [List.foldl_cons, high1, if_neg (by rw [h s (by simp)]; decide), ih _ fun t ht => h t (by simp [ht])]
  exact gen l _ h
theorem quiet_left {c : Chunk} {n : Int} {l : List Sent} (h : ∀ s ∈ l, comes c n s = false) (hn : ∀ s ∈ l, s.number > n) : left c n l = l := by
  rw [left, List.filter_eq_self.2 fun s hs => by simpa using hn s hs]
  conv => rhs; rw [← List.map_id l]
  exact List.map_congr_left fun s hs => by rw [turn, if_neg (by rw [h s hs]; decide)]; rfl
theorem quiet_age {l : List Sent} (hn : ∀ s ∈ l, 0 ≤ s.number) : l.map (age 0) = l := by
  conv => rhs; rw [← List.map_id l]
  exact List.map_congr_left fun s hs => by rw [age, if_neg fun h => by have := hn s hs; omega]; rfl
theorem quiet_lost {l : List Sent} (hn : ∀ s ∈ l, 0 ≤ s.number) : lost 0 l = [] := by
  rw [lost, List.filter_eq_nil_iff.2 fun s hs h => ?_]
  · rfl
  · have := hn s hs; simp at h; omega
theorem sack_mem {c : Chunk} {n h : Int} {l : List Sent} {s : Sent} (hs : s ∈ (left c n l).map (age h)) : ∃ t ∈ l, t.number > n ∧ s = age h (turn c n t) := by
  obtain ⟨y, hy, rfl⟩ := List.mem_map.1 hs
  obtain ⟨t, ht, rfl⟩ := List.mem_map.1 hy
  obtain ⟨h1, h2⟩ := List.mem_filter.1 ht
  exact ⟨t, h1, by simpa using h2, rfl⟩
theorem sack_right {l : List Sent} {cum paths : Int} (hr : Right l cum paths) (c : Chunk) (hl : l.length < 2 ^ 38) (hc : cum < 1000000) :
    Right (sack l cum c paths).1 (sack l cum c paths).2.1 paths ∧ cum ≤ (sack l cum c paths).2.1 ∧ (sack l cum c paths).2.1 ≤ cum + l.length := by
  by_cases k : near cum c.tag < cum ∨ near cum c.tag > cum + l.length
  · rw [sack_out k]; exact ⟨hr, Int.le_refl _, by dsimp only; omega⟩
  · rw [sack_in rfl k]
    generalize near cum c.tag = n at k ⊢
    dsimp only
    refine ⟨⟨fun s hs => ?_, hr.p0, hr.p1, by have := hr.c0; omega, by omega, fun i s hi => ?_⟩, by omega, by omega⟩
    · obtain ⟨t, ht, _, rfl⟩ := sack_mem hs
      rw [age_path, turn_path]; exact hr.path t ht
    · rw [left, rise_drop hr.rise (by omega), List.map_map] at hi
      simp only [List.getElem?_map, List.getElem?_drop, Option.map_eq_some_iff] at hi
      obtain ⟨t, ht, rfl⟩ := hi
      have := hr.rise _ t ht
      simp only [Function.comp]
      rw [age_num, turn_num, this]; omega
theorem twice {l : List Sent} {cum paths : Int} (hr : Right l cum paths) (c : Chunk) (hl : l.length < 2 ^ 38) (hc : cum < 1000000) :
    sack (sack l cum c paths).1 (sack l cum c paths).2.1 c paths = ((sack l cum c paths).1, (sack l cum c paths).2.1, List.replicate paths.toNat 0, []) := by
  by_cases k : near cum c.tag < cum ∨ near cum c.tag > cum + l.length
  · have e := sack_out (paths := paths) k
    rw [e]; dsimp only; rw [e]
  · have hc0 := hr.c0
    have hlo := near_lo (a := cum) (t := c.tag) (by omega) (by omega)
    rw [sack_in rfl k]
    generalize near cum c.tag = n at k hlo ⊢
    dsimp only
    have e : near n c.tag = n := by
      have := near_min (a := n) (t := c.tag) (d := 0) (by omega) (by omega) (by omega) (by simpa using hlo.2.2)
      simpa using this
    have q : ∀ s ∈ (left c n l).map (age (highOf c n l)), comes c n s = false := fun s hs => by obtain ⟨t, _, _, rfl⟩ := sack_mem hs; exact no_more _ _ _ _
    have g : ∀ s ∈ (left c n l).map (age (highOf c n l)), s.number > n := fun s hs => by obtain ⟨t, _, h, rfl⟩ := sack_mem hs; rw [age_num, turn_num]; exact h
    have g0 : ∀ s ∈ (left c n l).map (age (highOf c n l)), 0 ≤ s.number := fun s hs => by have := g s hs; omega
    generalize (left c n l).map (age (highOf c n l)) = A at q g g0
    rw [sack_in e (by omega), quiet_left q g, quiet_high q, quiet_come q, quiet_age g0, quiet_lost g0]

/-- a part's message is told of -/
def told (c : Chunk) (sk : List Skip) : Prop := ∃ k ∈ sk, skMatch c k = true
theorem told_skip (c : Chunk) : ∀ sk : List Skip, told c (skip c sk)
  | [] => ⟨_, List.mem_singleton.2 rfl, by simp [skMatch]⟩
  | k :: r => by
    rw [skip]
    split
    · rename_i h
      obtain ⟨h1, h2, h3⟩ := match_iff.1 h
      exact ⟨⟨k.stream, c.mid, k.ordered⟩, List.mem_cons_self .., match_iff.2 ⟨h1, h2, .inr rfl⟩⟩
    · obtain ⟨x, hx, hm⟩ := told_skip c r
      exact ⟨x, by simp [hx], hm⟩
theorem told_keep (c d : Chunk) : ∀ {sk : List Skip}, told d sk → told d (skip c sk)
  | [], ⟨k, hk, _⟩ => by simp at hk
  | k :: r, ⟨x, hx, hm⟩ => by
    rw [skip]
    split
    · rename_i h
      rcases List.mem_cons.1 hx with rfl | hx
      · obtain ⟨h1, h2, h3⟩ := match_iff.1 h
        obtain ⟨m1, m2, m3⟩ := match_iff.1 hm
        refine ⟨_, List.mem_cons_self .., match_iff.2 ⟨m1, m2, ?_⟩⟩
        rcases m3 with m3 | m3
        · exact .inl m3
        · rcases h3 with h3 | h3
          · left; rw [← m2, h2, h3]
          · right; dsimp only; rw [← h3, m3]
      · exact ⟨x, by simp [hx], hm⟩
    · rcases List.mem_cons.1 hx with rfl | hx
      · exact ⟨x, by simp, hm⟩
      · obtain ⟨y, hy, h2⟩ := told_keep c d ⟨x, hx, hm⟩
        exact ⟨y, by simp [hy], h2⟩
theorem point_spec : ∀ {b : List Sent} {z : Int} {sk : List Skip}, (∀ (i : Nat) s, b[i]? = some s → s.number = z + 1 + i) → z ≤ (pointFrom z sk b).1 ∧ (pointFrom z sk b).1 ≤ z + b.length ∧
    (∀ d, told d sk → told d (pointFrom z sk b).2) ∧ ∀ s ∈ b, s.number ≤ (pointFrom z sk b).1 → s.state = 2 ∨ (s.state = 4 ∧ told s.chunk (pointFrom z sk b).2)
  | [], z, sk, _ => by simp [pointFrom]
  | s :: r, z, sk, h => by
    have h0 := h 0 s rfl
    have hr : ∀ (i : Nat) t, r[i]? = some t → t.number = s.number + 1 + i := by
      intro i t ht
      have := h (i + 1) t (by simpa using ht)
      omega
    have stop : ∀ t ∈ s :: r, t.number ≤ z → False := by
      intro t ht hz
      obtain ⟨i, hi⟩ := List.getElem?_of_mem ht
      have := h i t hi
      omega
    rw [pointFrom]
    split
    · exact ⟨Int.le_refl _, by simp; omega, fun d hd => hd, fun t ht hz => (stop t ht hz).elim⟩
    rename_i k
    have k2 : s.state = 4 ∨ s.state = 2 := by
      apply Classical.byContradiction
      intro hc
      exact k (.inr ⟨fun e => hc (.inl e), fun e => hc (.inr e)⟩)
    split
    · rename_i k3
      split
      · exact ⟨Int.le_refl _, by simp; omega, fun d hd => hd, fun t ht hz => (stop t ht hz).elim⟩
      · obtain ⟨i1, i2, i3, i4⟩ := point_spec (sk := skip s.chunk sk) hr
        refine ⟨by omega, by simp only [List.length_cons]; push_cast; omega, fun d hd => i3 d (told_keep _ _ hd), fun t ht hz => ?_⟩
        rcases List.mem_cons.1 ht with rfl | ht
        · exact .inr ⟨k3, i3 _ (told_skip _ _)⟩
        · exact i4 t ht hz
    · rename_i k3
      obtain ⟨i1, i2, i3, i4⟩ := point_spec (sk := sk) hr
      refine ⟨by omega, by simp only [List.length_cons]; push_cast; omega, i3, fun t ht hz => ?_⟩
      rcases List.mem_cons.1 ht with rfl | ht
      · exact .inl (k2.resolve_left k3)
      · exact i4 t ht hz

/-! ### The walks -/
def part (n state : Int) : Sent := ⟨n, 0, state, 0, 0, 0, 0, 0, 0, ⟨1, 0, 0, 0, 0, false, false, [97, 98], [], 0, []⟩⟩
theorem spec_part (n state : Int) : FunOK Try.prog 28 [i64 n, i64 state] noHeap (part n state).hv noHeap := by
  refine funOK_pure mixed Try.func28 (by decide) ?_
  conv => whnf
  refine hobl_intro (by simp) ?_
  conv => whnf
  try rfl
def l0 : List Sent := [part 1 1, part 2 1, part 3 4]
def c0 : Chunk := ⟨2, 1, 0, 0, 0, false, false, [], [], 0, []⟩
theorem l0_sized : Sized l0 := ⟨by decide, by decide⟩
theorem l0_right : Right l0 0 1 := ⟨by simp [l0, part], by decide, by decide, by decide, by decide, by
  intro i s h
  match i, h with
  | 0, h => simp [l0, part] at h; subst h; rfl
  | 1, h => simp [l0, part] at h; subst h; rfl
  | 2, h => simp [l0, part] at h; subst h; rfl
  | i + 3, h => simp [l0] at h⟩
theorem l0_sack : sack l0 0 c0 1 = ([part 2 1, part 3 4], 1, [2], []) := by rfl
theorem l0_point : point [part 1 4] 0 = (1, [⟨0, 0, false⟩]) := by rfl
theorem spec_alive : FunOK Try.prog 19 [] noHeap (hbool true) noHeap := by
  refine funOK_pure mixed Try.func19 (by decide) ?_
  conv => whnf
  ((refine hcall_pure ?_; (conv => whnf); refine ⟨_, spec_part 1 1, rfl, ?_⟩; conv => whnf); try (refine hcut.go ?_; conv => whnf))
  ((refine hcall_pure ?_; (conv => whnf); refine ⟨_, spec_part 2 1, rfl, ?_⟩; conv => whnf); try (refine hcut.go ?_; conv => whnf))
  ((refine hcall_pure ?_; (conv => whnf); refine ⟨_, spec_part 3 4, rfl, ?_⟩; conv => whnf); try (refine hcut.go ?_; conv => whnf))
  refine hcall_pure ?_; (conv => whnf)
  refine ⟨_, spec_sack l0 0 c0 1 l0_sized l0_right (by decide), rfl, ?_⟩
  rw [l0_sack]
  conv => whnf
  ((refine hcall_pure ?_; (conv => whnf); refine ⟨_, spec_part 1 4, rfl, ?_⟩; conv => whnf); try (refine hcut.go ?_; conv => whnf))
  refine hcall_pure ?_; (conv => whnf)
  refine ⟨_, spec_point [part 1 4] 0 (by decide), rfl, ?_⟩
  rw [l0_point]
  conv => whnf
  (repeat' (first | (refine hwrap_raw ?_; conv => whnf) | (refine hobl_intro ?_ ?_; (first | kernel_rfl | decide); conv => whnf) | (refine hdraw_intro ?_ ?_; kernel_rfl; conv => whnf) | (refine hcut.go ?_; conv => whnf) | (refine hcall_lend ?_; (conv => whnf); refine ⟨_, spec_flight l0 0 l0_sized, rfl, ?_⟩; conv => whnf) | (refine hcall_own [(0, 65)]  ?_; (conv => whnf); refine ⟨_, _,  spec_give l0 0 l0_sized, ⟨⟨⟨rfl, rfl⟩, trivial⟩, rfl, rfl, rfl⟩, ?_⟩; conv => whnf) | (refine hcall_own [(0, 71)]  ?_; (conv => whnf); refine ⟨_, _,  spec_late l0 0 l0_sized, ⟨⟨⟨rfl, rfl⟩, trivial⟩, rfl, rfl, rfl⟩, ?_⟩; conv => whnf) | (refine hcall_own [(0, 77)]  ?_; (conv => whnf); refine ⟨_, _,  spec_own l0 l0_sized, ⟨⟨⟨rfl, rfl⟩, trivial⟩, rfl, rfl, rfl⟩, ?_⟩; conv => whnf) | (refine hrow_intro ?_ rfl ?_; (first | decide | kernel_rfl | omega); conv => whnf) | (refine hif_true ?_ ?_; · kernel_rfl; conv => whnf) | (refine hif_false ?_ ?_; · kernel_rfl; conv => whnf)))
  all_goals kernel_rfl
theorem twicelaw (l : List Sent) (cum : Int) (c : Chunk) (paths : Int) (hl : Big l) (hsp : c.spans.length < 2 ^ 60) : FunOK Try.prog 5 [sents l, i64 cum, c.hv, i64 paths] noHeap (hbool true) noHeap := by
  have hl1 := hl.sized.len
  refine funOK_pure mixed Try.func5 (by decide) ?_
  conv => whnf
  ((refine hcall_lend ?_; (conv => whnf); refine ⟨_, spec_alive, rfl, ?_⟩; conv => whnf); try (refine hcut.go ?_; conv => whnf))
  ((refine hcall_lend ?_; (conv => whnf); refine ⟨_, spec_right l cum paths (by omega), rfl, ?_⟩; conv => whnf); try (refine hcut.go ?_; conv => whnf))
  refine hif_intro (fun c1 => ?_) (fun c1 => ?_)
  · conv => whnf
  have c1 : rightB l cum paths = true := by simpa using c1
  obtain ⟨hr, hcum, hmiss⟩ := right_of c1 (by omega)
  have hbig := sack_big hl cum c paths
  obtain ⟨hr2, hn1, hn2⟩ := sack_right hr c (by omega) hcum
  have hc0 := hr.c0
  have h2 := twice hr c (by omega) hcum
  have ps := spec_sack l cum c paths hl.sized hr hsp
  have pt := spec_sack (sack l cum c paths).1 (sack l cum c paths).2.1 c paths hbig.sized hr2 hsp
  rw [h2] at pt
  generalize sack l cum c paths = S at hbig hr2 hn1 hn2 ps pt
  obtain ⟨A, n, come, lo⟩ := S
  dsimp only at hbig hr2 hn1 hn2 ps pt
  have hA := hbig.sized.len
  conv => whnf
  ((refine hcall_pure ?_; (conv => whnf); refine ⟨_, ps, rfl, ?_⟩; conv => whnf); try (refine hcut.go ?_; conv => whnf))
  ((refine hif_false ?_ ?_; (· (first | rfl | assumption | omega | (simp only [gt_iff_lt, ge_iff_le, decide_eq_true_eq, decide_eq_false_iff_not, beq_iff_eq, bne_iff_ne, ne_eq, beq_eq_false_iff_ne, bne_eq_false_iff_eq, List.length_map, List.length_append, List.length_cons, List.length_nil, List.length_take, List.length_drop, Bool.not_eq_true', Bool.not_eq_false', Bool.not_eq_true, Bool.not_eq_false, Decidable.not_not, Nat.cast_ofNat, Int.natCast_add] <;> omega) | (simp <;> omega))); conv => whnf); try (refine hcut.go ?_; conv => whnf))
  refine hwrap_fit (z := cum + ((l.map Sent.row).length : Int)) (W_fit (by rw [List.length_map]; omega) (by rw [List.length_map]; omega)) ?_; conv => whnf
  ((refine hif_false ?_ ?_; (· (first | rfl | assumption | omega | (simp only [gt_iff_lt, ge_iff_le, decide_eq_true_eq, decide_eq_false_iff_not, beq_iff_eq, bne_iff_ne, ne_eq, beq_eq_false_iff_ne, bne_eq_false_iff_eq, List.length_map, List.length_append, List.length_cons, List.length_nil, List.length_take, List.length_drop, Bool.not_eq_true', Bool.not_eq_false', Bool.not_eq_true, Bool.not_eq_false, Decidable.not_not, Nat.cast_ofNat, Int.natCast_add] <;> omega) | (simp <;> omega))); conv => whnf); try (refine hcut.go ?_; conv => whnf))
  ((refine hcall_pure ?_; (conv => whnf); refine ⟨_, pt, rfl, ?_⟩; conv => whnf); try (refine hcut.go ?_; conv => whnf))
  have hp := hr.p1
  generalize hm : paths.toNat = m
  have hm2 : m ≤ 2 := by omega
  refine ⟨{ k : Nat // k ≤ m }, fun | ⟨k, _⟩ => hs 79 [(9, sents A), (10, i64 n), (13, sents A), (14, i64 n), (16, ints []), (57, ints (List.replicate m 0)), (58, i64 m), (59, i64 k)] [], fun x => m - x.1, ⟨0, by omega⟩, ?_, ?_⟩
  · exact (hle_hs [] rfl rfl rfl rfl (by repeat' (first | exact trivial | exact rfl | (refine ⟨⟨rfl, ?_⟩, ?_⟩) | (refine ⟨rfl, ?_⟩) | (simp; done) | (simp; rfl))) (by repeat' (first | exact trivial | exact rfl | exact .inl rfl | exact .inr rfl | (refine ⟨⟨rfl, .inl ⟨_, rfl, ?_⟩⟩, ?_⟩) | (refine ⟨⟨rfl, _, rfl, ?_⟩, ?_⟩) | (refine ⟨⟨rfl, .inr ⟨rfl, ?_⟩⟩, ?_⟩) | (simp; done) | (simp; rfl))))
  rintro ⟨k, hk⟩
  conv => whnf
  refine hif_intro (fun c2 => ?_) (fun c2 => ?_)
  · have hlt : k < m := by have := of_decide_eq_true c2; omega
    conv => whnf
    refine hrow_at k rfl (by simp; exact hlt) ?_; conv => whnf
    refine hif_false (by simp) ?_; conv => whnf
    (try (refine hcut.go ?_; conv => whnf))
    ((refine hwrap_fit (W_fit ?_ ?_) ?_; (· (first | omega | (simp only [List.length_map, List.length_append, List.length_take, List.length_drop, List.length_cons, List.length_nil] <;> omega) | (simp <;> omega))); (· (first | omega | (simp only [List.length_map, List.length_append, List.length_take, List.length_drop, List.length_cons, List.length_nil] <;> omega) | (simp <;> omega))); conv => whnf); try (refine hcut.go ?_; conv => whnf))
    exact ⟨⟨k + 1, hlt⟩, (hle_hs [] rfl rfl rfl rfl (by repeat' (first | exact trivial | exact rfl | (refine ⟨⟨rfl, ?_⟩, ?_⟩) | (refine ⟨rfl, ?_⟩) | (simp; done) | (simp; rfl))) (by repeat' (first | exact trivial | exact rfl | exact .inl rfl | exact .inr rfl | (refine ⟨⟨rfl, .inl ⟨_, rfl, ?_⟩⟩, ?_⟩) | (refine ⟨⟨rfl, _, rfl, ?_⟩, ?_⟩) | (refine ⟨⟨rfl, .inr ⟨rfl, ?_⟩⟩, ?_⟩) | (simp; done) | (simp; rfl)))), by dsimp only; omega⟩
  · conv => whnf
    ((refine hif_true ?_ ?_; (· (first | rfl | assumption | omega | (simp only [gt_iff_lt, ge_iff_le, decide_eq_true_eq, decide_eq_false_iff_not, beq_iff_eq, bne_iff_ne, ne_eq, beq_eq_false_iff_ne, bne_eq_false_iff_eq, List.length_map, List.length_append, List.length_cons, List.length_nil, List.length_take, List.length_drop, Bool.not_eq_true', Bool.not_eq_false', Bool.not_eq_true, Bool.not_eq_false, Decidable.not_not, Nat.cast_ofNat, Int.natCast_add] <;> omega) | (simp <;> omega))); conv => whnf); try (refine hcut.go ?_; conv => whnf))
    try ((refine hif_true ?_ ?_; (· (first | rfl | assumption | omega | (simp only [gt_iff_lt, ge_iff_le, decide_eq_true_eq, decide_eq_false_iff_not, beq_iff_eq, bne_iff_ne, ne_eq, beq_eq_false_iff_ne, bne_eq_false_iff_eq, List.length_map, List.length_append, List.length_cons, List.length_nil, List.length_take, List.length_drop, Bool.not_eq_true', Bool.not_eq_false', Bool.not_eq_true, Bool.not_eq_false, Decidable.not_not, Nat.cast_ofNat, Int.natCast_add] <;> omega) | (simp <;> omega))); conv => whnf); try (refine hcut.go ?_; conv => whnf))
    ((refine hcall_lend ?_; (conv => whnf); refine ⟨_, spec_sameSent A (by omega) hbig.parts, rfl, ?_⟩; conv => whnf); try (refine hcut.go ?_; conv => whnf))
theorem pointlaw (l : List Sent) (cum : Int) (hl : Big l) : FunOK Try.prog 6 [sents l, i64 cum] noHeap (hbool true) noHeap := by
  have hl1 := hl.sized.len
  refine funOK_pure mixed Try.func6 (by decide) ?_
  conv => whnf
  ((refine hcall_lend ?_; (conv => whnf); refine ⟨_, spec_alive, rfl, ?_⟩; conv => whnf); try (refine hcut.go ?_; conv => whnf))
  ((refine hcall_lend ?_; (conv => whnf); refine ⟨_, spec_right l cum 2 (by omega), rfl, ?_⟩; conv => whnf); try (refine hcut.go ?_; conv => whnf))
  refine hif_intro (fun c1 => ?_) (fun c1 => ?_)
  · conv => whnf
  have c1 : rightB l cum 2 = true := by simpa using c1
  obtain ⟨hr, hcum, hmiss⟩ := right_of c1 (by omega)
  have hc0 := hr.c0
  have hpl : (point l cum).2.length ≤ 8 := point_len cum l _ _ (by simp)
  obtain ⟨i1, i2, i3, i4⟩ : cum ≤ (point l cum).1 ∧ (point l cum).1 ≤ cum + l.length ∧ _ ∧ ∀ s ∈ l, s.number ≤ (point l cum).1 → s.state = 2 ∨ (s.state = 4 ∧ told s.chunk (point l cum).2) := point_spec (sk := []) hr.rise
  have pp := spec_point l cum (by omega)
  generalize point l cum = R at hpl i1 i2 i4 pp
  clear i3
  obtain ⟨n, S⟩ := R
  dsimp only at hpl i1 i2 i4 pp
  conv => whnf
  ((refine hcall_pure ?_; (conv => whnf); refine ⟨_, pp, rfl, ?_⟩; conv => whnf); try (refine hcut.go ?_; conv => whnf))
  ((refine hif_false ?_ ?_; (· (first | rfl | assumption | omega | (simp only [gt_iff_lt, ge_iff_le, decide_eq_true_eq, decide_eq_false_iff_not, beq_iff_eq, bne_iff_ne, ne_eq, beq_eq_false_iff_ne, bne_eq_false_iff_eq, List.length_map, List.length_append, List.length_cons, List.length_nil, List.length_take, List.length_drop, Bool.not_eq_true', Bool.not_eq_false', Bool.not_eq_true, Bool.not_eq_false, Decidable.not_not, Nat.cast_ofNat, Int.natCast_add] <;> omega) | (simp <;> omega))); conv => whnf); try (refine hcut.go ?_; conv => whnf))
  refine hwrap_fit (z := cum + ((l.map Sent.row).length : Int)) (W_fit (by rw [List.length_map]; omega) (by rw [List.length_map]; omega)) ?_; conv => whnf
  ((refine hif_false ?_ ?_; (· (first | rfl | assumption | omega | (simp only [gt_iff_lt, ge_iff_le, decide_eq_true_eq, decide_eq_false_iff_not, beq_iff_eq, bne_iff_ne, ne_eq, beq_eq_false_iff_ne, bne_eq_false_iff_eq, List.length_map, List.length_append, List.length_cons, List.length_nil, List.length_take, List.length_drop, Bool.not_eq_true', Bool.not_eq_false', Bool.not_eq_true, Bool.not_eq_false, Decidable.not_not, Nat.cast_ofNat, Int.natCast_add] <;> omega) | (simp <;> omega))); conv => whnf); try (refine hcut.go ?_; conv => whnf))
  ((refine hif_false ?_ ?_; (· (first | rfl | assumption | omega | (simp only [gt_iff_lt, ge_iff_le, decide_eq_true_eq, decide_eq_false_iff_not, beq_iff_eq, bne_iff_ne, ne_eq, beq_eq_false_iff_ne, bne_eq_false_iff_eq, List.length_map, List.length_append, List.length_cons, List.length_nil, List.length_take, List.length_drop, Bool.not_eq_true', Bool.not_eq_false', Bool.not_eq_true, Bool.not_eq_false, Decidable.not_not, Nat.cast_ofNat, Int.natCast_add] <;> omega) | (simp <;> omega))); conv => whnf); try (refine hcut.go ?_; conv => whnf))
  refine ⟨{ x : List Sent × List Sent // l = x.1 ++ x.2 }, fun | ⟨(a, b), _⟩ => hs 100 [(5, i64 n), (6, skips S), (40, sents l), (41, i64 l.length), (42, i64 a.length)] [], fun x => x.1.2.length, ⟨([], l), rfl⟩, ?_, ?_⟩
  · exact (hle_hs [] rfl rfl rfl rfl (by repeat' (first | exact trivial | exact rfl | (refine ⟨⟨rfl, ?_⟩, ?_⟩) | (refine ⟨rfl, ?_⟩) | (simp; done) | (simp; rfl))) (by repeat' (first | exact trivial | exact rfl | exact .inl rfl | exact .inr rfl | (refine ⟨⟨rfl, .inl ⟨_, rfl, ?_⟩⟩, ?_⟩) | (refine ⟨⟨rfl, _, rfl, ?_⟩, ?_⟩) | (refine ⟨⟨rfl, .inr ⟨rfl, ?_⟩⟩, ?_⟩) | (simp; done) | (simp; rfl))))
  rintro ⟨⟨a, b⟩, h⟩
  dsimp only at h
  cases b with
  | nil =>
    have hz := zip_nil h
    conv => whnf
    ((refine hif_false ?_ ?_; (· (first | rfl | assumption | omega | (simp only [gt_iff_lt, ge_iff_le, decide_eq_true_eq, decide_eq_false_iff_not, beq_iff_eq, bne_iff_ne, ne_eq, beq_eq_false_iff_ne, bne_eq_false_iff_eq, List.length_map, List.length_append, List.length_cons, List.length_nil, List.length_take, List.length_drop, Bool.not_eq_true', Bool.not_eq_false', Bool.not_eq_true, Bool.not_eq_false, Decidable.not_not, Nat.cast_ofNat, Int.natCast_add] <;> omega) | (simp <;> omega))); conv => whnf); try (refine hcut.go ?_; conv => whnf))
  | cons s b =>
    have hz := zip_cons h
    have hs4 := i4 s (zip_mem h)
    conv => whnf
    ((refine hif_true ?_ ?_; (· (first | rfl | assumption | omega | (simp only [gt_iff_lt, ge_iff_le, decide_eq_true_eq, decide_eq_false_iff_not, beq_iff_eq, bne_iff_ne, ne_eq, beq_eq_false_iff_ne, bne_eq_false_iff_eq, List.length_map, List.length_append, List.length_cons, List.length_nil, List.length_take, List.length_drop, Bool.not_eq_true', Bool.not_eq_false', Bool.not_eq_true, Bool.not_eq_false, Decidable.not_not, Nat.cast_ofNat, Int.natCast_add] <;> omega) | (simp <;> omega))); conv => whnf); try (refine hcut.go ?_; conv => whnf))
    refine hrow_mid h rfl ?_; conv => whnf
    by_cases g : s.number > n
    · ((refine hif_true ?_ ?_; (· (first | rfl | assumption | omega | (simp only [gt_iff_lt, ge_iff_le, decide_eq_true_eq, decide_eq_false_iff_not, beq_iff_eq, bne_iff_ne, ne_eq, beq_eq_false_iff_ne, bne_eq_false_iff_eq, List.length_map, List.length_append, List.length_cons, List.length_nil, List.length_take, List.length_drop, Bool.not_eq_true', Bool.not_eq_false', Bool.not_eq_true, Bool.not_eq_false, Decidable.not_not, Nat.cast_ofNat, Int.natCast_add] <;> omega) | (simp <;> omega))); conv => whnf); try (refine hcut.go ?_; conv => whnf))
    · have hs4 := hs4 (by omega)
      ((refine hif_false ?_ ?_; (· (first | rfl | assumption | omega | (simp only [gt_iff_lt, ge_iff_le, decide_eq_true_eq, decide_eq_false_iff_not, beq_iff_eq, bne_iff_ne, ne_eq, beq_eq_false_iff_ne, bne_eq_false_iff_eq, List.length_map, List.length_append, List.length_cons, List.length_nil, List.length_take, List.length_drop, Bool.not_eq_true', Bool.not_eq_false', Bool.not_eq_true, Bool.not_eq_false, Decidable.not_not, Nat.cast_ofNat, Int.natCast_add] <;> omega) | (simp <;> omega))); conv => whnf); try (refine hcut.go ?_; conv => whnf))
      have hT : ((s.state == 2) || S.any (skMatch s.chunk)) = true := by
        rcases hs4 with h4 | ⟨h4, k, hk, hm⟩
        · rw [h4]; rfl
        · rw [Bool.or_eq_true]; right; exact List.any_eq_true.2 ⟨k, hk, hm⟩
      by_cases k4 : s.state = 4
      · ((refine hif_false ?_ ?_; (· (first | rfl | assumption | omega | (simp only [gt_iff_lt, ge_iff_le, decide_eq_true_eq, decide_eq_false_iff_not, beq_iff_eq, bne_iff_ne, ne_eq, beq_eq_false_iff_ne, bne_eq_false_iff_eq, List.length_map, List.length_append, List.length_cons, List.length_nil, List.length_take, List.length_drop, Bool.not_eq_true', Bool.not_eq_false', Bool.not_eq_true, Bool.not_eq_false, Decidable.not_not, Nat.cast_ofNat, Int.natCast_add] <;> omega) | (simp <;> omega))); conv => whnf); try (refine hcut.go ?_; conv => whnf))
        refine ⟨{ x : List Skip × List Skip × Bool // S = x.1 ++ x.2.1 ∧ (x.2.2 || x.2.1.any (skMatch s.chunk)) = true }, fun | ⟨(c, d, t), _⟩ => hs 100 [(5, i64 n), (6, skips S), (8, .ptr 8 0), (9, hbool t), (40, sents l), (41, i64 l.length), (42, i64 a.length), (61, skips S), (62, i64 S.length), (63, i64 c.length)] [(8, .live (.cells 39 s.cells))], fun x => x.1.2.1.length, ⟨([], S, s.state == 2), rfl, hT⟩, ?_, ?_⟩
        · exact (hle_hs [(8, some 8)] rfl rfl rfl rfl (by repeat' (first | exact trivial | exact rfl | (refine ⟨⟨rfl, ?_⟩, ?_⟩) | (refine ⟨rfl, ?_⟩) | (simp; done) | (simp; rfl))) (by repeat' (first | exact trivial | exact rfl | exact .inl rfl | exact .inr rfl | (refine ⟨⟨rfl, .inl ⟨_, rfl, ?_⟩⟩, ?_⟩) | (refine ⟨⟨rfl, _, rfl, ?_⟩, ?_⟩) | (refine ⟨⟨rfl, .inr ⟨rfl, ?_⟩⟩, ?_⟩) | (simp; done) | (simp; rfl))))
        rintro ⟨⟨c, d, t⟩, hcd, ht⟩
        dsimp only at hcd ht
        cases d with
        | nil =>
          have hz2 := zip_nil hcd
          rw [List.any_nil, Bool.or_false] at ht
          subst ht
          conv => whnf
          ((refine hif_false ?_ ?_; (· (first | rfl | assumption | omega | (simp only [gt_iff_lt, ge_iff_le, decide_eq_true_eq, decide_eq_false_iff_not, beq_iff_eq, bne_iff_ne, ne_eq, beq_eq_false_iff_ne, bne_eq_false_iff_eq, List.length_map, List.length_append, List.length_cons, List.length_nil, List.length_take, List.length_drop, Bool.not_eq_true', Bool.not_eq_false', Bool.not_eq_true, Bool.not_eq_false, Decidable.not_not, Nat.cast_ofNat, Int.natCast_add] <;> omega) | (simp <;> omega))); conv => whnf); try (refine hcut.go ?_; conv => whnf))
          ((refine hwrap_fit (W_fit ?_ ?_) ?_; (· (first | omega | (simp only [List.length_map, List.length_append, List.length_take, List.length_drop, List.length_cons, List.length_nil] <;> omega) | (simp <;> omega))); (· (first | omega | (simp only [List.length_map, List.length_append, List.length_take, List.length_drop, List.length_cons, List.length_nil] <;> omega) | (simp <;> omega))); conv => whnf); try (refine hcut.go ?_; conv => whnf))
          exact ⟨⟨(a ++ [s], b), zip_next h⟩, (hle_hs [] rfl rfl rfl rfl (by repeat' (first | exact trivial | exact rfl | (refine ⟨⟨rfl, ?_⟩, ?_⟩) | (refine ⟨rfl, ?_⟩) | (simp; done) | (simp; rfl))) (by repeat' (first | exact trivial | exact rfl | exact .inl rfl | exact .inr rfl | (refine ⟨⟨rfl, .inl ⟨_, rfl, ?_⟩⟩, ?_⟩) | (refine ⟨⟨rfl, _, rfl, ?_⟩, ?_⟩) | (refine ⟨⟨rfl, .inr ⟨rfl, ?_⟩⟩, ?_⟩) | (simp; done) | (simp; rfl)))), by simp⟩
        | cons x d =>
          have hz2 := zip_cons hcd
          rw [List.any_cons] at ht
          conv => whnf
          ((refine hif_true ?_ ?_; (· (first | rfl | assumption | omega | (simp only [gt_iff_lt, ge_iff_le, decide_eq_true_eq, decide_eq_false_iff_not, beq_iff_eq, bne_iff_ne, ne_eq, beq_eq_false_iff_ne, bne_eq_false_iff_eq, List.length_map, List.length_append, List.length_cons, List.length_nil, List.length_take, List.length_drop, Bool.not_eq_true', Bool.not_eq_false', Bool.not_eq_true, Bool.not_eq_false, Decidable.not_not, Nat.cast_ofNat, Int.natCast_add] <;> omega) | (simp <;> omega))); conv => whnf); try (refine hcut.go ?_; conv => whnf))
          refine hrow_mid hcd rfl ?_; conv => whnf
          cases t with
          | true =>
            conv => whnf
            ((refine hwrap_fit (W_fit ?_ ?_) ?_; (· (first | omega | (simp only [List.length_map, List.length_append, List.length_take, List.length_drop, List.length_cons, List.length_nil] <;> omega) | (simp <;> omega))); (· (first | omega | (simp only [List.length_map, List.length_append, List.length_take, List.length_drop, List.length_cons, List.length_nil] <;> omega) | (simp <;> omega))); conv => whnf); try (refine hcut.go ?_; conv => whnf))
            exact ⟨⟨(c ++ [x], d, true), zip_next hcd, rfl⟩, (hle_hs [(8, some 8)] rfl rfl rfl rfl (by repeat' (first | exact trivial | exact rfl | (refine ⟨⟨rfl, ?_⟩, ?_⟩) | (refine ⟨rfl, ?_⟩) | (simp; done) | (simp; rfl))) (by repeat' (first | exact trivial | exact rfl | exact .inl rfl | exact .inr rfl | (refine ⟨⟨rfl, .inl ⟨_, rfl, ?_⟩⟩, ?_⟩) | (refine ⟨⟨rfl, _, rfl, ?_⟩, ?_⟩) | (refine ⟨⟨rfl, .inr ⟨rfl, ?_⟩⟩, ?_⟩) | (simp; done) | (simp; rfl)))), by simp⟩
          | false =>
            rw [Bool.false_or] at ht
            conv => whnf
            refine hif_intro (fun k1 => ?_) (fun k1 => ?_)
            · conv => whnf
              refine hif_intro (fun k2 => ?_) (fun k2 => ?_)
              · conv => whnf
                have e2 : x.ordered = s.chunk.ordered := by simpa using k2
                refine hif_intro (fun k3 => ?_) (fun k3 => ?_)
                · conv => whnf
                  ((refine hwrap_fit (W_fit ?_ ?_) ?_; (· (first | omega | (simp only [List.length_map, List.length_append, List.length_take, List.length_drop, List.length_cons, List.length_nil] <;> omega) | (simp <;> omega))); (· (first | omega | (simp only [List.length_map, List.length_append, List.length_take, List.length_drop, List.length_cons, List.length_nil] <;> omega) | (simp <;> omega))); conv => whnf); try (refine hcut.go ?_; conv => whnf))
                  exact ⟨⟨(c ++ [x], d, true), zip_next hcd, rfl⟩, (hle_hs [(8, some 8)] rfl rfl rfl rfl (by repeat' (first | exact trivial | exact rfl | (refine ⟨⟨rfl, ?_⟩, ?_⟩) | (refine ⟨rfl, ?_⟩) | (simp; done) | (simp; rfl))) (by repeat' (first | exact trivial | exact rfl | exact .inl rfl | exact .inr rfl | (refine ⟨⟨rfl, .inl ⟨_, rfl, ?_⟩⟩, ?_⟩) | (refine ⟨⟨rfl, _, rfl, ?_⟩, ?_⟩) | (refine ⟨⟨rfl, .inr ⟨rfl, ?_⟩⟩, ?_⟩) | (simp; done) | (simp; rfl)))), by simp⟩
                · conv => whnf
                  ((refine hwrap_fit (W_fit ?_ ?_) ?_; (· (first | omega | (simp only [List.length_map, List.length_append, List.length_take, List.length_drop, List.length_cons, List.length_nil] <;> omega) | (simp <;> omega))); (· (first | omega | (simp only [List.length_map, List.length_append, List.length_take, List.length_drop, List.length_cons, List.length_nil] <;> omega) | (simp <;> omega))); conv => whnf); try (refine hcut.go ?_; conv => whnf))
                  refine ⟨⟨(c ++ [x], d, x.mid == s.chunk.mid), zip_next hcd, ?_⟩, (hle_hs [(8, some 8)] rfl rfl rfl rfl (by repeat' (first | exact trivial | exact rfl | (refine ⟨⟨rfl, ?_⟩, ?_⟩) | (refine ⟨rfl, ?_⟩) | (simp; done) | (simp; rfl))) (by repeat' (first | exact trivial | exact rfl | exact .inl rfl | exact .inr rfl | (refine ⟨⟨rfl, .inl ⟨_, rfl, ?_⟩⟩, ?_⟩) | (refine ⟨⟨rfl, _, rfl, ?_⟩, ?_⟩) | (refine ⟨⟨rfl, .inr ⟨rfl, ?_⟩⟩, ?_⟩) | (simp; done) | (simp; rfl)))), by simp⟩
                  rw [skMatch, k1, k2, ← e2, k3] at ht
                  simpa using ht
              · conv => whnf
                ((refine hwrap_fit (W_fit ?_ ?_) ?_; (· (first | omega | (simp only [List.length_map, List.length_append, List.length_take, List.length_drop, List.length_cons, List.length_nil] <;> omega) | (simp <;> omega))); (· (first | omega | (simp only [List.length_map, List.length_append, List.length_take, List.length_drop, List.length_cons, List.length_nil] <;> omega) | (simp <;> omega))); conv => whnf); try (refine hcut.go ?_; conv => whnf))
                refine ⟨⟨(c ++ [x], d, false), zip_next hcd, ?_⟩, (hle_hs [(8, some 8)] rfl rfl rfl rfl (by repeat' (first | exact trivial | exact rfl | (refine ⟨⟨rfl, ?_⟩, ?_⟩) | (refine ⟨rfl, ?_⟩) | (simp; done) | (simp; rfl))) (by repeat' (first | exact trivial | exact rfl | exact .inl rfl | exact .inr rfl | (refine ⟨⟨rfl, .inl ⟨_, rfl, ?_⟩⟩, ?_⟩) | (refine ⟨⟨rfl, _, rfl, ?_⟩, ?_⟩) | (refine ⟨⟨rfl, .inr ⟨rfl, ?_⟩⟩, ?_⟩) | (simp; done) | (simp; rfl)))), by simp⟩
                rw [skMatch, k1, k2] at ht
                simpa using ht
            · conv => whnf
              ((refine hwrap_fit (W_fit ?_ ?_) ?_; (· (first | omega | (simp only [List.length_map, List.length_append, List.length_take, List.length_drop, List.length_cons, List.length_nil] <;> omega) | (simp <;> omega))); (· (first | omega | (simp only [List.length_map, List.length_append, List.length_take, List.length_drop, List.length_cons, List.length_nil] <;> omega) | (simp <;> omega))); conv => whnf); try (refine hcut.go ?_; conv => whnf))
              refine ⟨⟨(c ++ [x], d, false), zip_next hcd, ?_⟩, (hle_hs [(8, some 8)] rfl rfl rfl rfl (by repeat' (first | exact trivial | exact rfl | (refine ⟨⟨rfl, ?_⟩, ?_⟩) | (refine ⟨rfl, ?_⟩) | (simp; done) | (simp; rfl))) (by repeat' (first | exact trivial | exact rfl | exact .inl rfl | exact .inr rfl | (refine ⟨⟨rfl, .inl ⟨_, rfl, ?_⟩⟩, ?_⟩) | (refine ⟨⟨rfl, _, rfl, ?_⟩, ?_⟩) | (refine ⟨⟨rfl, .inr ⟨rfl, ?_⟩⟩, ?_⟩) | (simp; done) | (simp; rfl)))), by simp⟩
              rw [skMatch, k1] at ht
              simpa using ht
      · have k2 : s.state = 2 := hs4.resolve_right fun h => k4 h.1
        ((refine hif_true ?_ ?_; (· (first | rfl | assumption | omega | (simp only [gt_iff_lt, ge_iff_le, decide_eq_true_eq, decide_eq_false_iff_not, beq_iff_eq, bne_iff_ne, ne_eq, beq_eq_false_iff_ne, bne_eq_false_iff_eq, List.length_map, List.length_append, List.length_cons, List.length_nil, List.length_take, List.length_drop, Bool.not_eq_true', Bool.not_eq_false', Bool.not_eq_true, Bool.not_eq_false, Decidable.not_not, Nat.cast_ofNat, Int.natCast_add] <;> omega) | (simp <;> omega))); conv => whnf); try (refine hcut.go ?_; conv => whnf))
        ((refine hif_false ?_ ?_; (· (first | rfl | assumption | omega | (simp only [gt_iff_lt, ge_iff_le, decide_eq_true_eq, decide_eq_false_iff_not, beq_iff_eq, bne_iff_ne, ne_eq, beq_eq_false_iff_ne, bne_eq_false_iff_eq, List.length_map, List.length_append, List.length_cons, List.length_nil, List.length_take, List.length_drop, Bool.not_eq_true', Bool.not_eq_false', Bool.not_eq_true, Bool.not_eq_false, Decidable.not_not, Nat.cast_ofNat, Int.natCast_add] <;> omega) | (simp <;> omega))); conv => whnf); try (refine hcut.go ?_; conv => whnf))
        refine ⟨{ x : List Skip × List Skip × Bool // S = x.1 ++ x.2.1 ∧ (x.2.2 || x.2.1.any (skMatch s.chunk)) = true }, fun | ⟨(c, d, t), _⟩ => hs 100 [(5, i64 n), (6, skips S), (8, .ptr 8 0), (9, hbool t), (40, sents l), (41, i64 l.length), (42, i64 a.length), (61, skips S), (62, i64 S.length), (63, i64 c.length)] [(8, .live (.cells 39 s.cells))], fun x => x.1.2.1.length, ⟨([], S, s.state == 2), rfl, hT⟩, ?_, ?_⟩
        · exact (hle_hs [(8, some 8)] rfl rfl rfl rfl (by repeat' (first | exact trivial | exact rfl | (refine ⟨⟨rfl, ?_⟩, ?_⟩) | (refine ⟨rfl, ?_⟩) | (simp; done) | (simp; rfl))) (by repeat' (first | exact trivial | exact rfl | exact .inl rfl | exact .inr rfl | (refine ⟨⟨rfl, .inl ⟨_, rfl, ?_⟩⟩, ?_⟩) | (refine ⟨⟨rfl, _, rfl, ?_⟩, ?_⟩) | (refine ⟨⟨rfl, .inr ⟨rfl, ?_⟩⟩, ?_⟩) | (simp; done) | (simp; rfl))))
        rintro ⟨⟨c, d, t⟩, hcd, ht⟩
        dsimp only at hcd ht
        cases d with
        | nil =>
          have hz2 := zip_nil hcd
          rw [List.any_nil, Bool.or_false] at ht
          subst ht
          conv => whnf
          ((refine hif_false ?_ ?_; (· (first | rfl | assumption | omega | (simp only [gt_iff_lt, ge_iff_le, decide_eq_true_eq, decide_eq_false_iff_not, beq_iff_eq, bne_iff_ne, ne_eq, beq_eq_false_iff_ne, bne_eq_false_iff_eq, List.length_map, List.length_append, List.length_cons, List.length_nil, List.length_take, List.length_drop, Bool.not_eq_true', Bool.not_eq_false', Bool.not_eq_true, Bool.not_eq_false, Decidable.not_not, Nat.cast_ofNat, Int.natCast_add] <;> omega) | (simp <;> omega))); conv => whnf); try (refine hcut.go ?_; conv => whnf))
          ((refine hwrap_fit (W_fit ?_ ?_) ?_; (· (first | omega | (simp only [List.length_map, List.length_append, List.length_take, List.length_drop, List.length_cons, List.length_nil] <;> omega) | (simp <;> omega))); (· (first | omega | (simp only [List.length_map, List.length_append, List.length_take, List.length_drop, List.length_cons, List.length_nil] <;> omega) | (simp <;> omega))); conv => whnf); try (refine hcut.go ?_; conv => whnf))
          exact ⟨⟨(a ++ [s], b), zip_next h⟩, (hle_hs [] rfl rfl rfl rfl (by repeat' (first | exact trivial | exact rfl | (refine ⟨⟨rfl, ?_⟩, ?_⟩) | (refine ⟨rfl, ?_⟩) | (simp; done) | (simp; rfl))) (by repeat' (first | exact trivial | exact rfl | exact .inl rfl | exact .inr rfl | (refine ⟨⟨rfl, .inl ⟨_, rfl, ?_⟩⟩, ?_⟩) | (refine ⟨⟨rfl, _, rfl, ?_⟩, ?_⟩) | (refine ⟨⟨rfl, .inr ⟨rfl, ?_⟩⟩, ?_⟩) | (simp; done) | (simp; rfl)))), by simp⟩
        | cons x d =>
          have hz2 := zip_cons hcd
          rw [List.any_cons] at ht
          conv => whnf
          ((refine hif_true ?_ ?_; (· (first | rfl | assumption | omega | (simp only [gt_iff_lt, ge_iff_le, decide_eq_true_eq, decide_eq_false_iff_not, beq_iff_eq, bne_iff_ne, ne_eq, beq_eq_false_iff_ne, bne_eq_false_iff_eq, List.length_map, List.length_append, List.length_cons, List.length_nil, List.length_take, List.length_drop, Bool.not_eq_true', Bool.not_eq_false', Bool.not_eq_true, Bool.not_eq_false, Decidable.not_not, Nat.cast_ofNat, Int.natCast_add] <;> omega) | (simp <;> omega))); conv => whnf); try (refine hcut.go ?_; conv => whnf))
          refine hrow_mid hcd rfl ?_; conv => whnf
          cases t with
          | true =>
            conv => whnf
            ((refine hwrap_fit (W_fit ?_ ?_) ?_; (· (first | omega | (simp only [List.length_map, List.length_append, List.length_take, List.length_drop, List.length_cons, List.length_nil] <;> omega) | (simp <;> omega))); (· (first | omega | (simp only [List.length_map, List.length_append, List.length_take, List.length_drop, List.length_cons, List.length_nil] <;> omega) | (simp <;> omega))); conv => whnf); try (refine hcut.go ?_; conv => whnf))
            exact ⟨⟨(c ++ [x], d, true), zip_next hcd, rfl⟩, (hle_hs [(8, some 8)] rfl rfl rfl rfl (by repeat' (first | exact trivial | exact rfl | (refine ⟨⟨rfl, ?_⟩, ?_⟩) | (refine ⟨rfl, ?_⟩) | (simp; done) | (simp; rfl))) (by repeat' (first | exact trivial | exact rfl | exact .inl rfl | exact .inr rfl | (refine ⟨⟨rfl, .inl ⟨_, rfl, ?_⟩⟩, ?_⟩) | (refine ⟨⟨rfl, _, rfl, ?_⟩, ?_⟩) | (refine ⟨⟨rfl, .inr ⟨rfl, ?_⟩⟩, ?_⟩) | (simp; done) | (simp; rfl)))), by simp⟩
          | false =>
            rw [Bool.false_or] at ht
            conv => whnf
            refine hif_intro (fun k1 => ?_) (fun k1 => ?_)
            · conv => whnf
              refine hif_intro (fun k2 => ?_) (fun k2 => ?_)
              · conv => whnf
                have e2 : x.ordered = s.chunk.ordered := by simpa using k2
                refine hif_intro (fun k3 => ?_) (fun k3 => ?_)
                · conv => whnf
                  ((refine hwrap_fit (W_fit ?_ ?_) ?_; (· (first | omega | (simp only [List.length_map, List.length_append, List.length_take, List.length_drop, List.length_cons, List.length_nil] <;> omega) | (simp <;> omega))); (· (first | omega | (simp only [List.length_map, List.length_append, List.length_take, List.length_drop, List.length_cons, List.length_nil] <;> omega) | (simp <;> omega))); conv => whnf); try (refine hcut.go ?_; conv => whnf))
                  exact ⟨⟨(c ++ [x], d, true), zip_next hcd, rfl⟩, (hle_hs [(8, some 8)] rfl rfl rfl rfl (by repeat' (first | exact trivial | exact rfl | (refine ⟨⟨rfl, ?_⟩, ?_⟩) | (refine ⟨rfl, ?_⟩) | (simp; done) | (simp; rfl))) (by repeat' (first | exact trivial | exact rfl | exact .inl rfl | exact .inr rfl | (refine ⟨⟨rfl, .inl ⟨_, rfl, ?_⟩⟩, ?_⟩) | (refine ⟨⟨rfl, _, rfl, ?_⟩, ?_⟩) | (refine ⟨⟨rfl, .inr ⟨rfl, ?_⟩⟩, ?_⟩) | (simp; done) | (simp; rfl)))), by simp⟩
                · conv => whnf
                  ((refine hwrap_fit (W_fit ?_ ?_) ?_; (· (first | omega | (simp only [List.length_map, List.length_append, List.length_take, List.length_drop, List.length_cons, List.length_nil] <;> omega) | (simp <;> omega))); (· (first | omega | (simp only [List.length_map, List.length_append, List.length_take, List.length_drop, List.length_cons, List.length_nil] <;> omega) | (simp <;> omega))); conv => whnf); try (refine hcut.go ?_; conv => whnf))
                  refine ⟨⟨(c ++ [x], d, x.mid == s.chunk.mid), zip_next hcd, ?_⟩, (hle_hs [(8, some 8)] rfl rfl rfl rfl (by repeat' (first | exact trivial | exact rfl | (refine ⟨⟨rfl, ?_⟩, ?_⟩) | (refine ⟨rfl, ?_⟩) | (simp; done) | (simp; rfl))) (by repeat' (first | exact trivial | exact rfl | exact .inl rfl | exact .inr rfl | (refine ⟨⟨rfl, .inl ⟨_, rfl, ?_⟩⟩, ?_⟩) | (refine ⟨⟨rfl, _, rfl, ?_⟩, ?_⟩) | (refine ⟨⟨rfl, .inr ⟨rfl, ?_⟩⟩, ?_⟩) | (simp; done) | (simp; rfl)))), by simp⟩
                  rw [skMatch, k1, k2, ← e2, k3] at ht
                  simpa using ht
              · conv => whnf
                ((refine hwrap_fit (W_fit ?_ ?_) ?_; (· (first | omega | (simp only [List.length_map, List.length_append, List.length_take, List.length_drop, List.length_cons, List.length_nil] <;> omega) | (simp <;> omega))); (· (first | omega | (simp only [List.length_map, List.length_append, List.length_take, List.length_drop, List.length_cons, List.length_nil] <;> omega) | (simp <;> omega))); conv => whnf); try (refine hcut.go ?_; conv => whnf))
                refine ⟨⟨(c ++ [x], d, false), zip_next hcd, ?_⟩, (hle_hs [(8, some 8)] rfl rfl rfl rfl (by repeat' (first | exact trivial | exact rfl | (refine ⟨⟨rfl, ?_⟩, ?_⟩) | (refine ⟨rfl, ?_⟩) | (simp; done) | (simp; rfl))) (by repeat' (first | exact trivial | exact rfl | exact .inl rfl | exact .inr rfl | (refine ⟨⟨rfl, .inl ⟨_, rfl, ?_⟩⟩, ?_⟩) | (refine ⟨⟨rfl, _, rfl, ?_⟩, ?_⟩) | (refine ⟨⟨rfl, .inr ⟨rfl, ?_⟩⟩, ?_⟩) | (simp; done) | (simp; rfl)))), by simp⟩
                rw [skMatch, k1, k2] at ht
                simpa using ht
            · conv => whnf
              ((refine hwrap_fit (W_fit ?_ ?_) ?_; (· (first | omega | (simp only [List.length_map, List.length_append, List.length_take, List.length_drop, List.length_cons, List.length_nil] <;> omega) | (simp <;> omega))); (· (first | omega | (simp only [List.length_map, List.length_append, List.length_take, List.length_drop, List.length_cons, List.length_nil] <;> omega) | (simp <;> omega))); conv => whnf); try (refine hcut.go ?_; conv => whnf))
              refine ⟨⟨(c ++ [x], d, false), zip_next hcd, ?_⟩, (hle_hs [(8, some 8)] rfl rfl rfl rfl (by repeat' (first | exact trivial | exact rfl | (refine ⟨⟨rfl, ?_⟩, ?_⟩) | (refine ⟨rfl, ?_⟩) | (simp; done) | (simp; rfl))) (by repeat' (first | exact trivial | exact rfl | exact .inl rfl | exact .inr rfl | (refine ⟨⟨rfl, .inl ⟨_, rfl, ?_⟩⟩, ?_⟩) | (refine ⟨⟨rfl, _, rfl, ?_⟩, ?_⟩) | (refine ⟨⟨rfl, .inr ⟨rfl, ?_⟩⟩, ?_⟩) | (simp; done) | (simp; rfl)))), by simp⟩
              rw [skMatch, k1] at ht
              simpa using ht
/-! ### Of a size that comes in -/
theorem bulk_chunk (c : Chunk) : c.data.length + 1 ≤ bulkL c.row ∧ c.spans.length ≤ bulkL c.row ∧ c.skips.length ≤ bulkL c.row := by
  have h1 := len_bulk (f := bRow) (fun x => by simp [bRow, bulkL, PV.bulk]) c.data
  have h2 := len_bulk (f := Span.row) (fun x => by simp [Span.row, bulkL, PV.bulk]) c.spans
  have h3 := len_bulk (f := Skip.row) (fun x => by simp [Skip.row, bulkL, PV.bulk]) c.skips
  simp only [Chunk.row, bulkL, PV.bulk]; omega
theorem bulk_sent (s : Sent) : s.chunk.data.length + 1 ≤ bulkL s.row ∧ s.chunk.spans.length ≤ bulkL s.row ∧ s.chunk.skips.length ≤ bulkL s.row := by
  have h1 := len_bulk (f := bRow) (fun x => by simp [bRow, bulkL, PV.bulk]) s.chunk.data
  have h2 := len_bulk (f := Span.row) (fun x => by simp [Span.row, bulkL, PV.bulk]) s.chunk.spans
  have h3 := len_bulk (f := Skip.row) (fun x => by simp [Skip.row, bulkL, PV.bulk]) s.chunk.skips
  simp only [Sent.row, bulkL, PV.bulk]; omega
theorem big_of {l : List Sent} (h : bulkR (l.map Sent.row) ≤ 1048576) : Big l := by
  have h1 := len_bulk (f := Sent.row) (fun s => by have := bulk_sent s; omega) l
  have h2 := sum_bulk (f := Sent.row) (g := fun s => s.chunk.data.length) (fun s => by have := bulk_sent s; omega) l
  refine ⟨⟨by omega, by unfold total; omega⟩, fun s hs => ?_⟩
  have h3 := mem_bulk (f := Sent.row) hs
  have h4 := bulk_sent s
  omega
end Sco
end Go.HL
