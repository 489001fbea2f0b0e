/- The law ScoreTells: what it hands back is true. -/
import Derived.Test.YtmdhpdeelnlhkaaScore5
namespace Go.HL
open Go.Proofs
namespace Sco
open Ser
set_option maxHeartbeats 4000000
set_option maxRecDepth 100000
set_option linter.unusedSimpArgs false
structure Big (l : List Sent) : Prop where
  sized : Sized l
  parts : ∀ s ∈ l, s.chunk.spans.length < 2 ^ 38 ∧ s.chunk.skips.length < 2 ^ 38
theorem big_sub {l l' : List Sent} (h : Big l) (hl : l'.length ≤ l.length) (ht : total l' ≤ total l) (hm : ∀ s ∈ l', ∃ t ∈ l, s.chunk = t.chunk) : Big l' :=
  ⟨⟨by have := h.sized.len; omega, by have := h.sized.bytes; omega⟩, fun s hs => by obtain ⟨t, ht, e⟩ := hm s hs; rw [e]; exact h.parts t ht⟩
theorem total_map {f : Sent → Sent} (hf : ∀ s, (f s).chunk = s.chunk) : ∀ l : List Sent, total (l.map f) = total l
  | [] => rfl
  | s :: r => by rw [List.map_cons, total_cons, total_cons, total_map hf r, hf]
theorem total_filter (p : Sent → Bool) : ∀ l : List Sent, total (l.filter p) ≤ total l
  | [] => Nat.le_refl _
  | s :: r => by
    have := total_filter p r
    rw [List.filter_cons, total_cons]
    split
    · rw [total_cons]; omega
    · omega
theorem turn_chunk (c : Chunk) (n : Int) (s : Sent) : (turn c n s).chunk = s.chunk := by unfold turn; split <;> rfl
theorem age_chunk (h : Int) (s : Sent) : (age h s).chunk = s.chunk := by unfold age; (repeat' split) <;> rfl
theorem give_chunk (id : Int) (s : Sent) : (give id s).chunk = s.chunk := by unfold give; split <;> rfl
theorem late_chunk (p : Int) (s : Sent) : (late p s).chunk = s.chunk := by unfold late; split <;> rfl
theorem big_map {f : Sent → Sent} (hf : ∀ s, (f s).chunk = s.chunk) {l : List Sent} (h : Big l) : Big (l.map f) :=
  big_sub h (by simp) (by rw [total_map hf]; exact Nat.le_refl _) fun s hs => by obtain ⟨t, ht, rfl⟩ := List.mem_map.1 hs; exact ⟨t, ht, hf t⟩
theorem left_big {l : List Sent} (h : Big l) (c : Chunk) (n : Int) : Big (left c n l) :=
  big_map (turn_chunk c n) (big_sub h (List.length_filter_le _ _) (total_filter _ _) fun s hs => ⟨s, (List.mem_filter.1 hs).1, rfl⟩)
theorem sack_big {l : List Sent} (h : Big l) (cum : Int) (c : Chunk) (paths : Int) : Big (sack l cum c paths).1 := by
  unfold sack
  split
  · exact h
  · exact big_map (age_chunk _) (left_big h _ _)
theorem point_len (cum : Int) : ∀ (l : List Sent) (z : Int) (sk : List Skip), sk.length ≤ 8 → (pointFrom z sk l).2.length ≤ 8
  | [], z, sk, h => h
  | s :: r, z, sk, h => by
    rw [pointFrom]
    split
    · exact h
    split
    · split
      · exact h
      · exact point_len cum r _ _ (by omega)
    · exact point_len cum r _ _ h
theorem lost_len (h : Int) (l : List Sent) : (lost h l).length ≤ l.length := by rw [lost, List.length_map]; exact List.length_filter_le _ _
theorem sack_len (l : List Sent) (cum : Int) (c : Chunk) (paths : Int) (hp : paths ≤ 2) : (sack l cum c paths).2.2.1.length ≤ 2 ∧ (sack l cum c paths).2.2.2.length ≤ l.length := by
  unfold sack
  split
  · simp; omega
  · rw [comeOf_len]
    have h1 := lost_len (highOf c (near cum c.tag) l) (left c (near cum c.tag) l)
    have h2 : (left c (near cum c.tag) l).length ≤ l.length := by rw [left, List.length_map]; exact List.length_filter_le _ _
    dsimp only; omega

theorem tells (l : List Sent) (cum : Int) (c : Chunk) (paths id path : Int) (hl : Big l) (hsp : c.spans.length < 2 ^ 60) : FunOK Try.prog 3 [sents l, i64 cum, c.hv, i64 paths, i64 id, i64 path] noHeap (hbool true) noHeap := by
  have hl1 := hl.sized.len
  refine funOK_pure mixed Try.func3 (by decide) ?_
  conv => whnf
  ((refine hcall_lend ?_; (conv => whnf); refine ⟨_, spec_right l cum paths (by omega), rfl, ?_⟩; conv => whnf); try (refine hcut.go ?_; conv => whnf))
  refine hif_intro (fun c1 => ?_) (fun c1 => ?_)
  · conv => whnf
  have c1 : rightB l cum paths = true := by simpa using c1
  obtain ⟨hr, hcum, hmiss⟩ := right_of c1 (by omega)
  have hbig := sack_big hl cum c paths
  have hslen := sack_len l cum c paths hr.p1
  have ps := spec_sack l cum c paths hl.sized hr hsp
  have pr := spec_rsack l cum c paths hl.sized hr hsp
  generalize sack l cum c paths = S at hbig hslen ps pr
  obtain ⟨A, n, come, lo⟩ := S
  dsimp only at hbig hslen ps pr
  have hA := hbig.sized.len
  conv => whnf
  ((refine hcall_pure ?_; (conv => whnf); refine ⟨_, ps, rfl, ?_⟩; conv => whnf); try (refine hcut.go ?_; conv => whnf))
  ((refine hcall_pure ?_; (conv => whnf); refine ⟨_, pr, rfl, ?_⟩; conv => whnf); try (refine hcut.go ?_; conv => whnf))
  ((refine hif_false ?_ ?_; (· (first | rfl | assumption | omega | (simp only [gt_iff_lt, ge_iff_le, decide_eq_true_eq, decide_eq_false_iff_not, beq_iff_eq, bne_iff_ne, ne_eq, beq_eq_false_iff_ne, bne_eq_false_iff_eq, List.length_map, List.length_append, List.length_cons, List.length_nil, List.length_take, List.length_drop, Bool.not_eq_true', Bool.not_eq_false', Bool.not_eq_true, Bool.not_eq_false, Decidable.not_not, Nat.cast_ofNat, Int.natCast_add] <;> omega) | (simp <;> omega))); conv => whnf); try (refine hcut.go ?_; conv => whnf))
  ((refine hcall_lend ?_; (conv => whnf); refine ⟨_, spec_sameSent A (by omega) hbig.parts, rfl, ?_⟩; conv => whnf); try (refine hcut.go ?_; conv => whnf))
  ((refine hif_false ?_ ?_; (· (first | rfl | assumption | omega | (simp only [gt_iff_lt, ge_iff_le, decide_eq_true_eq, decide_eq_false_iff_not, beq_iff_eq, bne_iff_ne, ne_eq, beq_eq_false_iff_ne, bne_eq_false_iff_eq, List.length_map, List.length_append, List.length_cons, List.length_nil, List.length_take, List.length_drop, Bool.not_eq_true', Bool.not_eq_false', Bool.not_eq_true, Bool.not_eq_false, Decidable.not_not, Nat.cast_ofNat, Int.natCast_add] <;> omega) | (simp <;> omega))); conv => whnf); try (refine hcut.go ?_; conv => whnf))
  ((refine hif_false ?_ ?_; (· (first | rfl | assumption | omega | (simp only [gt_iff_lt, ge_iff_le, decide_eq_true_eq, decide_eq_false_iff_not, beq_iff_eq, bne_iff_ne, ne_eq, beq_eq_false_iff_ne, bne_eq_false_iff_eq, List.length_map, List.length_append, List.length_cons, List.length_nil, List.length_take, List.length_drop, Bool.not_eq_true', Bool.not_eq_false', Bool.not_eq_true, Bool.not_eq_false, Decidable.not_not, Nat.cast_ofNat, Int.natCast_add] <;> omega) | (simp <;> omega))); conv => whnf); try (refine hcut.go ?_; conv => whnf))
  ((refine hcall_own [(0, 80)]  ?_; (conv => whnf); refine ⟨_, _,  spec_own l hl.sized, ⟨⟨⟨rfl, rfl⟩, trivial⟩, rfl, rfl, rfl⟩, ?_⟩; conv => whnf); try (refine hcut.go ?_; conv => whnf))
  ((refine hcall_lend ?_; (conv => whnf); refine ⟨_, spec_sameSent l (by omega) hl.parts, rfl, ?_⟩; conv => whnf); try (refine hcut.go ?_; conv => whnf))
  ((refine hcall_lend ?_; (conv => whnf); refine ⟨_, spec_flight l path hl.sized, rfl, ?_⟩; conv => whnf); try (refine hcut.go ?_; conv => whnf))
  ((refine hcall_lend ?_; (conv => whnf); refine ⟨_, spec_rflight l path hl.sized, rfl, ?_⟩; conv => whnf); try (refine hcut.go ?_; conv => whnf))
  ((refine hif_false ?_ ?_; (· (first | rfl | assumption | omega | (simp only [gt_iff_lt, ge_iff_le, decide_eq_true_eq, decide_eq_false_iff_not, beq_iff_eq, bne_iff_ne, ne_eq, beq_eq_false_iff_ne, bne_eq_false_iff_eq, List.length_map, List.length_append, List.length_cons, List.length_nil, List.length_take, List.length_drop, Bool.not_eq_true', Bool.not_eq_false', Bool.not_eq_true, Bool.not_eq_false, Decidable.not_not, Nat.cast_ofNat, Int.natCast_add] <;> omega) | (simp <;> omega))); conv => whnf); try (refine hcut.go ?_; conv => whnf))
  refine ⟨{ x : List Int × List Int // come = x.1 ++ x.2 }, fun | ⟨(a, b), _⟩ => hs 193 [(0, sents l), (1, i64 cum), (4, i64 id), (5, i64 path), (15, ints come), (19, ints come), (16, ints lo), (20, ints lo), (95, i64 come.length), (96, i64 a.length)] [], fun x => x.1.2.length, ⟨([], come), rfl⟩, ?_, ?_⟩
  · exact (hle_hs [] rfl rfl rfl rfl (by repeat' (first | exact trivial | exact rfl | (refine ⟨⟨rfl, ?_⟩, ?_⟩) | (refine ⟨rfl, ?_⟩) | (simp; done) | (simp; rfl))) (by repeat' (first | exact trivial | exact rfl | exact .inl rfl | exact .inr rfl | (refine ⟨⟨rfl, .inl ⟨_, rfl, ?_⟩⟩, ?_⟩) | (refine ⟨⟨rfl, _, rfl, ?_⟩, ?_⟩) | (refine ⟨⟨rfl, .inr ⟨rfl, ?_⟩⟩, ?_⟩) | (simp; done) | (simp; rfl))))
  rintro ⟨⟨a, b⟩, h⟩
  dsimp only at h
  cases b with
  | cons s b =>
    have hz := zip_cons h
    conv => whnf
    ((refine hif_true ?_ ?_; (· (first | rfl | assumption | omega | (simp only [gt_iff_lt, ge_iff_le, decide_eq_true_eq, decide_eq_false_iff_not, beq_iff_eq, bne_iff_ne, ne_eq, beq_eq_false_iff_ne, bne_eq_false_iff_eq, List.length_map, List.length_append, List.length_cons, List.length_nil, List.length_take, List.length_drop, Bool.not_eq_true', Bool.not_eq_false', Bool.not_eq_true, Bool.not_eq_false, Decidable.not_not, Nat.cast_ofNat, Int.natCast_add] <;> omega) | (simp <;> omega))); conv => whnf); try (refine hcut.go ?_; conv => whnf))
    refine hrow_mid h rfl ?_; conv => whnf
    refine hrow_mid h rfl ?_; conv => whnf
    ((refine hdraw_intro ?_ ?_; (· kernel_rfl); conv => whnf); try (refine hcut.go ?_; conv => whnf))
    refine hif_false (by simp) ?_; conv => whnf
    (try (refine hcut.go ?_; conv => whnf))
    ((refine hwrap_fit (W_fit ?_ ?_) ?_; (· (first | omega | (simp only [List.length_map, List.length_append, List.length_take, List.length_drop, List.length_cons, List.length_nil] <;> omega) | (simp <;> omega))); (· (first | omega | (simp only [List.length_map, List.length_append, List.length_take, List.length_drop, List.length_cons, List.length_nil] <;> omega) | (simp <;> omega))); conv => whnf); try (refine hcut.go ?_; conv => whnf))
    exact ⟨⟨(a ++ [s], b), zip_next h⟩, (hle_hs [] rfl rfl rfl rfl (by repeat' (first | exact trivial | exact rfl | (refine ⟨⟨rfl, ?_⟩, ?_⟩) | (refine ⟨rfl, ?_⟩) | (simp; done) | (simp; rfl))) (by repeat' (first | exact trivial | exact rfl | exact .inl rfl | exact .inr rfl | (refine ⟨⟨rfl, .inl ⟨_, rfl, ?_⟩⟩, ?_⟩) | (refine ⟨⟨rfl, _, rfl, ?_⟩, ?_⟩) | (refine ⟨⟨rfl, .inr ⟨rfl, ?_⟩⟩, ?_⟩) | (simp; done) | (simp; rfl)))), by simp⟩
  | nil =>
    have hz := zip_nil h
    conv => whnf
    ((refine hif_false ?_ ?_; (· (first | rfl | assumption | omega | (simp only [gt_iff_lt, ge_iff_le, decide_eq_true_eq, decide_eq_false_iff_not, beq_iff_eq, bne_iff_ne, ne_eq, beq_eq_false_iff_ne, bne_eq_false_iff_eq, List.length_map, List.length_append, List.length_cons, List.length_nil, List.length_take, List.length_drop, Bool.not_eq_true', Bool.not_eq_false', Bool.not_eq_true, Bool.not_eq_false, Decidable.not_not, Nat.cast_ofNat, Int.natCast_add] <;> omega) | (simp <;> omega))); conv => whnf); try (refine hcut.go ?_; conv => whnf))
    refine ⟨{ x : List Int × List Int // lo = x.1 ++ x.2 }, fun | ⟨(a, b), _⟩ => hs 193 [(0, sents l), (1, i64 cum), (4, i64 id), (5, i64 path), (16, ints lo), (20, ints lo), (110, i64 lo.length), (111, i64 a.length)] [], fun x => x.1.2.length, ⟨([], lo), rfl⟩, ?_, ?_⟩
    · exact (hle_hs [] rfl rfl rfl rfl (by repeat' (first | exact trivial | exact rfl | (refine ⟨⟨rfl, ?_⟩, ?_⟩) | (refine ⟨rfl, ?_⟩) | (simp; done) | (simp; rfl))) (by repeat' (first | exact trivial | exact rfl | exact .inl rfl | exact .inr rfl | (refine ⟨⟨rfl, .inl ⟨_, rfl, ?_⟩⟩, ?_⟩) | (refine ⟨⟨rfl, _, rfl, ?_⟩, ?_⟩) | (refine ⟨⟨rfl, .inr ⟨rfl, ?_⟩⟩, ?_⟩) | (simp; done) | (simp; rfl))))
    rintro ⟨⟨a, b⟩, h⟩
    dsimp only at h
    cases b with
    | cons s b =>
      have hz := zip_cons h
      conv => whnf
      ((refine hif_true ?_ ?_; (· (first | rfl | assumption | omega | (simp only [gt_iff_lt, ge_iff_le, decide_eq_true_eq, decide_eq_false_iff_not, beq_iff_eq, bne_iff_ne, ne_eq, beq_eq_false_iff_ne, bne_eq_false_iff_eq, List.length_map, List.length_append, List.length_cons, List.length_nil, List.length_take, List.length_drop, Bool.not_eq_true', Bool.not_eq_false', Bool.not_eq_true, Bool.not_eq_false, Decidable.not_not, Nat.cast_ofNat, Int.natCast_add] <;> omega) | (simp <;> omega))); conv => whnf); try (refine hcut.go ?_; conv => whnf))
      refine hrow_mid h rfl ?_; conv => whnf
      refine hrow_mid h rfl ?_; conv => whnf
      ((refine hdraw_intro ?_ ?_; (· kernel_rfl); conv => whnf); try (refine hcut.go ?_; conv => whnf))
      refine hif_false (by simp) ?_; conv => whnf
      (try (refine hcut.go ?_; conv => whnf))
      ((refine hwrap_fit (W_fit ?_ ?_) ?_; (· (first | omega | (simp only [List.length_map, List.length_append, List.length_take, List.length_drop, List.length_cons, List.length_nil] <;> omega) | (simp <;> omega))); (· (first | omega | (simp only [List.length_map, List.length_append, List.length_take, List.length_drop, List.length_cons, List.length_nil] <;> omega) | (simp <;> omega))); conv => whnf); try (refine hcut.go ?_; conv => whnf))
      exact ⟨⟨(a ++ [s], b), zip_next h⟩, (hle_hs [] rfl rfl rfl rfl (by repeat' (first | exact trivial | exact rfl | (refine ⟨⟨rfl, ?_⟩, ?_⟩) | (refine ⟨rfl, ?_⟩) | (simp; done) | (simp; rfl))) (by repeat' (first | exact trivial | exact rfl | exact .inl rfl | exact .inr rfl | (refine ⟨⟨rfl, .inl ⟨_, rfl, ?_⟩⟩, ?_⟩) | (refine ⟨⟨rfl, _, rfl, ?_⟩, ?_⟩) | (refine ⟨⟨rfl, .inr ⟨rfl, ?_⟩⟩, ?_⟩) | (simp; done) | (simp; rfl)))), by simp⟩
    | nil =>
      have hz := zip_nil h
      have hpl : (point l cum).2.length ≤ 8 := point_len cum l _ _ (by simp)
      conv => whnf
      ((refine hif_false ?_ ?_; (· (first | rfl | assumption | omega | (simp only [gt_iff_lt, ge_iff_le, decide_eq_true_eq, decide_eq_false_iff_not, beq_iff_eq, bne_iff_ne, ne_eq, beq_eq_false_iff_ne, bne_eq_false_iff_eq, List.length_map, List.length_append, List.length_cons, List.length_nil, List.length_take, List.length_drop, Bool.not_eq_true', Bool.not_eq_false', Bool.not_eq_true, Bool.not_eq_false, Decidable.not_not, Nat.cast_ofNat, Int.natCast_add] <;> omega) | (simp <;> omega))); conv => whnf); try (refine hcut.go ?_; conv => whnf))
      ((refine hcall_pure ?_; (conv => whnf); refine ⟨_, spec_point l cum (by omega), rfl, ?_⟩; conv => whnf); try (refine hcut.go ?_; conv => whnf))
      ((refine hcall_pure ?_; (conv => whnf); refine ⟨_, spec_rpoint l cum (by omega), rfl, ?_⟩; conv => whnf); try (refine hcut.go ?_; conv => whnf))
      ((refine hif_false ?_ ?_; (· (first | rfl | assumption | omega | (simp only [gt_iff_lt, ge_iff_le, decide_eq_true_eq, decide_eq_false_iff_not, beq_iff_eq, bne_iff_ne, ne_eq, beq_eq_false_iff_ne, bne_eq_false_iff_eq, List.length_map, List.length_append, List.length_cons, List.length_nil, List.length_take, List.length_drop, Bool.not_eq_true', Bool.not_eq_false', Bool.not_eq_true, Bool.not_eq_false, Decidable.not_not, Nat.cast_ofNat, Int.natCast_add] <;> omega) | (simp <;> omega))); conv => whnf); try (refine hcut.go ?_; conv => whnf))
      ((refine hcall_lend ?_; (conv => whnf); refine ⟨_, spec_sameSkips _ (by omega), rfl, ?_⟩; conv => whnf); try (refine hcut.go ?_; conv => whnf))
      refine ⟨{ x : List Sent × List Sent // l = x.1 ++ x.2 }, fun | ⟨(a, b), _⟩ => hs 193 [(0, sents l), (4, i64 id), (5, i64 path), (25, .own 900), (26, .own 901), (145, sents l), (146, i64 l.length), (147, i64 a.length)] [(900, sentB (a.map (give id))), (901, sentB (a.map (late path)))], fun x => x.1.2.length, ⟨([], l), rfl⟩, ?_, ?_⟩
      · exact (hle_hs [(900, none), (901, none)] rfl rfl rfl rfl (by repeat' (first | exact trivial | exact rfl | (refine ⟨⟨rfl, ?_⟩, ?_⟩) | (refine ⟨rfl, ?_⟩) | (simp; done) | (simp; rfl))) (by repeat' (first | exact trivial | exact rfl | exact .inl rfl | exact .inr rfl | (refine ⟨⟨rfl, .inl ⟨_, rfl, ?_⟩⟩, ?_⟩) | (refine ⟨⟨rfl, _, rfl, ?_⟩, ?_⟩) | (refine ⟨⟨rfl, .inr ⟨rfl, ?_⟩⟩, ?_⟩) | (simp; done) | (simp; rfl))))
      rintro ⟨⟨a, b⟩, h⟩
      dsimp only at h
      cases b with
      | nil =>
        have hz := zip_nil h
        rw [List.append_nil] at h
        subst h
        have hg := big_map (give_chunk id) hl
        have ht := big_map (late_chunk path) hl
        conv => whnf
        ((refine hif_false ?_ ?_; (· (first | rfl | assumption | omega | (simp only [gt_iff_lt, ge_iff_le, decide_eq_true_eq, decide_eq_false_iff_not, beq_iff_eq, bne_iff_ne, ne_eq, beq_eq_false_iff_ne, bne_eq_false_iff_eq, List.length_map, List.length_append, List.length_cons, List.length_nil, List.length_take, List.length_drop, Bool.not_eq_true', Bool.not_eq_false', Bool.not_eq_true, Bool.not_eq_false, Decidable.not_not, Nat.cast_ofNat, Int.natCast_add] <;> omega) | (simp <;> omega))); conv => whnf); try (refine hcut.go ?_; conv => whnf))
        ((refine hcall_own [(0, 183)]  ?_; (conv => whnf); refine ⟨_, _,  spec_give l id hl.sized, ⟨⟨⟨rfl, rfl⟩, trivial⟩, rfl, rfl, rfl⟩, ?_⟩; conv => whnf); try (refine hcut.go ?_; conv => whnf))
        ((refine hcall_lend ?_; (conv => whnf); refine ⟨_, spec_sameSent (l.map (give id)) hg.sized.len hg.parts, rfl, ?_⟩; conv => whnf); try (refine hcut.go ?_; conv => whnf))
        ((refine hcall_own [(0, 189)]  ?_; (conv => whnf); refine ⟨_, _,  spec_late l path hl.sized, ⟨⟨⟨rfl, rfl⟩, trivial⟩, rfl, rfl, rfl⟩, ?_⟩; conv => whnf); try (refine hcut.go ?_; conv => whnf))
        ((refine hcall_lend ?_; (conv => whnf); refine ⟨_, spec_sameSent (l.map (late path)) ht.sized.len ht.parts, rfl, ?_⟩; conv => whnf); try (refine hcut.go ?_; conv => whnf))
      | cons s b =>
        have hz := zip_cons h
        have eg : (a ++ [s]).map (give id) = a.map (give id) ++ [give id s] := by simp
        have et : (a ++ [s]).map (late path) = a.map (late path) ++ [late path s] := by simp
        conv => whnf
        ((refine hif_true ?_ ?_; (· (first | rfl | assumption | omega | (simp only [gt_iff_lt, ge_iff_le, decide_eq_true_eq, decide_eq_false_iff_not, beq_iff_eq, bne_iff_ne, ne_eq, beq_eq_false_iff_ne, bne_eq_false_iff_eq, List.length_map, List.length_append, List.length_cons, List.length_nil, List.length_take, List.length_drop, Bool.not_eq_true', Bool.not_eq_false', Bool.not_eq_true, Bool.not_eq_false, Decidable.not_not, Nat.cast_ofNat, Int.natCast_add] <;> omega) | (simp <;> omega))); conv => whnf); try (refine hcut.go ?_; conv => whnf))
        refine hrow_mid h rfl ?_; conv => whnf
        (try (refine hcut.go ?_; conv => whnf))
        by_cases k1 : s.id = id
        · ((refine hif_true ?_ ?_; (· (first | rfl | assumption | omega | (simp only [gt_iff_lt, ge_iff_le, decide_eq_true_eq, decide_eq_false_iff_not, beq_iff_eq, bne_iff_ne, ne_eq, beq_eq_false_iff_ne, bne_eq_false_iff_eq, List.length_map, List.length_append, List.length_cons, List.length_nil, List.length_take, List.length_drop, Bool.not_eq_true', Bool.not_eq_false', Bool.not_eq_true, Bool.not_eq_false, Decidable.not_not, Nat.cast_ofNat, Int.natCast_add] <;> omega) | (simp <;> omega))); conv => whnf); try (refine hcut.go ?_; conv => whnf))
          by_cases k2 : s.state = 2
          · have e1 : give id s = s := if_neg fun h => h.2 k2
            ((refine hif_false ?_ ?_; (· (first | rfl | assumption | omega | (simp only [gt_iff_lt, ge_iff_le, decide_eq_true_eq, decide_eq_false_iff_not, beq_iff_eq, bne_iff_ne, ne_eq, beq_eq_false_iff_ne, bne_eq_false_iff_eq, List.length_map, List.length_append, List.length_cons, List.length_nil, List.length_take, List.length_drop, Bool.not_eq_true', Bool.not_eq_false', Bool.not_eq_true, Bool.not_eq_false, Decidable.not_not, Nat.cast_ofNat, Int.natCast_add] <;> omega) | (simp <;> omega))); conv => whnf); try (refine hcut.go ?_; conv => whnf))
            refine hobl_intro (c := (((a.map (give id)).map Sent.row).length + 1) * 200 ≤ 140737488355328) (by (first | omega | (simp only [List.length_map, List.length_append, List.length_take, List.length_drop, List.length_cons, List.length_nil] <;> omega) | (simp <;> omega))) ?_; conv => whnf
            (try (refine hcut.go ?_; conv => whnf))
            by_cases k3 : s.state = 1
            · ((refine hif_true ?_ ?_; (· (first | rfl | assumption | omega | (simp only [gt_iff_lt, ge_iff_le, decide_eq_true_eq, decide_eq_false_iff_not, beq_iff_eq, bne_iff_ne, ne_eq, beq_eq_false_iff_ne, bne_eq_false_iff_eq, List.length_map, List.length_append, List.length_cons, List.length_nil, List.length_take, List.length_drop, Bool.not_eq_true', Bool.not_eq_false', Bool.not_eq_true, Bool.not_eq_false, Decidable.not_not, Nat.cast_ofNat, Int.natCast_add] <;> omega) | (simp <;> omega))); conv => whnf); try (refine hcut.go ?_; conv => whnf))
              by_cases k4 : s.path = path
              · have e2 : late path s = { s with state := 3 } := if_pos ⟨k3, k4⟩
                ((refine hif_true ?_ ?_; (· (first | rfl | assumption | omega | (simp only [gt_iff_lt, ge_iff_le, decide_eq_true_eq, decide_eq_false_iff_not, beq_iff_eq, bne_iff_ne, ne_eq, beq_eq_false_iff_ne, bne_eq_false_iff_eq, List.length_map, List.length_append, List.length_cons, List.length_nil, List.length_take, List.length_drop, Bool.not_eq_true', Bool.not_eq_false', Bool.not_eq_true, Bool.not_eq_false, Decidable.not_not, Nat.cast_ofNat, Int.natCast_add] <;> omega) | (simp <;> omega))); conv => whnf); try (refine hcut.go ?_; conv => whnf))
                refine hobl_intro (c := (((a.map (late path)).map Sent.row).length + 1) * 200 ≤ 140737488355328) (by (first | omega | (simp only [List.length_map, List.length_append, List.length_take, List.length_drop, List.length_cons, List.length_nil] <;> omega) | (simp <;> omega))) ?_; conv => whnf
                ((refine hwrap_fit (W_fit ?_ ?_) ?_; (· (first | omega | (simp only [List.length_map, List.length_append, List.length_take, List.length_drop, List.length_cons, List.length_nil] <;> omega) | (simp <;> omega))); (· (first | omega | (simp only [List.length_map, List.length_append, List.length_take, List.length_drop, List.length_cons, List.length_nil] <;> omega) | (simp <;> omega))); conv => whnf); try (refine hcut.go ?_; conv => whnf))
                exact ⟨⟨(a ++ [s], b), zip_next h⟩, (hle_hs [(900, some 165), (901, some 179)] rfl rfl rfl rfl (by repeat' (first | exact trivial | exact rfl | (refine ⟨⟨rfl, ?_⟩, ?_⟩) | (refine ⟨rfl, ?_⟩) | ((refine row_app (f := Sent.row) eg ?_; rw [e1]; rfl)) | ((refine row_app (f := Sent.row) et ?_; rw [e2]; rfl)) | (simp; done) | (simp; rfl))) (by repeat' (first | exact trivial | exact rfl | exact .inl rfl | exact .inr rfl | (refine ⟨⟨rfl, .inl ⟨_, rfl, ?_⟩⟩, ?_⟩) | (refine ⟨⟨rfl, _, rfl, ?_⟩, ?_⟩) | (refine ⟨⟨rfl, .inr ⟨rfl, ?_⟩⟩, ?_⟩) | ((refine row_app (f := Sent.row) eg ?_; rw [e1]; rfl)) | ((refine row_app (f := Sent.row) et ?_; rw [e2]; rfl)) | (simp; done) | (simp; rfl)))), by simp⟩
              · have e2 : late path s = s := if_neg fun h => k4 h.2
                ((refine hif_false ?_ ?_; (· (first | rfl | assumption | omega | (simp only [gt_iff_lt, ge_iff_le, decide_eq_true_eq, decide_eq_false_iff_not, beq_iff_eq, bne_iff_ne, ne_eq, beq_eq_false_iff_ne, bne_eq_false_iff_eq, List.length_map, List.length_append, List.length_cons, List.length_nil, List.length_take, List.length_drop, Bool.not_eq_true', Bool.not_eq_false', Bool.not_eq_true, Bool.not_eq_false, Decidable.not_not, Nat.cast_ofNat, Int.natCast_add] <;> omega) | (simp <;> omega))); conv => whnf); try (refine hcut.go ?_; conv => whnf))
                refine hobl_intro (c := (((a.map (late path)).map Sent.row).length + 1) * 200 ≤ 140737488355328) (by (first | omega | (simp only [List.length_map, List.length_append, List.length_take, List.length_drop, List.length_cons, List.length_nil] <;> omega) | (simp <;> omega))) ?_; conv => whnf
                ((refine hwrap_fit (W_fit ?_ ?_) ?_; (· (first | omega | (simp only [List.length_map, List.length_append, List.length_take, List.length_drop, List.length_cons, List.length_nil] <;> omega) | (simp <;> omega))); (· (first | omega | (simp only [List.length_map, List.length_append, List.length_take, List.length_drop, List.length_cons, List.length_nil] <;> omega) | (simp <;> omega))); conv => whnf); try (refine hcut.go ?_; conv => whnf))
                exact ⟨⟨(a ++ [s], b), zip_next h⟩, (hle_hs [(900, some 165), (901, some 179)] rfl rfl rfl rfl (by repeat' (first | exact trivial | exact rfl | (refine ⟨⟨rfl, ?_⟩, ?_⟩) | (refine ⟨rfl, ?_⟩) | ((refine row_app (f := Sent.row) eg ?_; rw [e1]; rfl)) | ((refine row_app (f := Sent.row) et ?_; rw [e2]; rfl)) | (simp; done) | (simp; rfl))) (by repeat' (first | exact trivial | exact rfl | exact .inl rfl | exact .inr rfl | (refine ⟨⟨rfl, .inl ⟨_, rfl, ?_⟩⟩, ?_⟩) | (refine ⟨⟨rfl, _, rfl, ?_⟩, ?_⟩) | (refine ⟨⟨rfl, .inr ⟨rfl, ?_⟩⟩, ?_⟩) | ((refine row_app (f := Sent.row) eg ?_; rw [e1]; rfl)) | ((refine row_app (f := Sent.row) et ?_; rw [e2]; rfl)) | (simp; done) | (simp; rfl)))), by simp⟩
            · have e2 : late path s = s := if_neg fun h => k3 h.1
              ((refine hif_false ?_ ?_; (· (first | rfl | assumption | omega | (simp only [gt_iff_lt, ge_iff_le, decide_eq_true_eq, decide_eq_false_iff_not, beq_iff_eq, bne_iff_ne, ne_eq, beq_eq_false_iff_ne, bne_eq_false_iff_eq, List.length_map, List.length_append, List.length_cons, List.length_nil, List.length_take, List.length_drop, Bool.not_eq_true', Bool.not_eq_false', Bool.not_eq_true, Bool.not_eq_false, Decidable.not_not, Nat.cast_ofNat, Int.natCast_add] <;> omega) | (simp <;> omega))); conv => whnf); try (refine hcut.go ?_; conv => whnf))
              refine hobl_intro (c := (((a.map (late path)).map Sent.row).length + 1) * 200 ≤ 140737488355328) (by (first | omega | (simp only [List.length_map, List.length_append, List.length_take, List.length_drop, List.length_cons, List.length_nil] <;> omega) | (simp <;> omega))) ?_; conv => whnf
              ((refine hwrap_fit (W_fit ?_ ?_) ?_; (· (first | omega | (simp only [List.length_map, List.length_append, List.length_take, List.length_drop, List.length_cons, List.length_nil] <;> omega) | (simp <;> omega))); (· (first | omega | (simp only [List.length_map, List.length_append, List.length_take, List.length_drop, List.length_cons, List.length_nil] <;> omega) | (simp <;> omega))); conv => whnf); try (refine hcut.go ?_; conv => whnf))
              exact ⟨⟨(a ++ [s], b), zip_next h⟩, (hle_hs [(900, some 165), (901, some 179)] rfl rfl rfl rfl (by repeat' (first | exact trivial | exact rfl | (refine ⟨⟨rfl, ?_⟩, ?_⟩) | (refine ⟨rfl, ?_⟩) | ((refine row_app (f := Sent.row) eg ?_; rw [e1]; rfl)) | ((refine row_app (f := Sent.row) et ?_; rw [e2]; rfl)) | (simp; done) | (simp; rfl))) (by repeat' (first | exact trivial | exact rfl | exact .inl rfl | exact .inr rfl | (refine ⟨⟨rfl, .inl ⟨_, rfl, ?_⟩⟩, ?_⟩) | (refine ⟨⟨rfl, _, rfl, ?_⟩, ?_⟩) | (refine ⟨⟨rfl, .inr ⟨rfl, ?_⟩⟩, ?_⟩) | ((refine row_app (f := Sent.row) eg ?_; rw [e1]; rfl)) | ((refine row_app (f := Sent.row) et ?_; rw [e2]; rfl)) | (simp; done) | (simp; rfl)))), by simp⟩
          · have e1 : give id s = { s with state := 4 } := if_pos ⟨k1, k2⟩
            ((refine hif_true ?_ ?_; (· (first | rfl | assumption | omega | (simp only [gt_iff_lt, ge_iff_le, decide_eq_true_eq, decide_eq_false_iff_not, beq_iff_eq, bne_iff_ne, ne_eq, beq_eq_false_iff_ne, bne_eq_false_iff_eq, List.length_map, List.length_append, List.length_cons, List.length_nil, List.length_take, List.length_drop, Bool.not_eq_true', Bool.not_eq_false', Bool.not_eq_true, Bool.not_eq_false, Decidable.not_not, Nat.cast_ofNat, Int.natCast_add] <;> omega) | (simp <;> omega))); conv => whnf); try (refine hcut.go ?_; conv => whnf))
            refine hobl_intro (c := (((a.map (give id)).map Sent.row).length + 1) * 200 ≤ 140737488355328) (by (first | omega | (simp only [List.length_map, List.length_append, List.length_take, List.length_drop, List.length_cons, List.length_nil] <;> omega) | (simp <;> omega))) ?_; conv => whnf
            (try (refine hcut.go ?_; conv => whnf))
            by_cases k3 : s.state = 1
            · ((refine hif_true ?_ ?_; (· (first | rfl | assumption | omega | (simp only [gt_iff_lt, ge_iff_le, decide_eq_true_eq, decide_eq_false_iff_not, beq_iff_eq, bne_iff_ne, ne_eq, beq_eq_false_iff_ne, bne_eq_false_iff_eq, List.length_map, List.length_append, List.length_cons, List.length_nil, List.length_take, List.length_drop, Bool.not_eq_true', Bool.not_eq_false', Bool.not_eq_true, Bool.not_eq_false, Decidable.not_not, Nat.cast_ofNat, Int.natCast_add] <;> omega) | (simp <;> omega))); conv => whnf); try (refine hcut.go ?_; conv => whnf))
              by_cases k4 : s.path = path
              · have e2 : late path s = { s with state := 3 } := if_pos ⟨k3, k4⟩
                ((refine hif_true ?_ ?_; (· (first | rfl | assumption | omega | (simp only [gt_iff_lt, ge_iff_le, decide_eq_true_eq, decide_eq_false_iff_not, beq_iff_eq, bne_iff_ne, ne_eq, beq_eq_false_iff_ne, bne_eq_false_iff_eq, List.length_map, List.length_append, List.length_cons, List.length_nil, List.length_take, List.length_drop, Bool.not_eq_true', Bool.not_eq_false', Bool.not_eq_true, Bool.not_eq_false, Decidable.not_not, Nat.cast_ofNat, Int.natCast_add] <;> omega) | (simp <;> omega))); conv => whnf); try (refine hcut.go ?_; conv => whnf))
                refine hobl_intro (c := (((a.map (late path)).map Sent.row).length + 1) * 200 ≤ 140737488355328) (by (first | omega | (simp only [List.length_map, List.length_append, List.length_take, List.length_drop, List.length_cons, List.length_nil] <;> omega) | (simp <;> omega))) ?_; conv => whnf
                ((refine hwrap_fit (W_fit ?_ ?_) ?_; (· (first | omega | (simp only [List.length_map, List.length_append, List.length_take, List.length_drop, List.length_cons, List.length_nil] <;> omega) | (simp <;> omega))); (· (first | omega | (simp only [List.length_map, List.length_append, List.length_take, List.length_drop, List.length_cons, List.length_nil] <;> omega) | (simp <;> omega))); conv => whnf); try (refine hcut.go ?_; conv => whnf))
                exact ⟨⟨(a ++ [s], b), zip_next h⟩, (hle_hs [(900, some 165), (901, some 179)] rfl rfl rfl rfl (by repeat' (first | exact trivial | exact rfl | (refine ⟨⟨rfl, ?_⟩, ?_⟩) | (refine ⟨rfl, ?_⟩) | ((refine row_app (f := Sent.row) eg ?_; rw [e1]; rfl)) | ((refine row_app (f := Sent.row) et ?_; rw [e2]; rfl)) | (simp; done) | (simp; rfl))) (by repeat' (first | exact trivial | exact rfl | exact .inl rfl | exact .inr rfl | (refine ⟨⟨rfl, .inl ⟨_, rfl, ?_⟩⟩, ?_⟩) | (refine ⟨⟨rfl, _, rfl, ?_⟩, ?_⟩) | (refine ⟨⟨rfl, .inr ⟨rfl, ?_⟩⟩, ?_⟩) | ((refine row_app (f := Sent.row) eg ?_; rw [e1]; rfl)) | ((refine row_app (f := Sent.row) et ?_; rw [e2]; rfl)) | (simp; done) | (simp; rfl)))), by simp⟩
              · have e2 : late path s = s := if_neg fun h => k4 h.2
                ((refine hif_false ?_ ?_; (· (first | rfl | assumption | omega | (simp only [gt_iff_lt, ge_iff_le, decide_eq_true_eq, decide_eq_false_iff_not, beq_iff_eq, bne_iff_ne, ne_eq, beq_eq_false_iff_ne, bne_eq_false_iff_eq, List.length_map, List.length_append, List.length_cons, List.length_nil, List.length_take, List.length_drop, Bool.not_eq_true', Bool.not_eq_false', Bool.not_eq_true, Bool.not_eq_false, Decidable.not_not, Nat.cast_ofNat, Int.natCast_add] <;> omega) | (simp <;> omega))); conv => whnf); try (refine hcut.go ?_; conv => whnf))
                refine hobl_intro (c := (((a.map (late path)).map Sent.row).length + 1) * 200 ≤ 140737488355328) (by (first | omega | (simp only [List.length_map, List.length_append, List.length_take, List.length_drop, List.length_cons, List.length_nil] <;> omega) | (simp <;> omega))) ?_; conv => whnf
                ((refine hwrap_fit (W_fit ?_ ?_) ?_; (· (first | omega | (simp only [List.length_map, List.length_append, List.length_take, List.length_drop, List.length_cons, List.length_nil] <;> omega) | (simp <;> omega))); (· (first | omega | (simp only [List.length_map, List.length_append, List.length_take, List.length_drop, List.length_cons, List.length_nil] <;> omega) | (simp <;> omega))); conv => whnf); try (refine hcut.go ?_; conv => whnf))
                exact ⟨⟨(a ++ [s], b), zip_next h⟩, (hle_hs [(900, some 165), (901, some 179)] rfl rfl rfl rfl (by repeat' (first | exact trivial | exact rfl | (refine ⟨⟨rfl, ?_⟩, ?_⟩) | (refine ⟨rfl, ?_⟩) | ((refine row_app (f := Sent.row) eg ?_; rw [e1]; rfl)) | ((refine row_app (f := Sent.row) et ?_; rw [e2]; rfl)) | (simp; done) | (simp; rfl))) (by repeat' (first | exact trivial | exact rfl | exact .inl rfl | exact .inr rfl | (refine ⟨⟨rfl, .inl ⟨_, rfl, ?_⟩⟩, ?_⟩) | (refine ⟨⟨rfl, _, rfl, ?_⟩, ?_⟩) | (refine ⟨⟨rfl, .inr ⟨rfl, ?_⟩⟩, ?_⟩) | ((refine row_app (f := Sent.row) eg ?_; rw [e1]; rfl)) | ((refine row_app (f := Sent.row) et ?_; rw [e2]; rfl)) | (simp; done) | (simp; rfl)))), by simp⟩
            · have e2 : late path s = s := if_neg fun h => k3 h.1
              ((refine hif_false ?_ ?_; (· (first | rfl | assumption | omega | (simp only [gt_iff_lt, ge_iff_le, decide_eq_true_eq, decide_eq_false_iff_not, beq_iff_eq, bne_iff_ne, ne_eq, beq_eq_false_iff_ne, bne_eq_false_iff_eq, List.length_map, List.length_append, List.length_cons, List.length_nil, List.length_take, List.length_drop, Bool.not_eq_true', Bool.not_eq_false', Bool.not_eq_true, Bool.not_eq_false, Decidable.not_not, Nat.cast_ofNat, Int.natCast_add] <;> omega) | (simp <;> omega))); conv => whnf); try (refine hcut.go ?_; conv => whnf))
              refine hobl_intro (c := (((a.map (late path)).map Sent.row).length + 1) * 200 ≤ 140737488355328) (by (first | omega | (simp only [List.length_map, List.length_append, List.length_take, List.length_drop, List.length_cons, List.length_nil] <;> omega) | (simp <;> omega))) ?_; conv => whnf
              ((refine hwrap_fit (W_fit ?_ ?_) ?_; (· (first | omega | (simp only [List.length_map, List.length_append, List.length_take, List.length_drop, List.length_cons, List.length_nil] <;> omega) | (simp <;> omega))); (· (first | omega | (simp only [List.length_map, List.length_append, List.length_take, List.length_drop, List.length_cons, List.length_nil] <;> omega) | (simp <;> omega))); conv => whnf); try (refine hcut.go ?_; conv => whnf))
              exact ⟨⟨(a ++ [s], b), zip_next h⟩, (hle_hs [(900, some 165), (901, some 179)] rfl rfl rfl rfl (by repeat' (first | exact trivial | exact rfl | (refine ⟨⟨rfl, ?_⟩, ?_⟩) | (refine ⟨rfl, ?_⟩) | ((refine row_app (f := Sent.row) eg ?_; rw [e1]; rfl)) | ((refine row_app (f := Sent.row) et ?_; rw [e2]; rfl)) | (simp; done) | (simp; rfl))) (by repeat' (first | exact trivial | exact rfl | exact .inl rfl | exact .inr rfl | (refine ⟨⟨rfl, .inl ⟨_, rfl, ?_⟩⟩, ?_⟩) | (refine ⟨⟨rfl, _, rfl, ?_⟩, ?_⟩) | (refine ⟨⟨rfl, .inr ⟨rfl, ?_⟩⟩, ?_⟩) | ((refine row_app (f := Sent.row) eg ?_; rw [e1]; rfl)) | ((refine row_app (f := Sent.row) et ?_; rw [e2]; rfl)) | (simp; done) | (simp; rfl)))), by simp⟩
        · have e1 : give id s = s := if_neg fun h => k1 h.1
          ((refine hif_false ?_ ?_; (· (first | rfl | assumption | omega | (simp only [gt_iff_lt, ge_iff_le, decide_eq_true_eq, decide_eq_false_iff_not, beq_iff_eq, bne_iff_ne, ne_eq, beq_eq_false_iff_ne, bne_eq_false_iff_eq, List.length_map, List.length_append, List.length_cons, List.length_nil, List.length_take, List.length_drop, Bool.not_eq_true', Bool.not_eq_false', Bool.not_eq_true, Bool.not_eq_false, Decidable.not_not, Nat.cast_ofNat, Int.natCast_add] <;> omega) | (simp <;> omega))); conv => whnf); try (refine hcut.go ?_; conv => whnf))
          refine hobl_intro (c := (((a.map (give id)).map Sent.row).length + 1) * 200 ≤ 140737488355328) (by (first | omega | (simp only [List.length_map, List.length_append, List.length_take, List.length_drop, List.length_cons, List.length_nil] <;> omega) | (simp <;> omega))) ?_; conv => whnf
          (try (refine hcut.go ?_; conv => whnf))
          by_cases k3 : s.state = 1
          · ((refine hif_true ?_ ?_; (· (first | rfl | assumption | omega | (simp only [gt_iff_lt, ge_iff_le, decide_eq_true_eq, decide_eq_false_iff_not, beq_iff_eq, bne_iff_ne, ne_eq, beq_eq_false_iff_ne, bne_eq_false_iff_eq, List.length_map, List.length_append, List.length_cons, List.length_nil, List.length_take, List.length_drop, Bool.not_eq_true', Bool.not_eq_false', Bool.not_eq_true, Bool.not_eq_false, Decidable.not_not, Nat.cast_ofNat, Int.natCast_add] <;> omega) | (simp <;> omega))); conv => whnf); try (refine hcut.go ?_; conv => whnf))
            by_cases k4 : s.path = path
            · have e2 : late path s = { s with state := 3 } := if_pos ⟨k3, k4⟩
              ((refine hif_true ?_ ?_; (· (first | rfl | assumption | omega | (simp only [gt_iff_lt, ge_iff_le, decide_eq_true_eq, decide_eq_false_iff_not, beq_iff_eq, bne_iff_ne, ne_eq, beq_eq_false_iff_ne, bne_eq_false_iff_eq, List.length_map, List.length_append, List.length_cons, List.length_nil, List.length_take, List.length_drop, Bool.not_eq_true', Bool.not_eq_false', Bool.not_eq_true, Bool.not_eq_false, Decidable.not_not, Nat.cast_ofNat, Int.natCast_add] <;> omega) | (simp <;> omega))); conv => whnf); try (refine hcut.go ?_; conv => whnf))
              refine hobl_intro (c := (((a.map (late path)).map Sent.row).length + 1) * 200 ≤ 140737488355328) (by (first | omega | (simp only [List.length_map, List.length_append, List.length_take, List.length_drop, List.length_cons, List.length_nil] <;> omega) | (simp <;> omega))) ?_; conv => whnf
              ((refine hwrap_fit (W_fit ?_ ?_) ?_; (· (first | omega | (simp only [List.length_map, List.length_append, List.length_take, List.length_drop, List.length_cons, List.length_nil] <;> omega) | (simp <;> omega))); (· (first | omega | (simp only [List.length_map, List.length_append, List.length_take, List.length_drop, List.length_cons, List.length_nil] <;> omega) | (simp <;> omega))); conv => whnf); try (refine hcut.go ?_; conv => whnf))
              exact ⟨⟨(a ++ [s], b), zip_next h⟩, (hle_hs [(900, some 165), (901, some 179)] rfl rfl rfl rfl (by repeat' (first | exact trivial | exact rfl | (refine ⟨⟨rfl, ?_⟩, ?_⟩) | (refine ⟨rfl, ?_⟩) | ((refine row_app (f := Sent.row) eg ?_; rw [e1]; rfl)) | ((refine row_app (f := Sent.row) et ?_; rw [e2]; rfl)) | (simp; done) | (simp; rfl))) (by repeat' (first | exact trivial | exact rfl | exact .inl rfl | exact .inr rfl | (refine ⟨⟨rfl, .inl ⟨_, rfl, ?_⟩⟩, ?_⟩) | (refine ⟨⟨rfl, _, rfl, ?_⟩, ?_⟩) | (refine ⟨⟨rfl, .inr ⟨rfl, ?_⟩⟩, ?_⟩) | ((refine row_app (f := Sent.row) eg ?_; rw [e1]; rfl)) | ((refine row_app (f := Sent.row) et ?_; rw [e2]; rfl)) | (simp; done) | (simp; rfl)))), by simp⟩
            · have e2 : late path s = s := if_neg fun h => k4 h.2
              ((refine hif_false ?_ ?_; (· (first | rfl | assumption | omega | (simp only [gt_iff_lt, ge_iff_le, decide_eq_true_eq, decide_eq_false_iff_not, beq_iff_eq, bne_iff_ne, ne_eq, beq_eq_false_iff_ne, bne_eq_false_iff_eq, List.length_map, List.length_append, List.length_cons, List.length_nil, List.length_take, List.length_drop, Bool.not_eq_true', Bool.not_eq_false', Bool.not_eq_true, Bool.not_eq_false, Decidable.not_not, Nat.cast_ofNat, Int.natCast_add] <;> omega) | (simp <;> omega))); conv => whnf); try (refine hcut.go ?_; conv => whnf))
              refine hobl_intro (c := (((a.map (late path)).map Sent.row).length + 1) * 200 ≤ 140737488355328) (by (first | omega | (simp only [List.length_map, List.length_append, List.length_take, List.length_drop, List.length_cons, List.length_nil] <;> omega) | (simp <;> omega))) ?_; conv => whnf
              ((refine hwrap_fit (W_fit ?_ ?_) ?_; (· (first | omega | (simp only [List.length_map, List.length_append, List.length_take, List.length_drop, List.length_cons, List.length_nil] <;> omega) | (simp <;> omega))); (· (first | omega | (simp only [List.length_map, List.length_append, List.length_take, List.length_drop, List.length_cons, List.length_nil] <;> omega) | (simp <;> omega))); conv => whnf); try (refine hcut.go ?_; conv => whnf))
              exact ⟨⟨(a ++ [s], b), zip_next h⟩, (hle_hs [(900, some 165), (901, some 179)] rfl rfl rfl rfl (by repeat' (first | exact trivial | exact rfl | (refine ⟨⟨rfl, ?_⟩, ?_⟩) | (refine ⟨rfl, ?_⟩) | ((refine row_app (f := Sent.row) eg ?_; rw [e1]; rfl)) | ((refine row_app (f := Sent.row) et ?_; rw [e2]; rfl)) | (simp; done) | (simp; rfl))) (by repeat' (first | exact trivial | exact rfl | exact .inl rfl | exact .inr rfl | (refine ⟨⟨rfl, .inl ⟨_, rfl, ?_⟩⟩, ?_⟩) | (refine ⟨⟨rfl, _, rfl, ?_⟩, ?_⟩) | (refine ⟨⟨rfl, .inr ⟨rfl, ?_⟩⟩, ?_⟩) | ((refine row_app (f := Sent.row) eg ?_; rw [e1]; rfl)) | ((refine row_app (f := Sent.row) et ?_; rw [e2]; rfl)) | (simp; done) | (simp; rfl)))), by simp⟩
          · have e2 : late path s = s := if_neg fun h => k3 h.1
            ((refine hif_false ?_ ?_; (· (first | rfl | assumption | omega | (simp only [gt_iff_lt, ge_iff_le, decide_eq_true_eq, decide_eq_false_iff_not, beq_iff_eq, bne_iff_ne, ne_eq, beq_eq_false_iff_ne, bne_eq_false_iff_eq, List.length_map, List.length_append, List.length_cons, List.length_nil, List.length_take, List.length_drop, Bool.not_eq_true', Bool.not_eq_false', Bool.not_eq_true, Bool.not_eq_false, Decidable.not_not, Nat.cast_ofNat, Int.natCast_add] <;> omega) | (simp <;> omega))); conv => whnf); try (refine hcut.go ?_; conv => whnf))
            refine hobl_intro (c := (((a.map (late path)).map Sent.row).length + 1) * 200 ≤ 140737488355328) (by (first | omega | (simp only [List.length_map, List.length_append, List.length_take, List.length_drop, List.length_cons, List.length_nil] <;> omega) | (simp <;> omega))) ?_; conv => whnf
            ((refine hwrap_fit (W_fit ?_ ?_) ?_; (· (first | omega | (simp only [List.length_map, List.length_append, List.length_take, List.length_drop, List.length_cons, List.length_nil] <;> omega) | (simp <;> omega))); (· (first | omega | (simp only [List.length_map, List.length_append, List.length_take, List.length_drop, List.length_cons, List.length_nil] <;> omega) | (simp <;> omega))); conv => whnf); try (refine hcut.go ?_; conv => whnf))
            exact ⟨⟨(a ++ [s], b), zip_next h⟩, (hle_hs [(900, some 165), (901, some 179)] rfl rfl rfl rfl (by repeat' (first | exact trivial | exact rfl | (refine ⟨⟨rfl, ?_⟩, ?_⟩) | (refine ⟨rfl, ?_⟩) | ((refine row_app (f := Sent.row) eg ?_; rw [e1]; rfl)) | ((refine row_app (f := Sent.row) et ?_; rw [e2]; rfl)) | (simp; done) | (simp; rfl))) (by repeat' (first | exact trivial | exact rfl | exact .inl rfl | exact .inr rfl | (refine ⟨⟨rfl, .inl ⟨_, rfl, ?_⟩⟩, ?_⟩) | (refine ⟨⟨rfl, _, rfl, ?_⟩, ?_⟩) | (refine ⟨⟨rfl, .inr ⟨rfl, ?_⟩⟩, ?_⟩) | ((refine row_app (f := Sent.row) eg ?_; rw [e1]; rfl)) | ((refine row_app (f := Sent.row) et ?_; rw [e2]; rfl)) | (simp; done) | (simp; rfl)))), by simp⟩
end Sco
end Go.HL
