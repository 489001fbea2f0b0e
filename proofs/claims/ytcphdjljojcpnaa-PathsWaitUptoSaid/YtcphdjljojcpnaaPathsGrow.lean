/- The laws PathsGrow and PathsWait: what they hand back is true. -/
import Derived.Test.YtcphdjljojcpnaaPathsLaws
namespace Go.HL
open Go.Proofs
namespace Paths
set_option maxHeartbeats 2000000
set_option maxRecDepth 100000

theorem spec_alive : FunOK Try.prog 19 [] noHeap (hbool true) noHeap := by
  refine funOK_pure mixed Try.func19 (by decide) ?_
  conv => whnf
  (repeat' (first | (refine hwrap_raw ?_; conv => whnf) | (refine hobl_intro ?_ ?_; (first | kernel_rfl | decide); conv => whnf) | (refine hdraw_intro ?_ ?_; kernel_rfl; conv => whnf) | (refine hcut.go ?_; conv => whnf) | (refine hcall_lend ?_; conv => whnf) | (refine ⟨_, spec_new _, rfl, ?_⟩; conv => whnf) | (refine ⟨_, spec_acked ⟨_, _, _, _, _, _, _⟩ _ _ _, rfl, ?_⟩; conv => whnf) | (refine ⟨_, spec_halved ⟨_, _, _, _, _, _, _⟩ _, rfl, ?_⟩; conv => whnf) | (refine ⟨_, spec_late ⟨_, _, _, _, _, _, _⟩ _, rfl, ?_⟩; conv => whnf) | (refine ⟨_, spec_open ⟨_, _, _, _, _, _, _⟩, rfl, ?_⟩; conv => whnf) | (refine ⟨_, spec_choose [⟨0,0,0,0,9,0,0⟩,⟨0,0,0,0,0,0,0⟩] (by decide), rfl, ?_⟩; conv => whnf) | (refine hif_true ?_ ?_; · kernel_rfl; conv => whnf) | (refine hif_false ?_ ?_; · kernel_rfl; conv => whnf)))
  all_goals rfl

/-- what holds of a path after so many steps -/
structure GI (part : Int) (k : Nat) (p : Path) : Prop where
  lo : part ≤ p.window
  hi : p.window ≤ part * (k + 2)
  slow : 4 * part ≤ p.slow
  g0 : 0 ≤ p.gathered
  g1 : p.gathered ≤ 1000 * k

set_option linter.unusedSectionVars false
section
variable {part : Int} {k : Nat} {p : Path} (h1 : 1 ≤ part) (h2 : part ≤ 16) (hk : k ≤ 1000)
include h1 h2 hk
theorem GI.top (h : GI part k p) : p.window ≤ 16032 := by
  have h3 := h.hi
  have h4 : part * ((k : Int) + 2) ≤ 16 * ((k : Int) + 2) := Int.mul_le_mul_of_nonneg_right h2 (by omega)
  omega
theorem GI.next (h : GI part k p) : p.window ≤ part * ((k : Int) + 1 + 2) - part := by
  have h3 := h.hi
  have h4 : part * ((k : Int) + 1 + 2) = part * ((k : Int) + 2) + part := by rw [show (k : Int) + 1 + 2 = ((k : Int) + 2) + 1 by omega, Int.mul_add, Int.mul_one]
  omega
theorem halved_facts (h : GI part k p) : GI part (k + 1) (halved p part) ∧ (halved p part).window ≤ p.window ∧ min p.window (4 * part) ≤ (halved p part).window ∧ W (4 * part) = 4 * part := by
  have h3 := h.next h1 h2 hk
  have h4 := h.top h1 h2 hk
  obtain ⟨a1, a2, a3, a4, a5⟩ := h
  have e1 : W (p.window.tdiv 2) = p.window / 2 := by rw [Int.tdiv_eq_ediv_of_nonneg (by omega)]; exact W_fit (by omega) (by omega)
  have e2 : W (4 * part) = 4 * part := W_fit (by omega) (by omega)
  refine ⟨⟨?_, ?_, ?_, ?_, ?_⟩, ?_, ?_, e2⟩ <;> simp only [halved, e1, e2] <;> push_cast <;> omega
theorem late_facts (h : GI part k p) : GI part (k + 1) (late p part) ∧ (late p part).window = part := by
  have h3 := h.next h1 h2 hk
  have h4 := h.top h1 h2 hk
  obtain ⟨a1, a2, a3, a4, a5⟩ := h
  have e1 : W (p.window.tdiv 2) = p.window / 2 := by rw [Int.tdiv_eq_ediv_of_nonneg (by omega)]; exact W_fit (by omega) (by omega)
  have e2 : W (4 * part) = 4 * part := W_fit (by omega) (by omega)
  refine ⟨⟨?_, ?_, ?_, ?_, ?_⟩, ?_⟩ <;> simp only [late, e1, e2] <;> push_cast <;> omega
theorem acked_facts {n : Int} (hn : 0 ≤ n) (hn' : n ≤ 1000) (h : GI part k p) : GI part (k + 1) (acked p n part true) ∧ p.window ≤ (acked p n part true).window ∧ (acked p n part true).window ≤ p.window + part := by
  have h3 := h.next h1 h2 hk
  have h4 := h.top h1 h2 hk
  obtain ⟨a1, a2, a3, a4, a5⟩ := h
  have e1 : W (p.window + min n part) = p.window + min n part := W_fit (by omega) (by omega)
  have e2 : W (p.gathered + n) = p.gathered + n := W_fit (by omega) (by omega)
  have e4 : W (p.window + part) = p.window + part := W_fit (by omega) (by omega)
  by_cases c1 : n = 0
  · refine ⟨⟨?_, ?_, ?_, ?_, ?_⟩, ?_, ?_⟩ <;> simp only [acked, c1, if_true] <;> push_cast <;> omega
  · by_cases c2 : p.window ≤ p.slow
    · refine ⟨⟨?_, ?_, ?_, ?_, ?_⟩, ?_, ?_⟩ <;> simp only [acked, if_neg c1, if_pos c2, e1] <;> push_cast <;> omega
    · by_cases c3 : p.gathered + n ≥ p.window
      · have e3 : W (p.gathered + n - p.window) = p.gathered + n - p.window := W_fit (by omega) (by omega)
        refine ⟨⟨?_, ?_, ?_, ?_, ?_⟩, ?_, ?_⟩ <;> simp only [acked, if_neg c1, if_neg c2, e2, if_pos c3, e3, e4] <;> push_cast <;> omega
      · refine ⟨⟨?_, ?_, ?_, ?_, ?_⟩, ?_, ?_⟩ <;> simp only [acked, if_neg c1, if_neg c2, e2, if_neg c3] <;> push_cast <;> omega
theorem same_facts (h : GI part k p) : GI part (k + 1) p := by
  have h3 := h.next h1 h2 hk
  obtain ⟨a1, a2, a3, a4, a5⟩ := h
  refine ⟨?_, ?_, ?_, ?_, ?_⟩ <;> push_cast <;> omega
end



set_option linter.unusedSectionVars false
theorem grow (part : Int) (what : List Int) : FunOK Try.prog 4 [i64 part, ints what] noHeap (hbool true) noHeap := by
  refine funOK_pure mixed Try.func4 (by decide) ?_
  conv => whnf
  refine hcall_lend ?_; conv => whnf
  refine ⟨_, spec_alive, rfl, ?_⟩; conv => whnf
  refine hif_intro (fun h => ?_) (fun h1 => ?_)
  · conv => whnf
  conv => whnf
  refine hif_intro (fun h => ?_) (fun h2 => ?_)
  · conv => whnf
  conv => whnf
  refine hif_intro (fun h => ?_) (fun h3 => ?_)
  · conv => whnf
  conv => whnf
  simp only [decide_eq_false_iff_not, List.length_map] at h1 h2 h3
  refine hcall_lend ?_; conv => whnf
  refine ⟨_, spec_new part, rfl, ?_⟩
  have e0 : W (2 * part) = 2 * part := W_fit (by omega) (by omega)
  have e1 : W (32 * part) = 32 * part := W_fit (by omega) (by omega)
  have hg0 : GI part 0 (new part) := ⟨by simp only [new, e0]; omega, by simp only [new, e0]; omega, by simp only [new, e1]; omega, by simp [new], by simp [new]⟩
  generalize new part = p0 at hg0 ⊢
  conv => whnf
  refine ⟨{ x : Nat × Path // x.1 ≤ what.length ∧ GI part x.1 x.2 }, fun | ⟨(k, p), _⟩ => hs 105 [(0, i64 part), (5, .ptr 5 0), (24, ints what), (25, i64 (what.map fun n => [pi n]).length), (26, i64 k)] [(5, .live (.cells 23 p.cells))], fun x => what.length - x.1.1, ⟨(0, p0), by simp, hg0⟩, ?_, ?_⟩
  · exact hle_hs [(5, some 5)] rfl rfl rfl rfl ⟨⟨rfl, rfl⟩, ⟨rfl, rfl⟩, ⟨rfl, rfl⟩, ⟨rfl, rfl⟩, ⟨rfl, rfl⟩, trivial⟩ ⟨⟨rfl, .inl ⟨5, rfl, rfl⟩⟩, trivial⟩
  · rintro ⟨⟨k, p⟩, hk, hg⟩
    dsimp only at hk hg
    conv => whnf
    refine hif_intro (fun h => ?_) (fun h => ?_)
    · have hlt : k < what.length := by simpa using h
      conv => whnf
      refine hrow_intro (r := [pi what[k]]) (by simp) (by simp [hlt]) ?_
      generalize what[k] = n
      conv => whnf
      refine hcut.meet { q : Path // GI part (k + 1) q } (fun q => hs 105 [(0, i64 part), (5, .ptr 5 0), (8, .ptr 8 0), (24, ints what), (25, i64 (what.map fun n => [pi n]).length), (26, i64 k)] [(5, .live (.cells 23 p.cells)), (8, .live (.cells 23 q.1.cells))]) ?_ ?_
      · have fin : ∀ {q : Path} {s : HS}, GI part (k + 1) q → s.n = 105 → s.pins = [] → s.slot 0 = i64 part → s.slot 5 = .ptr 5 0 → s.slot 8 = .ptr 8 0 → s.slot 24 = ints what → s.slot 25 = i64 (what.map fun n => [pi n]).length → s.slot 26 = i64 k →
            s.heap 5 = .live (.cells 23 p.cells) → s.heap 8 = .live (.cells 23 q.cells) →
            ∃ q : { q : Path // GI part (k + 1) q }, HLe s (hs 105 [(0, i64 part), (5, .ptr 5 0), (8, .ptr 8 0), (24, ints what), (25, i64 (what.map fun n => [pi n]).length), (26, i64 k)] [(5, .live (.cells 23 p.cells)), (8, .live (.cells 23 q.1.cells))]) := by
          intro q s h0 h1 h2 h3 h4 h5 h6 h7 h8 h9 h10
          exact ⟨⟨q, h0⟩, hle_hs [(5, some 5), (8, some 8)] h1.symm h2.symm rfl rfl ⟨⟨rfl, h3.symm⟩, ⟨rfl, h4.symm⟩, ⟨rfl, h5.symm⟩, ⟨rfl, h6.symm⟩, ⟨rfl, h7.symm⟩, ⟨rfl, h8.symm⟩, trivial⟩ ⟨⟨rfl, .inl ⟨5, rfl, h9⟩⟩, ⟨rfl, .inl ⟨8, rfl, h10⟩⟩, trivial⟩⟩
        conv => whnf
        refine hif_intro (fun c1 => ?_) (fun c1 => ?_)
        · conv => whnf
          refine hcall_lend ?_; conv => whnf
          refine ⟨_, spec_halved p part, rfl, ?_⟩
          obtain ⟨f1, f2, f3, f4⟩ := halved_facts (by omega) (by omega) (by omega) hg
          generalize halved p part = q at f1 f2 f3 ⊢
          conv => whnf
          refine hif_false (decide_eq_false (by omega)) ?_; conv => whnf
          refine hwrap_fit f4 ?_; conv => whnf
          refine hif_false (decide_eq_false (by omega)) ?_; conv => whnf
          exact fin f1 rfl rfl rfl rfl rfl rfl rfl rfl rfl rfl
        · conv => whnf
          refine hif_intro (fun c2 => ?_) (fun c2 => ?_)
          · conv => whnf
            refine hcall_lend ?_; conv => whnf
            refine ⟨_, spec_late p part, rfl, ?_⟩
            obtain ⟨f1, f2⟩ := late_facts (by omega) (by omega) (by omega) hg
            generalize late p part = q at f1 f2 ⊢
            conv => whnf
            refine hif_false ?_ ?_
            · simpa using f2
            conv => whnf
            exact fin f1 rfl rfl rfl rfl rfl rfl rfl rfl rfl rfl
          · conv => whnf
            refine hif_intro (fun c3 => ?_) (fun c3 => ?_)
            · conv => whnf
              refine hif_intro (fun c4 => ?_) (fun c4 => ?_)
              · simp only [decide_eq_true_eq] at c3 c4
                conv => whnf
                refine hcall_lend ?_; conv => whnf
                refine ⟨_, spec_acked p n part true, rfl, ?_⟩
                obtain ⟨f1, f2, f3⟩ := acked_facts (by omega) (by omega) (by omega) c3 c4 hg
                have f4 := f1.top (by omega) (by omega) (by omega)
                have f5 := f1.lo
                have f6 := hg.lo
                generalize acked p n part true = q at f1 f2 f3 f4 f5 ⊢
                conv => whnf
                refine hif_false (decide_eq_false (by omega)) ?_; conv => whnf
                refine hif_false (decide_eq_false (by omega)) ?_; conv => whnf
                refine hwrap_fit (W_fit (by omega) (by omega)) ?_; conv => whnf
                refine hif_false (decide_eq_false (by omega)) ?_; conv => whnf
                exact fin f1 rfl rfl rfl rfl rfl rfl rfl rfl rfl rfl
              · conv => whnf
                exact fin (same_facts (by omega) (by omega) (by omega) hg) rfl rfl rfl rfl rfl rfl rfl rfl rfl rfl
            · conv => whnf
              exact fin (same_facts (by omega) (by omega) (by omega) hg) rfl rfl rfl rfl rfl rfl rfl rfl rfl rfl
      · rintro ⟨q, hq⟩
        have f1 := hq.lo
        have f2 := hq.slow
        dsimp only
        conv => whnf
        refine hif_false (decide_eq_false (by omega)) ?_; conv => whnf
        refine hwrap_fit (W_fit (by omega) (by omega)) ?_; conv => whnf
        refine hif_false (decide_eq_false (by omega)) ?_; conv => whnf
        refine hwrap_fit (W_fit (by omega) (by omega)) ?_; conv => whnf
        exact ⟨⟨(k + 1, q), hlt, hq⟩, hle_hs [(5, some 5)] rfl rfl rfl rfl ⟨⟨rfl, rfl⟩, ⟨rfl, rfl⟩, ⟨rfl, rfl⟩, ⟨rfl, rfl⟩, ⟨rfl, by simp; rfl⟩, trivial⟩ ⟨⟨rfl, .inl ⟨5, rfl, rfl⟩⟩, trivial⟩, by dsimp only; omega⟩
    · conv => whnf

def waits : Nat → Int
  | 0 => 3
  | k + 1 => min (2 * waits k) 24
theorem waits_le (k : Nat) : 3 ≤ waits k ∧ waits k ≤ 24 := by
  induction k with
  | zero => simp [waits]
  | succ k ih => simp only [waits]; omega
structure WI (k : Nat) (p : Path) : Prop where
  wait : p.wait = waits k
  errors : p.errors = k
theorem wait (part times : Int) : FunOK Try.prog 5 [i64 part, i64 times] noHeap (hbool true) noHeap := by
  refine funOK_pure mixed Try.func5 (by decide) ?_
  conv => whnf
  refine hcall_lend ?_; conv => whnf
  refine ⟨_, spec_alive, rfl, ?_⟩; conv => whnf
  refine hif_intro (fun h => ?_) (fun h1 => ?_)
  · conv => whnf
  conv => whnf
  refine hif_intro (fun h => ?_) (fun h2 => ?_)
  · conv => whnf
  conv => whnf
  refine hif_intro (fun h => ?_) (fun h3 => ?_)
  · conv => whnf
  conv => whnf
  refine hif_intro (fun h => ?_) (fun h4 => ?_)
  · conv => whnf
  conv => whnf
  simp only [decide_eq_false_iff_not] at h1 h2 h3 h4
  refine hcall_lend ?_; conv => whnf
  refine ⟨_, spec_new part, rfl, ?_⟩
  have hg0 : WI 0 (new part) := ⟨rfl, rfl⟩
  generalize new part = p0 at hg0 ⊢
  conv => whnf
  refine ⟨{ x : Nat × Path // (x.1 : Int) ≤ times ∧ WI x.1 x.2 }, fun | ⟨(k, p), _⟩ => hs 59 [(0, i64 part), (5, .ptr 5 0), (6, i64 (waits k)), (26, i64 times), (27, i64 k)] [(5, .live (.cells 23 p.cells))], fun x => times.toNat - x.1.1, ⟨(0, p0), by omega, hg0⟩, ?_, ?_⟩
  · exact hle_hs [(5, some 5)] rfl rfl rfl rfl ⟨⟨rfl, rfl⟩, ⟨rfl, rfl⟩, ⟨rfl, rfl⟩, ⟨rfl, rfl⟩, ⟨rfl, rfl⟩, trivial⟩ ⟨⟨rfl, .inl ⟨5, rfl, rfl⟩⟩, trivial⟩
  · rintro ⟨⟨k, p⟩, hk, hg⟩
    dsimp only at hk hg
    obtain ⟨hw, he⟩ := hg
    have hb := waits_le k
    conv => whnf
    refine hif_intro (fun h => ?_) (fun h => ?_)
    · have hlt : (k : Int) < times := by simpa using h
      conv => whnf
      refine hcall_lend ?_; conv => whnf
      refine ⟨_, spec_late p part, rfl, ?_⟩
      rw [← hw] at hb
      have e1 : W (2 * p.wait) = 2 * p.wait := W_fit (by omega) (by omega)
      have e2 : W (p.errors + 1) = p.errors + 1 := W_fit (by omega) (by omega)
      rw [hw] at hb
      have f1 : (late p part).wait = min (2 * waits k) 24 := by simp only [late, e1]; rw [hw]
      have f2 : (late p part).errors = k + 1 := by simp only [late, e2]; rw [he]
      generalize late p part = q at f1 f2 ⊢
      conv => whnf
      refine hwrap_fit (W_fit (by omega) (by omega)) ?_; conv => whnf
      refine hif_false ?_ ?_
      · simp only [bne_eq_false_iff_eq]; omega
      conv => whnf
      refine hwrap_fit (W_fit (by omega) (by omega)) ?_; conv => whnf
      refine hif_false ?_ ?_
      · simp only [bne_eq_false_iff_eq]; omega
      conv => whnf
      refine hwrap_fit (W_fit (by omega) (by omega)) ?_; conv => whnf
      exact ⟨⟨(k + 1, q), by dsimp only; omega, ⟨f1, by rw [f2]; push_cast; rfl⟩⟩, hle_hs [(5, some 5)] rfl rfl rfl rfl ⟨⟨rfl, rfl⟩, ⟨rfl, rfl⟩, ⟨rfl, by
        show i64 (waits (k + 1)) = i64 (if 24 < 2 * waits k then 24 else 2 * waits k)
        congr 3; simp only [waits]; omega⟩, ⟨rfl, rfl⟩, ⟨rfl, by simp; rfl⟩, trivial⟩ ⟨⟨rfl, .inl ⟨5, rfl, rfl⟩⟩, trivial⟩, by dsimp only; omega⟩
    · conv => whnf
      refine hcall_lend ?_; conv => whnf
      refine ⟨_, spec_acked p 1 part true, rfl, ?_⟩
      have f1 : (acked p 1 part true).wait = 3 := by simp only [acked]; (repeat' split) <;> rfl
      have f2 : (acked p 1 part true).errors = 0 := by simp only [acked]; (repeat' split) <;> rfl
      generalize acked p 1 part true = q at f1 f2 ⊢
      conv => whnf
      refine hif_true ?_ ?_
      · simp only [beq_iff_eq]; exact f1
      conv => whnf
      show hbool (q.errors == 0) = hbool true
      rw [f2]; rfl
end Paths
end Go.HL
