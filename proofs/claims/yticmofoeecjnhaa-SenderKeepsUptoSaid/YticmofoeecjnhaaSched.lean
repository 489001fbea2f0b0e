/- The functions of package sched as what they compute. -/
import Derived.Test.YticmofoeecjnhaaTypes
namespace Go.HL
open Go.Proofs
namespace Sch
set_option maxHeartbeats 1000000
set_option maxRecDepth 100000
abbrev qs (q : List Queued) : HV := .p (.sl 10 (q.map Queued.row))
def first (q : List Queued) (stream : Int) : Int := idxFrom (fun m : Queued => m.message.stream == stream) 0 q
def after (q : List Queued) (last streams : Int) : Nat → Nat → Int
  | _, 0 => -1
  | k, n + 1 => if first q ((W (W (last + 1) + k)).tmod streams) ≥ 0 then first q ((W (W (last + 1) + k)).tmod streams) else after q last streams (k + 1) n
theorem spec_first1 (m : Queued) (stream : Int) : FunOK Try.prog 126 [m.hv, .rp [pi stream]] noHeap (hbool (m.message.stream == stream)) noHeap := by
  refine funOK_pure mixed Try.func126 (by decide) ?_
  conv => whnf
theorem spec_next1 (m : Queued) (s : Sched) : FunOK Try.prog 116 [m.hv, .rp s.row] noHeap (hbool (m.id == s.hand)) noHeap := by
  refine funOK_pure mixed Try.func116 (by decide) ?_
  conv => whnf
theorem spec_idx {g : FuncId} {cs : List PV} {p : Queued → Bool} (hg : ∀ m : Queued, FunOK Try.prog g [m.hv, .rp cs] noHeap (hbool (p m)) noHeap) (q : List Queued) (hb : q.length < 2 ^ 62) :
    FunOK Try.prog 115 [qs q, .clo g [.rp cs]] noHeap (i64 (idxFrom p 0 q)) noHeap := by
  refine funOK_pure mixed Try.func115 (by decide) ?_
  conv => whnf
  refine ⟨{ k : Nat // k ≤ q.length ∧ idxFrom p k (q.drop k) = idxFrom p 0 q }, fun | ⟨k, _⟩ => hs 19 [(0, qs q), (1, .clo g [.rp cs]), (7, i64 (q.map Queued.row).length), (8, i64 k)] [], fun k => q.length - k.1, ⟨0, by simp⟩, ?_, ?_⟩
  · exact hle_hs [] rfl rfl rfl rfl ⟨⟨rfl, rfl⟩, ⟨rfl, rfl⟩, ⟨rfl, rfl⟩, ⟨rfl, rfl⟩, trivial⟩ trivial
  · rintro ⟨k, hk, hi⟩
    conv => whnf
    refine hif_intro (fun h => ?_) (fun h => ?_)
    · have hlt : k < q.length := by simpa using h
      conv => whnf
      refine hrow_intro (r := (q[k]).row) (by simp) (by simp [hlt]) ?_
      conv => whnf
      refine hcall_lend0 ?_; conv => whnf
      refine ⟨_, hg q[k], rfl, ?_⟩; conv => whnf
      rw [List.drop_eq_getElem_cons hlt] at hi
      simp only [idxFrom] at hi
      refine hif_intro (fun h => ?_) (fun h => ?_)
      · conv => whnf
        rw [if_pos h] at hi
        rw [← hi]
      · conv => whnf
        rw [if_neg (by rw [h]; decide)] at hi
        refine hwrap_fit (W_fit (by omega) (by omega)) ?_
        conv => whnf
        exact ⟨⟨k + 1, hlt, hi⟩, hle_hs [] rfl rfl rfl rfl ⟨⟨rfl, rfl⟩, ⟨rfl, rfl⟩, ⟨rfl, rfl⟩, ⟨rfl, by simp; rfl⟩, trivial⟩ trivial, by dsimp only; omega⟩
    · conv => whnf
      have hge : q.length ≤ k := by simpa using h
      rw [List.drop_eq_nil_of_le hge] at hi
      rw [← hi]; rfl
theorem spec_first (q : List Queued) (stream : Int) (hb : q.length < 2 ^ 62) : FunOK Try.prog 118 [qs q, i64 stream] noHeap (i64 (first q stream)) noHeap := by
  refine funOK_pure mixed Try.func118 (by decide) ?_
  conv => whnf
  refine hcall_lend ?_; conv => whnf
  refine ⟨_, spec_idx (fun m => spec_first1 m stream) q hb, rfl, ?_⟩
  conv => whnf
  rfl
theorem spec_after (q : List Queued) (last streams : Int) (h0 : 0 < streams) (h9 : streams < 2 ^ 62) (hb : q.length < 2 ^ 62) : FunOK Try.prog 117 [qs q, i64 last, i64 streams] noHeap (i64 (after q last streams 0 streams.toNat)) noHeap := by
  refine funOK_pure mixed Try.func117 (by decide) ?_
  conv => whnf
  refine ⟨{ k : Nat // (k : Int) ≤ streams ∧ after q last streams k (streams.toNat - k) = after q last streams 0 streams.toNat }, fun | ⟨k, _⟩ => hs 25 [(0, qs q), (1, i64 last), (2, i64 streams), (9, i64 streams), (10, i64 k)] [], fun k => streams.toNat - k.1, ⟨0, by omega, rfl⟩, ?_, ?_⟩
  · exact hle_hs [] rfl rfl rfl rfl ⟨⟨rfl, rfl⟩, ⟨rfl, rfl⟩, ⟨rfl, rfl⟩, ⟨rfl, rfl⟩, ⟨rfl, rfl⟩, trivial⟩ trivial
  · rintro ⟨k, hk, hi⟩
    conv => whnf
    refine hif_intro (fun h => ?_) (fun h => ?_)
    · have hlt : (k : Int) < streams := by simpa using h
      conv => whnf
      refine hwrap_raw ?_; conv => whnf
      refine hwrap_raw ?_; conv => whnf
      refine hobl_intro (by omega) ?_; conv => whnf
      refine hcall_lend ?_; conv => whnf
      refine ⟨_, spec_first q _ hb, rfl, ?_⟩; conv => whnf
      obtain ⟨j, hj⟩ : ∃ j, streams.toNat - k = j + 1 := ⟨streams.toNat - k - 1, by omega⟩
      rw [hj] at hi
      simp only [after] at hi
      refine hif_intro (fun h => ?_) (fun h => ?_)
      · conv => whnf
        rw [if_pos (of_decide_eq_true h)] at hi
        rw [← hi]
      · conv => whnf
        rw [if_neg (of_decide_eq_false h)] at hi
        refine hwrap_fit (W_fit (by omega) (by omega)) ?_
        conv => whnf
        exact ⟨⟨k + 1, by omega, by rw [show streams.toNat - (k + 1) = j by omega]; exact hi⟩, hle_hs [] rfl rfl rfl rfl ⟨⟨rfl, rfl⟩, ⟨rfl, rfl⟩, ⟨rfl, rfl⟩, ⟨rfl, rfl⟩, ⟨rfl, by simp; rfl⟩, trivial⟩ trivial, by dsimp only; omega⟩
    · conv => whnf
      have hge : ¬ (k : Int) < streams := by simpa using h
      rw [show streams.toNat - k = 0 by omega] at hi
      rw [← hi]; rfl
def leastFrom (q : List Queued) (had : List Int) (best : Int) (k : Nat) : List Int → Int
  | [] => best
  | n :: r => if first q k ≥ 0 ∧ (best < 0 ∨ n < had[best.toNat]?.getD 0) then leastFrom q had k (k + 1) r else leastFrom q had best (k + 1) r
def least (s : Sched) (q : List Queued) : Int := if leastFrom q s.had (-1) 0 s.had < 0 then -1 else first q (leastFrom q s.had (-1) 0 s.had)
theorem spec_least (s : Sched) (q : List Queued) (h9 : s.had.length < 2 ^ 62) (hb : q.length < 2 ^ 62) : FunOK Try.prog 119 [s.hv, qs q] noHeap (i64 (least s q)) noHeap := by
  refine funOK_pure mixed Try.func119 (by decide) ?_
  conv => whnf
  refine ⟨{ x : Nat × Int // x.1 ≤ s.had.length ∧ x.2 < s.had.length ∧ leastFrom q s.had x.2 x.1 (s.had.drop x.1) = leastFrom q s.had (-1) 0 s.had }, fun | ⟨(k, best), _⟩ => hs 40 [(1, qs q), (2, .ptr 2 0), (5, i64 best), (9, ints s.had), (10, i64 (s.had.map fun n => [pi n]).length), (11, i64 k)] [(2, .live (.cells 58 s.cells))], fun x => s.had.length - x.1.1, ⟨(0, -1), by simp, by dsimp only; omega, rfl⟩, ?_, ?_⟩
  · exact hle_hs [(2, some 2)] rfl rfl rfl rfl ⟨⟨rfl, rfl⟩, ⟨rfl, rfl⟩, ⟨rfl, rfl⟩, ⟨rfl, rfl⟩, ⟨rfl, rfl⟩, ⟨rfl, rfl⟩, trivial⟩ ⟨⟨rfl, .inl ⟨2, rfl, rfl⟩⟩, trivial⟩
  · rintro ⟨⟨k, best⟩, hk, hlt2, hi⟩
    dsimp only at hk hlt2 hi
    conv => whnf
    refine hif_intro (fun h => ?_) (fun h => ?_)
    · have hlt : k < s.had.length := by simpa using h
      have hW : W ((k : Int) + 1) = ((k + 1 : Nat) : Int) := W_nat hlt h9
      rw [List.drop_eq_getElem_cons hlt] at hi
      simp only [leastFrom] at hi
      have fin : ∀ {b' : Int} {s' : HS}, b' < s.had.length → leastFrom q s.had b' (k + 1) (s.had.drop (k + 1)) = leastFrom q s.had (-1) 0 s.had → s'.n = 40 → s'.pins = [] → s'.slot 1 = qs q → s'.slot 2 = .ptr 2 0 → s'.slot 5 = i64 b' → s'.slot 9 = ints s.had → s'.slot 10 = i64 (s.had.map fun n => [pi n]).length → s'.slot 11 = i64 (W (k + 1)) →
          s'.heap 2 = .live (.cells 58 s.cells) → ∃ x' : { x : Nat × Int // x.1 ≤ s.had.length ∧ x.2 < s.had.length ∧ leastFrom q s.had x.2 x.1 (s.had.drop x.1) = leastFrom q s.had (-1) 0 s.had }, HLe s' (match x' with | ⟨(k, best), _⟩ => hs 40 [(1, qs q), (2, .ptr 2 0), (5, i64 best), (9, ints s.had), (10, i64 (s.had.map fun n => [pi n]).length), (11, i64 k)] [(2, .live (.cells 58 s.cells))]) ∧ s.had.length - x'.1.1 < s.had.length - k := by
        intro b' s' a1 a2 a3 a4 a5 a6 a7 a8 a9 a10 a11
        rw [hW] at a10
        exact ⟨⟨(k + 1, b'), hlt, a1, a2⟩, hle_hs [(2, some 2)] a3.symm a4.symm rfl rfl ⟨⟨rfl, a5.symm⟩, ⟨rfl, a6.symm⟩, ⟨rfl, a7.symm⟩, ⟨rfl, a8.symm⟩, ⟨rfl, a9.symm⟩, ⟨rfl, a10.symm⟩, trivial⟩ ⟨⟨rfl, .inl ⟨2, rfl, a11⟩⟩, trivial⟩, by dsimp only; omega⟩
      conv => whnf
      refine hcut.go ?_; conv => whnf
      refine hrow_intro (r := [pi s.had[k]]) (by omega) (by simp [hlt]) ?_
      conv => whnf
      refine hcall_lend ?_; conv => whnf
      refine ⟨_, spec_first q k hb, rfl, ?_⟩; conv => whnf
      refine hif_intro (fun c1 => ?_) (fun c1 => ?_)
      · conv => whnf
        refine hif_intro (fun c2 => ?_) (fun c2 => ?_)
        · conv => whnf
          refine hwrap_raw ?_; conv => whnf
          rw [if_pos ⟨of_decide_eq_true c1, .inl (of_decide_eq_true c2)⟩] at hi
          exact fin (by omega) hi rfl rfl rfl rfl rfl rfl rfl rfl rfl
        · conv => whnf
          have hb0 : ¬ best < 0 := of_decide_eq_false c2
          refine hrow_intro (r := [pi s.had[best.toNat]]) (by omega) (by simp [show best.toNat < s.had.length by omega]) ?_
          conv => whnf
          refine hif_intro (fun c3 => ?_) (fun c3 => ?_)
          · conv => whnf
            refine hwrap_raw ?_; conv => whnf
            rw [if_pos ⟨of_decide_eq_true c1, .inr (by simpa [show best.toNat < s.had.length by omega] using c3)⟩] at hi
            exact fin (by omega) hi rfl rfl rfl rfl rfl rfl rfl rfl rfl
          · conv => whnf
            refine hwrap_raw ?_; conv => whnf
            rw [if_neg (by rintro ⟨_, h | h⟩; exact hb0 h; have := of_decide_eq_false c3; simp [show best.toNat < s.had.length by omega] at h; omega)] at hi
            exact fin (by omega) hi rfl rfl rfl rfl rfl rfl rfl rfl rfl
      · conv => whnf
        refine hwrap_raw ?_; conv => whnf
        rw [if_neg (by rintro ⟨h, _⟩; exact of_decide_eq_false c1 h)] at hi
        exact fin (by omega) hi rfl rfl rfl rfl rfl rfl rfl rfl rfl
    · have hge : s.had.length ≤ k := by simpa using h
      rw [List.drop_eq_nil_of_le hge] at hi
      simp only [leastFrom] at hi
      conv => whnf
      refine hif_intro (fun c1 => ?_) (fun c1 => ?_)
      · conv => whnf
        rw [least, ← hi, if_pos (of_decide_eq_true c1)]
      · conv => whnf
        refine hcall_lend ?_; conv => whnf
        refine ⟨_, spec_first q best hb, rfl, ?_⟩; conv => whnf
        rw [least, ← hi, if_neg (of_decide_eq_false c1)]
def rankFrom (q : List Queued) (k : Nat) : Nat → Int
  | 0 => -1
  | n + 1 => if first q k ≥ 0 then first q k else rankFrom q (k + 1) n
def inHand (s : Sched) (q : List Queued) : Int := idxFrom (fun m : Queued => m.id == s.hand) 0 q
def next (turns : Int) (s : Sched) (q : List Queued) : Int :=
  if (q.length : Int) = 0 then -1 else if (s.had.length : Int) = 0 then -1 else
  if turns = 2 then (if inHand s q ≥ 0 then inHand s q else after q s.last s.had.length 0 s.had.length) else
  if turns = 3 then after q s.last s.had.length 0 s.had.length else
  if turns = 4 then rankFrom q 0 s.had.length else
  if turns = 5 then least s q else 0
theorem spec_next (turns : Int) (s : Sched) (q : List Queued) (h9 : s.had.length < 2 ^ 62) (hb : q.length < 2 ^ 62) : FunOK Try.prog 90 [i64 turns, s.hv, qs q] noHeap (i64 (next turns s q)) noHeap := by
  refine funOK_pure mixed Try.func90 (by decide) ?_
  have hl : (s.had.map fun n => [pi n]).length = s.had.length := by simp
  have hl2 : (q.map Queued.row).length = q.length := by simp
  have haft : 0 < s.had.length → FunOK Try.prog 117 [qs q, i64 s.last, i64 (s.had.map fun n => [pi n]).length] noHeap (i64 (after q s.last s.had.length 0 s.had.length)) noHeap := by
    intro h0
    have := spec_after q s.last s.had.length (by omega) (by omega) hb
    rw [hl]
    simpa using this
  conv => whnf
  refine hif_intro (fun c1 => ?_) (fun c1 => ?_)
  · have c1 : (q.length : Int) = 0 := by simpa using c1
    conv => whnf
    rw [next, if_pos c1]
  have c1 : ¬ (q.length : Int) = 0 := by simpa using c1
  rw [next, if_neg c1]
  conv => whnf
  refine hif_intro (fun c2 => ?_) (fun c2 => ?_)
  · have c2 : (s.had.length : Int) = 0 := by simpa using c2
    conv => whnf
    rw [if_pos c2]
  have c2 : ¬ (s.had.length : Int) = 0 := by simpa using c2
  rw [if_neg c2]
  conv => whnf
  refine hif_intro (fun c3 => ?_) (fun c3 => ?_)
  · have c3 : turns = 2 := by simpa using c3
    rw [if_pos c3]
    conv => whnf
    refine hcall_lend ?_; conv => whnf
    refine ⟨_, spec_idx (fun m => spec_next1 m s) q hb, rfl, ?_⟩
    show _
    conv => whnf
    refine hif_intro (fun c4 => ?_) (fun c4 => ?_)
    · have c4 : inHand s q ≥ 0 := of_decide_eq_true c4
      rw [if_pos c4]
      conv => whnf
      rfl
    · have c4 : ¬ inHand s q ≥ 0 := of_decide_eq_false c4
      rw [if_neg c4]
      conv => whnf
      refine hcall_lend ?_; conv => whnf
      refine ⟨_, haft (by omega), rfl, ?_⟩
      conv => whnf
  have c3 : ¬ turns = 2 := by simpa using c3
  rw [if_neg c3]
  conv => whnf
  refine hif_intro (fun c4 => ?_) (fun c4 => ?_)
  · have c4 : turns = 3 := by simpa using c4
    rw [if_pos c4]
    conv => whnf
    refine hcall_lend ?_; conv => whnf
    refine ⟨_, haft (by omega), rfl, ?_⟩
    conv => whnf
  have c4 : ¬ turns = 3 := by simpa using c4
  rw [if_neg c4]
  conv => whnf
  refine hif_intro (fun c5 => ?_) (fun c5 => ?_)
  · have c5 : turns = 4 := by simpa using c5
    rw [if_pos c5]
    conv => whnf
    refine ⟨{ k : Nat // k ≤ s.had.length ∧ rankFrom q k (s.had.length - k) = rankFrom q 0 s.had.length }, fun | ⟨k, _⟩ => hs 64 [(2, qs q), (47, i64 s.had.length), (48, i64 k)] [], fun k => s.had.length - k.1, ⟨0, by omega, rfl⟩, ?_, ?_⟩
    · exact hle_hs [] rfl rfl rfl rfl ⟨⟨rfl, rfl⟩, ⟨rfl, by rw [← hl]; rfl⟩, ⟨rfl, rfl⟩, trivial⟩ trivial
    · rintro ⟨k, hk, hi⟩
      conv => whnf
      refine hif_intro (fun h => ?_) (fun h => ?_)
      · have hlt : k < s.had.length := by simpa using h
        conv => whnf
        refine hcall_lend ?_; conv => whnf
        refine ⟨_, spec_first q k hb, rfl, ?_⟩; conv => whnf
        obtain ⟨j, hj⟩ : ∃ j, s.had.length - k = j + 1 := ⟨s.had.length - k - 1, by omega⟩
        rw [hj] at hi
        simp only [rankFrom] at hi
        refine hif_intro (fun h => ?_) (fun h => ?_)
        · conv => whnf
          rw [if_pos (of_decide_eq_true h)] at hi
          rw [← hi]
        · conv => whnf
          rw [if_neg (of_decide_eq_false h)] at hi
          refine hwrap_fit (W_fit (by omega) (by omega)) ?_
          conv => whnf
          exact ⟨⟨k + 1, by omega, by rw [show s.had.length - (k + 1) = j by omega]; exact hi⟩, hle_hs [] rfl rfl rfl rfl ⟨⟨rfl, rfl⟩, ⟨rfl, rfl⟩, ⟨rfl, by simp; rfl⟩, trivial⟩ trivial, by dsimp only; omega⟩
      · conv => whnf
        have hge : s.had.length ≤ k := by simpa using h
        rw [show s.had.length - k = 0 by omega] at hi
        rw [← hi]; rfl
  have c5 : ¬ turns = 4 := by simpa using c5
  rw [if_neg c5]
  conv => whnf
  refine hif_intro (fun c6 => ?_) (fun c6 => ?_)
  · have c6 : turns = 5 := by simpa using c6
    rw [if_pos c6]
    conv => whnf
    refine hcall_lend ?_; conv => whnf
    refine ⟨_, spec_least s q h9 hb, rfl, ?_⟩
    conv => whnf
  have c6 : ¬ turns = 5 := by simpa using c6
  rw [if_neg c6]
  conv => whnf
theorem spec_clone (l : List Int) (hb : l.length < 2 ^ 40) : FunOK Try.prog 33 [ints l] noHeap (.own 0) (lk .free [(0, .live (.row 3 1 (l.map fun n => [pi n])))]) := by
  refine funOK_of mixed Try.func33 (by decide) [] (fun _ => .inl rfl) ?_
  conv => whnf
  intro b hn
  conv => whnf
  refine hif_intro (fun c => ?_) (fun c => ?_)
  · conv => whnf
    refine hfin_of [(0, none)] rfl rfl trivial rfl rfl ⟨⟨rfl, .inr ⟨rfl, hn c⟩⟩, trivial⟩
  · conv => whnf
    refine hobl_intro (c := (([] : List (List PV)).length + (l.map fun n => [pi n]).length) * 8 ≤ 140737488355328) (by simp; omega) ?_
    conv => whnf
    refine hfin_of [(0, some 7)] rfl rfl trivial rfl rfl ⟨⟨rfl, .inl ⟨7, rfl, ?_⟩⟩, trivial⟩
    rfl
theorem spec_own (s : Sched) (hb : s.had.length < 2 ^ 40) : FunOK Try.prog 80 [s.hv] noHeap (.agg [i64 s.last, i64 s.hand, .own 0]) (lk .free [(0, .live (.row 3 1 (s.had.map fun n => [pi n])))]) := by
  refine funOK_of mixed Try.func80 (by decide) [] (fun _ => .inl rfl) ?_
  conv => whnf
  refine hcall_own [(0, 5)] ?_; conv => whnf
  refine ⟨_, _, spec_clone s.had hb, ⟨⟨⟨rfl, rfl⟩, trivial⟩, rfl, rfl, rfl⟩, ?_⟩
  conv => whnf
  exact hfin_of [(0, some 5)] rfl rfl trivial rfl rfl ⟨⟨rfl, .inl ⟨5, rfl, rfl⟩⟩, trivial⟩
def had (s : Sched) (m : Queued) (bytes : Int) (over : Bool) : Sched :=
  ⟨m.message.stream, if over then -1 else m.id, if 0 ≤ m.message.stream ∧ m.message.stream < s.had.length then s.had.set m.message.stream.toNat (W (s.had[m.message.stream.toNat]?.getD 0 + bytes)) else s.had⟩
def new (n : Int) : Sched := ⟨W (n - 1), -1, List.replicate (max n 0).toNat 0⟩
theorem spec_new (n : Int) (hb : n < 2 ^ 40) : FunOK Try.prog 54 [i64 n] noHeap (new n).hv noHeap := by
  refine funOK_pure mixed Try.func54 (by decide) ?_
  conv => whnf
  refine hwrap_raw ?_; conv => whnf
  refine hobl_intro (c := 0 ≤ (if 0 > n then 0 else n) ∧ (if 0 > n then 0 else n) = (if 0 > n then 0 else n) ∧ (if 0 > n then 0 else n) * 8 ≤ 140737488355328) (by omega) ?_
  conv => whnf
  have e : (if 0 > n then 0 else n) = max n 0 := by omega
  rw [e]
  have e2 : List.replicate (max n 0).toNat [pi 0] = (List.replicate (max n 0).toNat (0 : Int)).map fun n => [pi n] := by rw [List.map_replicate]
  show HV.agg [i64 (W (n - 1)), i64 (-1), .p (.sl 1 (List.replicate (max n 0).toNat [pi 0]))] = _
  rw [e2]
  rfl
def msg (id stream : Int) : Queued := ⟨id, 0, 0, 0, 0, ⟨stream, false, 0, 0, []⟩⟩
end Sch
end Go.HL
