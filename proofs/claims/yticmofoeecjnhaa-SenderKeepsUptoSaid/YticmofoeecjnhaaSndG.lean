/- The sender: the next part of the message whose turn it is. -/
import Derived.Test.YticmofoeecjnhaaSndI
import Derived.Test.YticmofoeecjnhaaSlices
namespace Go.HL
open Go.Proofs
namespace Snd
open Ser
set_option maxHeartbeats 8000000
set_option maxRecDepth 100000
set_option linter.unusedSimpArgs false
theorem delq_w (l : List Queued) (i j : Nat) (hij : i ≤ j) (hj : j ≤ l.length) (hb : l.length < 2 ^ 40) :
    FunOK Try.prog 94 [.osl 1000000 10 0 (l.map Queued.row).length, i64 i, i64 j] (lk .free [(1000000, .live (.row 112 10 (l.map Queued.row)))])
      (.osl 1000000 10 0 (l.length - (j - i))) (lk .free [(1000000, .live (.row 112 10 ((l.take i ++ l.drop j).map Queued.row ++ List.replicate (j - i) [pi 0, pi 0, pi 0, pi 0, pi 0, pi 0, pb false, pi 0, pi 0, .v (.slice none 0 0)])))]) := by
  refine funOK_of mixed Try.func94 (by decide) [1000000] lk_pins ?_
  have hlr : (l.map Queued.row).length = l.length := by simp
  conv => whnf
  ((refine hobl_O ?_; conv => whnf); try (refine hcut.go ?_; conv => whnf))
  by_cases h : i = j
  · subst h
    ((refine hif_T ?_; conv => whnf); try (refine hcut.go ?_; conv => whnf))
    refine hfin_of [(1000000, some 1000000)] rfl rfl ⟨rfl, trivial⟩ rfl ?_ ⟨⟨rfl, .inl ⟨1000000, rfl, ?_⟩⟩, trivial⟩
    · show HV.osl 1000000 10 0 (l.length - (i - i)) = HV.osl 1000000 10 0 (l.map Queued.row).length
      rw [hlr, Nat.sub_self]; rfl
    · show HSlot.live (.row _ 10 (l.map Queued.row)) = HSlot.live (.row _ 10 _)
      rw [List.take_append_drop, Nat.sub_self, List.replicate_zero, List.append_nil]
  · ((refine hif_F ?_; conv => whnf); try (refine hcut.go ?_; conv => whnf))
    ((refine hobl_O ?_; conv => whnf); try (refine hcut.go ?_; conv => whnf))
    ((refine hobl_O ?_; conv => whnf); try (refine hcut.go ?_; conv => whnf))
    refine ⟨_, rfl, ?_, ?_⟩
    · rw [hlr]; omega
    conv => whnf
    refine hobl_intro (by simp; omega) ?_
    conv => whnf
    refine hdraw_intro ?_ ?_
    · kernel_rfl
    conv => whnf
    refine hobl_intro (by simp [splice]; omega) ?_
    conv => whnf
    refine hobl_intro (by simp [splice]; omega) ?_
    conv => whnf
    refine hfin_of [(1000000, some 1000000)] rfl rfl ⟨rfl, trivial⟩ rfl ?_ ⟨⟨rfl, .inl ⟨1000000, rfl, ?_⟩⟩, trivial⟩
    · show HV.osl 1000000 10 0 _ = HV.osl 1000000 10 0 _
      congr 1
      simp; omega
    · refine (congrArg (fun r => HSlot.live (.row _ 10 r)) (del_rows (rows := l.map Queued.row) (i := i) (j := j) (z := [pi 0, pi 0, pi 0, pi 0, pi 0, pi 0, pb false, pi 0, pi 0, .v (.slice none 0 0)]) hij (by rw [hlr]; exact hj) ?_ ?_ ?_ ?_ ?_)).trans ?_
      · simp <;> omega
      · simp <;> omega
      · simp <;> omega
      · simp; omega
      · simp; omega
      · rw [List.map_append, List.map_take, List.map_drop]; rfl
theorem delq (l : List Queued) (i j : Nat) (hij : i ≤ j) (hj : j ≤ l.length) (hb : l.length < 2 ^ 40) :
    FunOK Try.prog 94 [.own 1000000, i64 i, i64 j] (lk .free [(1000000, .live (.row 112 10 (l.map Queued.row)))])
      (.own 0) (lk .free [(1000000, .dead), (0, .live (.row 112 10 ((l.take i ++ l.drop j).map Queued.row)))]) := by
  have h := funOK_win (d := 0) (L := []) (rows := (l.take i ++ l.drop j).map Queued.row ++ List.replicate (j - i) [pi 0, pi 0, pi 0, pi 0, pi 0, pi 0, pb false, pi 0, pi 0, .v (.slice none 0 0)]) (funOK_osl (delq_w l i j hij hj hb)) (.inl rfl) (by simp; omega) rfl (by decide)
  rwa [List.take_left' (by simp; omega)] at h
theorem spec_hadO (s : Sched) (m : Queued) (bytes : Int) (over : Bool) (hb : s.had.length < 2 ^ 40) (c2 : 0 ≤ m.message.stream) (c3 : m.message.stream < s.had.length) :
    FunOK Try.prog 93 [s.hv, m.hv, i64 bytes, hbool over] noHeap (.agg [i64 (Sch.had s m bytes over).last, i64 (Sch.had s m bytes over).hand, .own 0]) (lk .free [(0, rowT (Sch.had s m bytes over).had)]) := by
  have hy : (s.had.map fun n => [pi n]).set m.message.stream.toNat [pi (W (s.had[m.message.stream.toNat] + bytes))] = (Sch.had s m bytes over).had.map fun n => [pi n] := by
    simp only [Sch.had, if_pos (And.intro c2 c3)]
    rw [List.map_set, List.getElem?_eq_getElem (by omega)]
    rfl
  refine funOK_of mixed Try.func93 (by decide) [] (fun _ => .inl rfl) ?_
  conv => whnf
  ((refine hcall_own [(0, 11)] ?_; (conv => whnf); refine ⟨_, _,  Sch.spec_own s hb, ⟨⟨⟨rfl, rfl⟩, trivial⟩, rfl, rfl, rfl⟩, ?_⟩; conv => whnf); try (refine hcut.go ?_; conv => whnf))
  ((refine hdraw_intro ?_ ?_; (· kernel_rfl); conv => whnf); try (refine hcut.go ?_; conv => whnf))
  refine hif_intro (fun c1 => ?_) (fun c1 => ?_)
  all_goals
    subst c1
    conv => whnf
    repeat (refine hcut.go ?_; conv => whnf)
    refine hif_true ?_ ?_
    · simpa using c2
    conv => whnf
    refine hif_true ?_ ?_
    · simpa using c3
    conv => whnf
    repeat (refine hcut.go ?_; conv => whnf)
    refine hobl_intro (by simp; omega) ?_; conv => whnf
    refine hrow_intro (r := [pi s.had[m.message.stream.toNat]]) (by omega) (by rw [Int.toNat_natCast, List.getElem?_map, List.getElem?_eq_getElem (h := show m.message.stream.toNat < s.had.length by omega)]; rfl) ?_
    conv => whnf
    refine hwrap_raw ?_; conv => whnf
    refine hobl_intro (by simp; omega) ?_; conv => whnf
    refine hrow_intro (r := [pi s.had[m.message.stream.toNat]]) (by omega) (by rw [Int.toNat_natCast, List.getElem?_map, List.getElem?_eq_getElem (h := show m.message.stream.toNat < s.had.length by omega)]; rfl) ?_
    conv => whnf
    refine hfin_of [(0, some 11)] rfl rfl trivial rfl rfl ⟨⟨rfl, .inl ⟨11, rfl, ?_⟩⟩, trivial⟩
    exact row_eqs hy
theorem idx_lt {α : Type} {p : α → Bool} : ∀ {l : List α} {k : Nat}, 0 ≤ idxFrom p k l → ∃ i, i < l.length ∧ idxFrom p k l = ((k + i : Nat) : Int)
  | [], k, h => by simp [idxFrom] at h
  | y :: r, k, h => by
    simp only [idxFrom] at h ⊢
    split at h
    · rename_i hp; exact ⟨0, by simp, by rw [if_pos hp]; simp⟩
    · rename_i hp
      obtain ⟨i, h1, h2⟩ := idx_lt h
      exact ⟨i + 1, by simp; omega, by rw [if_neg hp, h2]; congr 1; omega⟩
theorem turn_lt {t : Int} {s : Sched} {q : List Queued} (h : 0 ≤ Sch.next t s q) : ∃ k : Nat, k < q.length ∧ Sch.next t s q = k := by
  have hf : ∀ st, 0 ≤ Sch.first q st → ∃ k : Nat, k < q.length ∧ Sch.first q st = k := fun st h => by
    obtain ⟨i, h1, h2⟩ := idx_lt h; exact ⟨i, h1, by rw [Sch.first, h2]; simp⟩
  have ha : ∀ (j k : Nat) (last n : Int), 0 ≤ Sch.after q last n k j → ∃ i : Nat, i < q.length ∧ Sch.after q last n k j = i := by
    intro j
    induction j with
    | zero => intro k last n h; simp [Sch.after] at h
    | succ j ih =>
      intro k last n h
      rw [Sch.after] at h ⊢
      split at h
      · rename_i c; rw [if_pos c]; exact hf _ h
      · rename_i c; rw [if_neg c]; exact ih _ _ _ h
  have hr : ∀ (j k : Nat), 0 ≤ Sch.rankFrom q k j → ∃ i : Nat, i < q.length ∧ Sch.rankFrom q k j = i := by
    intro j
    induction j with
    | zero => intro k h; simp [Sch.rankFrom] at h
    | succ j ih =>
      intro k h
      rw [Sch.rankFrom] at h ⊢
      split at h
      · rename_i c; rw [if_pos c]; exact hf _ h
      · rename_i c; rw [if_neg c]; exact ih _ h
  unfold Sch.next at h ⊢
  split at h
  · omega
  rename_i c0
  rw [if_neg c0]
  split at h
  · omega
  rename_i c1
  rw [if_neg c1]
  split at h
  · rename_i c; rw [if_pos c]
    split at h
    · rename_i c; rw [if_pos c]; obtain ⟨i, h1, h2⟩ := idx_lt h; exact ⟨i, h1, by rw [Sch.inHand, h2]; simp⟩
    · rename_i c; rw [if_neg c]; exact ha _ _ _ _ h
  rename_i c; rw [if_neg c]
  split at h
  · rename_i c; rw [if_pos c]; exact ha _ _ _ _ h
  rename_i c; rw [if_neg c]
  split at h
  · rename_i c; rw [if_pos c]; exact hr _ _ h
  rename_i c; rw [if_neg c]
  split at h
  · rename_i c; rw [if_pos c]; unfold Sch.least at h ⊢
    split at h
    · omega
    · rename_i c; rw [if_neg c]; exact hf _ h
  · rename_i c; rw [if_neg c]; exact ⟨0, by omega, rfl⟩
structure MsgFit (s : Sender) (m : Queued) : Prop where
  mid : MFit s m
  had : m.message.stream < s.sched.had.length
  sent : 0 ≤ m.sent
  left : m.sent < m.message.data.length
  data : m.message.data.length < 2 ^ 30
structure NFit (s : Sender) : Prop where
  g : GFit s
  some : 0 < s.paths.length
  part : 1 ≤ s.config.part
  part2 : s.config.part < 2 ^ 30
  msg : ∀ m ∈ s.queue, MsgFit s m
def nx (s : Sender) (o : List (List Chunk)) : Pump × Bool := match next ⟨s, o⟩ with
  | none => (⟨s, o⟩, false)
  | some q => (q, true)
theorem nx_no1 {s : Sender} {o : List (List Chunk)} (h : turnOf s < 0) : nx s o = (⟨s, o⟩, false) := by
  rw [nx, next, if_pos (.inl h)]
theorem nx_no2 {s : Sender} {o : List (List Chunk)} {w : Path} (hw : s.paths[choose s]? = some w) (h : ¬ w.flight < w.window) : nx s o = (⟨s, o⟩, false) := by
  rw [nx, next, if_pos (.inr (.inl (by simp only [opened, hw]; simpa using h)))]
theorem nx_no3 {s : Sender} {o : List (List Chunk)} (h : (s.out.length : Int) ≥ 60) : nx s o = (⟨s, o⟩, false) := by
  rw [nx, next, if_pos (.inr (.inr h))]
theorem nx_no4 {s : Sender} {o : List (List Chunk)} {w : Path} {k : Nat} {m : Queued} (h1 : turnOf s = k) (hm : s.queue[k]? = some m) (hw : s.paths[choose s]? = some w) (h2 : w.flight < w.window) (h3 : ¬ (s.out.length : Int) ≥ 60) (h4 : flight s > 0 ∧ W (flight s + many s m) > s.room) :
    nx s o = (⟨s, o⟩, false) := by
  rw [nx, next, if_neg (by rw [h1]; rintro (h | h | h); omega; (simp only [opened, hw] at h; simp at h; omega); exact h3 h)]
  simp only [h1, Int.toNat_natCast, hm]
  rw [if_pos h4]
theorem nx_yes {s : Sender} {o : List (List Chunk)} {w : Path} {k : Nat} {m : Queued} (h1 : turnOf s = k) (hm : s.queue[k]? = some m) (hw : s.paths[choose s]? = some w) (h2 : w.flight < w.window) (h3 : ¬ (s.out.length : Int) ≥ 60) (h4 : ¬ (flight s > 0 ∧ W (flight s + many s m) > s.room)) :
    nx s o = (next1 ⟨s, o⟩ k m (many s m), true) := by
  rw [nx, next, if_neg (by rw [h1]; rintro (h | h | h); omega; (simp only [opened, hw] at h; simp at h; omega); exact h3 h)]
  simp only [h1, Int.toNat_natCast, hm]
  rw [if_neg h4]
theorem many_is {s : Sender} {m : Queued} (hp : 1 ≤ s.config.part) (hp2 : s.config.part < 2 ^ 30) (h1 : 0 ≤ m.sent) (h2 : m.sent < m.message.data.length) (h3 : m.message.data.length < 2 ^ 30) : 1 ≤ many s m ∧ many s m < 2 ^ 30 ∧ m.sent + many s m ≤ m.message.data.length := by
  unfold many; split <;> omega
abbrev ovr (s : Sender) (m : Queued) : Bool := m.sent + many s m == ((m.message.data.map bRow).length : Int)
theorem ovr_eq (s : Sender) (m : Queued) : decide (m.sent + many s m = m.message.data.length) = ovr s m := by
  unfold ovr
  rw [List.length_map, Bool.eq_iff_iff]; simp
def m2 (s : Sender) (m : Queued) : Queued := { m with mid := midOf s m, sent := m.sent + many s m, parts := W (m.parts + 1) }
def x0 (s : Sender) (m : Queued) : Sent := ⟨s.next, m.id, 0, 0, 0, 0, m.came, m.message.life, m.message.tries, ⟨1, tag s.next, m.message.stream, tag (midOf s m), m.parts, ovr s m, m.message.ordered, (m.message.data.drop m.sent.toNat).take (many s m).toNat, [], 0, []⟩⟩
def s2 (s : Sender) (k : Nat) (m : Queued) : Sender := { s with mids := midsOf s m, sched := Sch.had s.sched { m with mid := midOf s m } (many s m) (ovr s m), out := s.out ++ [x0 s m], next := W (s.next + 1), queue := s.queue.set k (m2 s m) }
theorem next1_eq {s : Sender} {o : List (List Chunk)} {k c : Nat} {m : Queued} {w : Path} {l : List Chunk} (hc : choose s = c) (hw : s.paths[c]? = some w) (hl : o[c]? = some l) :
    next1 ⟨s, o⟩ k m (many s m) = ⟨{ flyS (s2 s k m) s.out.length c (x0 s m) w with queue := if ovr s m then s.queue.eraseIdx k else s.queue.set k (m2 s m) }, o.set c (l ++ [(x0 s m).chunk])⟩ := by
  have e := ovr_eq s m
  unfold next1 cut
  simp only [e]
  rw [hc]
  exact fly_eq (s := { s2 s k m with queue := if ovr s m then s.queue.eraseIdx k else s.queue.set k (m2 s m) }) (i := s.out.length) (x := x0 s m) (a := w) (l := l) (by simp [s2]) hw hl
theorem q2row {s : Sender} {k : Nat} {m : Queued} {t : TypeId} {r1 : List PV} : HSlot.live (.row t 10 ((((midS s k m).queue.map Queued.row).set k r1).set k (m2 s m).row)) = HSlot.live (.row t 10 ((s2 s k m).queue.map Queued.row)) := by
  rw [List.set_set]
  exact (set_row (f := Queued.row) (y := m2 s m) rfl).trans (row_eqs (by show ((s.queue.set k _).set k _).map _ = _; rw [List.set_set]; rfl))
theorem erase_set {α : Type} {l : List α} {k : Nat} {y : α} (h : k < l.length) : (l.set k y).take k ++ (l.set k y).drop (k + 1) = l.eraseIdx k := by
  rw [List.eraseIdx_eq_take_drop_succ, List.take_set_of_le (Nat.le_refl _), List.drop_set_of_lt (Nat.lt_succ_self _)]
theorem spec_next1 (s : Sender) (a : List Chunk) (hs : NFit s) (h1p : s.paths.length = 1) (hb : a.length < 2 ^ 29) : FunOK Try.prog 62 [.ptr 1000000 0] (lk .free (pH1 s a)) (hbool (nx s [a]).2) (lk .free (pD1 (nx s [a]).1.s (nth0 (nx s [a]).1.out))) := by
  obtain ⟨g, hp, hp1, hp2, hmsg⟩ := hs
  obtain ⟨⟨f1, f2, f3, f4, f5, f6, f7⟩, g2, g3, g4⟩ := g
  obtain ⟨hch, hch2⟩ := choose_is hp
  have hc0 : choose s = 0 := by omega
  have pc := Paths.spec_choose s.paths (by omega)
  rw [hch, hc0] at pc
  have pn := Sch.spec_next s.config.turns s.sched s.queue (by omega) (by omega)
  obtain ⟨w, hw⟩ : ∃ w, s.paths[0]? = some w := ⟨_, List.getElem?_eq_getElem (by omega)⟩
  have hwc : s.paths[choose s]? = some w := by rw [hc0]; exact hw
  generalize hG : nx s [a] = G
  refine funOK_of mixed Try.func62 (by decide) [1000000, 1000001, 1000002, 1000003, 1000004, 1000005, 1000006, 1000007, 1000008] lk_pins ?_
  conv => whnf
  ((refine hcall_lend ?_; (conv => whnf); refine ⟨_, pc, rfl, ?_⟩; conv => whnf); try (refine hcut.go ?_; conv => whnf))
  by_cases c1 : turnOf s < 0
  case pos =>
    ((refine hcall_lend ?_; (conv => whnf); refine ⟨_, pn, rfl, ?_⟩; conv => whnf); try (refine hcut.go ?_; conv => whnf))
    ((refine hdraw_intro ?_ ?_; (· kernel_rfl); conv => whnf); try (refine hcut.go ?_; conv => whnf))
    refine hif_true ?_ ?_
    · exact decide_eq_true c1
    conv => whnf
    rw [nx_no1 c1] at hG
    subst hG
    repeat (refine hcut.go ?_; conv => whnf)
    (exact hfin_P [(1000000, some 1000000), (1000001, some 1000001), (1000002, some 1000002), (1000003, some 1000003), (1000004, some 1000004), (1000005, some 1000005), (1000006, some 1000006), (1000007, some 1000007), (1000008, some 1000008), (0, some 1000001), (1, some 1000002), (2, some 1000003), (3, some 1000004), (4, some 1000005), (5, some 1000006), (6, some 1000008)])
  obtain ⟨k, hkl, hke⟩ := turn_lt (t := s.config.turns) (s := s.sched) (q := s.queue) (by unfold turnOf at c1; omega)
  have hke' : turnOf s = k := hke
  rw [hke] at pn
  obtain ⟨m, hm⟩ : ∃ m, s.queue[k]? = some m := ⟨_, List.getElem?_eq_getElem hkl⟩
  have hmf := hmsg m (List.mem_of_getElem? hm)
  obtain ⟨mf, mh, ms, ml, md⟩ := hmf
  obtain ⟨n1, n2, n3⟩ := many_is (s := s) (m := m) hp1 hp2 ms ml md
  ((refine hcall_lend ?_; (conv => whnf); refine ⟨_, pn, rfl, ?_⟩; conv => whnf); try (refine hcut.go ?_; conv => whnf))
  ((refine hdraw_intro ?_ ?_; (· kernel_rfl); conv => whnf); try (refine hcut.go ?_; conv => whnf))
  try (refine hif_false ?_ ?_; · simp; conv => whnf)
  refine hobl_intro (by simp; omega) ?_; conv => whnf
  refine hrow_q hw rfl ?_; conv => whnf
  ((refine hcall_lend ?_; (conv => whnf); refine ⟨_, Paths.spec_open w, rfl, ?_⟩; conv => whnf); try (refine hcut.go ?_; conv => whnf))
  by_cases c2 : w.flight < w.window
  case neg =>
    refine hif_true ?_ ?_
    · simpa using c2
    conv => whnf
    rw [nx_no2 hwc c2] at hG
    subst hG
    repeat (refine hcut.go ?_; conv => whnf)
    (exact hfin_P [(1000000, some 1000000), (1000001, some 1000001), (1000002, some 1000002), (1000003, some 1000003), (1000004, some 1000004), (1000005, some 1000005), (1000006, some 1000006), (1000007, some 1000007), (1000008, some 1000008), (0, some 1000001), (1, some 1000002), (2, some 1000003), (3, some 1000004), (4, some 1000005), (5, some 1000006), (6, some 1000008)])
  refine hif_false ?_ ?_
  · simpa using c2
  conv => whnf
  by_cases c3 : (s.out.length : Int) ≥ 60
  case pos =>
    refine hif_true ?_ ?_
    · rw [List.length_map]; exact decide_eq_true c3
    conv => whnf
    rw [nx_no3 c3] at hG
    subst hG
    repeat (refine hcut.go ?_; conv => whnf)
    (exact hfin_P [(1000000, some 1000000), (1000001, some 1000001), (1000002, some 1000002), (1000003, some 1000003), (1000004, some 1000004), (1000005, some 1000005), (1000006, some 1000006), (1000007, some 1000007), (1000008, some 1000008), (0, some 1000001), (1, some 1000002), (2, some 1000003), (3, some 1000004), (4, some 1000005), (5, some 1000006), (6, some 1000008)])
  refine hif_false ?_ ?_
  · rw [List.length_map]; exact decide_eq_false c3
  conv => whnf
  repeat (refine hcut.go ?_; conv => whnf)
  refine hobl_intro (by simp; omega) ?_; conv => whnf
  refine hrow_q hm rfl ?_; conv => whnf
  refine hrow_q hm rfl ?_; conv => whnf
  refine hwrap_to (z' := (m.message.data.length : Int) - m.sent) ?_ ?_
  · show W _ = _
    rw [List.length_map]; exact W_fit (by omega) (by omega)
  conv => whnf
  ((refine hdraw_intro ?_ ?_; (· kernel_rfl); conv => whnf); try (refine hcut.go ?_; conv => whnf))
  ((refine hcall_give [] [(1000000, 1000000), (1000001, 1000001), (1000002, 1000002), (1000003, 1000003), (1000004, 1000004), (1000005, 1000005), (1000006, 1000006), (1000007, 1000007), (1000008, 1000008)] [] ?_; (conv => whnf); refine ⟨_, _, _, _, spec_flight1 s a f4, ⟨rfl, rfl, rfl, ⟨⟨rfl, _, rfl, .inl ⟨rfl, rfl⟩⟩, ⟨⟨rfl, _, rfl, .inl ⟨rfl, rfl⟩⟩, ⟨⟨rfl, _, rfl, .inl ⟨rfl, rfl⟩⟩, ⟨⟨rfl, _, rfl, .inl ⟨rfl, rfl⟩⟩, ⟨⟨rfl, _, rfl, .inl ⟨rfl, rfl⟩⟩, ⟨⟨rfl, _, rfl, .inl ⟨rfl, rfl⟩⟩, ⟨⟨rfl, _, rfl, .inl ⟨rfl, rfl⟩⟩, ⟨⟨rfl, _, rfl, .inl ⟨rfl, rfl⟩⟩, ⟨⟨rfl, _, rfl, .inl ⟨rfl, rfl⟩⟩, trivial⟩⟩⟩⟩⟩⟩⟩⟩⟩, trivial, rfl, rfl, rfl⟩, ?_⟩; conv => whnf); try (refine hcut.go ?_; conv => whnf))
  have hWs : W (m.sent + many s m) = m.sent + many s m := W_fit (by omega) (by omega)
  by_cases c4 : flight s > 0
  case pos =>
    refine hif_true ?_ ?_
    · exact decide_eq_true c4
    conv => whnf
    ((first | refine hwrap_W ?_ | refine hwrap_raw ?_); (conv => whnf); try (refine hcut.go ?_; conv => whnf))
    by_cases c5 : W (flight s + many s m) > s.room
    case pos =>
      refine hif_true ?_ ?_
      · exact decide_eq_true c5
      conv => whnf
      rw [nx_no4 hke' hm hwc c2 c3 ⟨c4, c5⟩] at hG
      subst hG
      repeat (refine hcut.go ?_; conv => whnf)
      (exact hfin_P [(1000000, some 1000000), (1000001, some 1000001), (1000002, some 1000002), (1000003, some 1000003), (1000004, some 1000004), (1000005, some 1000005), (1000006, some 1000006), (1000007, some 1000007), (1000008, some 1000008), (0, some 1000001), (1, some 1000002), (2, some 1000003), (3, some 1000004), (4, some 1000005), (5, some 1000006), (6, some 1000008)])
    refine hif_false ?_ ?_
    · exact decide_eq_false c5
    conv => whnf
    repeat (refine hcut.go ?_; conv => whnf)
    rw [nx_yes hke' hm hwc c2 c3 fun h => c5 h.2] at hG
    refine hrow_q hm rfl ?_; conv => whnf
    refine hwrap_fit (z := m.sent + many s m) hWs ?_; conv => whnf
    refine hrow_q hm rfl ?_; conv => whnf
    ((refine hdraw_intro ?_ ?_; (· kernel_rfl); conv => whnf); try (refine hcut.go ?_; conv => whnf))
    have hm' : (midS s k m).queue[k]? = some { m with mid := midOf s m } := by show (s.queue.set k _)[k]? = _; rw [List.getElem?_set_self hkl]
    have hmr : (s.queue.map Queued.row)[k]? = some m.row := by rw [List.getElem?_map, hm]; rfl
    ((refine hcall_lend ?_; (conv => whnf); refine ⟨_, spec_tag s.next, rfl, ?_⟩; conv => whnf); try (refine hcut.go ?_; conv => whnf))
    refine hrow_q hm rfl ?_; conv => whnf
    ((refine hcall_give [] [(1000000, 1000000), (1000001, 1000001), (1000002, 1000002), (1000003, 1000003), (1000004, 1000004), (1000005, 1000005), (1000006, 1000006), (1000007, 1000007), (1000008, 1000008)] [] ?_; (conv => whnf); refine ⟨_, _, _, _, spec_mid1 s a k m hm mf, ⟨rfl, rfl, rfl, ⟨⟨rfl, _, rfl, .inl ⟨rfl, rfl⟩⟩, ⟨⟨rfl, _, rfl, .inl ⟨rfl, rfl⟩⟩, ⟨⟨rfl, _, rfl, .inl ⟨rfl, rfl⟩⟩, ⟨⟨rfl, _, rfl, .inl ⟨rfl, rfl⟩⟩, ⟨⟨rfl, _, rfl, .inl ⟨rfl, rfl⟩⟩, ⟨⟨rfl, _, rfl, .inl ⟨rfl, rfl⟩⟩, ⟨⟨rfl, _, rfl, .inl ⟨rfl, rfl⟩⟩, ⟨⟨rfl, _, rfl, .inl ⟨rfl, rfl⟩⟩, ⟨⟨rfl, _, rfl, .inl ⟨rfl, rfl⟩⟩, trivial⟩⟩⟩⟩⟩⟩⟩⟩⟩, trivial, rfl, rfl, rfl⟩, ?_⟩; conv => whnf); try (refine hcut.go ?_; conv => whnf))
    ((refine hcall_lend ?_; (conv => whnf); refine ⟨_, spec_tag (midOf s m), rfl, ?_⟩; conv => whnf); try (refine hcut.go ?_; conv => whnf))
    refine hrow_q hm' rfl ?_; conv => whnf
    refine hrow_q hm' rfl ?_; conv => whnf
    refine hrow_q hm' rfl ?_; conv => whnf
    refine hrow_q hm' rfl ?_; conv => whnf
    refine hrow_q hm' rfl ?_; conv => whnf
    refine hwrap_fit (z := m.sent + many s m) hWs ?_; conv => whnf
    refine hobl_intro (c := 0 ≤ m.sent ∧ m.sent ≤ m.sent + many s m ∧ m.sent + many s m ≤ ((m.message.data.map bRow).length : Int)) ⟨ms, by omega, by rw [List.length_map]; omega⟩ ?_; conv => whnf
    refine hsub_eq (o' := m.sent.toNat) (n' := (many s m).toNat) rfl (show (m.sent + many s m - m.sent).toNat = (many s m).toNat by rw [show m.sent + many s m - m.sent = many s m by omega]) ?_
    refine hsub_at (f := bRow) (l := m.message.data) (o := m.sent.toNat) (n := (many s m).toNat) (by omega) ?_
    conv => whnf
    ((refine hcall_own [(0, 150)]  ?_; (conv => whnf); refine ⟨_, _,  Cl.clone_bytes ((m.message.data.drop m.sent.toNat).take (many s m).toNat) (by simp; omega), ⟨⟨⟨rfl, rfl⟩, trivial⟩, rfl, rfl, rfl⟩, ?_⟩; conv => whnf); try (refine hcut.go ?_; conv => whnf))
    refine hdraw_ex [4, 10, 18, 24, 29, 33, 37] ?_ ?_ ?_
    · kernel_rfl
    · refine ⟨?_, ?_, ?_, ?_, ?_, ?_, ?_, trivial⟩
      all_goals
        refine And.intro trivial ?_
        refine And.intro trivial ?_
        refine And.intro ?_ trivial
        conv => whnf
        refine And.intro ?_ ?_
        · conv => whnf
          all_goals first | rfl | exact hrow_q hm rfl rfl
        refine And.intro ?_ trivial
        conv => whnf
        all_goals first | rfl | exact hrow_q hm' rfl rfl
    conv => whnf
    refine hrow_q hm' rfl ?_; conv => whnf
    ((refine hcall_own [(0, 163)]  ?_; (conv => whnf); refine ⟨_, _,  spec_hadO s.sched { m with mid := midOf s m } (many s m) (ovr s m) (by omega) mf.lo mh, ⟨⟨⟨rfl, rfl⟩, trivial⟩, rfl, rfl, rfl⟩, ?_⟩; conv => whnf); try (refine hcut.go ?_; conv => whnf))
    ((refine hdraw_intro ?_ ?_; (· kernel_rfl); conv => whnf); try (refine hcut.go ?_; conv => whnf))
    refine hrow_q hm' rfl ?_; conv => whnf
    refine hrow_q hm' rfl ?_; conv => whnf
    refine hrow_q hm' rfl ?_; conv => whnf
    refine hrow_q hm' rfl ?_; conv => whnf
    refine hobl_intro (c := ((s.out.map Sent.row).length + 1) * 200 ≤ 140737488355328) (by rw [List.length_map]; omega) ?_; conv => whnf
    ((refine hdraw_intro ?_ ?_; (· kernel_rfl); conv => whnf); try (refine hcut.go ?_; conv => whnf))
    ((first | refine hwrap_W ?_ | refine hwrap_raw ?_); (conv => whnf); try (refine hcut.go ?_; conv => whnf))
    refine hrow_q hm' rfl ?_; conv => whnf
    refine hwrap_fit (z := m.sent + many s m) hWs ?_; conv => whnf
    refine hrow_q hm' rfl ?_; conv => whnf
    refine hrow_set rfl (by simp [midS]; omega) ?_; conv => whnf
    ((first | refine hwrap_W ?_ | refine hwrap_raw ?_); (conv => whnf); try (refine hcut.go ?_; conv => whnf))
    refine hrow_set rfl (by simp [midS]; omega) ?_; conv => whnf
    refine hwrap_to (z' := (s.out.length : Int)) ?_ ?_
    · show W ((((midS s k m).out.map Sent.row ++ [_]).length : Int) - 1) = _
      rw [List.length_append, List.length_map, show (midS s k m).out = s.out from rfl, W_fit (by simp only [List.length_cons, List.length_nil]; omega) (by simp only [List.length_cons, List.length_nil]; omega)]
      simp only [List.length_cons, List.length_nil]; omega
    conv => whnf
    refine hobl_intro (by rw [List.length_append, List.length_map, show (midS s k m).out = s.out from rfl]; simp only [List.length_cons, List.length_nil]; omega) ?_; conv => whnf
    ((refine hcall_give [] [(1000000, 1000000), (1000001, 1000001), (1000002, 163), (1000003, 199), (1000004, 1000004), (1000005, 1000005), (1000006, 1000006), (1000007, 1000007), (1000008, 1000008)] [(0, 920)] ?_; (conv => whnf); refine ⟨_, _, _, _, spec_fly1_0 (s2 s k m) a s.out.length (x0 s m) w (by simp [s2]) hw (by omega), ⟨rfl, rfl, rfl, ⟨⟨rfl, _, rfl, .inl ⟨rfl, rfl⟩⟩, ⟨⟨rfl, _, rfl, .inl ⟨rfl, q2row⟩⟩, ⟨⟨rfl, _, rfl, .inl ⟨rfl, rfl⟩⟩, ⟨⟨rfl, _, rfl, .inl ⟨rfl, (row_app (f := Sent.row) (x := x0 s m) rfl rfl)⟩⟩, ⟨⟨rfl, _, rfl, .inl ⟨rfl, rfl⟩⟩, ⟨⟨rfl, _, rfl, .inl ⟨rfl, rfl⟩⟩, ⟨⟨rfl, _, rfl, .inl ⟨rfl, rfl⟩⟩, ⟨⟨rfl, _, rfl, .inl ⟨rfl, rfl⟩⟩, ⟨⟨rfl, _, rfl, .inl ⟨rfl, rfl⟩⟩, trivial⟩⟩⟩⟩⟩⟩⟩⟩⟩, ⟨⟨rfl, rfl⟩, trivial⟩, rfl, rfl, rfl⟩, ?_⟩; conv => whnf); try (refine hcut.go ?_; conv => whnf))
    ((refine hdraw_intro ?_ ?_; (· kernel_rfl); conv => whnf); try (refine hcut.go ?_; conv => whnf))
    cases hov : ovr s m with
    | true =>
      refine hif_true ?_ ?_
      · exact hov
      conv => whnf
      repeat (refine hcut.go ?_; conv => whnf)
      refine hwrap_to (z' := ((k + 1 : Nat) : Int)) ?_ ?_
      · show W ((k : Int) + 1) = _
        rw [W_fit (by omega) (by omega)]; push_cast; rfl
      conv => whnf
      ((refine hcall_give [] [(1000000, 1000001)] [(0, 930)] ?_; (conv => whnf); refine ⟨_, _, _, _, delq (s.queue.set k (m2 s m)) k (k + 1) (by omega) (by simp; omega) (by simp; omega), ⟨rfl, rfl, rfl, ⟨⟨rfl, _, rfl, .inl ⟨rfl, rfl⟩⟩, trivial⟩, ⟨⟨rfl, rfl⟩, trivial⟩, rfl, rfl, rfl⟩, ?_⟩; conv => whnf); try (refine hcut.go ?_; conv => whnf))
      rw [next1_eq hc0 hw rfl, if_pos hov] at hG
      subst hG
      (exact hfin_P [(1000000, some 1000000), (1000001, some 1000001), (1000002, some 1000002), (1000003, some 1000003), (1000004, some 1000004), (1000005, some 1000005), (1000006, some 1000006), (1000007, some 1000007), (1000008, some 1000008), (0, some 930), (1, some 163), (2, some 199), (3, some 1000004), (4, some 1000005), (5, some 1000006), (6, some 920)] (by first | rfl | ((exact row_eqs (by rw [erase_set hkl]))) ) (by repeat' (first | exact trivial | exact rfl | exact .inl rfl | exact .inr rfl | (refine ⟨⟨rfl, .inl ⟨_, rfl, ?_⟩⟩, ?_⟩) | (refine ⟨⟨rfl, _, rfl, ?_⟩, ?_⟩) | (refine ⟨⟨rfl, .inr ⟨rfl, ?_⟩⟩, ?_⟩) | (refine ⟨rfl, ?_⟩) | ((exact row_eqs (by rw [erase_set hkl]))) | (simp; done) | (simp; rfl))))
    | false =>
      refine hif_false ?_ ?_
      · exact hov
      conv => whnf
      repeat (refine hcut.go ?_; conv => whnf)
      rw [next1_eq hc0 hw rfl, if_neg (by rw [hov]; decide)] at hG
      subst hG
      (exact hfin_P [(1000000, some 1000000), (1000001, some 1000001), (1000002, some 1000002), (1000003, some 1000003), (1000004, some 1000004), (1000005, some 1000005), (1000006, some 1000006), (1000007, some 1000007), (1000008, some 1000008), (0, some 1000001), (1, some 163), (2, some 199), (3, some 1000004), (4, some 1000005), (5, some 1000006), (6, some 920)])
  refine hif_false ?_ ?_
  · exact decide_eq_false c4
  conv => whnf
  repeat (refine hcut.go ?_; conv => whnf)
  rw [nx_yes hke' hm hwc c2 c3 fun h => c4 h.1] at hG
  refine hrow_q hm rfl ?_; conv => whnf
  refine hwrap_fit (z := m.sent + many s m) hWs ?_; conv => whnf
  refine hrow_q hm rfl ?_; conv => whnf
  ((refine hdraw_intro ?_ ?_; (· kernel_rfl); conv => whnf); try (refine hcut.go ?_; conv => whnf))
  have hm' : (midS s k m).queue[k]? = some { m with mid := midOf s m } := by show (s.queue.set k _)[k]? = _; rw [List.getElem?_set_self hkl]
  have hmr : (s.queue.map Queued.row)[k]? = some m.row := by rw [List.getElem?_map, hm]; rfl
  ((refine hcall_lend ?_; (conv => whnf); refine ⟨_, spec_tag s.next, rfl, ?_⟩; conv => whnf); try (refine hcut.go ?_; conv => whnf))
  refine hrow_q hm rfl ?_; conv => whnf
  ((refine hcall_give [] [(1000000, 1000000), (1000001, 1000001), (1000002, 1000002), (1000003, 1000003), (1000004, 1000004), (1000005, 1000005), (1000006, 1000006), (1000007, 1000007), (1000008, 1000008)] [] ?_; (conv => whnf); refine ⟨_, _, _, _, spec_mid1 s a k m hm mf, ⟨rfl, rfl, rfl, ⟨⟨rfl, _, rfl, .inl ⟨rfl, rfl⟩⟩, ⟨⟨rfl, _, rfl, .inl ⟨rfl, rfl⟩⟩, ⟨⟨rfl, _, rfl, .inl ⟨rfl, rfl⟩⟩, ⟨⟨rfl, _, rfl, .inl ⟨rfl, rfl⟩⟩, ⟨⟨rfl, _, rfl, .inl ⟨rfl, rfl⟩⟩, ⟨⟨rfl, _, rfl, .inl ⟨rfl, rfl⟩⟩, ⟨⟨rfl, _, rfl, .inl ⟨rfl, rfl⟩⟩, ⟨⟨rfl, _, rfl, .inl ⟨rfl, rfl⟩⟩, ⟨⟨rfl, _, rfl, .inl ⟨rfl, rfl⟩⟩, trivial⟩⟩⟩⟩⟩⟩⟩⟩⟩, trivial, rfl, rfl, rfl⟩, ?_⟩; conv => whnf); try (refine hcut.go ?_; conv => whnf))
  ((refine hcall_lend ?_; (conv => whnf); refine ⟨_, spec_tag (midOf s m), rfl, ?_⟩; conv => whnf); try (refine hcut.go ?_; conv => whnf))
  refine hrow_q hm' rfl ?_; conv => whnf
  refine hrow_q hm' rfl ?_; conv => whnf
  refine hrow_q hm' rfl ?_; conv => whnf
  refine hrow_q hm' rfl ?_; conv => whnf
  refine hrow_q hm' rfl ?_; conv => whnf
  refine hwrap_fit (z := m.sent + many s m) hWs ?_; conv => whnf
  refine hobl_intro (c := 0 ≤ m.sent ∧ m.sent ≤ m.sent + many s m ∧ m.sent + many s m ≤ ((m.message.data.map bRow).length : Int)) ⟨ms, by omega, by rw [List.length_map]; omega⟩ ?_; conv => whnf
  refine hsub_eq (o' := m.sent.toNat) (n' := (many s m).toNat) rfl (show (m.sent + many s m - m.sent).toNat = (many s m).toNat by rw [show m.sent + many s m - m.sent = many s m by omega]) ?_
  refine hsub_at (f := bRow) (l := m.message.data) (o := m.sent.toNat) (n := (many s m).toNat) (by omega) ?_
  conv => whnf
  ((refine hcall_own [(0, 150)]  ?_; (conv => whnf); refine ⟨_, _,  Cl.clone_bytes ((m.message.data.drop m.sent.toNat).take (many s m).toNat) (by simp; omega), ⟨⟨⟨rfl, rfl⟩, trivial⟩, rfl, rfl, rfl⟩, ?_⟩; conv => whnf); try (refine hcut.go ?_; conv => whnf))
  refine hdraw_ex [4, 10, 18, 24, 29, 33, 37] ?_ ?_ ?_
  · kernel_rfl
  · refine ⟨?_, ?_, ?_, ?_, ?_, ?_, ?_, trivial⟩
    all_goals
      refine And.intro trivial ?_
      refine And.intro trivial ?_
      refine And.intro ?_ trivial
      conv => whnf
      refine And.intro ?_ ?_
      · conv => whnf
        all_goals first | rfl | exact hrow_q hm rfl rfl
      refine And.intro ?_ trivial
      conv => whnf
      all_goals first | rfl | exact hrow_q hm' rfl rfl
  conv => whnf
  refine hrow_q hm' rfl ?_; conv => whnf
  ((refine hcall_own [(0, 163)]  ?_; (conv => whnf); refine ⟨_, _,  spec_hadO s.sched { m with mid := midOf s m } (many s m) (ovr s m) (by omega) mf.lo mh, ⟨⟨⟨rfl, rfl⟩, trivial⟩, rfl, rfl, rfl⟩, ?_⟩; conv => whnf); try (refine hcut.go ?_; conv => whnf))
  ((refine hdraw_intro ?_ ?_; (· kernel_rfl); conv => whnf); try (refine hcut.go ?_; conv => whnf))
  refine hrow_q hm' rfl ?_; conv => whnf
  refine hrow_q hm' rfl ?_; conv => whnf
  refine hrow_q hm' rfl ?_; conv => whnf
  refine hrow_q hm' rfl ?_; conv => whnf
  refine hobl_intro (c := ((s.out.map Sent.row).length + 1) * 200 ≤ 140737488355328) (by rw [List.length_map]; omega) ?_; conv => whnf
  ((refine hdraw_intro ?_ ?_; (· kernel_rfl); conv => whnf); try (refine hcut.go ?_; conv => whnf))
  ((first | refine hwrap_W ?_ | refine hwrap_raw ?_); (conv => whnf); try (refine hcut.go ?_; conv => whnf))
  refine hrow_q hm' rfl ?_; conv => whnf
  refine hwrap_fit (z := m.sent + many s m) hWs ?_; conv => whnf
  refine hrow_q hm' rfl ?_; conv => whnf
  refine hrow_set rfl (by simp [midS]; omega) ?_; conv => whnf
  ((first | refine hwrap_W ?_ | refine hwrap_raw ?_); (conv => whnf); try (refine hcut.go ?_; conv => whnf))
  refine hrow_set rfl (by simp [midS]; omega) ?_; conv => whnf
  refine hwrap_to (z' := (s.out.length : Int)) ?_ ?_
  · show W ((((midS s k m).out.map Sent.row ++ [_]).length : Int) - 1) = _
    rw [List.length_append, List.length_map, show (midS s k m).out = s.out from rfl, W_fit (by simp only [List.length_cons, List.length_nil]; omega) (by simp only [List.length_cons, List.length_nil]; omega)]
    simp only [List.length_cons, List.length_nil]; omega
  conv => whnf
  refine hobl_intro (by rw [List.length_append, List.length_map, show (midS s k m).out = s.out from rfl]; simp only [List.length_cons, List.length_nil]; omega) ?_; conv => whnf
  ((refine hcall_give [] [(1000000, 1000000), (1000001, 1000001), (1000002, 163), (1000003, 199), (1000004, 1000004), (1000005, 1000005), (1000006, 1000006), (1000007, 1000007), (1000008, 1000008)] [(0, 920)] ?_; (conv => whnf); refine ⟨_, _, _, _, spec_fly1_0 (s2 s k m) a s.out.length (x0 s m) w (by simp [s2]) hw (by omega), ⟨rfl, rfl, rfl, ⟨⟨rfl, _, rfl, .inl ⟨rfl, rfl⟩⟩, ⟨⟨rfl, _, rfl, .inl ⟨rfl, q2row⟩⟩, ⟨⟨rfl, _, rfl, .inl ⟨rfl, rfl⟩⟩, ⟨⟨rfl, _, rfl, .inl ⟨rfl, (row_app (f := Sent.row) (x := x0 s m) rfl rfl)⟩⟩, ⟨⟨rfl, _, rfl, .inl ⟨rfl, rfl⟩⟩, ⟨⟨rfl, _, rfl, .inl ⟨rfl, rfl⟩⟩, ⟨⟨rfl, _, rfl, .inl ⟨rfl, rfl⟩⟩, ⟨⟨rfl, _, rfl, .inl ⟨rfl, rfl⟩⟩, ⟨⟨rfl, _, rfl, .inl ⟨rfl, rfl⟩⟩, trivial⟩⟩⟩⟩⟩⟩⟩⟩⟩, ⟨⟨rfl, rfl⟩, trivial⟩, rfl, rfl, rfl⟩, ?_⟩; conv => whnf); try (refine hcut.go ?_; conv => whnf))
  ((refine hdraw_intro ?_ ?_; (· kernel_rfl); conv => whnf); try (refine hcut.go ?_; conv => whnf))
  cases hov : ovr s m with
  | true =>
    refine hif_true ?_ ?_
    · exact hov
    conv => whnf
    repeat (refine hcut.go ?_; conv => whnf)
    refine hwrap_to (z' := ((k + 1 : Nat) : Int)) ?_ ?_
    · show W ((k : Int) + 1) = _
      rw [W_fit (by omega) (by omega)]; push_cast; rfl
    conv => whnf
    ((refine hcall_give [] [(1000000, 1000001)] [(0, 930)] ?_; (conv => whnf); refine ⟨_, _, _, _, delq (s.queue.set k (m2 s m)) k (k + 1) (by omega) (by simp; omega) (by simp; omega), ⟨rfl, rfl, rfl, ⟨⟨rfl, _, rfl, .inl ⟨rfl, rfl⟩⟩, trivial⟩, ⟨⟨rfl, rfl⟩, trivial⟩, rfl, rfl, rfl⟩, ?_⟩; conv => whnf); try (refine hcut.go ?_; conv => whnf))
    rw [next1_eq hc0 hw rfl, if_pos hov] at hG
    subst hG
    (exact hfin_P [(1000000, some 1000000), (1000001, some 1000001), (1000002, some 1000002), (1000003, some 1000003), (1000004, some 1000004), (1000005, some 1000005), (1000006, some 1000006), (1000007, some 1000007), (1000008, some 1000008), (0, some 930), (1, some 163), (2, some 199), (3, some 1000004), (4, some 1000005), (5, some 1000006), (6, some 920)] (by first | rfl | ((exact row_eqs (by rw [erase_set hkl]))) ) (by repeat' (first | exact trivial | exact rfl | exact .inl rfl | exact .inr rfl | (refine ⟨⟨rfl, .inl ⟨_, rfl, ?_⟩⟩, ?_⟩) | (refine ⟨⟨rfl, _, rfl, ?_⟩, ?_⟩) | (refine ⟨⟨rfl, .inr ⟨rfl, ?_⟩⟩, ?_⟩) | (refine ⟨rfl, ?_⟩) | ((exact row_eqs (by rw [erase_set hkl]))) | (simp; done) | (simp; rfl))))
  | false =>
    refine hif_false ?_ ?_
    · exact hov
    conv => whnf
    repeat (refine hcut.go ?_; conv => whnf)
    rw [next1_eq hc0 hw rfl, if_neg (by rw [hov]; decide)] at hG
    subst hG
    (exact hfin_P [(1000000, some 1000000), (1000001, some 1000001), (1000002, some 1000002), (1000003, some 1000003), (1000004, some 1000004), (1000005, some 1000005), (1000006, some 1000006), (1000007, some 1000007), (1000008, some 1000008), (0, some 1000001), (1, some 163), (2, some 199), (3, some 1000004), (4, some 1000005), (5, some 1000006), (6, some 920)])
theorem spec_next2 (s : Sender) (a b : List Chunk) (hs : NFit s) (h1p : s.paths.length = 2) (hb : a.length + b.length < 2 ^ 29) : FunOK Try.prog 62 [.ptr 1000000 0] (lk .free (pH2 s a b)) (hbool (nx s [a, b]).2) (lk .free (pD2 (nx s [a, b]).1.s (nth0 (nx s [a, b]).1.out) (nth1 (nx s [a, b]).1.out))) := by
  obtain ⟨g, hp, hp1, hp2, hmsg⟩ := hs
  obtain ⟨⟨f1, f2, f3, f4, f5, f6, f7⟩, g2, g3, g4⟩ := g
  obtain ⟨hch, hch2⟩ := choose_is hp
  have hc01 : choose s = 0 ∨ choose s = 1 := by omega
  rcases hc01 with hc0 | hc0
  case inl =>
    have pc := Paths.spec_choose s.paths (by omega)
    rw [hch, hc0] at pc
    have pn := Sch.spec_next s.config.turns s.sched s.queue (by omega) (by omega)
    obtain ⟨w, hw⟩ : ∃ w, s.paths[0]? = some w := ⟨_, List.getElem?_eq_getElem (by omega)⟩
    have hwc : s.paths[choose s]? = some w := by rw [hc0]; exact hw
    generalize hG : nx s [a, b] = G
    refine funOK_of mixed Try.func62 (by decide) [1000000, 1000001, 1000002, 1000003, 1000004, 1000005, 1000006, 1000007, 1000008, 1000009] lk_pins ?_
    conv => whnf
    ((refine hcall_lend ?_; (conv => whnf); refine ⟨_, pc, rfl, ?_⟩; conv => whnf); try (refine hcut.go ?_; conv => whnf))
    by_cases c1 : turnOf s < 0
    case pos =>
      ((refine hcall_lend ?_; (conv => whnf); refine ⟨_, pn, rfl, ?_⟩; conv => whnf); try (refine hcut.go ?_; conv => whnf))
      ((refine hdraw_intro ?_ ?_; (· kernel_rfl); conv => whnf); try (refine hcut.go ?_; conv => whnf))
      refine hif_true ?_ ?_
      · exact decide_eq_true c1
      conv => whnf
      rw [nx_no1 c1] at hG
      subst hG
      repeat (refine hcut.go ?_; conv => whnf)
      (exact hfin_P [(1000000, some 1000000), (1000001, some 1000001), (1000002, some 1000002), (1000003, some 1000003), (1000004, some 1000004), (1000005, some 1000005), (1000006, some 1000006), (1000007, some 1000007), (1000008, some 1000008), (1000009, some 1000009), (0, some 1000001), (1, some 1000002), (2, some 1000003), (3, some 1000004), (4, some 1000005), (5, some 1000006), (6, some 1000008), (7, some 1000009)])
    obtain ⟨k, hkl, hke⟩ := turn_lt (t := s.config.turns) (s := s.sched) (q := s.queue) (by unfold turnOf at c1; omega)
    have hke' : turnOf s = k := hke
    rw [hke] at pn
    obtain ⟨m, hm⟩ : ∃ m, s.queue[k]? = some m := ⟨_, List.getElem?_eq_getElem hkl⟩
    have hmf := hmsg m (List.mem_of_getElem? hm)
    obtain ⟨mf, mh, ms, ml, md⟩ := hmf
    obtain ⟨n1, n2, n3⟩ := many_is (s := s) (m := m) hp1 hp2 ms ml md
    ((refine hcall_lend ?_; (conv => whnf); refine ⟨_, pn, rfl, ?_⟩; conv => whnf); try (refine hcut.go ?_; conv => whnf))
    ((refine hdraw_intro ?_ ?_; (· kernel_rfl); conv => whnf); try (refine hcut.go ?_; conv => whnf))
    try (refine hif_false ?_ ?_; · simp; conv => whnf)
    refine hobl_intro (by simp; omega) ?_; conv => whnf
    refine hrow_q hw rfl ?_; conv => whnf
    ((refine hcall_lend ?_; (conv => whnf); refine ⟨_, Paths.spec_open w, rfl, ?_⟩; conv => whnf); try (refine hcut.go ?_; conv => whnf))
    by_cases c2 : w.flight < w.window
    case neg =>
      refine hif_true ?_ ?_
      · simpa using c2
      conv => whnf
      rw [nx_no2 hwc c2] at hG
      subst hG
      repeat (refine hcut.go ?_; conv => whnf)
      (exact hfin_P [(1000000, some 1000000), (1000001, some 1000001), (1000002, some 1000002), (1000003, some 1000003), (1000004, some 1000004), (1000005, some 1000005), (1000006, some 1000006), (1000007, some 1000007), (1000008, some 1000008), (1000009, some 1000009), (0, some 1000001), (1, some 1000002), (2, some 1000003), (3, some 1000004), (4, some 1000005), (5, some 1000006), (6, some 1000008), (7, some 1000009)])
    refine hif_false ?_ ?_
    · simpa using c2
    conv => whnf
    by_cases c3 : (s.out.length : Int) ≥ 60
    case pos =>
      refine hif_true ?_ ?_
      · rw [List.length_map]; exact decide_eq_true c3
      conv => whnf
      rw [nx_no3 c3] at hG
      subst hG
      repeat (refine hcut.go ?_; conv => whnf)
      (exact hfin_P [(1000000, some 1000000), (1000001, some 1000001), (1000002, some 1000002), (1000003, some 1000003), (1000004, some 1000004), (1000005, some 1000005), (1000006, some 1000006), (1000007, some 1000007), (1000008, some 1000008), (1000009, some 1000009), (0, some 1000001), (1, some 1000002), (2, some 1000003), (3, some 1000004), (4, some 1000005), (5, some 1000006), (6, some 1000008), (7, some 1000009)])
    refine hif_false ?_ ?_
    · rw [List.length_map]; exact decide_eq_false c3
    conv => whnf
    repeat (refine hcut.go ?_; conv => whnf)
    refine hobl_intro (by simp; omega) ?_; conv => whnf
    refine hrow_q hm rfl ?_; conv => whnf
    refine hrow_q hm rfl ?_; conv => whnf
    refine hwrap_to (z' := (m.message.data.length : Int) - m.sent) ?_ ?_
    · show W _ = _
      rw [List.length_map]; exact W_fit (by omega) (by omega)
    conv => whnf
    ((refine hdraw_intro ?_ ?_; (· kernel_rfl); conv => whnf); try (refine hcut.go ?_; conv => whnf))
    ((refine hcall_give [] [(1000000, 1000000), (1000001, 1000001), (1000002, 1000002), (1000003, 1000003), (1000004, 1000004), (1000005, 1000005), (1000006, 1000006), (1000007, 1000007), (1000008, 1000008), (1000009, 1000009)] [] ?_; (conv => whnf); refine ⟨_, _, _, _, spec_flight2 s a b f4, ⟨rfl, rfl, rfl, ⟨⟨rfl, _, rfl, .inl ⟨rfl, rfl⟩⟩, ⟨⟨rfl, _, rfl, .inl ⟨rfl, rfl⟩⟩, ⟨⟨rfl, _, rfl, .inl ⟨rfl, rfl⟩⟩, ⟨⟨rfl, _, rfl, .inl ⟨rfl, rfl⟩⟩, ⟨⟨rfl, _, rfl, .inl ⟨rfl, rfl⟩⟩, ⟨⟨rfl, _, rfl, .inl ⟨rfl, rfl⟩⟩, ⟨⟨rfl, _, rfl, .inl ⟨rfl, rfl⟩⟩, ⟨⟨rfl, _, rfl, .inl ⟨rfl, rfl⟩⟩, ⟨⟨rfl, _, rfl, .inl ⟨rfl, rfl⟩⟩, ⟨⟨rfl, _, rfl, .inl ⟨rfl, rfl⟩⟩, trivial⟩⟩⟩⟩⟩⟩⟩⟩⟩⟩, trivial, rfl, rfl, rfl⟩, ?_⟩; conv => whnf); try (refine hcut.go ?_; conv => whnf))
    have hWs : W (m.sent + many s m) = m.sent + many s m := W_fit (by omega) (by omega)
    by_cases c4 : flight s > 0
    case pos =>
      refine hif_true ?_ ?_
      · exact decide_eq_true c4
      conv => whnf
      ((first | refine hwrap_W ?_ | refine hwrap_raw ?_); (conv => whnf); try (refine hcut.go ?_; conv => whnf))
      by_cases c5 : W (flight s + many s m) > s.room
      case pos =>
        refine hif_true ?_ ?_
        · exact decide_eq_true c5
        conv => whnf
        rw [nx_no4 hke' hm hwc c2 c3 ⟨c4, c5⟩] at hG
        subst hG
        repeat (refine hcut.go ?_; conv => whnf)
        (exact hfin_P [(1000000, some 1000000), (1000001, some 1000001), (1000002, some 1000002), (1000003, some 1000003), (1000004, some 1000004), (1000005, some 1000005), (1000006, some 1000006), (1000007, some 1000007), (1000008, some 1000008), (1000009, some 1000009), (0, some 1000001), (1, some 1000002), (2, some 1000003), (3, some 1000004), (4, some 1000005), (5, some 1000006), (6, some 1000008), (7, some 1000009)])
      refine hif_false ?_ ?_
      · exact decide_eq_false c5
      conv => whnf
      repeat (refine hcut.go ?_; conv => whnf)
      rw [nx_yes hke' hm hwc c2 c3 fun h => c5 h.2] at hG
      refine hrow_q hm rfl ?_; conv => whnf
      refine hwrap_fit (z := m.sent + many s m) hWs ?_; conv => whnf
      refine hrow_q hm rfl ?_; conv => whnf
      ((refine hdraw_intro ?_ ?_; (· kernel_rfl); conv => whnf); try (refine hcut.go ?_; conv => whnf))
      have hm' : (midS s k m).queue[k]? = some { m with mid := midOf s m } := by show (s.queue.set k _)[k]? = _; rw [List.getElem?_set_self hkl]
      have hmr : (s.queue.map Queued.row)[k]? = some m.row := by rw [List.getElem?_map, hm]; rfl
      ((refine hcall_lend ?_; (conv => whnf); refine ⟨_, spec_tag s.next, rfl, ?_⟩; conv => whnf); try (refine hcut.go ?_; conv => whnf))
      refine hrow_q hm rfl ?_; conv => whnf
      ((refine hcall_give [] [(1000000, 1000000), (1000001, 1000001), (1000002, 1000002), (1000003, 1000003), (1000004, 1000004), (1000005, 1000005), (1000006, 1000006), (1000007, 1000007), (1000008, 1000008), (1000009, 1000009)] [] ?_; (conv => whnf); refine ⟨_, _, _, _, spec_mid2 s a b k m hm mf, ⟨rfl, rfl, rfl, ⟨⟨rfl, _, rfl, .inl ⟨rfl, rfl⟩⟩, ⟨⟨rfl, _, rfl, .inl ⟨rfl, rfl⟩⟩, ⟨⟨rfl, _, rfl, .inl ⟨rfl, rfl⟩⟩, ⟨⟨rfl, _, rfl, .inl ⟨rfl, rfl⟩⟩, ⟨⟨rfl, _, rfl, .inl ⟨rfl, rfl⟩⟩, ⟨⟨rfl, _, rfl, .inl ⟨rfl, rfl⟩⟩, ⟨⟨rfl, _, rfl, .inl ⟨rfl, rfl⟩⟩, ⟨⟨rfl, _, rfl, .inl ⟨rfl, rfl⟩⟩, ⟨⟨rfl, _, rfl, .inl ⟨rfl, rfl⟩⟩, ⟨⟨rfl, _, rfl, .inl ⟨rfl, rfl⟩⟩, trivial⟩⟩⟩⟩⟩⟩⟩⟩⟩⟩, trivial, rfl, rfl, rfl⟩, ?_⟩; conv => whnf); try (refine hcut.go ?_; conv => whnf))
      ((refine hcall_lend ?_; (conv => whnf); refine ⟨_, spec_tag (midOf s m), rfl, ?_⟩; conv => whnf); try (refine hcut.go ?_; conv => whnf))
      refine hrow_q hm' rfl ?_; conv => whnf
      refine hrow_q hm' rfl ?_; conv => whnf
      refine hrow_q hm' rfl ?_; conv => whnf
      refine hrow_q hm' rfl ?_; conv => whnf
      refine hrow_q hm' rfl ?_; conv => whnf
      refine hwrap_fit (z := m.sent + many s m) hWs ?_; conv => whnf
      refine hobl_intro (c := 0 ≤ m.sent ∧ m.sent ≤ m.sent + many s m ∧ m.sent + many s m ≤ ((m.message.data.map bRow).length : Int)) ⟨ms, by omega, by rw [List.length_map]; omega⟩ ?_; conv => whnf
      refine hsub_eq (o' := m.sent.toNat) (n' := (many s m).toNat) rfl (show (m.sent + many s m - m.sent).toNat = (many s m).toNat by rw [show m.sent + many s m - m.sent = many s m by omega]) ?_
      refine hsub_at (f := bRow) (l := m.message.data) (o := m.sent.toNat) (n := (many s m).toNat) (by omega) ?_
      conv => whnf
      ((refine hcall_own [(0, 150)]  ?_; (conv => whnf); refine ⟨_, _,  Cl.clone_bytes ((m.message.data.drop m.sent.toNat).take (many s m).toNat) (by simp; omega), ⟨⟨⟨rfl, rfl⟩, trivial⟩, rfl, rfl, rfl⟩, ?_⟩; conv => whnf); try (refine hcut.go ?_; conv => whnf))
      refine hdraw_ex [4, 10, 18, 24, 29, 33, 37] ?_ ?_ ?_
      · kernel_rfl
      · refine ⟨?_, ?_, ?_, ?_, ?_, ?_, ?_, trivial⟩
        all_goals
          refine And.intro trivial ?_
          refine And.intro trivial ?_
          refine And.intro ?_ trivial
          conv => whnf
          refine And.intro ?_ ?_
          · conv => whnf
            all_goals first | rfl | exact hrow_q hm rfl rfl
          refine And.intro ?_ trivial
          conv => whnf
          all_goals first | rfl | exact hrow_q hm' rfl rfl
      conv => whnf
      refine hrow_q hm' rfl ?_; conv => whnf
      ((refine hcall_own [(0, 163)]  ?_; (conv => whnf); refine ⟨_, _,  spec_hadO s.sched { m with mid := midOf s m } (many s m) (ovr s m) (by omega) mf.lo mh, ⟨⟨⟨rfl, rfl⟩, trivial⟩, rfl, rfl, rfl⟩, ?_⟩; conv => whnf); try (refine hcut.go ?_; conv => whnf))
      ((refine hdraw_intro ?_ ?_; (· kernel_rfl); conv => whnf); try (refine hcut.go ?_; conv => whnf))
      refine hrow_q hm' rfl ?_; conv => whnf
      refine hrow_q hm' rfl ?_; conv => whnf
      refine hrow_q hm' rfl ?_; conv => whnf
      refine hrow_q hm' rfl ?_; conv => whnf
      refine hobl_intro (c := ((s.out.map Sent.row).length + 1) * 200 ≤ 140737488355328) (by rw [List.length_map]; omega) ?_; conv => whnf
      ((refine hdraw_intro ?_ ?_; (· kernel_rfl); conv => whnf); try (refine hcut.go ?_; conv => whnf))
      ((first | refine hwrap_W ?_ | refine hwrap_raw ?_); (conv => whnf); try (refine hcut.go ?_; conv => whnf))
      refine hrow_q hm' rfl ?_; conv => whnf
      refine hwrap_fit (z := m.sent + many s m) hWs ?_; conv => whnf
      refine hrow_q hm' rfl ?_; conv => whnf
      refine hrow_set rfl (by simp [midS]; omega) ?_; conv => whnf
      ((first | refine hwrap_W ?_ | refine hwrap_raw ?_); (conv => whnf); try (refine hcut.go ?_; conv => whnf))
      refine hrow_set rfl (by simp [midS]; omega) ?_; conv => whnf
      refine hwrap_to (z' := (s.out.length : Int)) ?_ ?_
      · show W ((((midS s k m).out.map Sent.row ++ [_]).length : Int) - 1) = _
        rw [List.length_append, List.length_map, show (midS s k m).out = s.out from rfl, W_fit (by simp only [List.length_cons, List.length_nil]; omega) (by simp only [List.length_cons, List.length_nil]; omega)]
        simp only [List.length_cons, List.length_nil]; omega
      conv => whnf
      refine hobl_intro (by rw [List.length_append, List.length_map, show (midS s k m).out = s.out from rfl]; simp only [List.length_cons, List.length_nil]; omega) ?_; conv => whnf
      ((refine hcall_give [] [(1000000, 1000000), (1000001, 1000001), (1000002, 163), (1000003, 199), (1000004, 1000004), (1000005, 1000005), (1000006, 1000006), (1000007, 1000007), (1000008, 1000008), (1000009, 1000009)] [(0, 920)] ?_; (conv => whnf); refine ⟨_, _, _, _, spec_fly2_0 (s2 s k m) a b s.out.length (x0 s m) w (by simp [s2]) hw (by omega), ⟨rfl, rfl, rfl, ⟨⟨rfl, _, rfl, .inl ⟨rfl, rfl⟩⟩, ⟨⟨rfl, _, rfl, .inl ⟨rfl, q2row⟩⟩, ⟨⟨rfl, _, rfl, .inl ⟨rfl, rfl⟩⟩, ⟨⟨rfl, _, rfl, .inl ⟨rfl, (row_app (f := Sent.row) (x := x0 s m) rfl rfl)⟩⟩, ⟨⟨rfl, _, rfl, .inl ⟨rfl, rfl⟩⟩, ⟨⟨rfl, _, rfl, .inl ⟨rfl, rfl⟩⟩, ⟨⟨rfl, _, rfl, .inl ⟨rfl, rfl⟩⟩, ⟨⟨rfl, _, rfl, .inl ⟨rfl, rfl⟩⟩, ⟨⟨rfl, _, rfl, .inl ⟨rfl, rfl⟩⟩, ⟨⟨rfl, _, rfl, .inl ⟨rfl, rfl⟩⟩, trivial⟩⟩⟩⟩⟩⟩⟩⟩⟩⟩, ⟨⟨rfl, rfl⟩, trivial⟩, rfl, rfl, rfl⟩, ?_⟩; conv => whnf); try (refine hcut.go ?_; conv => whnf))
      ((refine hdraw_intro ?_ ?_; (· kernel_rfl); conv => whnf); try (refine hcut.go ?_; conv => whnf))
      cases hov : ovr s m with
      | true =>
        refine hif_true ?_ ?_
        · exact hov
        conv => whnf
        repeat (refine hcut.go ?_; conv => whnf)
        refine hwrap_to (z' := ((k + 1 : Nat) : Int)) ?_ ?_
        · show W ((k : Int) + 1) = _
          rw [W_fit (by omega) (by omega)]; push_cast; rfl
        conv => whnf
        ((refine hcall_give [] [(1000000, 1000001)] [(0, 930)] ?_; (conv => whnf); refine ⟨_, _, _, _, delq (s.queue.set k (m2 s m)) k (k + 1) (by omega) (by simp; omega) (by simp; omega), ⟨rfl, rfl, rfl, ⟨⟨rfl, _, rfl, .inl ⟨rfl, rfl⟩⟩, trivial⟩, ⟨⟨rfl, rfl⟩, trivial⟩, rfl, rfl, rfl⟩, ?_⟩; conv => whnf); try (refine hcut.go ?_; conv => whnf))
        rw [next1_eq hc0 hw rfl, if_pos hov] at hG
        subst hG
        (exact hfin_P [(1000000, some 1000000), (1000001, some 1000001), (1000002, some 1000002), (1000003, some 1000003), (1000004, some 1000004), (1000005, some 1000005), (1000006, some 1000006), (1000007, some 1000007), (1000008, some 1000008), (1000009, some 1000009), (0, some 930), (1, some 163), (2, some 199), (3, some 1000004), (4, some 1000005), (5, some 1000006), (6, some 920), (7, some 1000009)] (by first | rfl | ((exact row_eqs (by rw [erase_set hkl]))) ) (by repeat' (first | exact trivial | exact rfl | exact .inl rfl | exact .inr rfl | (refine ⟨⟨rfl, .inl ⟨_, rfl, ?_⟩⟩, ?_⟩) | (refine ⟨⟨rfl, _, rfl, ?_⟩, ?_⟩) | (refine ⟨⟨rfl, .inr ⟨rfl, ?_⟩⟩, ?_⟩) | (refine ⟨rfl, ?_⟩) | ((exact row_eqs (by rw [erase_set hkl]))) | (simp; done) | (simp; rfl))))
      | false =>
        refine hif_false ?_ ?_
        · exact hov
        conv => whnf
        repeat (refine hcut.go ?_; conv => whnf)
        rw [next1_eq hc0 hw rfl, if_neg (by rw [hov]; decide)] at hG
        subst hG
        (exact hfin_P [(1000000, some 1000000), (1000001, some 1000001), (1000002, some 1000002), (1000003, some 1000003), (1000004, some 1000004), (1000005, some 1000005), (1000006, some 1000006), (1000007, some 1000007), (1000008, some 1000008), (1000009, some 1000009), (0, some 1000001), (1, some 163), (2, some 199), (3, some 1000004), (4, some 1000005), (5, some 1000006), (6, some 920), (7, some 1000009)])
    refine hif_false ?_ ?_
    · exact decide_eq_false c4
    conv => whnf
    repeat (refine hcut.go ?_; conv => whnf)
    rw [nx_yes hke' hm hwc c2 c3 fun h => c4 h.1] at hG
    refine hrow_q hm rfl ?_; conv => whnf
    refine hwrap_fit (z := m.sent + many s m) hWs ?_; conv => whnf
    refine hrow_q hm rfl ?_; conv => whnf
    ((refine hdraw_intro ?_ ?_; (· kernel_rfl); conv => whnf); try (refine hcut.go ?_; conv => whnf))
    have hm' : (midS s k m).queue[k]? = some { m with mid := midOf s m } := by show (s.queue.set k _)[k]? = _; rw [List.getElem?_set_self hkl]
    have hmr : (s.queue.map Queued.row)[k]? = some m.row := by rw [List.getElem?_map, hm]; rfl
    ((refine hcall_lend ?_; (conv => whnf); refine ⟨_, spec_tag s.next, rfl, ?_⟩; conv => whnf); try (refine hcut.go ?_; conv => whnf))
    refine hrow_q hm rfl ?_; conv => whnf
    ((refine hcall_give [] [(1000000, 1000000), (1000001, 1000001), (1000002, 1000002), (1000003, 1000003), (1000004, 1000004), (1000005, 1000005), (1000006, 1000006), (1000007, 1000007), (1000008, 1000008), (1000009, 1000009)] [] ?_; (conv => whnf); refine ⟨_, _, _, _, spec_mid2 s a b k m hm mf, ⟨rfl, rfl, rfl, ⟨⟨rfl, _, rfl, .inl ⟨rfl, rfl⟩⟩, ⟨⟨rfl, _, rfl, .inl ⟨rfl, rfl⟩⟩, ⟨⟨rfl, _, rfl, .inl ⟨rfl, rfl⟩⟩, ⟨⟨rfl, _, rfl, .inl ⟨rfl, rfl⟩⟩, ⟨⟨rfl, _, rfl, .inl ⟨rfl, rfl⟩⟩, ⟨⟨rfl, _, rfl, .inl ⟨rfl, rfl⟩⟩, ⟨⟨rfl, _, rfl, .inl ⟨rfl, rfl⟩⟩, ⟨⟨rfl, _, rfl, .inl ⟨rfl, rfl⟩⟩, ⟨⟨rfl, _, rfl, .inl ⟨rfl, rfl⟩⟩, ⟨⟨rfl, _, rfl, .inl ⟨rfl, rfl⟩⟩, trivial⟩⟩⟩⟩⟩⟩⟩⟩⟩⟩, trivial, rfl, rfl, rfl⟩, ?_⟩; conv => whnf); try (refine hcut.go ?_; conv => whnf))
    ((refine hcall_lend ?_; (conv => whnf); refine ⟨_, spec_tag (midOf s m), rfl, ?_⟩; conv => whnf); try (refine hcut.go ?_; conv => whnf))
    refine hrow_q hm' rfl ?_; conv => whnf
    refine hrow_q hm' rfl ?_; conv => whnf
    refine hrow_q hm' rfl ?_; conv => whnf
    refine hrow_q hm' rfl ?_; conv => whnf
    refine hrow_q hm' rfl ?_; conv => whnf
    refine hwrap_fit (z := m.sent + many s m) hWs ?_; conv => whnf
    refine hobl_intro (c := 0 ≤ m.sent ∧ m.sent ≤ m.sent + many s m ∧ m.sent + many s m ≤ ((m.message.data.map bRow).length : Int)) ⟨ms, by omega, by rw [List.length_map]; omega⟩ ?_; conv => whnf
    refine hsub_eq (o' := m.sent.toNat) (n' := (many s m).toNat) rfl (show (m.sent + many s m - m.sent).toNat = (many s m).toNat by rw [show m.sent + many s m - m.sent = many s m by omega]) ?_
    refine hsub_at (f := bRow) (l := m.message.data) (o := m.sent.toNat) (n := (many s m).toNat) (by omega) ?_
    conv => whnf
    ((refine hcall_own [(0, 150)]  ?_; (conv => whnf); refine ⟨_, _,  Cl.clone_bytes ((m.message.data.drop m.sent.toNat).take (many s m).toNat) (by simp; omega), ⟨⟨⟨rfl, rfl⟩, trivial⟩, rfl, rfl, rfl⟩, ?_⟩; conv => whnf); try (refine hcut.go ?_; conv => whnf))
    refine hdraw_ex [4, 10, 18, 24, 29, 33, 37] ?_ ?_ ?_
    · kernel_rfl
    · refine ⟨?_, ?_, ?_, ?_, ?_, ?_, ?_, trivial⟩
      all_goals
        refine And.intro trivial ?_
        refine And.intro trivial ?_
        refine And.intro ?_ trivial
        conv => whnf
        refine And.intro ?_ ?_
        · conv => whnf
          all_goals first | rfl | exact hrow_q hm rfl rfl
        refine And.intro ?_ trivial
        conv => whnf
        all_goals first | rfl | exact hrow_q hm' rfl rfl
    conv => whnf
    refine hrow_q hm' rfl ?_; conv => whnf
    ((refine hcall_own [(0, 163)]  ?_; (conv => whnf); refine ⟨_, _,  spec_hadO s.sched { m with mid := midOf s m } (many s m) (ovr s m) (by omega) mf.lo mh, ⟨⟨⟨rfl, rfl⟩, trivial⟩, rfl, rfl, rfl⟩, ?_⟩; conv => whnf); try (refine hcut.go ?_; conv => whnf))
    ((refine hdraw_intro ?_ ?_; (· kernel_rfl); conv => whnf); try (refine hcut.go ?_; conv => whnf))
    refine hrow_q hm' rfl ?_; conv => whnf
    refine hrow_q hm' rfl ?_; conv => whnf
    refine hrow_q hm' rfl ?_; conv => whnf
    refine hrow_q hm' rfl ?_; conv => whnf
    refine hobl_intro (c := ((s.out.map Sent.row).length + 1) * 200 ≤ 140737488355328) (by rw [List.length_map]; omega) ?_; conv => whnf
    ((refine hdraw_intro ?_ ?_; (· kernel_rfl); conv => whnf); try (refine hcut.go ?_; conv => whnf))
    ((first | refine hwrap_W ?_ | refine hwrap_raw ?_); (conv => whnf); try (refine hcut.go ?_; conv => whnf))
    refine hrow_q hm' rfl ?_; conv => whnf
    refine hwrap_fit (z := m.sent + many s m) hWs ?_; conv => whnf
    refine hrow_q hm' rfl ?_; conv => whnf
    refine hrow_set rfl (by simp [midS]; omega) ?_; conv => whnf
    ((first | refine hwrap_W ?_ | refine hwrap_raw ?_); (conv => whnf); try (refine hcut.go ?_; conv => whnf))
    refine hrow_set rfl (by simp [midS]; omega) ?_; conv => whnf
    refine hwrap_to (z' := (s.out.length : Int)) ?_ ?_
    · show W ((((midS s k m).out.map Sent.row ++ [_]).length : Int) - 1) = _
      rw [List.length_append, List.length_map, show (midS s k m).out = s.out from rfl, W_fit (by simp only [List.length_cons, List.length_nil]; omega) (by simp only [List.length_cons, List.length_nil]; omega)]
      simp only [List.length_cons, List.length_nil]; omega
    conv => whnf
    refine hobl_intro (by rw [List.length_append, List.length_map, show (midS s k m).out = s.out from rfl]; simp only [List.length_cons, List.length_nil]; omega) ?_; conv => whnf
    ((refine hcall_give [] [(1000000, 1000000), (1000001, 1000001), (1000002, 163), (1000003, 199), (1000004, 1000004), (1000005, 1000005), (1000006, 1000006), (1000007, 1000007), (1000008, 1000008), (1000009, 1000009)] [(0, 920)] ?_; (conv => whnf); refine ⟨_, _, _, _, spec_fly2_0 (s2 s k m) a b s.out.length (x0 s m) w (by simp [s2]) hw (by omega), ⟨rfl, rfl, rfl, ⟨⟨rfl, _, rfl, .inl ⟨rfl, rfl⟩⟩, ⟨⟨rfl, _, rfl, .inl ⟨rfl, q2row⟩⟩, ⟨⟨rfl, _, rfl, .inl ⟨rfl, rfl⟩⟩, ⟨⟨rfl, _, rfl, .inl ⟨rfl, (row_app (f := Sent.row) (x := x0 s m) rfl rfl)⟩⟩, ⟨⟨rfl, _, rfl, .inl ⟨rfl, rfl⟩⟩, ⟨⟨rfl, _, rfl, .inl ⟨rfl, rfl⟩⟩, ⟨⟨rfl, _, rfl, .inl ⟨rfl, rfl⟩⟩, ⟨⟨rfl, _, rfl, .inl ⟨rfl, rfl⟩⟩, ⟨⟨rfl, _, rfl, .inl ⟨rfl, rfl⟩⟩, ⟨⟨rfl, _, rfl, .inl ⟨rfl, rfl⟩⟩, trivial⟩⟩⟩⟩⟩⟩⟩⟩⟩⟩, ⟨⟨rfl, rfl⟩, trivial⟩, rfl, rfl, rfl⟩, ?_⟩; conv => whnf); try (refine hcut.go ?_; conv => whnf))
    ((refine hdraw_intro ?_ ?_; (· kernel_rfl); conv => whnf); try (refine hcut.go ?_; conv => whnf))
    cases hov : ovr s m with
    | true =>
      refine hif_true ?_ ?_
      · exact hov
      conv => whnf
      repeat (refine hcut.go ?_; conv => whnf)
      refine hwrap_to (z' := ((k + 1 : Nat) : Int)) ?_ ?_
      · show W ((k : Int) + 1) = _
        rw [W_fit (by omega) (by omega)]; push_cast; rfl
      conv => whnf
      ((refine hcall_give [] [(1000000, 1000001)] [(0, 930)] ?_; (conv => whnf); refine ⟨_, _, _, _, delq (s.queue.set k (m2 s m)) k (k + 1) (by omega) (by simp; omega) (by simp; omega), ⟨rfl, rfl, rfl, ⟨⟨rfl, _, rfl, .inl ⟨rfl, rfl⟩⟩, trivial⟩, ⟨⟨rfl, rfl⟩, trivial⟩, rfl, rfl, rfl⟩, ?_⟩; conv => whnf); try (refine hcut.go ?_; conv => whnf))
      rw [next1_eq hc0 hw rfl, if_pos hov] at hG
      subst hG
      (exact hfin_P [(1000000, some 1000000), (1000001, some 1000001), (1000002, some 1000002), (1000003, some 1000003), (1000004, some 1000004), (1000005, some 1000005), (1000006, some 1000006), (1000007, some 1000007), (1000008, some 1000008), (1000009, some 1000009), (0, some 930), (1, some 163), (2, some 199), (3, some 1000004), (4, some 1000005), (5, some 1000006), (6, some 920), (7, some 1000009)] (by first | rfl | ((exact row_eqs (by rw [erase_set hkl]))) ) (by repeat' (first | exact trivial | exact rfl | exact .inl rfl | exact .inr rfl | (refine ⟨⟨rfl, .inl ⟨_, rfl, ?_⟩⟩, ?_⟩) | (refine ⟨⟨rfl, _, rfl, ?_⟩, ?_⟩) | (refine ⟨⟨rfl, .inr ⟨rfl, ?_⟩⟩, ?_⟩) | (refine ⟨rfl, ?_⟩) | ((exact row_eqs (by rw [erase_set hkl]))) | (simp; done) | (simp; rfl))))
    | false =>
      refine hif_false ?_ ?_
      · exact hov
      conv => whnf
      repeat (refine hcut.go ?_; conv => whnf)
      rw [next1_eq hc0 hw rfl, if_neg (by rw [hov]; decide)] at hG
      subst hG
      (exact hfin_P [(1000000, some 1000000), (1000001, some 1000001), (1000002, some 1000002), (1000003, some 1000003), (1000004, some 1000004), (1000005, some 1000005), (1000006, some 1000006), (1000007, some 1000007), (1000008, some 1000008), (1000009, some 1000009), (0, some 1000001), (1, some 163), (2, some 199), (3, some 1000004), (4, some 1000005), (5, some 1000006), (6, some 920), (7, some 1000009)])
  case inr =>
    have pc := Paths.spec_choose s.paths (by omega)
    rw [hch, hc0] at pc
    have pn := Sch.spec_next s.config.turns s.sched s.queue (by omega) (by omega)
    obtain ⟨w, hw⟩ : ∃ w, s.paths[1]? = some w := ⟨_, List.getElem?_eq_getElem (by omega)⟩
    have hwc : s.paths[choose s]? = some w := by rw [hc0]; exact hw
    generalize hG : nx s [a, b] = G
    refine funOK_of mixed Try.func62 (by decide) [1000000, 1000001, 1000002, 1000003, 1000004, 1000005, 1000006, 1000007, 1000008, 1000009] lk_pins ?_
    conv => whnf
    ((refine hcall_lend ?_; (conv => whnf); refine ⟨_, pc, rfl, ?_⟩; conv => whnf); try (refine hcut.go ?_; conv => whnf))
    by_cases c1 : turnOf s < 0
    case pos =>
      ((refine hcall_lend ?_; (conv => whnf); refine ⟨_, pn, rfl, ?_⟩; conv => whnf); try (refine hcut.go ?_; conv => whnf))
      ((refine hdraw_intro ?_ ?_; (· kernel_rfl); conv => whnf); try (refine hcut.go ?_; conv => whnf))
      refine hif_true ?_ ?_
      · exact decide_eq_true c1
      conv => whnf
      rw [nx_no1 c1] at hG
      subst hG
      repeat (refine hcut.go ?_; conv => whnf)
      (exact hfin_P [(1000000, some 1000000), (1000001, some 1000001), (1000002, some 1000002), (1000003, some 1000003), (1000004, some 1000004), (1000005, some 1000005), (1000006, some 1000006), (1000007, some 1000007), (1000008, some 1000008), (1000009, some 1000009), (0, some 1000001), (1, some 1000002), (2, some 1000003), (3, some 1000004), (4, some 1000005), (5, some 1000006), (6, some 1000008), (7, some 1000009)])
    obtain ⟨k, hkl, hke⟩ := turn_lt (t := s.config.turns) (s := s.sched) (q := s.queue) (by unfold turnOf at c1; omega)
    have hke' : turnOf s = k := hke
    rw [hke] at pn
    obtain ⟨m, hm⟩ : ∃ m, s.queue[k]? = some m := ⟨_, List.getElem?_eq_getElem hkl⟩
    have hmf := hmsg m (List.mem_of_getElem? hm)
    obtain ⟨mf, mh, ms, ml, md⟩ := hmf
    obtain ⟨n1, n2, n3⟩ := many_is (s := s) (m := m) hp1 hp2 ms ml md
    ((refine hcall_lend ?_; (conv => whnf); refine ⟨_, pn, rfl, ?_⟩; conv => whnf); try (refine hcut.go ?_; conv => whnf))
    ((refine hdraw_intro ?_ ?_; (· kernel_rfl); conv => whnf); try (refine hcut.go ?_; conv => whnf))
    try (refine hif_false ?_ ?_; · simp; conv => whnf)
    refine hobl_intro (by simp; omega) ?_; conv => whnf
    refine hrow_q hw rfl ?_; conv => whnf
    ((refine hcall_lend ?_; (conv => whnf); refine ⟨_, Paths.spec_open w, rfl, ?_⟩; conv => whnf); try (refine hcut.go ?_; conv => whnf))
    by_cases c2 : w.flight < w.window
    case neg =>
      refine hif_true ?_ ?_
      · simpa using c2
      conv => whnf
      rw [nx_no2 hwc c2] at hG
      subst hG
      repeat (refine hcut.go ?_; conv => whnf)
      (exact hfin_P [(1000000, some 1000000), (1000001, some 1000001), (1000002, some 1000002), (1000003, some 1000003), (1000004, some 1000004), (1000005, some 1000005), (1000006, some 1000006), (1000007, some 1000007), (1000008, some 1000008), (1000009, some 1000009), (0, some 1000001), (1, some 1000002), (2, some 1000003), (3, some 1000004), (4, some 1000005), (5, some 1000006), (6, some 1000008), (7, some 1000009)])
    refine hif_false ?_ ?_
    · simpa using c2
    conv => whnf
    by_cases c3 : (s.out.length : Int) ≥ 60
    case pos =>
      refine hif_true ?_ ?_
      · rw [List.length_map]; exact decide_eq_true c3
      conv => whnf
      rw [nx_no3 c3] at hG
      subst hG
      repeat (refine hcut.go ?_; conv => whnf)
      (exact hfin_P [(1000000, some 1000000), (1000001, some 1000001), (1000002, some 1000002), (1000003, some 1000003), (1000004, some 1000004), (1000005, some 1000005), (1000006, some 1000006), (1000007, some 1000007), (1000008, some 1000008), (1000009, some 1000009), (0, some 1000001), (1, some 1000002), (2, some 1000003), (3, some 1000004), (4, some 1000005), (5, some 1000006), (6, some 1000008), (7, some 1000009)])
    refine hif_false ?_ ?_
    · rw [List.length_map]; exact decide_eq_false c3
    conv => whnf
    repeat (refine hcut.go ?_; conv => whnf)
    refine hobl_intro (by simp; omega) ?_; conv => whnf
    refine hrow_q hm rfl ?_; conv => whnf
    refine hrow_q hm rfl ?_; conv => whnf
    refine hwrap_to (z' := (m.message.data.length : Int) - m.sent) ?_ ?_
    · show W _ = _
      rw [List.length_map]; exact W_fit (by omega) (by omega)
    conv => whnf
    ((refine hdraw_intro ?_ ?_; (· kernel_rfl); conv => whnf); try (refine hcut.go ?_; conv => whnf))
    ((refine hcall_give [] [(1000000, 1000000), (1000001, 1000001), (1000002, 1000002), (1000003, 1000003), (1000004, 1000004), (1000005, 1000005), (1000006, 1000006), (1000007, 1000007), (1000008, 1000008), (1000009, 1000009)] [] ?_; (conv => whnf); refine ⟨_, _, _, _, spec_flight2 s a b f4, ⟨rfl, rfl, rfl, ⟨⟨rfl, _, rfl, .inl ⟨rfl, rfl⟩⟩, ⟨⟨rfl, _, rfl, .inl ⟨rfl, rfl⟩⟩, ⟨⟨rfl, _, rfl, .inl ⟨rfl, rfl⟩⟩, ⟨⟨rfl, _, rfl, .inl ⟨rfl, rfl⟩⟩, ⟨⟨rfl, _, rfl, .inl ⟨rfl, rfl⟩⟩, ⟨⟨rfl, _, rfl, .inl ⟨rfl, rfl⟩⟩, ⟨⟨rfl, _, rfl, .inl ⟨rfl, rfl⟩⟩, ⟨⟨rfl, _, rfl, .inl ⟨rfl, rfl⟩⟩, ⟨⟨rfl, _, rfl, .inl ⟨rfl, rfl⟩⟩, ⟨⟨rfl, _, rfl, .inl ⟨rfl, rfl⟩⟩, trivial⟩⟩⟩⟩⟩⟩⟩⟩⟩⟩, trivial, rfl, rfl, rfl⟩, ?_⟩; conv => whnf); try (refine hcut.go ?_; conv => whnf))
    have hWs : W (m.sent + many s m) = m.sent + many s m := W_fit (by omega) (by omega)
    by_cases c4 : flight s > 0
    case pos =>
      refine hif_true ?_ ?_
      · exact decide_eq_true c4
      conv => whnf
      ((first | refine hwrap_W ?_ | refine hwrap_raw ?_); (conv => whnf); try (refine hcut.go ?_; conv => whnf))
      by_cases c5 : W (flight s + many s m) > s.room
      case pos =>
        refine hif_true ?_ ?_
        · exact decide_eq_true c5
        conv => whnf
        rw [nx_no4 hke' hm hwc c2 c3 ⟨c4, c5⟩] at hG
        subst hG
        repeat (refine hcut.go ?_; conv => whnf)
        (exact hfin_P [(1000000, some 1000000), (1000001, some 1000001), (1000002, some 1000002), (1000003, some 1000003), (1000004, some 1000004), (1000005, some 1000005), (1000006, some 1000006), (1000007, some 1000007), (1000008, some 1000008), (1000009, some 1000009), (0, some 1000001), (1, some 1000002), (2, some 1000003), (3, some 1000004), (4, some 1000005), (5, some 1000006), (6, some 1000008), (7, some 1000009)])
      refine hif_false ?_ ?_
      · exact decide_eq_false c5
      conv => whnf
      repeat (refine hcut.go ?_; conv => whnf)
      rw [nx_yes hke' hm hwc c2 c3 fun h => c5 h.2] at hG
      refine hrow_q hm rfl ?_; conv => whnf
      refine hwrap_fit (z := m.sent + many s m) hWs ?_; conv => whnf
      refine hrow_q hm rfl ?_; conv => whnf
      ((refine hdraw_intro ?_ ?_; (· kernel_rfl); conv => whnf); try (refine hcut.go ?_; conv => whnf))
      have hm' : (midS s k m).queue[k]? = some { m with mid := midOf s m } := by show (s.queue.set k _)[k]? = _; rw [List.getElem?_set_self hkl]
      have hmr : (s.queue.map Queued.row)[k]? = some m.row := by rw [List.getElem?_map, hm]; rfl
      ((refine hcall_lend ?_; (conv => whnf); refine ⟨_, spec_tag s.next, rfl, ?_⟩; conv => whnf); try (refine hcut.go ?_; conv => whnf))
      refine hrow_q hm rfl ?_; conv => whnf
      ((refine hcall_give [] [(1000000, 1000000), (1000001, 1000001), (1000002, 1000002), (1000003, 1000003), (1000004, 1000004), (1000005, 1000005), (1000006, 1000006), (1000007, 1000007), (1000008, 1000008), (1000009, 1000009)] [] ?_; (conv => whnf); refine ⟨_, _, _, _, spec_mid2 s a b k m hm mf, ⟨rfl, rfl, rfl, ⟨⟨rfl, _, rfl, .inl ⟨rfl, rfl⟩⟩, ⟨⟨rfl, _, rfl, .inl ⟨rfl, rfl⟩⟩, ⟨⟨rfl, _, rfl, .inl ⟨rfl, rfl⟩⟩, ⟨⟨rfl, _, rfl, .inl ⟨rfl, rfl⟩⟩, ⟨⟨rfl, _, rfl, .inl ⟨rfl, rfl⟩⟩, ⟨⟨rfl, _, rfl, .inl ⟨rfl, rfl⟩⟩, ⟨⟨rfl, _, rfl, .inl ⟨rfl, rfl⟩⟩, ⟨⟨rfl, _, rfl, .inl ⟨rfl, rfl⟩⟩, ⟨⟨rfl, _, rfl, .inl ⟨rfl, rfl⟩⟩, ⟨⟨rfl, _, rfl, .inl ⟨rfl, rfl⟩⟩, trivial⟩⟩⟩⟩⟩⟩⟩⟩⟩⟩, trivial, rfl, rfl, rfl⟩, ?_⟩; conv => whnf); try (refine hcut.go ?_; conv => whnf))
      ((refine hcall_lend ?_; (conv => whnf); refine ⟨_, spec_tag (midOf s m), rfl, ?_⟩; conv => whnf); try (refine hcut.go ?_; conv => whnf))
      refine hrow_q hm' rfl ?_; conv => whnf
      refine hrow_q hm' rfl ?_; conv => whnf
      refine hrow_q hm' rfl ?_; conv => whnf
      refine hrow_q hm' rfl ?_; conv => whnf
      refine hrow_q hm' rfl ?_; conv => whnf
      refine hwrap_fit (z := m.sent + many s m) hWs ?_; conv => whnf
      refine hobl_intro (c := 0 ≤ m.sent ∧ m.sent ≤ m.sent + many s m ∧ m.sent + many s m ≤ ((m.message.data.map bRow).length : Int)) ⟨ms, by omega, by rw [List.length_map]; omega⟩ ?_; conv => whnf
      refine hsub_eq (o' := m.sent.toNat) (n' := (many s m).toNat) rfl (show (m.sent + many s m - m.sent).toNat = (many s m).toNat by rw [show m.sent + many s m - m.sent = many s m by omega]) ?_
      refine hsub_at (f := bRow) (l := m.message.data) (o := m.sent.toNat) (n := (many s m).toNat) (by omega) ?_
      conv => whnf
      ((refine hcall_own [(0, 150)]  ?_; (conv => whnf); refine ⟨_, _,  Cl.clone_bytes ((m.message.data.drop m.sent.toNat).take (many s m).toNat) (by simp; omega), ⟨⟨⟨rfl, rfl⟩, trivial⟩, rfl, rfl, rfl⟩, ?_⟩; conv => whnf); try (refine hcut.go ?_; conv => whnf))
      refine hdraw_ex [4, 10, 18, 24, 29, 33, 37] ?_ ?_ ?_
      · kernel_rfl
      · refine ⟨?_, ?_, ?_, ?_, ?_, ?_, ?_, trivial⟩
        all_goals
          refine And.intro trivial ?_
          refine And.intro trivial ?_
          refine And.intro ?_ trivial
          conv => whnf
          refine And.intro ?_ ?_
          · conv => whnf
            all_goals first | rfl | exact hrow_q hm rfl rfl
          refine And.intro ?_ trivial
          conv => whnf
          all_goals first | rfl | exact hrow_q hm' rfl rfl
      conv => whnf
      refine hrow_q hm' rfl ?_; conv => whnf
      ((refine hcall_own [(0, 163)]  ?_; (conv => whnf); refine ⟨_, _,  spec_hadO s.sched { m with mid := midOf s m } (many s m) (ovr s m) (by omega) mf.lo mh, ⟨⟨⟨rfl, rfl⟩, trivial⟩, rfl, rfl, rfl⟩, ?_⟩; conv => whnf); try (refine hcut.go ?_; conv => whnf))
      ((refine hdraw_intro ?_ ?_; (· kernel_rfl); conv => whnf); try (refine hcut.go ?_; conv => whnf))
      refine hrow_q hm' rfl ?_; conv => whnf
      refine hrow_q hm' rfl ?_; conv => whnf
      refine hrow_q hm' rfl ?_; conv => whnf
      refine hrow_q hm' rfl ?_; conv => whnf
      refine hobl_intro (c := ((s.out.map Sent.row).length + 1) * 200 ≤ 140737488355328) (by rw [List.length_map]; omega) ?_; conv => whnf
      ((refine hdraw_intro ?_ ?_; (· kernel_rfl); conv => whnf); try (refine hcut.go ?_; conv => whnf))
      ((first | refine hwrap_W ?_ | refine hwrap_raw ?_); (conv => whnf); try (refine hcut.go ?_; conv => whnf))
      refine hrow_q hm' rfl ?_; conv => whnf
      refine hwrap_fit (z := m.sent + many s m) hWs ?_; conv => whnf
      refine hrow_q hm' rfl ?_; conv => whnf
      refine hrow_set rfl (by simp [midS]; omega) ?_; conv => whnf
      ((first | refine hwrap_W ?_ | refine hwrap_raw ?_); (conv => whnf); try (refine hcut.go ?_; conv => whnf))
      refine hrow_set rfl (by simp [midS]; omega) ?_; conv => whnf
      refine hwrap_to (z' := (s.out.length : Int)) ?_ ?_
      · show W ((((midS s k m).out.map Sent.row ++ [_]).length : Int) - 1) = _
        rw [List.length_append, List.length_map, show (midS s k m).out = s.out from rfl, W_fit (by simp only [List.length_cons, List.length_nil]; omega) (by simp only [List.length_cons, List.length_nil]; omega)]
        simp only [List.length_cons, List.length_nil]; omega
      conv => whnf
      refine hobl_intro (by rw [List.length_append, List.length_map, show (midS s k m).out = s.out from rfl]; simp only [List.length_cons, List.length_nil]; omega) ?_; conv => whnf
      ((refine hcall_give [] [(1000000, 1000000), (1000001, 1000001), (1000002, 163), (1000003, 199), (1000004, 1000004), (1000005, 1000005), (1000006, 1000006), (1000007, 1000007), (1000008, 1000008), (1000009, 1000009)] [(0, 920)] ?_; (conv => whnf); refine ⟨_, _, _, _, spec_fly2_1 (s2 s k m) a b s.out.length (x0 s m) w (by simp [s2]) hw (by omega), ⟨rfl, rfl, rfl, ⟨⟨rfl, _, rfl, .inl ⟨rfl, rfl⟩⟩, ⟨⟨rfl, _, rfl, .inl ⟨rfl, q2row⟩⟩, ⟨⟨rfl, _, rfl, .inl ⟨rfl, rfl⟩⟩, ⟨⟨rfl, _, rfl, .inl ⟨rfl, (row_app (f := Sent.row) (x := x0 s m) rfl rfl)⟩⟩, ⟨⟨rfl, _, rfl, .inl ⟨rfl, rfl⟩⟩, ⟨⟨rfl, _, rfl, .inl ⟨rfl, rfl⟩⟩, ⟨⟨rfl, _, rfl, .inl ⟨rfl, rfl⟩⟩, ⟨⟨rfl, _, rfl, .inl ⟨rfl, rfl⟩⟩, ⟨⟨rfl, _, rfl, .inl ⟨rfl, rfl⟩⟩, ⟨⟨rfl, _, rfl, .inl ⟨rfl, rfl⟩⟩, trivial⟩⟩⟩⟩⟩⟩⟩⟩⟩⟩, ⟨⟨rfl, rfl⟩, trivial⟩, rfl, rfl, rfl⟩, ?_⟩; conv => whnf); try (refine hcut.go ?_; conv => whnf))
      ((refine hdraw_intro ?_ ?_; (· kernel_rfl); conv => whnf); try (refine hcut.go ?_; conv => whnf))
      cases hov : ovr s m with
      | true =>
        refine hif_true ?_ ?_
        · exact hov
        conv => whnf
        repeat (refine hcut.go ?_; conv => whnf)
        refine hwrap_to (z' := ((k + 1 : Nat) : Int)) ?_ ?_
        · show W ((k : Int) + 1) = _
          rw [W_fit (by omega) (by omega)]; push_cast; rfl
        conv => whnf
        ((refine hcall_give [] [(1000000, 1000001)] [(0, 930)] ?_; (conv => whnf); refine ⟨_, _, _, _, delq (s.queue.set k (m2 s m)) k (k + 1) (by omega) (by simp; omega) (by simp; omega), ⟨rfl, rfl, rfl, ⟨⟨rfl, _, rfl, .inl ⟨rfl, rfl⟩⟩, trivial⟩, ⟨⟨rfl, rfl⟩, trivial⟩, rfl, rfl, rfl⟩, ?_⟩; conv => whnf); try (refine hcut.go ?_; conv => whnf))
        rw [next1_eq hc0 hw rfl, if_pos hov] at hG
        subst hG
        (exact hfin_P [(1000000, some 1000000), (1000001, some 1000001), (1000002, some 1000002), (1000003, some 1000003), (1000004, some 1000004), (1000005, some 1000005), (1000006, some 1000006), (1000007, some 1000007), (1000008, some 1000008), (1000009, some 1000009), (0, some 930), (1, some 163), (2, some 199), (3, some 1000004), (4, some 1000005), (5, some 1000006), (6, some 1000008), (7, some 920)] (by first | rfl | ((exact row_eqs (by rw [erase_set hkl]))) ) (by repeat' (first | exact trivial | exact rfl | exact .inl rfl | exact .inr rfl | (refine ⟨⟨rfl, .inl ⟨_, rfl, ?_⟩⟩, ?_⟩) | (refine ⟨⟨rfl, _, rfl, ?_⟩, ?_⟩) | (refine ⟨⟨rfl, .inr ⟨rfl, ?_⟩⟩, ?_⟩) | (refine ⟨rfl, ?_⟩) | ((exact row_eqs (by rw [erase_set hkl]))) | (simp; done) | (simp; rfl))))
      | false =>
        refine hif_false ?_ ?_
        · exact hov
        conv => whnf
        repeat (refine hcut.go ?_; conv => whnf)
        rw [next1_eq hc0 hw rfl, if_neg (by rw [hov]; decide)] at hG
        subst hG
        (exact hfin_P [(1000000, some 1000000), (1000001, some 1000001), (1000002, some 1000002), (1000003, some 1000003), (1000004, some 1000004), (1000005, some 1000005), (1000006, some 1000006), (1000007, some 1000007), (1000008, some 1000008), (1000009, some 1000009), (0, some 1000001), (1, some 163), (2, some 199), (3, some 1000004), (4, some 1000005), (5, some 1000006), (6, some 1000008), (7, some 920)])
    refine hif_false ?_ ?_
    · exact decide_eq_false c4
    conv => whnf
    repeat (refine hcut.go ?_; conv => whnf)
    rw [nx_yes hke' hm hwc c2 c3 fun h => c4 h.1] at hG
    refine hrow_q hm rfl ?_; conv => whnf
    refine hwrap_fit (z := m.sent + many s m) hWs ?_; conv => whnf
    refine hrow_q hm rfl ?_; conv => whnf
    ((refine hdraw_intro ?_ ?_; (· kernel_rfl); conv => whnf); try (refine hcut.go ?_; conv => whnf))
    have hm' : (midS s k m).queue[k]? = some { m with mid := midOf s m } := by show (s.queue.set k _)[k]? = _; rw [List.getElem?_set_self hkl]
    have hmr : (s.queue.map Queued.row)[k]? = some m.row := by rw [List.getElem?_map, hm]; rfl
    ((refine hcall_lend ?_; (conv => whnf); refine ⟨_, spec_tag s.next, rfl, ?_⟩; conv => whnf); try (refine hcut.go ?_; conv => whnf))
    refine hrow_q hm rfl ?_; conv => whnf
    ((refine hcall_give [] [(1000000, 1000000), (1000001, 1000001), (1000002, 1000002), (1000003, 1000003), (1000004, 1000004), (1000005, 1000005), (1000006, 1000006), (1000007, 1000007), (1000008, 1000008), (1000009, 1000009)] [] ?_; (conv => whnf); refine ⟨_, _, _, _, spec_mid2 s a b k m hm mf, ⟨rfl, rfl, rfl, ⟨⟨rfl, _, rfl, .inl ⟨rfl, rfl⟩⟩, ⟨⟨rfl, _, rfl, .inl ⟨rfl, rfl⟩⟩, ⟨⟨rfl, _, rfl, .inl ⟨rfl, rfl⟩⟩, ⟨⟨rfl, _, rfl, .inl ⟨rfl, rfl⟩⟩, ⟨⟨rfl, _, rfl, .inl ⟨rfl, rfl⟩⟩, ⟨⟨rfl, _, rfl, .inl ⟨rfl, rfl⟩⟩, ⟨⟨rfl, _, rfl, .inl ⟨rfl, rfl⟩⟩, ⟨⟨rfl, _, rfl, .inl ⟨rfl, rfl⟩⟩, ⟨⟨rfl, _, rfl, .inl ⟨rfl, rfl⟩⟩, ⟨⟨rfl, _, rfl, .inl ⟨rfl, rfl⟩⟩, trivial⟩⟩⟩⟩⟩⟩⟩⟩⟩⟩, trivial, rfl, rfl, rfl⟩, ?_⟩; conv => whnf); try (refine hcut.go ?_; conv => whnf))
    ((refine hcall_lend ?_; (conv => whnf); refine ⟨_, spec_tag (midOf s m), rfl, ?_⟩; conv => whnf); try (refine hcut.go ?_; conv => whnf))
    refine hrow_q hm' rfl ?_; conv => whnf
    refine hrow_q hm' rfl ?_; conv => whnf
    refine hrow_q hm' rfl ?_; conv => whnf
    refine hrow_q hm' rfl ?_; conv => whnf
    refine hrow_q hm' rfl ?_; conv => whnf
    refine hwrap_fit (z := m.sent + many s m) hWs ?_; conv => whnf
    refine hobl_intro (c := 0 ≤ m.sent ∧ m.sent ≤ m.sent + many s m ∧ m.sent + many s m ≤ ((m.message.data.map bRow).length : Int)) ⟨ms, by omega, by rw [List.length_map]; omega⟩ ?_; conv => whnf
    refine hsub_eq (o' := m.sent.toNat) (n' := (many s m).toNat) rfl (show (m.sent + many s m - m.sent).toNat = (many s m).toNat by rw [show m.sent + many s m - m.sent = many s m by omega]) ?_
    refine hsub_at (f := bRow) (l := m.message.data) (o := m.sent.toNat) (n := (many s m).toNat) (by omega) ?_
    conv => whnf
    ((refine hcall_own [(0, 150)]  ?_; (conv => whnf); refine ⟨_, _,  Cl.clone_bytes ((m.message.data.drop m.sent.toNat).take (many s m).toNat) (by simp; omega), ⟨⟨⟨rfl, rfl⟩, trivial⟩, rfl, rfl, rfl⟩, ?_⟩; conv => whnf); try (refine hcut.go ?_; conv => whnf))
    refine hdraw_ex [4, 10, 18, 24, 29, 33, 37] ?_ ?_ ?_
    · kernel_rfl
    · refine ⟨?_, ?_, ?_, ?_, ?_, ?_, ?_, trivial⟩
      all_goals
        refine And.intro trivial ?_
        refine And.intro trivial ?_
        refine And.intro ?_ trivial
        conv => whnf
        refine And.intro ?_ ?_
        · conv => whnf
          all_goals first | rfl | exact hrow_q hm rfl rfl
        refine And.intro ?_ trivial
        conv => whnf
        all_goals first | rfl | exact hrow_q hm' rfl rfl
    conv => whnf
    refine hrow_q hm' rfl ?_; conv => whnf
    ((refine hcall_own [(0, 163)]  ?_; (conv => whnf); refine ⟨_, _,  spec_hadO s.sched { m with mid := midOf s m } (many s m) (ovr s m) (by omega) mf.lo mh, ⟨⟨⟨rfl, rfl⟩, trivial⟩, rfl, rfl, rfl⟩, ?_⟩; conv => whnf); try (refine hcut.go ?_; conv => whnf))
    ((refine hdraw_intro ?_ ?_; (· kernel_rfl); conv => whnf); try (refine hcut.go ?_; conv => whnf))
    refine hrow_q hm' rfl ?_; conv => whnf
    refine hrow_q hm' rfl ?_; conv => whnf
    refine hrow_q hm' rfl ?_; conv => whnf
    refine hrow_q hm' rfl ?_; conv => whnf
    refine hobl_intro (c := ((s.out.map Sent.row).length + 1) * 200 ≤ 140737488355328) (by rw [List.length_map]; omega) ?_; conv => whnf
    ((refine hdraw_intro ?_ ?_; (· kernel_rfl); conv => whnf); try (refine hcut.go ?_; conv => whnf))
    ((first | refine hwrap_W ?_ | refine hwrap_raw ?_); (conv => whnf); try (refine hcut.go ?_; conv => whnf))
    refine hrow_q hm' rfl ?_; conv => whnf
    refine hwrap_fit (z := m.sent + many s m) hWs ?_; conv => whnf
    refine hrow_q hm' rfl ?_; conv => whnf
    refine hrow_set rfl (by simp [midS]; omega) ?_; conv => whnf
    ((first | refine hwrap_W ?_ | refine hwrap_raw ?_); (conv => whnf); try (refine hcut.go ?_; conv => whnf))
    refine hrow_set rfl (by simp [midS]; omega) ?_; conv => whnf
    refine hwrap_to (z' := (s.out.length : Int)) ?_ ?_
    · show W ((((midS s k m).out.map Sent.row ++ [_]).length : Int) - 1) = _
      rw [List.length_append, List.length_map, show (midS s k m).out = s.out from rfl, W_fit (by simp only [List.length_cons, List.length_nil]; omega) (by simp only [List.length_cons, List.length_nil]; omega)]
      simp only [List.length_cons, List.length_nil]; omega
    conv => whnf
    refine hobl_intro (by rw [List.length_append, List.length_map, show (midS s k m).out = s.out from rfl]; simp only [List.length_cons, List.length_nil]; omega) ?_; conv => whnf
    ((refine hcall_give [] [(1000000, 1000000), (1000001, 1000001), (1000002, 163), (1000003, 199), (1000004, 1000004), (1000005, 1000005), (1000006, 1000006), (1000007, 1000007), (1000008, 1000008), (1000009, 1000009)] [(0, 920)] ?_; (conv => whnf); refine ⟨_, _, _, _, spec_fly2_1 (s2 s k m) a b s.out.length (x0 s m) w (by simp [s2]) hw (by omega), ⟨rfl, rfl, rfl, ⟨⟨rfl, _, rfl, .inl ⟨rfl, rfl⟩⟩, ⟨⟨rfl, _, rfl, .inl ⟨rfl, q2row⟩⟩, ⟨⟨rfl, _, rfl, .inl ⟨rfl, rfl⟩⟩, ⟨⟨rfl, _, rfl, .inl ⟨rfl, (row_app (f := Sent.row) (x := x0 s m) rfl rfl)⟩⟩, ⟨⟨rfl, _, rfl, .inl ⟨rfl, rfl⟩⟩, ⟨⟨rfl, _, rfl, .inl ⟨rfl, rfl⟩⟩, ⟨⟨rfl, _, rfl, .inl ⟨rfl, rfl⟩⟩, ⟨⟨rfl, _, rfl, .inl ⟨rfl, rfl⟩⟩, ⟨⟨rfl, _, rfl, .inl ⟨rfl, rfl⟩⟩, ⟨⟨rfl, _, rfl, .inl ⟨rfl, rfl⟩⟩, trivial⟩⟩⟩⟩⟩⟩⟩⟩⟩⟩, ⟨⟨rfl, rfl⟩, trivial⟩, rfl, rfl, rfl⟩, ?_⟩; conv => whnf); try (refine hcut.go ?_; conv => whnf))
    ((refine hdraw_intro ?_ ?_; (· kernel_rfl); conv => whnf); try (refine hcut.go ?_; conv => whnf))
    cases hov : ovr s m with
    | true =>
      refine hif_true ?_ ?_
      · exact hov
      conv => whnf
      repeat (refine hcut.go ?_; conv => whnf)
      refine hwrap_to (z' := ((k + 1 : Nat) : Int)) ?_ ?_
      · show W ((k : Int) + 1) = _
        rw [W_fit (by omega) (by omega)]; push_cast; rfl
      conv => whnf
      ((refine hcall_give [] [(1000000, 1000001)] [(0, 930)] ?_; (conv => whnf); refine ⟨_, _, _, _, delq (s.queue.set k (m2 s m)) k (k + 1) (by omega) (by simp; omega) (by simp; omega), ⟨rfl, rfl, rfl, ⟨⟨rfl, _, rfl, .inl ⟨rfl, rfl⟩⟩, trivial⟩, ⟨⟨rfl, rfl⟩, trivial⟩, rfl, rfl, rfl⟩, ?_⟩; conv => whnf); try (refine hcut.go ?_; conv => whnf))
      rw [next1_eq hc0 hw rfl, if_pos hov] at hG
      subst hG
      (exact hfin_P [(1000000, some 1000000), (1000001, some 1000001), (1000002, some 1000002), (1000003, some 1000003), (1000004, some 1000004), (1000005, some 1000005), (1000006, some 1000006), (1000007, some 1000007), (1000008, some 1000008), (1000009, some 1000009), (0, some 930), (1, some 163), (2, some 199), (3, some 1000004), (4, some 1000005), (5, some 1000006), (6, some 1000008), (7, some 920)] (by first | rfl | ((exact row_eqs (by rw [erase_set hkl]))) ) (by repeat' (first | exact trivial | exact rfl | exact .inl rfl | exact .inr rfl | (refine ⟨⟨rfl, .inl ⟨_, rfl, ?_⟩⟩, ?_⟩) | (refine ⟨⟨rfl, _, rfl, ?_⟩, ?_⟩) | (refine ⟨⟨rfl, .inr ⟨rfl, ?_⟩⟩, ?_⟩) | (refine ⟨rfl, ?_⟩) | ((exact row_eqs (by rw [erase_set hkl]))) | (simp; done) | (simp; rfl))))
    | false =>
      refine hif_false ?_ ?_
      · exact hov
      conv => whnf
      repeat (refine hcut.go ?_; conv => whnf)
      rw [next1_eq hc0 hw rfl, if_neg (by rw [hov]; decide)] at hG
      subst hG
      (exact hfin_P [(1000000, some 1000000), (1000001, some 1000001), (1000002, some 1000002), (1000003, some 1000003), (1000004, some 1000004), (1000005, some 1000005), (1000006, some 1000006), (1000007, some 1000007), (1000008, some 1000008), (1000009, some 1000009), (0, some 1000001), (1, some 163), (2, some 199), (3, some 1000004), (4, some 1000005), (5, some 1000006), (6, some 1000008), (7, some 920)])
end Snd
end Go.HL
