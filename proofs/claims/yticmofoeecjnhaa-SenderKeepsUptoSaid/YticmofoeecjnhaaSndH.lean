/- The sender: what goes without is told; what is lost goes again. -/
import Derived.Test.YticmofoeecjnhaaSndF
namespace Go.HL
open Go.Proofs
namespace Snd
open Ser
set_option maxHeartbeats 8000000
set_option maxRecDepth 100000
set_option linter.unusedSimpArgs false
def nth0 (l : List (List Chunk)) : List Chunk := l[0]?.getD []
def nth1 (l : List (List Chunk)) : List Chunk := l[1]?.getD []
theorem choose_lt : ∀ (l : List Path) (k : Nat), (k = 0 → 0 < l.length) → ∃ c : Nat, Paths.chooseFrom k l = c ∧ (c = 0 ∨ c < k + l.length)
  | [], k, h => ⟨0, rfl, .inl rfl⟩
  | p :: r, k, _ => by
    rw [Paths.chooseFrom]
    split
    · exact ⟨k, rfl, .inr (by simp)⟩
    · obtain ⟨c, h1, h2⟩ := choose_lt r (k + 1) (by omega)
      exact ⟨c, h1, by rcases h2 with h2 | h2; exact .inl h2; exact .inr (by simp; omega)⟩
theorem choose_is {s : Sender} (h : 0 < s.paths.length) : Paths.chooseFrom 0 s.paths = (choose s : Nat) ∧ choose s < s.paths.length := by
  obtain ⟨c, h1, h2⟩ := choose_lt s.paths 0 fun _ => h
  unfold choose
  rw [h1]
  exact ⟨by simp, by rcases h2 with h2 | h2 <;> simp <;> omega⟩
def fwdC (s : Sender) : Chunk := ⟨3, tag (Sco.point s.out s.cum).1, 0, 0, 0, false, false, [], [], 0, (Sco.point s.out s.cum).2⟩
def fwdS (s : Sender) (k : Nat) (w : Path) : Sender := { s with forward := false, paths := s.paths.set k (alarm s w) }
theorem fwd_no {s : Sender} {o : List (List Chunk)} (h : s.forward = false ∨ (Sco.point s.out s.cum).1 = s.cum) : forward ⟨s, o⟩ = ⟨s, o⟩ := by rw [forward, if_pos h]
theorem fwd_yes {s : Sender} {o : List (List Chunk)} {w : Path} {l : List Chunk} (h : ¬ (s.forward = false ∨ (Sco.point s.out s.cum).1 = s.cum)) (ha : s.paths[choose s]? = some w) (hl : o[choose s]? = some l) :
    forward ⟨s, o⟩ = ⟨fwdS s (choose s) w, o.set (choose s) (l ++ [fwdC s])⟩ := by
  rw [forward, if_neg h]
  simp only [setAt, ha, hl, fwdS, fwdC]
theorem alarm_no {s : Sender} {w : Path} (h : ¬ w.alarm = 0) : alarm s w = w := by rw [alarm, if_neg h]
theorem alarm_yes {s : Sender} {w : Path} (h : w.alarm = 0) : alarm s w = { w with alarm := W (s.clock + w.wait) } := by rw [alarm, if_pos h]
theorem spec_forward3 (s : Sender) (h3 : s.out.length < 2 ^ 38) (h4 : s.paths.length = 1) :
    FunOK Try.prog 60 [.ptr 1000000 0] (lk .free (pH3 s)) (.tup [])
      (lk .free (snG1 (forward ⟨s, [[]]⟩).s (nth0 (forward ⟨s, [[]]⟩).out) 1000001 1000002 1000003 1000004 1000005 1000006 1000007 0 [])) := by
  obtain ⟨hch, hch2⟩ := choose_is (s := s) (by omega)
  have hc0 : choose s = 0 := by omega
  have pc := Paths.spec_choose s.paths (by omega)
  rw [hch, hc0] at pc
  obtain ⟨w, ha⟩ : ∃ w, s.paths[0]? = some w := ⟨_, List.getElem?_eq_getElem (by omega)⟩
  refine funOK_of mixed Try.func60 (by decide) [1000000, 1000001, 1000002, 1000003, 1000004, 1000005, 1000006, 1000007] lk_pins ?_
  conv => whnf
  ((refine hcall_give [] [(1000000, 1000003)] [(0, 17)] ?_; (conv => whnf); refine ⟨_, _, _, _, Sco.spec_pointG s.out s.cum h3, ⟨rfl, rfl, rfl, ⟨⟨rfl, _, rfl, .inl ⟨rfl, rfl⟩⟩, trivial⟩, ⟨⟨rfl, rfl⟩, trivial⟩, rfl, rfl, rfl⟩, ?_⟩; conv => whnf); try (refine hcut.go ?_; conv => whnf))
  ((refine hdraw_intro ?_ ?_; (· kernel_rfl); conv => whnf); try (refine hcut.go ?_; conv => whnf))
  by_cases c1 : s.forward = false
  · rw [fwd_no (.inl c1)]
    refine hif_true ?_ ?_
    · simp [c1]
    conv => whnf
    repeat (refine hcut.go ?_; conv => whnf)
    (exact hfin_P [(1000000, some 1000000), (1000001, some 1000001), (1000002, some 1000002), (1000003, some 1000003), (1000004, some 1000004), (1000005, some 1000005), (1000006, some 1000006), (1000007, some 1000007), (0, none)])
  by_cases c2 : (Sco.point s.out s.cum).1 = s.cum
  · rw [fwd_no (.inr c2)]
    refine hif_false ?_ ?_
    · simp [c1]
    conv => whnf
    refine hif_true ?_ ?_
    · simp [c2]
    conv => whnf
    repeat (refine hcut.go ?_; conv => whnf)
    (exact hfin_P [(1000000, some 1000000), (1000001, some 1000001), (1000002, some 1000002), (1000003, some 1000003), (1000004, some 1000004), (1000005, some 1000005), (1000006, some 1000006), (1000007, some 1000007), (0, none)])
  have hfy := fwd_yes (o := [[]]) (l := []) (w := w) (by rintro (h | h); exact c1 h; exact c2 h) (by rw [hc0]; exact ha) (by rw [hc0]; rfl)
  rw [hfy, hc0]
  refine hif_false ?_ ?_
  · simp [c1]
  conv => whnf
  refine hif_false ?_ ?_
  · simp [c2]
  conv => whnf
  repeat (refine hcut.go ?_; conv => whnf)
  ((refine hcall_lend ?_; (conv => whnf); refine ⟨_, pc, rfl, ?_⟩; conv => whnf); try (refine hcut.go ?_; conv => whnf))
  refine ⟨0, rfl, by decide, ?_⟩; conv => whnf
  ((refine hcall_lend ?_; (conv => whnf); refine ⟨_, spec_tag _, rfl, ?_⟩; conv => whnf); try (refine hcut.go ?_; conv => whnf))
  refine hobl_intro (c := (1 : Nat) * 128 ≤ 140737488355328) (by decide) ?_; conv => whnf
  refine ⟨0, rfl, by decide, ?_⟩; conv => whnf
  ((refine hdraw_intro ?_ ?_; (· kernel_rfl); conv => whnf); try (refine hcut.go ?_; conv => whnf))
  refine hobl_intro (by simp; omega) ?_; conv => whnf
  refine hrow_q ha rfl ?_; conv => whnf
  by_cases c3 : w.alarm = 0
  case pos =>
    refine hif_true ?_ ?_
    · simpa using c3
    conv => whnf
    repeat (refine hcut.go ?_; conv => whnf)
    refine hrow_q ha rfl ?_; conv => whnf
    ((first | refine hwrap_W ?_ | refine hwrap_raw ?_); (conv => whnf); try (refine hcut.go ?_; conv => whnf))
    refine hrow_q ha rfl ?_; conv => whnf
    ((refine hdraw_intro ?_ ?_; (· kernel_rfl); conv => whnf); try (refine hcut.go ?_; conv => whnf))
    (exact hfin_P [(1000000, some 1000000), (1000001, some 1000001), (1000002, some 1000002), (1000003, some 1000003), (1000004, some 1000004), (1000005, some 1000005), (1000006, some 1000006), (1000007, some 1000007), (0, some 62)] (by first | rfl | ((exact (set_row (f := Path.row) (y := { w with alarm := W (s.clock + w.wait) }) rfl).trans (row_eqs (by rw [show (fwdS s 0 w).paths = s.paths.set 0 (alarm s w) from rfl, alarm_yes c3]; rfl)))) ) (by repeat' (first | exact trivial | exact rfl | exact .inl rfl | exact .inr rfl | (refine ⟨⟨rfl, .inl ⟨_, rfl, ?_⟩⟩, ?_⟩) | (refine ⟨⟨rfl, _, rfl, ?_⟩, ?_⟩) | (refine ⟨⟨rfl, .inr ⟨rfl, ?_⟩⟩, ?_⟩) | (refine ⟨rfl, ?_⟩) | ((exact (set_row (f := Path.row) (y := { w with alarm := W (s.clock + w.wait) }) rfl).trans (row_eqs (by rw [show (fwdS s 0 w).paths = s.paths.set 0 (alarm s w) from rfl, alarm_yes c3]; rfl)))) | (simp; done) | (simp; rfl))))
  case neg =>
    refine hif_false ?_ ?_
    · simpa using c3
    conv => whnf
    repeat (refine hcut.go ?_; conv => whnf)
    rw [show (fwdS s 0 w) = { s with forward := false } by { unfold fwdS; rw [alarm_no c3, set_self ha] }]
    (exact hfin_P [(1000000, some 1000000), (1000001, some 1000001), (1000002, some 1000002), (1000003, some 1000003), (1000004, some 1000004), (1000005, some 1000005), (1000006, some 1000006), (1000007, some 1000007), (0, some 62)])
theorem spec_forward4 (s : Sender) (h3 : s.out.length < 2 ^ 38) (h4 : s.paths.length = 2) :
    FunOK Try.prog 60 [.ptr 1000000 0] (lk .free (pH4 s)) (.tup [])
      (lk .free (snG2 (forward ⟨s, [[], []]⟩).s (nth0 (forward ⟨s, [[], []]⟩).out) (nth1 (forward ⟨s, [[], []]⟩).out) 1000001 1000002 1000003 1000004 1000005 1000006 1000007 0 1 [])) := by
  obtain ⟨hch, hch2⟩ := choose_is (s := s) (by omega)
  have hc01 : choose s = 0 ∨ choose s = 1 := by omega
  rcases hc01 with hc0 | hc0
  case inl =>
    have pc := Paths.spec_choose s.paths (by omega)
    rw [hch, hc0] at pc
    obtain ⟨w, ha⟩ : ∃ w, s.paths[0]? = some w := ⟨_, List.getElem?_eq_getElem (by omega)⟩
    refine funOK_of mixed Try.func60 (by decide) [1000000, 1000001, 1000002, 1000003, 1000004, 1000005, 1000006, 1000007] lk_pins ?_
    conv => whnf
    ((refine hcall_give [] [(1000000, 1000003)] [(0, 17)] ?_; (conv => whnf); refine ⟨_, _, _, _, Sco.spec_pointG s.out s.cum h3, ⟨rfl, rfl, rfl, ⟨⟨rfl, _, rfl, .inl ⟨rfl, rfl⟩⟩, trivial⟩, ⟨⟨rfl, rfl⟩, trivial⟩, rfl, rfl, rfl⟩, ?_⟩; conv => whnf); try (refine hcut.go ?_; conv => whnf))
    ((refine hdraw_intro ?_ ?_; (· kernel_rfl); conv => whnf); try (refine hcut.go ?_; conv => whnf))
    by_cases c1 : s.forward = false
    · rw [fwd_no (.inl c1)]
      refine hif_true ?_ ?_
      · simp [c1]
      conv => whnf
      repeat (refine hcut.go ?_; conv => whnf)
      (exact hfin_P [(1000000, some 1000000), (1000001, some 1000001), (1000002, some 1000002), (1000003, some 1000003), (1000004, some 1000004), (1000005, some 1000005), (1000006, some 1000006), (1000007, some 1000007), (0, none), (1, none)])
    by_cases c2 : (Sco.point s.out s.cum).1 = s.cum
    · rw [fwd_no (.inr c2)]
      refine hif_false ?_ ?_
      · simp [c1]
      conv => whnf
      refine hif_true ?_ ?_
      · simp [c2]
      conv => whnf
      repeat (refine hcut.go ?_; conv => whnf)
      (exact hfin_P [(1000000, some 1000000), (1000001, some 1000001), (1000002, some 1000002), (1000003, some 1000003), (1000004, some 1000004), (1000005, some 1000005), (1000006, some 1000006), (1000007, some 1000007), (0, none), (1, none)])
    have hfy := fwd_yes (o := [[], []]) (l := []) (w := w) (by rintro (h | h); exact c1 h; exact c2 h) (by rw [hc0]; exact ha) (by rw [hc0]; rfl)
    rw [hfy, hc0]
    refine hif_false ?_ ?_
    · simp [c1]
    conv => whnf
    refine hif_false ?_ ?_
    · simp [c2]
    conv => whnf
    repeat (refine hcut.go ?_; conv => whnf)
    ((refine hcall_lend ?_; (conv => whnf); refine ⟨_, pc, rfl, ?_⟩; conv => whnf); try (refine hcut.go ?_; conv => whnf))
    refine ⟨0, rfl, by decide, ?_⟩; conv => whnf
    ((refine hcall_lend ?_; (conv => whnf); refine ⟨_, spec_tag _, rfl, ?_⟩; conv => whnf); try (refine hcut.go ?_; conv => whnf))
    refine hobl_intro (c := (1 : Nat) * 128 ≤ 140737488355328) (by decide) ?_; conv => whnf
    refine ⟨0, rfl, by decide, ?_⟩; conv => whnf
    ((refine hdraw_intro ?_ ?_; (· kernel_rfl); conv => whnf); try (refine hcut.go ?_; conv => whnf))
    refine hobl_intro (by simp; omega) ?_; conv => whnf
    refine hrow_q ha rfl ?_; conv => whnf
    by_cases c3 : w.alarm = 0
    case pos =>
      refine hif_true ?_ ?_
      · simpa using c3
      conv => whnf
      repeat (refine hcut.go ?_; conv => whnf)
      refine hrow_q ha rfl ?_; conv => whnf
      ((first | refine hwrap_W ?_ | refine hwrap_raw ?_); (conv => whnf); try (refine hcut.go ?_; conv => whnf))
      refine hrow_q ha rfl ?_; conv => whnf
      ((refine hdraw_intro ?_ ?_; (· kernel_rfl); conv => whnf); try (refine hcut.go ?_; conv => whnf))
      (exact hfin_P [(1000000, some 1000000), (1000001, some 1000001), (1000002, some 1000002), (1000003, some 1000003), (1000004, some 1000004), (1000005, some 1000005), (1000006, some 1000006), (1000007, some 1000007), (0, some 62), (1, none)] (by first | rfl | ((exact (set_row (f := Path.row) (y := { w with alarm := W (s.clock + w.wait) }) rfl).trans (row_eqs (by rw [show (fwdS s 0 w).paths = s.paths.set 0 (alarm s w) from rfl, alarm_yes c3]; rfl)))) ) (by repeat' (first | exact trivial | exact rfl | exact .inl rfl | exact .inr rfl | (refine ⟨⟨rfl, .inl ⟨_, rfl, ?_⟩⟩, ?_⟩) | (refine ⟨⟨rfl, _, rfl, ?_⟩, ?_⟩) | (refine ⟨⟨rfl, .inr ⟨rfl, ?_⟩⟩, ?_⟩) | (refine ⟨rfl, ?_⟩) | ((exact (set_row (f := Path.row) (y := { w with alarm := W (s.clock + w.wait) }) rfl).trans (row_eqs (by rw [show (fwdS s 0 w).paths = s.paths.set 0 (alarm s w) from rfl, alarm_yes c3]; rfl)))) | (simp; done) | (simp; rfl))))
    case neg =>
      refine hif_false ?_ ?_
      · simpa using c3
      conv => whnf
      repeat (refine hcut.go ?_; conv => whnf)
      rw [show (fwdS s 0 w) = { s with forward := false } by { unfold fwdS; rw [alarm_no c3, set_self ha] }]
      (exact hfin_P [(1000000, some 1000000), (1000001, some 1000001), (1000002, some 1000002), (1000003, some 1000003), (1000004, some 1000004), (1000005, some 1000005), (1000006, some 1000006), (1000007, some 1000007), (0, some 62), (1, none)])
  case inr =>
    have pc := Paths.spec_choose s.paths (by omega)
    rw [hch, hc0] at pc
    obtain ⟨w, ha⟩ : ∃ w, s.paths[1]? = some w := ⟨_, List.getElem?_eq_getElem (by omega)⟩
    refine funOK_of mixed Try.func60 (by decide) [1000000, 1000001, 1000002, 1000003, 1000004, 1000005, 1000006, 1000007] lk_pins ?_
    conv => whnf
    ((refine hcall_give [] [(1000000, 1000003)] [(0, 17)] ?_; (conv => whnf); refine ⟨_, _, _, _, Sco.spec_pointG s.out s.cum h3, ⟨rfl, rfl, rfl, ⟨⟨rfl, _, rfl, .inl ⟨rfl, rfl⟩⟩, trivial⟩, ⟨⟨rfl, rfl⟩, trivial⟩, rfl, rfl, rfl⟩, ?_⟩; conv => whnf); try (refine hcut.go ?_; conv => whnf))
    ((refine hdraw_intro ?_ ?_; (· kernel_rfl); conv => whnf); try (refine hcut.go ?_; conv => whnf))
    by_cases c1 : s.forward = false
    · rw [fwd_no (.inl c1)]
      refine hif_true ?_ ?_
      · simp [c1]
      conv => whnf
      repeat (refine hcut.go ?_; conv => whnf)
      (exact hfin_P [(1000000, some 1000000), (1000001, some 1000001), (1000002, some 1000002), (1000003, some 1000003), (1000004, some 1000004), (1000005, some 1000005), (1000006, some 1000006), (1000007, some 1000007), (0, none), (1, none)])
    by_cases c2 : (Sco.point s.out s.cum).1 = s.cum
    · rw [fwd_no (.inr c2)]
      refine hif_false ?_ ?_
      · simp [c1]
      conv => whnf
      refine hif_true ?_ ?_
      · simp [c2]
      conv => whnf
      repeat (refine hcut.go ?_; conv => whnf)
      (exact hfin_P [(1000000, some 1000000), (1000001, some 1000001), (1000002, some 1000002), (1000003, some 1000003), (1000004, some 1000004), (1000005, some 1000005), (1000006, some 1000006), (1000007, some 1000007), (0, none), (1, none)])
    have hfy := fwd_yes (o := [[], []]) (l := []) (w := w) (by rintro (h | h); exact c1 h; exact c2 h) (by rw [hc0]; exact ha) (by rw [hc0]; rfl)
    rw [hfy, hc0]
    refine hif_false ?_ ?_
    · simp [c1]
    conv => whnf
    refine hif_false ?_ ?_
    · simp [c2]
    conv => whnf
    repeat (refine hcut.go ?_; conv => whnf)
    ((refine hcall_lend ?_; (conv => whnf); refine ⟨_, pc, rfl, ?_⟩; conv => whnf); try (refine hcut.go ?_; conv => whnf))
    refine ⟨1, rfl, by decide, ?_⟩; conv => whnf
    ((refine hcall_lend ?_; (conv => whnf); refine ⟨_, spec_tag _, rfl, ?_⟩; conv => whnf); try (refine hcut.go ?_; conv => whnf))
    refine hobl_intro (c := (1 : Nat) * 128 ≤ 140737488355328) (by decide) ?_; conv => whnf
    refine ⟨1, rfl, by decide, ?_⟩; conv => whnf
    ((refine hdraw_intro ?_ ?_; (· kernel_rfl); conv => whnf); try (refine hcut.go ?_; conv => whnf))
    refine hobl_intro (by simp; omega) ?_; conv => whnf
    refine hrow_q ha rfl ?_; conv => whnf
    by_cases c3 : w.alarm = 0
    case pos =>
      refine hif_true ?_ ?_
      · simpa using c3
      conv => whnf
      repeat (refine hcut.go ?_; conv => whnf)
      refine hrow_q ha rfl ?_; conv => whnf
      ((first | refine hwrap_W ?_ | refine hwrap_raw ?_); (conv => whnf); try (refine hcut.go ?_; conv => whnf))
      refine hrow_q ha rfl ?_; conv => whnf
      ((refine hdraw_intro ?_ ?_; (· kernel_rfl); conv => whnf); try (refine hcut.go ?_; conv => whnf))
      (exact hfin_P [(1000000, some 1000000), (1000001, some 1000001), (1000002, some 1000002), (1000003, some 1000003), (1000004, some 1000004), (1000005, some 1000005), (1000006, some 1000006), (1000007, some 1000007), (1, some 62), (0, none)] (by first | rfl | ((exact (set_row (f := Path.row) (y := { w with alarm := W (s.clock + w.wait) }) rfl).trans (row_eqs (by rw [show (fwdS s 1 w).paths = s.paths.set 1 (alarm s w) from rfl, alarm_yes c3]; rfl)))) ) (by repeat' (first | exact trivial | exact rfl | exact .inl rfl | exact .inr rfl | (refine ⟨⟨rfl, .inl ⟨_, rfl, ?_⟩⟩, ?_⟩) | (refine ⟨⟨rfl, _, rfl, ?_⟩, ?_⟩) | (refine ⟨⟨rfl, .inr ⟨rfl, ?_⟩⟩, ?_⟩) | (refine ⟨rfl, ?_⟩) | ((exact (set_row (f := Path.row) (y := { w with alarm := W (s.clock + w.wait) }) rfl).trans (row_eqs (by rw [show (fwdS s 1 w).paths = s.paths.set 1 (alarm s w) from rfl, alarm_yes c3]; rfl)))) | (simp; done) | (simp; rfl))))
    case neg =>
      refine hif_false ?_ ?_
      · simpa using c3
      conv => whnf
      repeat (refine hcut.go ?_; conv => whnf)
      rw [show (fwdS s 1 w) = { s with forward := false } by { unfold fwdS; rw [alarm_no c3, set_self ha] }]
      (exact hfin_P [(1000000, some 1000000), (1000001, some 1000001), (1000002, some 1000002), (1000003, some 1000003), (1000004, some 1000004), (1000005, some 1000005), (1000006, some 1000006), (1000007, some 1000007), (1, some 62), (0, none)])
end Snd
end Go.HL
