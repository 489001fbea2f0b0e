/- The sender: a tick. -/
import Derived.Test.YticmofoeecjnhaaSndO
namespace Go.HL
open Go.Proofs
namespace Snd
open Ser
set_option maxHeartbeats 8000000
set_option maxRecDepth 100000
set_option linter.unusedSimpArgs false
theorem late_sized {l : List Sent} (i : Int) (h : Sco.Sized l) : Sco.Sized (l.map (Sco.late i)) := ⟨by simpa using h.len, by
  have : Sco.total (l.map (Sco.late i)) = Sco.total l := by
    simp only [Sco.total, List.map_map]; congr 1; apply List.map_congr_left; intro x _; simp only [Function.comp, Sco.late]; split <;> rfl
  rw [this]; exact h.bytes⟩
def lateS (part : Int) (s : Sender) (i : Nat) (p : Path) : Sender := { s with out := s.out.map (Sco.late i), paths := s.paths.set i (Paths.late p part) }
theorem late1_skip {part : Int} {s : Sender} {i : Nat} {p : Path} (hp : s.paths[i]? = some p) (h : p.alarm = 0 ∨ s.clock < p.alarm) : late1 part s i = s := by
  simp only [late1, hp]; rw [if_pos h]
theorem late1_go {part : Int} {s : Sender} {i : Nat} {p : Path} (hp : s.paths[i]? = some p) (h : ¬ (p.alarm = 0 ∨ s.clock < p.alarm)) : late1 part s i = if (Sco.point (lateS part s i p).out s.cum).1 > s.cum then { lateS part s i p with forward := true } else lateS part s i p := by
  simp only [late1, hp]; rw [if_neg h]; rfl
abbrev tkF (s t : Sender) : List (Nat × HSlot) := (1, .live (.cells 62 (sndC s (Sch.qs s.queue) (ints s.sched.had) (Sco.sents s.out) (pths s.paths) (ints s.mids) (ints s.fates)))) :: (2, .live (.cells 62 zeroS)) :: (3, .live (.cells 62 (sndC t (.own 900) (.own 901) (.own 902) (.own 903) (.own 904) (.own 905)))) :: sndB t 900 901 902 903 904 905 []
theorem spec_ticko (s : Sender) (hs : Fit s) : FunOK Try.prog 29 [s.hv] noHeap (sndO (tick s) 0 1 2 3 4 5) (lk .free (sndB (tick s) 0 1 2 3 4 5 [])) := by
  have hs' := hs
  obtain ⟨h1, h2, h3, h4, h5, h6, h7⟩ := hs
  have hT : (List.range s.paths.length).foldl (late1 s.config.part) { s with clock := W (s.clock + 1) } = tick s := rfl
  generalize tick s = T at hT ⊢
  refine funOK_of mixed Try.func29 (by decide) [] (fun _ => .inl rfl) ?_
  conv => whnf
  ((refine hcall_own [(0, 20), (1, 21), (2, 22), (3, 23), (4, 24), (5, 25)]  ?_; (conv => whnf); refine ⟨_, _,  spec_own s hs', ⟨⟨⟨rfl, rfl⟩, ⟨⟨rfl, rfl⟩, ⟨⟨rfl, rfl⟩, ⟨⟨rfl, rfl⟩, ⟨⟨rfl, rfl⟩, ⟨⟨rfl, rfl⟩, trivial⟩⟩⟩⟩⟩⟩, rfl, rfl, rfl⟩, ?_⟩; conv => whnf); try (refine hcut.go ?_; conv => whnf))
  ((first | refine hwrap_W ?_ | refine hwrap_raw ?_); (conv => whnf); try (refine hcut.go ?_; conv => whnf))
  refine ⟨{ x : Nat × Sender // x.1 ≤ s.paths.length ∧ (List.range x.1).foldl (late1 s.config.part) { s with clock := W (s.clock + 1) } = x.2 ∧ Sco.Sized x.2.out ∧ x.2.paths.length = s.paths.length },
    fun | ⟨(i, t), _⟩ => hs 61 [(1, .ptr 1 0), (2, .ptr 2 0), (3, .ptr 3 0), (15, .own 903), (16, i64 s.paths.length), (17, i64 i)] (tkF s t), fun x => s.paths.length - x.1.1, ⟨(0, { s with clock := W (s.clock + 1) }), by dsimp only; omega, rfl, h3, rfl⟩, ?_, ?_⟩
  · exact (hle_Q [(1, some 1), (2, some 2), (3, some 3), (900, some 20), (901, some 21), (902, some 22), (903, some 23), (904, some 24), (905, some 25)])
  rintro ⟨⟨i, t⟩, k1, k2, k3, k4⟩
  dsimp only at k1 k2 k3 k4
  conv => whnf
  by_cases hi : i < s.paths.length
  case neg =>
    have hin : i = s.paths.length := by omega
    subst hin
    ((refine hif_F ?_; conv => whnf); try (refine hcut.go ?_; conv => whnf))
    rw [hT] at k2
    subst k2
    exact hfin_of [(0, some 900), (1, some 901), (2, some 902), (3, some 903), (4, some 904), (5, some 905)] rfl rfl trivial rfl rfl ⟨⟨rfl, .inl ⟨900, rfl, rfl⟩⟩, ⟨rfl, .inl ⟨901, rfl, rfl⟩⟩, ⟨rfl, .inl ⟨902, rfl, rfl⟩⟩, ⟨rfl, .inl ⟨903, rfl, rfl⟩⟩, ⟨rfl, .inl ⟨904, rfl, rfl⟩⟩, ⟨rfl, .inl ⟨905, rfl, rfl⟩⟩, trivial⟩
  case pos =>
    obtain ⟨p, hp⟩ : ∃ p, t.paths[i]? = some p := ⟨_, List.getElem?_eq_getElem (by omega)⟩
    have hst := range_snoc (late1 s.config.part) { s with clock := W (s.clock + 1) } i
    rw [k2] at hst
    ((refine hif_T ?_; conv => whnf); try (refine hcut.go ?_; conv => whnf))
    refine hobl_intro (by simp; omega) ?_; conv => whnf
    refine hrow_q hp rfl ?_; conv => whnf
    by_cases c1 : p.alarm = 0
    case pos =>
      rw [show (p.alarm == 0) = true from beq_iff_eq.2 c1]
      conv => whnf
      ((refine hwrap_F ?_; conv => whnf); try (refine hcut.go ?_; conv => whnf))
      exact ⟨⟨(i + 1, t), by dsimp only; omega, by rw [hst, late1_skip hp (.inl c1)], k3, k4⟩, (hle_Q [(1, some 1), (2, some 2), (3, some 3), (900, some 900), (901, some 901), (902, some 902), (903, some 903), (904, some 904), (905, some 905)] (by repeat' (first | exact trivial | exact rfl | (refine ⟨⟨rfl, ?_⟩, ?_⟩) | (refine ⟨rfl, ?_⟩) | ((exact i64_eq (by (first | omega | (simp only [List.length_map, List.length_append, List.length_take, List.length_drop, List.length_cons, List.length_nil] <;> omega) | (simp <;> omega))))) | (simp; done) | (simp; rfl))) (by repeat' (first | exact trivial | exact rfl | exact .inl rfl | exact .inr rfl | (refine ⟨⟨rfl, .inl ⟨_, rfl, ?_⟩⟩, ?_⟩) | (refine ⟨⟨rfl, _, rfl, ?_⟩, ?_⟩) | (refine ⟨⟨rfl, .inr ⟨rfl, ?_⟩⟩, ?_⟩) | (refine ⟨rfl, ?_⟩) | ((exact i64_eq (by (first | omega | (simp only [List.length_map, List.length_append, List.length_take, List.length_drop, List.length_cons, List.length_nil] <;> omega) | (simp <;> omega))))) | (simp; done) | (simp; rfl)))), by dsimp only; omega⟩
    case neg =>
      rw [show (p.alarm == 0) = false from beq_eq_false_iff_ne.2 c1]
      refine hif_false rfl ?_; conv => whnf
      repeat (refine hcut.go ?_; conv => whnf)
      by_cases c2 : t.clock < p.alarm
      case pos =>
        rw [show decide (t.clock < p.alarm) = true from decide_eq_true c2]
        conv => whnf
        ((refine hwrap_F ?_; conv => whnf); try (refine hcut.go ?_; conv => whnf))
        exact ⟨⟨(i + 1, t), by dsimp only; omega, by rw [hst, late1_skip hp (.inr c2)], k3, k4⟩, (hle_Q [(1, some 1), (2, some 2), (3, some 3), (900, some 900), (901, some 901), (902, some 902), (903, some 903), (904, some 904), (905, some 905)] (by repeat' (first | exact trivial | exact rfl | (refine ⟨⟨rfl, ?_⟩, ?_⟩) | (refine ⟨rfl, ?_⟩) | ((exact i64_eq (by (first | omega | (simp only [List.length_map, List.length_append, List.length_take, List.length_drop, List.length_cons, List.length_nil] <;> omega) | (simp <;> omega))))) | (simp; done) | (simp; rfl))) (by repeat' (first | exact trivial | exact rfl | exact .inl rfl | exact .inr rfl | (refine ⟨⟨rfl, .inl ⟨_, rfl, ?_⟩⟩, ?_⟩) | (refine ⟨⟨rfl, _, rfl, ?_⟩, ?_⟩) | (refine ⟨⟨rfl, .inr ⟨rfl, ?_⟩⟩, ?_⟩) | (refine ⟨rfl, ?_⟩) | ((exact i64_eq (by (first | omega | (simp only [List.length_map, List.length_append, List.length_take, List.length_drop, List.length_cons, List.length_nil] <;> omega) | (simp <;> omega))))) | (simp; done) | (simp; rfl)))), by dsimp only; omega⟩
      case neg =>
        rw [show decide (t.clock < p.alarm) = false from decide_eq_false c2]
        conv => whnf
        have hgo := late1_go (part := s.config.part) hp (fun h => h.elim c1 c2)
        ((refine hcall_own [(0, 35)]  ?_; (conv => whnf); refine ⟨_, _,  Sco.spec_late t.out i k3, ⟨⟨⟨rfl, rfl⟩, trivial⟩, rfl, rfl, rfl⟩, ?_⟩; conv => whnf); try (refine hcut.go ?_; conv => whnf))
        ((refine hcall_lend ?_; (conv => whnf); refine ⟨_, Paths.spec_late p s.config.part, rfl, ?_⟩; conv => whnf); try (refine hcut.go ?_; conv => whnf))
        refine hobl_intro ⟨by omega, by rw [List.length_map]; omega⟩ ?_; conv => whnf
        refine hrow_q hp rfl ?_; conv => whnf
        ((refine hdraw_intro ?_ ?_; (· kernel_rfl); conv => whnf); try (refine hcut.go ?_; conv => whnf))
        ((refine hcall_give [] [(1000000, 35)] [(0, 51)] ?_; (conv => whnf); refine ⟨_, _, _, _, Sco.spec_pointG (t.out.map (Sco.late i)) t.cum (by rw [List.length_map]; exact k3.len), ⟨rfl, rfl, rfl, ⟨⟨rfl, _, rfl, .inl ⟨rfl, rfl⟩⟩, trivial⟩, ⟨⟨rfl, rfl⟩, trivial⟩, rfl, rfl, rfl⟩, ?_⟩; conv => whnf); try (refine hcut.go ?_; conv => whnf))
        have hsz := late_sized i k3
        by_cases c3 : (Sco.point (t.out.map (Sco.late i)) t.cum).1 > t.cum
        case pos =>
          rw [if_pos (show (Sco.point (lateS s.config.part t i p).out t.cum).1 > t.cum from c3)] at hgo
          refine hif_true ?_ ?_
          · simpa using c3
          conv => whnf
          ((refine hwrap_F ?_; conv => whnf); try (refine hcut.go ?_; conv => whnf))
          exact ⟨⟨(i + 1, { lateS s.config.part t i p with forward := true }), by dsimp only; omega, by rw [hst, hgo], hsz, by show (t.paths.set i _).length = _; rw [List.length_set]; exact k4⟩, (hle_Q [(1, some 1), (2, some 2), (3, some 3), (900, some 900), (901, some 901), (902, some 35), (903, some 903), (904, some 904), (905, some 905)] (by repeat' (first | exact trivial | exact rfl | (refine ⟨⟨rfl, ?_⟩, ?_⟩) | (refine ⟨rfl, ?_⟩) | ((exact i64_eq (by (first | omega | (simp only [List.length_map, List.length_append, List.length_take, List.length_drop, List.length_cons, List.length_nil] <;> omega) | (simp <;> omega))))) | ((exact (set_row rfl).symm)) | ((exact set_row rfl)) | (simp; done) | (simp; rfl))) (by repeat' (first | exact trivial | exact rfl | exact .inl rfl | exact .inr rfl | (refine ⟨⟨rfl, .inl ⟨_, rfl, ?_⟩⟩, ?_⟩) | (refine ⟨⟨rfl, _, rfl, ?_⟩, ?_⟩) | (refine ⟨⟨rfl, .inr ⟨rfl, ?_⟩⟩, ?_⟩) | (refine ⟨rfl, ?_⟩) | ((exact i64_eq (by (first | omega | (simp only [List.length_map, List.length_append, List.length_take, List.length_drop, List.length_cons, List.length_nil] <;> omega) | (simp <;> omega))))) | ((exact (set_row rfl).symm)) | ((exact set_row rfl)) | (simp; done) | (simp; rfl)))), by dsimp only; omega⟩
        case neg =>
          rw [if_neg (show ¬ (Sco.point (lateS s.config.part t i p).out t.cum).1 > t.cum from c3)] at hgo
          refine hif_false ?_ ?_
          · simpa using c3
          conv => whnf
          ((refine hwrap_F ?_; conv => whnf); try (refine hcut.go ?_; conv => whnf))
          exact ⟨⟨(i + 1, lateS s.config.part t i p), by dsimp only; omega, by rw [hst, hgo], hsz, by show (t.paths.set i _).length = _; rw [List.length_set]; exact k4⟩, (hle_Q [(1, some 1), (2, some 2), (3, some 3), (900, some 900), (901, some 901), (902, some 35), (903, some 903), (904, some 904), (905, some 905)] (by repeat' (first | exact trivial | exact rfl | (refine ⟨⟨rfl, ?_⟩, ?_⟩) | (refine ⟨rfl, ?_⟩) | ((exact i64_eq (by (first | omega | (simp only [List.length_map, List.length_append, List.length_take, List.length_drop, List.length_cons, List.length_nil] <;> omega) | (simp <;> omega))))) | ((exact (set_row rfl).symm)) | ((exact set_row rfl)) | (simp; done) | (simp; rfl))) (by repeat' (first | exact trivial | exact rfl | exact .inl rfl | exact .inr rfl | (refine ⟨⟨rfl, .inl ⟨_, rfl, ?_⟩⟩, ?_⟩) | (refine ⟨⟨rfl, _, rfl, ?_⟩, ?_⟩) | (refine ⟨⟨rfl, .inr ⟨rfl, ?_⟩⟩, ?_⟩) | (refine ⟨rfl, ?_⟩) | ((exact i64_eq (by (first | omega | (simp only [List.length_map, List.length_append, List.length_take, List.length_drop, List.length_cons, List.length_nil] <;> omega) | (simp <;> omega))))) | ((exact (set_row rfl).symm)) | ((exact set_row rfl)) | (simp; done) | (simp; rfl)))), by dsimp only; omega⟩
theorem spec_tick (s : Sender) (hs : Fit s) : FunOK Try.prog 29 [s.hv] noHeap (tick s).hv noHeap := by
  refine funOK_freeze Try.func29 (spec_ticko s hs) ?_
  generalize tick s = d
  conv => whnf
  rfl
end Snd
end Go.HL
