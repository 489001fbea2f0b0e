/- The sender: what is lost goes again. -/
import Derived.Test.YticmofoeecjnhaaSndH
namespace Go.HL
open Go.Proofs
namespace Snd
open Ser
set_option maxHeartbeats 8000000
set_option maxRecDepth 100000
set_option linter.unusedSimpArgs false
theorem range_snoc {α : Type} (f : α → Nat → α) (p : α) (i : Nat) : (List.range (i + 1)).foldl f p = f ((List.range i).foldl f p) i := by
  rw [List.range_succ, List.foldl_append]; rfl
theorem again_no {s : Sender} {o : List (List Chunk)} {i c : Nat} {x : Sent} {w : Path} (hx : s.out[i]? = some x) (hw : s.paths[c]? = some w) (h : ¬ (x.state = 3 ∧ w.flight < w.window)) : again1 c ⟨s, o⟩ i = ⟨s, o⟩ := by
  simp only [again1, hx, opened, hw]
  rw [if_neg (by simpa using h)]
theorem again_yes {s : Sender} {o : List (List Chunk)} {i c : Nat} {x : Sent} {w : Path} {l : List Chunk} (hx : s.out[i]? = some x) (hw : s.paths[c]? = some w) (hl : o[c]? = some l) (h : x.state = 3 ∧ w.flight < w.window) :
    again1 c ⟨s, o⟩ i = ⟨flyS s i c x w, o.set c (l ++ [x.chunk])⟩ := by
  simp only [again1, hx, opened, hw]
  rw [if_pos (by simpa using h), fly_eq hx hw hl]
theorem spec_again1 (s : Sender) (a : List Chunk) (h3 : s.out.length < 2 ^ 28) (h4 : s.paths.length = 1) (ha : a.length < 2 ^ 28) :
    FunOK Try.prog 61 [.ptr 1000000 0] (lk .free (pH1 s a)) (.tup [])
      (lk .free (snG1 (again ⟨s, [a]⟩).s (nth0 (again ⟨s, [a]⟩).out) 1000001 1000002 1000003 1000004 1000005 1000006 1000007 0 [(1000008, .dead)])) := by
  obtain ⟨hch, hch2⟩ := choose_is (s := s) (by omega)
  have hc0 : choose s = 0 := by omega
  have pc := Paths.spec_choose s.paths (by omega)
  rw [hch, hc0] at pc
  have hag : again ⟨s, [a]⟩ = (List.range s.out.length).foldl (again1 0) ⟨s, [a]⟩ := by rw [again, hc0]
  generalize again ⟨s, [a]⟩ = G at hag ⊢
  refine funOK_of mixed Try.func61 (by decide) [1000000, 1000001, 1000002, 1000003, 1000004, 1000005, 1000006, 1000007, 1000008] lk_pins ?_
  conv => whnf
  ((refine hcall_lend ?_; (conv => whnf); refine ⟨_, pc, rfl, ?_⟩; conv => whnf); try (refine hcut.go ?_; conv => whnf))
  refine ⟨{ x : Nat × Sender × List Chunk // x.1 ≤ s.out.length ∧ (List.range x.1).foldl (again1 0) ⟨s, [a]⟩ = ⟨x.2.1, [x.2.2]⟩ ∧ x.2.1.out.length = s.out.length ∧ x.2.1.paths.length = s.paths.length ∧ x.2.2.length ≤ a.length + x.1 },
    fun | ⟨(i, t, a'), _⟩ => hsP [1000000, 1000001, 1000002, 1000003, 1000004, 1000005, 1000006, 1000007, 1000008] 51 [(0, .ptr 1000000 0), (2, i64 0), (15, i64 s.out.length), (16, i64 i)] (snG1 t a' 1000001 1000002 1000003 1000004 1000005 1000006 1000007 900 [(1000008, .dead)]), fun x => s.out.length - x.1.1, ⟨(0, s, a), by omega, rfl, rfl, rfl, by dsimp only; omega⟩, ?_, ?_⟩
  · exact (hle_P [(1000000, some 1000000), (1000001, some 1000001), (1000002, some 1000002), (1000003, some 1000003), (1000004, some 1000004), (1000005, some 1000005), (1000006, some 1000006), (1000007, some 1000007), (1000008, some 1000008), (900, some 1000008)] (by repeat' (first | exact trivial | exact rfl | (refine ⟨⟨rfl, ?_⟩, ?_⟩) | (refine ⟨rfl, ?_⟩) | ((exact i64_eq (by (first | omega | (simp only [List.length_map, List.length_append, List.length_take, List.length_drop, List.length_cons, List.length_nil] <;> omega) | (simp <;> omega))))) | (simp; done) | (simp; rfl))) (by repeat' (first | exact trivial | exact rfl | exact .inl rfl | exact .inr rfl | (refine ⟨⟨rfl, .inl ⟨_, rfl, ?_⟩⟩, ?_⟩) | (refine ⟨⟨rfl, _, rfl, ?_⟩, ?_⟩) | (refine ⟨⟨rfl, .inr ⟨rfl, ?_⟩⟩, ?_⟩) | (refine ⟨rfl, ?_⟩) | ((exact i64_eq (by (first | omega | (simp only [List.length_map, List.length_append, List.length_take, List.length_drop, List.length_cons, List.length_nil] <;> omega) | (simp <;> omega))))) | (simp; done) | (simp; rfl))))
  rintro ⟨⟨i, t, a'⟩, k1, k2, k3, k4, k5⟩
  dsimp only at k1 k2 k3 k4 k5
  conv => whnf
  by_cases hi : i < s.out.length
  case pos =>
    obtain ⟨x, hx⟩ : ∃ x, t.out[i]? = some x := ⟨_, List.getElem?_eq_getElem (by omega)⟩
    obtain ⟨w, hw⟩ : ∃ w, t.paths[0]? = some w := ⟨_, List.getElem?_eq_getElem (by omega)⟩
    have hst := range_snoc (again1 0) ⟨s, [a]⟩ i
    rw [k2] at hst
    have hno := again_no (o := [a']) (c := 0) hx hw
    have hyes := again_yes (o := [a']) (c := 0) (l := a') hx hw rfl
    ((refine hif_T ?_; conv => whnf); try (refine hcut.go ?_; conv => whnf))
    ((refine hobl_O ?_; conv => whnf); try (refine hcut.go ?_; conv => whnf))
    refine hrow_q hx rfl ?_; conv => whnf
    by_cases d1 : x.state = 3
    case neg =>
      refine hif_false ?_ ?_
      · simpa using d1
      conv => whnf
      repeat (refine hcut.go ?_; conv => whnf)
      ((refine hwrap_F ?_; conv => whnf); try (refine hcut.go ?_; conv => whnf))
      exact ⟨⟨(i + 1, t, a'), by dsimp only; omega, by rw [hst, hno fun h => d1 h.1], k3, k4, by dsimp only; omega⟩, (hle_P [(1000000, some 1000000), (1000001, some 1000001), (1000002, some 1000002), (1000003, some 1000003), (1000004, some 1000004), (1000005, some 1000005), (1000006, some 1000006), (1000007, some 1000007), (1000008, some 1000008), (900, some 900)] (by repeat' (first | exact trivial | exact rfl | (refine ⟨⟨rfl, ?_⟩, ?_⟩) | (refine ⟨rfl, ?_⟩) | ((exact i64_eq (by (first | omega | (simp only [List.length_map, List.length_append, List.length_take, List.length_drop, List.length_cons, List.length_nil] <;> omega) | (simp <;> omega))))) | (simp; done) | (simp; rfl))) (by repeat' (first | exact trivial | exact rfl | exact .inl rfl | exact .inr rfl | (refine ⟨⟨rfl, .inl ⟨_, rfl, ?_⟩⟩, ?_⟩) | (refine ⟨⟨rfl, _, rfl, ?_⟩, ?_⟩) | (refine ⟨⟨rfl, .inr ⟨rfl, ?_⟩⟩, ?_⟩) | (refine ⟨rfl, ?_⟩) | ((exact i64_eq (by (first | omega | (simp only [List.length_map, List.length_append, List.length_take, List.length_drop, List.length_cons, List.length_nil] <;> omega) | (simp <;> omega))))) | (simp; done) | (simp; rfl)))), by dsimp only; omega⟩
    refine hif_true ?_ ?_
    · simpa using d1
    conv => whnf
    refine hobl_intro (by simp; omega) ?_; conv => whnf
    refine hrow_q hw rfl ?_; conv => whnf
    ((refine hcall_lend ?_; (conv => whnf); refine ⟨_, Paths.spec_open w, rfl, ?_⟩; conv => whnf); try (refine hcut.go ?_; conv => whnf))
    by_cases d2 : w.flight < w.window
    case neg =>
      refine hif_false ?_ ?_
      · simpa using d2
      conv => whnf
      repeat (refine hcut.go ?_; conv => whnf)
      ((refine hwrap_F ?_; conv => whnf); try (refine hcut.go ?_; conv => whnf))
      exact ⟨⟨(i + 1, t, a'), by dsimp only; omega, by rw [hst, hno fun h => d2 h.2], k3, k4, by dsimp only; omega⟩, (hle_P [(1000000, some 1000000), (1000001, some 1000001), (1000002, some 1000002), (1000003, some 1000003), (1000004, some 1000004), (1000005, some 1000005), (1000006, some 1000006), (1000007, some 1000007), (1000008, some 1000008), (900, some 900)] (by repeat' (first | exact trivial | exact rfl | (refine ⟨⟨rfl, ?_⟩, ?_⟩) | (refine ⟨rfl, ?_⟩) | ((exact i64_eq (by (first | omega | (simp only [List.length_map, List.length_append, List.length_take, List.length_drop, List.length_cons, List.length_nil] <;> omega) | (simp <;> omega))))) | (simp; done) | (simp; rfl))) (by repeat' (first | exact trivial | exact rfl | exact .inl rfl | exact .inr rfl | (refine ⟨⟨rfl, .inl ⟨_, rfl, ?_⟩⟩, ?_⟩) | (refine ⟨⟨rfl, _, rfl, ?_⟩, ?_⟩) | (refine ⟨⟨rfl, .inr ⟨rfl, ?_⟩⟩, ?_⟩) | (refine ⟨rfl, ?_⟩) | ((exact i64_eq (by (first | omega | (simp only [List.length_map, List.length_append, List.length_take, List.length_drop, List.length_cons, List.length_nil] <;> omega) | (simp <;> omega))))) | (simp; done) | (simp; rfl)))), by dsimp only; omega⟩
    refine hif_true ?_ ?_
    · simpa using d2
    conv => whnf
    repeat (refine hcut.go ?_; conv => whnf)
    refine hobl_intro (by simp; omega) ?_; conv => whnf
    ((refine hcall_give [] [(1000000, 1000000), (1000001, 1000001), (1000002, 1000002), (1000003, 1000003), (1000004, 1000004), (1000005, 1000005), (1000006, 1000006), (1000007, 1000007), (1000008, 900)] [(0, 920)] ?_; (conv => whnf); refine ⟨_, _, _, _, spec_fly1_0 t a' i x w hx hw (by omega), ⟨rfl, rfl, rfl, ⟨⟨rfl, _, rfl, .inl ⟨rfl, rfl⟩⟩, ⟨⟨rfl, _, rfl, .inl ⟨rfl, rfl⟩⟩, ⟨⟨rfl, _, rfl, .inl ⟨rfl, rfl⟩⟩, ⟨⟨rfl, _, rfl, .inl ⟨rfl, rfl⟩⟩, ⟨⟨rfl, _, rfl, .inl ⟨rfl, rfl⟩⟩, ⟨⟨rfl, _, rfl, .inl ⟨rfl, rfl⟩⟩, ⟨⟨rfl, _, rfl, .inl ⟨rfl, rfl⟩⟩, ⟨⟨rfl, _, rfl, .inl ⟨rfl, rfl⟩⟩, ⟨⟨rfl, _, rfl, .inl ⟨rfl, rfl⟩⟩, trivial⟩⟩⟩⟩⟩⟩⟩⟩⟩, ⟨⟨rfl, rfl⟩, trivial⟩, rfl, rfl, rfl⟩, ?_⟩; conv => whnf); try (refine hcut.go ?_; conv => whnf))
    ((refine hwrap_F ?_; conv => whnf); try (refine hcut.go ?_; conv => whnf))
    exact ⟨⟨(i + 1, flyS t i 0 x w, a' ++ [x.chunk]), by dsimp only; omega, by rw [hst, hyes ⟨d1, d2⟩]; rfl, by show (t.out.set i _).length = _; rw [List.length_set]; exact k3, by show (t.paths.set 0 _).length = _; rw [List.length_set]; exact k4, by simp; omega⟩, (hle_P [(1000000, some 1000000), (1000001, some 1000001), (1000002, some 1000002), (1000003, some 1000003), (1000004, some 1000004), (1000005, some 1000005), (1000006, some 1000006), (1000007, some 1000007), (1000008, some 1000008), (900, some 920)] (by repeat' (first | exact trivial | exact rfl | (refine ⟨⟨rfl, ?_⟩, ?_⟩) | (refine ⟨rfl, ?_⟩) | ((exact i64_eq (by (first | omega | (simp only [List.length_map, List.length_append, List.length_take, List.length_drop, List.length_cons, List.length_nil] <;> omega) | (simp <;> omega))))) | (simp; done) | (simp; rfl))) (by repeat' (first | exact trivial | exact rfl | exact .inl rfl | exact .inr rfl | (refine ⟨⟨rfl, .inl ⟨_, rfl, ?_⟩⟩, ?_⟩) | (refine ⟨⟨rfl, _, rfl, ?_⟩, ?_⟩) | (refine ⟨⟨rfl, .inr ⟨rfl, ?_⟩⟩, ?_⟩) | (refine ⟨rfl, ?_⟩) | ((exact i64_eq (by (first | omega | (simp only [List.length_map, List.length_append, List.length_take, List.length_drop, List.length_cons, List.length_nil] <;> omega) | (simp <;> omega))))) | (simp; done) | (simp; rfl)))), by dsimp only; omega⟩
  case neg =>
    have hin : i = s.out.length := by omega
    subst hin
    ((refine hif_F ?_; conv => whnf); try (refine hcut.go ?_; conv => whnf))
    rw [k2] at hag
    subst hag
    (exact hfin_P [(1000000, some 1000000), (1000001, some 1000001), (1000002, some 1000002), (1000003, some 1000003), (1000004, some 1000004), (1000005, some 1000005), (1000006, some 1000006), (1000007, some 1000007), (1000008, some 1000008), (0, some 900)])
theorem spec_again2 (s : Sender) (a b : List Chunk) (h3 : s.out.length < 2 ^ 28) (h4 : s.paths.length = 2) (ha : a.length + b.length < 2 ^ 28) :
    FunOK Try.prog 61 [.ptr 1000000 0] (lk .free (pH2 s a b)) (.tup [])
      (lk .free (snG2 (again ⟨s, [a, b]⟩).s (nth0 (again ⟨s, [a, b]⟩).out) (nth1 (again ⟨s, [a, b]⟩).out) 1000001 1000002 1000003 1000004 1000005 1000006 1000007 0 1 [(1000008, .dead), (1000009, .dead)])) := by
  obtain ⟨hch, hch2⟩ := choose_is (s := s) (by omega)
  have hc01 : choose s = 0 ∨ choose s = 1 := by omega
  rcases hc01 with hc0 | hc0
  case inl =>
    have pc := Paths.spec_choose s.paths (by omega)
    rw [hch, hc0] at pc
    have hag : again ⟨s, [a, b]⟩ = (List.range s.out.length).foldl (again1 0) ⟨s, [a, b]⟩ := by rw [again, hc0]
    generalize again ⟨s, [a, b]⟩ = G at hag ⊢
    refine funOK_of mixed Try.func61 (by decide) [1000000, 1000001, 1000002, 1000003, 1000004, 1000005, 1000006, 1000007, 1000008, 1000009] lk_pins ?_
    conv => whnf
    ((refine hcall_lend ?_; (conv => whnf); refine ⟨_, pc, rfl, ?_⟩; conv => whnf); try (refine hcut.go ?_; conv => whnf))
    refine ⟨{ x : Nat × Sender × List Chunk × List Chunk // x.1 ≤ s.out.length ∧ (List.range x.1).foldl (again1 0) ⟨s, [a, b]⟩ = ⟨x.2.1, [x.2.2.1, x.2.2.2]⟩ ∧ x.2.1.out.length = s.out.length ∧ x.2.1.paths.length = s.paths.length ∧ x.2.2.1.length + x.2.2.2.length ≤ a.length + b.length + x.1 },
      fun | ⟨(i, t, a', b'), _⟩ => hsP [1000000, 1000001, 1000002, 1000003, 1000004, 1000005, 1000006, 1000007, 1000008, 1000009] 51 [(0, .ptr 1000000 0), (2, i64 0), (15, i64 s.out.length), (16, i64 i)] (snG2 t a' b' 1000001 1000002 1000003 1000004 1000005 1000006 1000007 900 901 [(1000008, .dead), (1000009, .dead)]), fun x => s.out.length - x.1.1, ⟨(0, s, a, b), by omega, rfl, rfl, rfl, by dsimp only; omega⟩, ?_, ?_⟩
    · exact (hle_P [(1000000, some 1000000), (1000001, some 1000001), (1000002, some 1000002), (1000003, some 1000003), (1000004, some 1000004), (1000005, some 1000005), (1000006, some 1000006), (1000007, some 1000007), (1000008, some 1000008), (1000009, some 1000009), (900, some 1000008), (901, some 1000009)] (by repeat' (first | exact trivial | exact rfl | (refine ⟨⟨rfl, ?_⟩, ?_⟩) | (refine ⟨rfl, ?_⟩) | ((exact i64_eq (by (first | omega | (simp only [List.length_map, List.length_append, List.length_take, List.length_drop, List.length_cons, List.length_nil] <;> omega) | (simp <;> omega))))) | (simp; done) | (simp; rfl))) (by repeat' (first | exact trivial | exact rfl | exact .inl rfl | exact .inr rfl | (refine ⟨⟨rfl, .inl ⟨_, rfl, ?_⟩⟩, ?_⟩) | (refine ⟨⟨rfl, _, rfl, ?_⟩, ?_⟩) | (refine ⟨⟨rfl, .inr ⟨rfl, ?_⟩⟩, ?_⟩) | (refine ⟨rfl, ?_⟩) | ((exact i64_eq (by (first | omega | (simp only [List.length_map, List.length_append, List.length_take, List.length_drop, List.length_cons, List.length_nil] <;> omega) | (simp <;> omega))))) | (simp; done) | (simp; rfl))))
    rintro ⟨⟨i, t, a', b'⟩, k1, k2, k3, k4, k5⟩
    dsimp only at k1 k2 k3 k4 k5
    conv => whnf
    by_cases hi : i < s.out.length
    case pos =>
      obtain ⟨x, hx⟩ : ∃ x, t.out[i]? = some x := ⟨_, List.getElem?_eq_getElem (by omega)⟩
      obtain ⟨w, hw⟩ : ∃ w, t.paths[0]? = some w := ⟨_, List.getElem?_eq_getElem (by omega)⟩
      have hst := range_snoc (again1 0) ⟨s, [a, b]⟩ i
      rw [k2] at hst
      have hno := again_no (o := [a', b']) (c := 0) hx hw
      have hyes := again_yes (o := [a', b']) (c := 0) (l := a') hx hw rfl
      ((refine hif_T ?_; conv => whnf); try (refine hcut.go ?_; conv => whnf))
      ((refine hobl_O ?_; conv => whnf); try (refine hcut.go ?_; conv => whnf))
      refine hrow_q hx rfl ?_; conv => whnf
      by_cases d1 : x.state = 3
      case neg =>
        refine hif_false ?_ ?_
        · simpa using d1
        conv => whnf
        repeat (refine hcut.go ?_; conv => whnf)
        ((refine hwrap_F ?_; conv => whnf); try (refine hcut.go ?_; conv => whnf))
        exact ⟨⟨(i + 1, t, a', b'), by dsimp only; omega, by rw [hst, hno fun h => d1 h.1], k3, k4, by dsimp only; omega⟩, (hle_P [(1000000, some 1000000), (1000001, some 1000001), (1000002, some 1000002), (1000003, some 1000003), (1000004, some 1000004), (1000005, some 1000005), (1000006, some 1000006), (1000007, some 1000007), (1000008, some 1000008), (1000009, some 1000009), (900, some 900), (901, some 901)] (by repeat' (first | exact trivial | exact rfl | (refine ⟨⟨rfl, ?_⟩, ?_⟩) | (refine ⟨rfl, ?_⟩) | ((exact i64_eq (by (first | omega | (simp only [List.length_map, List.length_append, List.length_take, List.length_drop, List.length_cons, List.length_nil] <;> omega) | (simp <;> omega))))) | (simp; done) | (simp; rfl))) (by repeat' (first | exact trivial | exact rfl | exact .inl rfl | exact .inr rfl | (refine ⟨⟨rfl, .inl ⟨_, rfl, ?_⟩⟩, ?_⟩) | (refine ⟨⟨rfl, _, rfl, ?_⟩, ?_⟩) | (refine ⟨⟨rfl, .inr ⟨rfl, ?_⟩⟩, ?_⟩) | (refine ⟨rfl, ?_⟩) | ((exact i64_eq (by (first | omega | (simp only [List.length_map, List.length_append, List.length_take, List.length_drop, List.length_cons, List.length_nil] <;> omega) | (simp <;> omega))))) | (simp; done) | (simp; rfl)))), by dsimp only; omega⟩
      refine hif_true ?_ ?_
      · simpa using d1
      conv => whnf
      refine hobl_intro (by simp; omega) ?_; conv => whnf
      refine hrow_q hw rfl ?_; conv => whnf
      ((refine hcall_lend ?_; (conv => whnf); refine ⟨_, Paths.spec_open w, rfl, ?_⟩; conv => whnf); try (refine hcut.go ?_; conv => whnf))
      by_cases d2 : w.flight < w.window
      case neg =>
        refine hif_false ?_ ?_
        · simpa using d2
        conv => whnf
        repeat (refine hcut.go ?_; conv => whnf)
        ((refine hwrap_F ?_; conv => whnf); try (refine hcut.go ?_; conv => whnf))
        exact ⟨⟨(i + 1, t, a', b'), by dsimp only; omega, by rw [hst, hno fun h => d2 h.2], k3, k4, by dsimp only; omega⟩, (hle_P [(1000000, some 1000000), (1000001, some 1000001), (1000002, some 1000002), (1000003, some 1000003), (1000004, some 1000004), (1000005, some 1000005), (1000006, some 1000006), (1000007, some 1000007), (1000008, some 1000008), (1000009, some 1000009), (900, some 900), (901, some 901)] (by repeat' (first | exact trivial | exact rfl | (refine ⟨⟨rfl, ?_⟩, ?_⟩) | (refine ⟨rfl, ?_⟩) | ((exact i64_eq (by (first | omega | (simp only [List.length_map, List.length_append, List.length_take, List.length_drop, List.length_cons, List.length_nil] <;> omega) | (simp <;> omega))))) | (simp; done) | (simp; rfl))) (by repeat' (first | exact trivial | exact rfl | exact .inl rfl | exact .inr rfl | (refine ⟨⟨rfl, .inl ⟨_, rfl, ?_⟩⟩, ?_⟩) | (refine ⟨⟨rfl, _, rfl, ?_⟩, ?_⟩) | (refine ⟨⟨rfl, .inr ⟨rfl, ?_⟩⟩, ?_⟩) | (refine ⟨rfl, ?_⟩) | ((exact i64_eq (by (first | omega | (simp only [List.length_map, List.length_append, List.length_take, List.length_drop, List.length_cons, List.length_nil] <;> omega) | (simp <;> omega))))) | (simp; done) | (simp; rfl)))), by dsimp only; omega⟩
      refine hif_true ?_ ?_
      · simpa using d2
      conv => whnf
      repeat (refine hcut.go ?_; conv => whnf)
      refine hobl_intro (by simp; omega) ?_; conv => whnf
      ((refine hcall_give [] [(1000000, 1000000), (1000001, 1000001), (1000002, 1000002), (1000003, 1000003), (1000004, 1000004), (1000005, 1000005), (1000006, 1000006), (1000007, 1000007), (1000008, 900), (1000009, 901)] [(0, 920)] ?_; (conv => whnf); refine ⟨_, _, _, _, spec_fly2_0 t a' b' i x w hx hw (by omega), ⟨rfl, rfl, rfl, ⟨⟨rfl, _, rfl, .inl ⟨rfl, rfl⟩⟩, ⟨⟨rfl, _, rfl, .inl ⟨rfl, rfl⟩⟩, ⟨⟨rfl, _, rfl, .inl ⟨rfl, rfl⟩⟩, ⟨⟨rfl, _, rfl, .inl ⟨rfl, rfl⟩⟩, ⟨⟨rfl, _, rfl, .inl ⟨rfl, rfl⟩⟩, ⟨⟨rfl, _, rfl, .inl ⟨rfl, rfl⟩⟩, ⟨⟨rfl, _, rfl, .inl ⟨rfl, rfl⟩⟩, ⟨⟨rfl, _, rfl, .inl ⟨rfl, rfl⟩⟩, ⟨⟨rfl, _, rfl, .inl ⟨rfl, rfl⟩⟩, ⟨⟨rfl, _, rfl, .inl ⟨rfl, rfl⟩⟩, trivial⟩⟩⟩⟩⟩⟩⟩⟩⟩⟩, ⟨⟨rfl, rfl⟩, trivial⟩, rfl, rfl, rfl⟩, ?_⟩; conv => whnf); try (refine hcut.go ?_; conv => whnf))
      ((refine hwrap_F ?_; conv => whnf); try (refine hcut.go ?_; conv => whnf))
      exact ⟨⟨(i + 1, flyS t i 0 x w, a' ++ [x.chunk], b'), by dsimp only; omega, by rw [hst, hyes ⟨d1, d2⟩]; rfl, by show (t.out.set i _).length = _; rw [List.length_set]; exact k3, by show (t.paths.set 0 _).length = _; rw [List.length_set]; exact k4, by simp; omega⟩, (hle_P [(1000000, some 1000000), (1000001, some 1000001), (1000002, some 1000002), (1000003, some 1000003), (1000004, some 1000004), (1000005, some 1000005), (1000006, some 1000006), (1000007, some 1000007), (1000008, some 1000008), (1000009, some 1000009), (900, some 920), (901, some 901)] (by repeat' (first | exact trivial | exact rfl | (refine ⟨⟨rfl, ?_⟩, ?_⟩) | (refine ⟨rfl, ?_⟩) | ((exact i64_eq (by (first | omega | (simp only [List.length_map, List.length_append, List.length_take, List.length_drop, List.length_cons, List.length_nil] <;> omega) | (simp <;> omega))))) | (simp; done) | (simp; rfl))) (by repeat' (first | exact trivial | exact rfl | exact .inl rfl | exact .inr rfl | (refine ⟨⟨rfl, .inl ⟨_, rfl, ?_⟩⟩, ?_⟩) | (refine ⟨⟨rfl, _, rfl, ?_⟩, ?_⟩) | (refine ⟨⟨rfl, .inr ⟨rfl, ?_⟩⟩, ?_⟩) | (refine ⟨rfl, ?_⟩) | ((exact i64_eq (by (first | omega | (simp only [List.length_map, List.length_append, List.length_take, List.length_drop, List.length_cons, List.length_nil] <;> omega) | (simp <;> omega))))) | (simp; done) | (simp; rfl)))), by dsimp only; omega⟩
    case neg =>
      have hin : i = s.out.length := by omega
      subst hin
      ((refine hif_F ?_; conv => whnf); try (refine hcut.go ?_; conv => whnf))
      rw [k2] at hag
      subst hag
      (exact hfin_P [(1000000, some 1000000), (1000001, some 1000001), (1000002, some 1000002), (1000003, some 1000003), (1000004, some 1000004), (1000005, some 1000005), (1000006, some 1000006), (1000007, some 1000007), (1000008, some 1000008), (1000009, some 1000009), (0, some 900), (1, some 901)])
  case inr =>
    have pc := Paths.spec_choose s.paths (by omega)
    rw [hch, hc0] at pc
    have hag : again ⟨s, [a, b]⟩ = (List.range s.out.length).foldl (again1 1) ⟨s, [a, b]⟩ := by rw [again, hc0]
    generalize again ⟨s, [a, b]⟩ = G at hag ⊢
    refine funOK_of mixed Try.func61 (by decide) [1000000, 1000001, 1000002, 1000003, 1000004, 1000005, 1000006, 1000007, 1000008, 1000009] lk_pins ?_
    conv => whnf
    ((refine hcall_lend ?_; (conv => whnf); refine ⟨_, pc, rfl, ?_⟩; conv => whnf); try (refine hcut.go ?_; conv => whnf))
    refine ⟨{ x : Nat × Sender × List Chunk × List Chunk // x.1 ≤ s.out.length ∧ (List.range x.1).foldl (again1 1) ⟨s, [a, b]⟩ = ⟨x.2.1, [x.2.2.1, x.2.2.2]⟩ ∧ x.2.1.out.length = s.out.length ∧ x.2.1.paths.length = s.paths.length ∧ x.2.2.1.length + x.2.2.2.length ≤ a.length + b.length + x.1 },
      fun | ⟨(i, t, a', b'), _⟩ => hsP [1000000, 1000001, 1000002, 1000003, 1000004, 1000005, 1000006, 1000007, 1000008, 1000009] 51 [(0, .ptr 1000000 0), (2, i64 1), (15, i64 s.out.length), (16, i64 i)] (snG2 t a' b' 1000001 1000002 1000003 1000004 1000005 1000006 1000007 900 901 [(1000008, .dead), (1000009, .dead)]), fun x => s.out.length - x.1.1, ⟨(0, s, a, b), by omega, rfl, rfl, rfl, by dsimp only; omega⟩, ?_, ?_⟩
    · exact (hle_P [(1000000, some 1000000), (1000001, some 1000001), (1000002, some 1000002), (1000003, some 1000003), (1000004, some 1000004), (1000005, some 1000005), (1000006, some 1000006), (1000007, some 1000007), (1000008, some 1000008), (1000009, some 1000009), (900, some 1000008), (901, some 1000009)] (by repeat' (first | exact trivial | exact rfl | (refine ⟨⟨rfl, ?_⟩, ?_⟩) | (refine ⟨rfl, ?_⟩) | ((exact i64_eq (by (first | omega | (simp only [List.length_map, List.length_append, List.length_take, List.length_drop, List.length_cons, List.length_nil] <;> omega) | (simp <;> omega))))) | (simp; done) | (simp; rfl))) (by repeat' (first | exact trivial | exact rfl | exact .inl rfl | exact .inr rfl | (refine ⟨⟨rfl, .inl ⟨_, rfl, ?_⟩⟩, ?_⟩) | (refine ⟨⟨rfl, _, rfl, ?_⟩, ?_⟩) | (refine ⟨⟨rfl, .inr ⟨rfl, ?_⟩⟩, ?_⟩) | (refine ⟨rfl, ?_⟩) | ((exact i64_eq (by (first | omega | (simp only [List.length_map, List.length_append, List.length_take, List.length_drop, List.length_cons, List.length_nil] <;> omega) | (simp <;> omega))))) | (simp; done) | (simp; rfl))))
    rintro ⟨⟨i, t, a', b'⟩, k1, k2, k3, k4, k5⟩
    dsimp only at k1 k2 k3 k4 k5
    conv => whnf
    by_cases hi : i < s.out.length
    case pos =>
      obtain ⟨x, hx⟩ : ∃ x, t.out[i]? = some x := ⟨_, List.getElem?_eq_getElem (by omega)⟩
      obtain ⟨w, hw⟩ : ∃ w, t.paths[1]? = some w := ⟨_, List.getElem?_eq_getElem (by omega)⟩
      have hst := range_snoc (again1 1) ⟨s, [a, b]⟩ i
      rw [k2] at hst
      have hno := again_no (o := [a', b']) (c := 1) hx hw
      have hyes := again_yes (o := [a', b']) (c := 1) (l := b') hx hw rfl
      ((refine hif_T ?_; conv => whnf); try (refine hcut.go ?_; conv => whnf))
      ((refine hobl_O ?_; conv => whnf); try (refine hcut.go ?_; conv => whnf))
      refine hrow_q hx rfl ?_; conv => whnf
      by_cases d1 : x.state = 3
      case neg =>
        refine hif_false ?_ ?_
        · simpa using d1
        conv => whnf
        repeat (refine hcut.go ?_; conv => whnf)
        ((refine hwrap_F ?_; conv => whnf); try (refine hcut.go ?_; conv => whnf))
        exact ⟨⟨(i + 1, t, a', b'), by dsimp only; omega, by rw [hst, hno fun h => d1 h.1], k3, k4, by dsimp only; omega⟩, (hle_P [(1000000, some 1000000), (1000001, some 1000001), (1000002, some 1000002), (1000003, some 1000003), (1000004, some 1000004), (1000005, some 1000005), (1000006, some 1000006), (1000007, some 1000007), (1000008, some 1000008), (1000009, some 1000009), (900, some 900), (901, some 901)] (by repeat' (first | exact trivial | exact rfl | (refine ⟨⟨rfl, ?_⟩, ?_⟩) | (refine ⟨rfl, ?_⟩) | ((exact i64_eq (by (first | omega | (simp only [List.length_map, List.length_append, List.length_take, List.length_drop, List.length_cons, List.length_nil] <;> omega) | (simp <;> omega))))) | (simp; done) | (simp; rfl))) (by repeat' (first | exact trivial | exact rfl | exact .inl rfl | exact .inr rfl | (refine ⟨⟨rfl, .inl ⟨_, rfl, ?_⟩⟩, ?_⟩) | (refine ⟨⟨rfl, _, rfl, ?_⟩, ?_⟩) | (refine ⟨⟨rfl, .inr ⟨rfl, ?_⟩⟩, ?_⟩) | (refine ⟨rfl, ?_⟩) | ((exact i64_eq (by (first | omega | (simp only [List.length_map, List.length_append, List.length_take, List.length_drop, List.length_cons, List.length_nil] <;> omega) | (simp <;> omega))))) | (simp; done) | (simp; rfl)))), by dsimp only; omega⟩
      refine hif_true ?_ ?_
      · simpa using d1
      conv => whnf
      refine hobl_intro (by simp; omega) ?_; conv => whnf
      refine hrow_q hw rfl ?_; conv => whnf
      ((refine hcall_lend ?_; (conv => whnf); refine ⟨_, Paths.spec_open w, rfl, ?_⟩; conv => whnf); try (refine hcut.go ?_; conv => whnf))
      by_cases d2 : w.flight < w.window
      case neg =>
        refine hif_false ?_ ?_
        · simpa using d2
        conv => whnf
        repeat (refine hcut.go ?_; conv => whnf)
        ((refine hwrap_F ?_; conv => whnf); try (refine hcut.go ?_; conv => whnf))
        exact ⟨⟨(i + 1, t, a', b'), by dsimp only; omega, by rw [hst, hno fun h => d2 h.2], k3, k4, by dsimp only; omega⟩, (hle_P [(1000000, some 1000000), (1000001, some 1000001), (1000002, some 1000002), (1000003, some 1000003), (1000004, some 1000004), (1000005, some 1000005), (1000006, some 1000006), (1000007, some 1000007), (1000008, some 1000008), (1000009, some 1000009), (900, some 900), (901, some 901)] (by repeat' (first | exact trivial | exact rfl | (refine ⟨⟨rfl, ?_⟩, ?_⟩) | (refine ⟨rfl, ?_⟩) | ((exact i64_eq (by (first | omega | (simp only [List.length_map, List.length_append, List.length_take, List.length_drop, List.length_cons, List.length_nil] <;> omega) | (simp <;> omega))))) | (simp; done) | (simp; rfl))) (by repeat' (first | exact trivial | exact rfl | exact .inl rfl | exact .inr rfl | (refine ⟨⟨rfl, .inl ⟨_, rfl, ?_⟩⟩, ?_⟩) | (refine ⟨⟨rfl, _, rfl, ?_⟩, ?_⟩) | (refine ⟨⟨rfl, .inr ⟨rfl, ?_⟩⟩, ?_⟩) | (refine ⟨rfl, ?_⟩) | ((exact i64_eq (by (first | omega | (simp only [List.length_map, List.length_append, List.length_take, List.length_drop, List.length_cons, List.length_nil] <;> omega) | (simp <;> omega))))) | (simp; done) | (simp; rfl)))), by dsimp only; omega⟩
      refine hif_true ?_ ?_
      · simpa using d2
      conv => whnf
      repeat (refine hcut.go ?_; conv => whnf)
      refine hobl_intro (by simp; omega) ?_; conv => whnf
      ((refine hcall_give [] [(1000000, 1000000), (1000001, 1000001), (1000002, 1000002), (1000003, 1000003), (1000004, 1000004), (1000005, 1000005), (1000006, 1000006), (1000007, 1000007), (1000008, 900), (1000009, 901)] [(0, 920)] ?_; (conv => whnf); refine ⟨_, _, _, _, spec_fly2_1 t a' b' i x w hx hw (by omega), ⟨rfl, rfl, rfl, ⟨⟨rfl, _, rfl, .inl ⟨rfl, rfl⟩⟩, ⟨⟨rfl, _, rfl, .inl ⟨rfl, rfl⟩⟩, ⟨⟨rfl, _, rfl, .inl ⟨rfl, rfl⟩⟩, ⟨⟨rfl, _, rfl, .inl ⟨rfl, rfl⟩⟩, ⟨⟨rfl, _, rfl, .inl ⟨rfl, rfl⟩⟩, ⟨⟨rfl, _, rfl, .inl ⟨rfl, rfl⟩⟩, ⟨⟨rfl, _, rfl, .inl ⟨rfl, rfl⟩⟩, ⟨⟨rfl, _, rfl, .inl ⟨rfl, rfl⟩⟩, ⟨⟨rfl, _, rfl, .inl ⟨rfl, rfl⟩⟩, ⟨⟨rfl, _, rfl, .inl ⟨rfl, rfl⟩⟩, trivial⟩⟩⟩⟩⟩⟩⟩⟩⟩⟩, ⟨⟨rfl, rfl⟩, trivial⟩, rfl, rfl, rfl⟩, ?_⟩; conv => whnf); try (refine hcut.go ?_; conv => whnf))
      ((refine hwrap_F ?_; conv => whnf); try (refine hcut.go ?_; conv => whnf))
      exact ⟨⟨(i + 1, flyS t i 1 x w, a', b' ++ [x.chunk]), by dsimp only; omega, by rw [hst, hyes ⟨d1, d2⟩]; rfl, by show (t.out.set i _).length = _; rw [List.length_set]; exact k3, by show (t.paths.set 1 _).length = _; rw [List.length_set]; exact k4, by simp; omega⟩, (hle_P [(1000000, some 1000000), (1000001, some 1000001), (1000002, some 1000002), (1000003, some 1000003), (1000004, some 1000004), (1000005, some 1000005), (1000006, some 1000006), (1000007, some 1000007), (1000008, some 1000008), (1000009, some 1000009), (900, some 900), (901, some 920)] (by repeat' (first | exact trivial | exact rfl | (refine ⟨⟨rfl, ?_⟩, ?_⟩) | (refine ⟨rfl, ?_⟩) | ((exact i64_eq (by (first | omega | (simp only [List.length_map, List.length_append, List.length_take, List.length_drop, List.length_cons, List.length_nil] <;> omega) | (simp <;> omega))))) | (simp; done) | (simp; rfl))) (by repeat' (first | exact trivial | exact rfl | exact .inl rfl | exact .inr rfl | (refine ⟨⟨rfl, .inl ⟨_, rfl, ?_⟩⟩, ?_⟩) | (refine ⟨⟨rfl, _, rfl, ?_⟩, ?_⟩) | (refine ⟨⟨rfl, .inr ⟨rfl, ?_⟩⟩, ?_⟩) | (refine ⟨rfl, ?_⟩) | ((exact i64_eq (by (first | omega | (simp only [List.length_map, List.length_append, List.length_take, List.length_drop, List.length_cons, List.length_nil] <;> omega) | (simp <;> omega))))) | (simp; done) | (simp; rfl)))), by dsimp only; omega⟩
    case neg =>
      have hin : i = s.out.length := by omega
      subst hin
      ((refine hif_F ?_; conv => whnf); try (refine hcut.go ?_; conv => whnf))
      rw [k2] at hag
      subst hag
      (exact hfin_P [(1000000, some 1000000), (1000001, some 1000001), (1000002, some 1000002), (1000003, some 1000003), (1000004, some 1000004), (1000005, some 1000005), (1000006, some 1000006), (1000007, some 1000007), (1000008, some 1000008), (1000009, some 1000009), (0, some 900), (1, some 901)])
end Snd
end Go.HL
