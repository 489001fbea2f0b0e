/- serial.Up, and the document's Up, Add, Rise and SameSpans. -/
import Derived.Test.YticmofoeecjnhaaSerA
namespace Go.HL
open Go.Proofs
namespace Ser
set_option maxHeartbeats 2000000
set_option maxRecDepth 100000
set_option linter.unusedSimpArgs false
theorem spec_add (l : List Span) (n : Int) (hl : rise l) (hb : l.length < 2 ^ 39) (h1 : -9223372036854775808 ≤ n) (h2 : n ≤ 9223372036854775807) :
    FunOK Try.prog 38 [spans l, i64 n] noHeap (.own 0) (lk .free [(0, .live (.row 83 2 ((add l n).map Span.row)))]) := by
  have hsp := split l n
  have h := spec_add_ (below l n) (above l n) n (by rwa [← hsp]) (by rw [← hsp]) (by rw [← hsp]) (by rwa [← hsp]) h1 h2
  rwa [← hsp] at h
def up : List Span → Int → Int × List Span
  | [], n => (n, [])
  | s :: r, n => if s.lo ≤ n + 1 then up r (if s.hi > n then s.hi else n) else (n, s :: r)
def wnd : List Span → List Span → HV
  | [], _ => .own 900
  | t :: a, b => .osl 900 2 (a.length + 1) b.length
theorem hsub_mid {α : Type} {f : α → List PV} {l a b c : List α} {o n : Nat} {K : List (List PV) → Prop} (h : l = a ++ b ++ c) (ho : o = a.length) (hn : n = b.length) (hk : K (b.map f)) : hsub (l.map f) o n K := by
  subst h ho hn
  refine ⟨_, rfl, by simp, ?_⟩
  rwa [← List.map_drop, ← List.map_take, List.append_assoc, List.drop_left, List.take_left]
theorem osl_eq {i s o o' n n' : Nat} (ho : o = o') (hn : n = n') : HV.osl i s o n = .osl i s o' n' := by rw [ho, hn]
theorem spec_up (l : List Span) (n : Int) (hl : ∀ s ∈ l, s.hi ≤ 1099511627776) (hb : l.length < 2 ^ 39) (h1 : -1099511627776 ≤ n) (h2 : n ≤ 1099511627776) :
    FunOK Try.prog 37 [spans l, i64 n] noHeap (.tup [i64 (up l n).1, .own 0]) (lk .free [(0, .live (.row 83 2 ((up l n).2.map Span.row)))]) := by
  refine funOK_of mixed Try.func37 (by decide) [] (fun _ => .inl rfl) ?_
  generalize hR : up l n = R
  conv => whnf
  ((refine hcall_own [(0, 8)]  ?_; (conv => whnf); refine ⟨_, _,  clone_spans l (by omega), ⟨⟨⟨rfl, rfl⟩, trivial⟩, rfl, rfl, rfl⟩, ?_⟩; conv => whnf); try (refine hcut.go ?_; conv => whnf))
  refine ⟨{ x : (List Span × List Span) × Int // l = x.1.1 ++ x.1.2 ∧ R = up x.1.2 x.2 ∧ -1099511627776 ≤ x.2 ∧ x.2 ≤ 1099511627776 }, fun | ⟨((a, b), m), _⟩ => hs 32 [(1, i64 m), (6, wnd a b)] [(900, .live (.row 83 2 (l.map Span.row)))], fun x => x.1.1.2.length, ⟨(([], l), n), rfl, hR.symm, h1, h2⟩, ?_, ?_⟩
  · exact (hle_hs [(900, some 8)] rfl rfl rfl rfl (by repeat' (first | exact trivial | exact rfl | (refine ⟨⟨rfl, ?_⟩, ?_⟩) | (refine ⟨rfl, ?_⟩) | (simp; done) | (simp; rfl))) (by repeat' (first | exact trivial | exact rfl | exact .inl rfl | exact .inr rfl | (refine ⟨⟨rfl, .inl ⟨_, rfl, ?_⟩⟩, ?_⟩) | (refine ⟨⟨rfl, _, rfl, ?_⟩, ?_⟩) | (refine ⟨⟨rfl, .inr ⟨rfl, ?_⟩⟩, ?_⟩) | (refine ⟨rfl, ?_⟩) | (simp; done) | (simp; rfl))))
  rintro ⟨⟨⟨a, b⟩, m⟩, h, hu, hm1, hm2⟩
  dsimp only at h hu hm1 hm2
  have hlen : l.length = a.length + b.length := by rw [h]; simp
  have hlm : (l.map Span.row).length = l.length := by simp
  cases a with
  | nil =>
    rw [List.nil_append] at h
    rw [List.length_nil, Nat.zero_add] at hlen
    conv => whnf
    cases b with
    | nil =>
      rw [List.length_nil] at hlen
      ((refine hif_false ?_ ?_; (· (first | rfl | assumption | omega | (simp only [gt_iff_lt, ge_iff_le, decide_eq_true_eq, decide_eq_false_iff_not, beq_iff_eq, bne_iff_ne, ne_eq, beq_eq_false_iff_ne, bne_eq_false_iff_eq, List.length_map, List.length_append, List.length_cons, List.length_nil, List.length_take, List.length_drop, Bool.not_eq_true', Bool.not_eq_false', Bool.not_eq_true, Bool.not_eq_false, Decidable.not_not, Nat.cast_ofNat, Int.natCast_add] <;> omega) | (simp <;> omega))); conv => whnf); try (refine hcut.go ?_; conv => whnf))
      ((refine hcall_own [(0, 31)]  ?_; (conv => whnf); refine ⟨_, _,  clone_spans l (by omega), ⟨⟨⟨rfl, rfl⟩, trivial⟩, rfl, rfl, rfl⟩, ?_⟩; conv => whnf); try (refine hcut.go ?_; conv => whnf))
      subst hu
      refine hfin_of [(0, some 31)] rfl rfl trivial rfl rfl ⟨⟨rfl, .inl ⟨31, rfl, ?_⟩⟩, trivial⟩
      exact row_eq h
    | cons s r =>
      rw [List.length_cons] at hlen
      have hs := hl s (by rw [h]; simp)
      ((refine hif_true ?_ ?_; (· (first | rfl | assumption | omega | (simp only [gt_iff_lt, ge_iff_le, decide_eq_true_eq, decide_eq_false_iff_not, beq_iff_eq, bne_iff_ne, ne_eq, beq_eq_false_iff_ne, bne_eq_false_iff_eq, List.length_map, List.length_append, List.length_cons, List.length_nil, List.length_take, List.length_drop, Bool.not_eq_true', Bool.not_eq_false', Bool.not_eq_true, Bool.not_eq_false, Decidable.not_not, Nat.cast_ofNat, Int.natCast_add] <;> omega) | (simp <;> omega))); conv => whnf); try (refine hcut.go ?_; conv => whnf))
      refine hobl_intro (by omega) ?_; conv => whnf
      refine hrow_mid (a := []) h rfl ?_; conv => whnf
      ((refine hwrap_fit (W_fit ?_ ?_) ?_; (· (first | omega | (simp only [List.length_map, List.length_append, List.length_take, List.length_drop, List.length_cons, List.length_nil] <;> omega) | (simp <;> omega))); (· (first | omega | (simp only [List.length_map, List.length_append, List.length_take, List.length_drop, List.length_cons, List.length_nil] <;> omega) | (simp <;> omega))); conv => whnf); try (refine hcut.go ?_; conv => whnf))
      by_cases c : s.lo ≤ m + 1
      · ((refine hif_true ?_ ?_; (· (first | rfl | assumption | omega | (simp only [gt_iff_lt, ge_iff_le, decide_eq_true_eq, decide_eq_false_iff_not, beq_iff_eq, bne_iff_ne, ne_eq, beq_eq_false_iff_ne, bne_eq_false_iff_eq, List.length_map, List.length_append, List.length_cons, List.length_nil, List.length_take, List.length_drop, Bool.not_eq_true', Bool.not_eq_false', Bool.not_eq_true, Bool.not_eq_false, Decidable.not_not, Nat.cast_ofNat, Int.natCast_add] <;> omega) | (simp <;> omega))); conv => whnf); try (refine hcut.go ?_; conv => whnf))
        refine hobl_intro (by omega) ?_; conv => whnf
        refine hrow_mid (a := []) h rfl ?_; conv => whnf
        refine hobl_intro (by omega) ?_; conv => whnf
        refine ⟨⟨(([s], r), if s.hi > m then s.hi else m), h, by dsimp only; rw [hu, up, if_pos c], by dsimp only; split <;> omega, by dsimp only; split <;> omega⟩, (hle_hs [(900, some 900)] rfl rfl rfl rfl (by repeat' (first | exact trivial | exact rfl | (refine ⟨⟨rfl, ?_⟩, ?_⟩) | (refine ⟨rfl, ?_⟩) | ((exact osl_eq (by simp) (by omega))) | (simp; done) | (simp; rfl))) (by repeat' (first | exact trivial | exact rfl | exact .inl rfl | exact .inr rfl | (refine ⟨⟨rfl, .inl ⟨_, rfl, ?_⟩⟩, ?_⟩) | (refine ⟨⟨rfl, _, rfl, ?_⟩, ?_⟩) | (refine ⟨⟨rfl, .inr ⟨rfl, ?_⟩⟩, ?_⟩) | (refine ⟨rfl, ?_⟩) | ((exact osl_eq (by simp) (by omega))) | (simp; done) | (simp; rfl)))), by simp⟩
      · ((refine hif_false ?_ ?_; (· (first | rfl | assumption | omega | (simp only [gt_iff_lt, ge_iff_le, decide_eq_true_eq, decide_eq_false_iff_not, beq_iff_eq, bne_iff_ne, ne_eq, beq_eq_false_iff_ne, bne_eq_false_iff_eq, List.length_map, List.length_append, List.length_cons, List.length_nil, List.length_take, List.length_drop, Bool.not_eq_true', Bool.not_eq_false', Bool.not_eq_true, Bool.not_eq_false, Decidable.not_not, Nat.cast_ofNat, Int.natCast_add] <;> omega) | (simp <;> omega))); conv => whnf); try (refine hcut.go ?_; conv => whnf))
        ((refine hcall_own [(0, 31)]  ?_; (conv => whnf); refine ⟨_, _,  clone_spans l (by omega), ⟨⟨⟨rfl, rfl⟩, trivial⟩, rfl, rfl, rfl⟩, ?_⟩; conv => whnf); try (refine hcut.go ?_; conv => whnf))
        rw [show up (s :: r) m = (m, s :: r) by simp [up, c]] at hu
        subst hu
        refine hfin_of [(0, some 31)] rfl rfl trivial rfl rfl ⟨⟨rfl, .inl ⟨31, rfl, ?_⟩⟩, trivial⟩
        exact row_eq h
  | cons t a =>
    rw [List.length_cons] at hlen
    have hal : (a.length : Int) + 1 = ((t :: a).length : Nat) := by simp
    conv => whnf
    cases b with
    | nil =>
      rw [List.length_nil] at hlen
      conv => whnf
      try (refine hcut.go ?_; conv => whnf)
      refine hcall_own [(0, 31)] ?_; conv => whnf
      refine hsub_mid (a := t :: a) (b := []) (c := []) (by rw [h]; simp) rfl rfl ?_
      conv => whnf
      refine ⟨_, _, clone_spans [] (by simp), ⟨⟨⟨rfl, rfl⟩, trivial⟩, rfl, rfl, rfl⟩, ?_⟩
      conv => whnf
      subst hu
      refine hfin_of [(0, some 31)] rfl rfl trivial rfl rfl ⟨⟨rfl, .inl ⟨31, rfl, rfl⟩⟩, trivial⟩
    | cons s r =>
      rw [List.length_cons] at hlen
      have hs := hl s (by rw [h]; simp)
      have hrl : (s :: r).length = r.length + 1 := rfl
      ((refine hif_true ?_ ?_; (· (first | rfl | assumption | omega | (simp only [gt_iff_lt, ge_iff_le, decide_eq_true_eq, decide_eq_false_iff_not, beq_iff_eq, bne_iff_ne, ne_eq, beq_eq_false_iff_ne, bne_eq_false_iff_eq, List.length_map, List.length_append, List.length_cons, List.length_nil, List.length_take, List.length_drop, Bool.not_eq_true', Bool.not_eq_false', Bool.not_eq_true, Bool.not_eq_false, Decidable.not_not, Nat.cast_ofNat, Int.natCast_add] <;> omega) | (simp <;> omega))); conv => whnf); try (refine hcut.go ?_; conv => whnf))
      refine hobl_intro (by omega) ?_; conv => whnf
      refine hrow_mid (a := t :: a) h (by simp) ?_; conv => whnf
      ((refine hwrap_fit (W_fit ?_ ?_) ?_; (· (first | omega | (simp only [List.length_map, List.length_append, List.length_take, List.length_drop, List.length_cons, List.length_nil] <;> omega) | (simp <;> omega))); (· (first | omega | (simp only [List.length_map, List.length_append, List.length_take, List.length_drop, List.length_cons, List.length_nil] <;> omega) | (simp <;> omega))); conv => whnf); try (refine hcut.go ?_; conv => whnf))
      by_cases c : s.lo ≤ m + 1
      · ((refine hif_true ?_ ?_; (· (first | rfl | assumption | omega | (simp only [gt_iff_lt, ge_iff_le, decide_eq_true_eq, decide_eq_false_iff_not, beq_iff_eq, bne_iff_ne, ne_eq, beq_eq_false_iff_ne, bne_eq_false_iff_eq, List.length_map, List.length_append, List.length_cons, List.length_nil, List.length_take, List.length_drop, Bool.not_eq_true', Bool.not_eq_false', Bool.not_eq_true, Bool.not_eq_false, Decidable.not_not, Nat.cast_ofNat, Int.natCast_add] <;> omega) | (simp <;> omega))); conv => whnf); try (refine hcut.go ?_; conv => whnf))
        refine hobl_intro (by omega) ?_; conv => whnf
        refine hrow_mid (a := t :: a) h (by simp) ?_; conv => whnf
        refine hobl_intro (by omega) ?_; conv => whnf
        refine ⟨⟨((t :: (a ++ [s]), r), if s.hi > m then s.hi else m), by rw [h]; simp, by dsimp only; rw [hu, up, if_pos c], by dsimp only; split <;> omega, by dsimp only; split <;> omega⟩, (hle_hs [(900, some 900)] rfl rfl rfl rfl (by repeat' (first | exact trivial | exact rfl | (refine ⟨⟨rfl, ?_⟩, ?_⟩) | (refine ⟨rfl, ?_⟩) | ((exact osl_eq (by simp) (by omega))) | (simp; done) | (simp; rfl))) (by repeat' (first | exact trivial | exact rfl | exact .inl rfl | exact .inr rfl | (refine ⟨⟨rfl, .inl ⟨_, rfl, ?_⟩⟩, ?_⟩) | (refine ⟨⟨rfl, _, rfl, ?_⟩, ?_⟩) | (refine ⟨⟨rfl, .inr ⟨rfl, ?_⟩⟩, ?_⟩) | (refine ⟨rfl, ?_⟩) | ((exact osl_eq (by simp) (by omega))) | (simp; done) | (simp; rfl)))), by simp⟩
      · ((refine hif_false ?_ ?_; (· (first | rfl | assumption | omega | (simp only [gt_iff_lt, ge_iff_le, decide_eq_true_eq, decide_eq_false_iff_not, beq_iff_eq, bne_iff_ne, ne_eq, beq_eq_false_iff_ne, bne_eq_false_iff_eq, List.length_map, List.length_append, List.length_cons, List.length_nil, List.length_take, List.length_drop, Bool.not_eq_true', Bool.not_eq_false', Bool.not_eq_true, Bool.not_eq_false, Decidable.not_not, Nat.cast_ofNat, Int.natCast_add] <;> omega) | (simp <;> omega))); conv => whnf); try (refine hcut.go ?_; conv => whnf))
        refine hcall_own [(0, 31)] ?_; conv => whnf
        refine hsub_mid (a := t :: a) (b := s :: r) (c := []) (by rw [h]; simp) rfl rfl ?_
        conv => whnf
        refine ⟨_, _, clone_spans (s :: r) (by omega), ⟨⟨⟨rfl, rfl⟩, trivial⟩, rfl, rfl, rfl⟩, ?_⟩
        conv => whnf
        rw [show up (s :: r) m = (m, s :: r) by simp [up, c]] at hu
        subst hu
        refine hfin_of [(0, some 31)] rfl rfl trivial rfl rfl ⟨⟨rfl, .inl ⟨31, rfl, rfl⟩⟩, trivial⟩
def Tail (R : Int × List Span) (b : List Span) (m : Int) (o : List Span) : Prop := (o = [] ∧ R = up b m) ∨ (R = (m, o ++ b) ∧ ∀ s ∈ b, m + 1 < s.lo)
theorem spec_rup (l : List Span) (n : Int) (hr : rise l) (hl : ∀ s ∈ l, s.hi ≤ 1099511627776) (hb : l.length < 2 ^ 39) (h1 : -1099511627776 ≤ n) (h2 : n ≤ 1099511627776) :
    FunOK Try.prog 43 [spans l, i64 n] noHeap (.tup [i64 (up l n).1, .own 0]) (lk .free [(0, .live (.row 83 2 ((up l n).2.map Span.row)))]) := by
  refine funOK_of mixed Try.func43 (by decide) [] (fun _ => .inl rfl) ?_
  generalize hR : up l n = R
  conv => whnf
  refine ⟨{ x : (List Span × List Span) × Int × List Span // l = x.1.1 ++ x.1.2 ∧ Tail R x.1.2 x.2.1 x.2.2 ∧ -1099511627776 ≤ x.2.1 ∧ x.2.1 ≤ 1099511627776 ∧ x.2.2.length ≤ x.1.1.length }, fun | ⟨((a, b), m, o), _⟩ => hs 33 [(1, i64 m), (6, .own 900), (9, spans l), (10, i64 l.length), (11, i64 a.length)] [(900, .live (.row 83 2 (o.map Span.row)))], fun x => x.1.1.2.length, ⟨(([], l), n, []), rfl, .inl ⟨rfl, hR.symm⟩, h1, h2, Nat.le_refl _⟩, ?_, ?_⟩
  · exact (hle_hs [(900, none)] rfl rfl rfl rfl (by repeat' (first | exact trivial | exact rfl | (refine ⟨⟨rfl, ?_⟩, ?_⟩) | (refine ⟨rfl, ?_⟩) | (simp; done) | (simp; rfl))) (by repeat' (first | exact trivial | exact rfl | exact .inl rfl | exact .inr rfl | (refine ⟨⟨rfl, .inl ⟨_, rfl, ?_⟩⟩, ?_⟩) | (refine ⟨⟨rfl, _, rfl, ?_⟩, ?_⟩) | (refine ⟨⟨rfl, .inr ⟨rfl, ?_⟩⟩, ?_⟩) | (refine ⟨rfl, ?_⟩) | (simp; done) | (simp; rfl))))
  rintro ⟨⟨⟨a, b⟩, m, o⟩, h, ht, hm1, hm2, ho⟩
  dsimp only at h ht hm1 hm2 ho
  have hlen : l.length = a.length + b.length := by rw [h]; simp
  conv => whnf
  cases b with
  | nil =>
    rw [List.length_nil] at hlen
    ((refine hif_false ?_ ?_; (· (first | rfl | assumption | omega | (simp only [gt_iff_lt, ge_iff_le, decide_eq_true_eq, decide_eq_false_iff_not, beq_iff_eq, bne_iff_ne, ne_eq, beq_eq_false_iff_ne, bne_eq_false_iff_eq, List.length_map, List.length_append, List.length_cons, List.length_nil, List.length_take, List.length_drop, Bool.not_eq_true', Bool.not_eq_false', Bool.not_eq_true, Bool.not_eq_false, Decidable.not_not, Nat.cast_ofNat, Int.natCast_add] <;> omega) | (simp <;> omega))); conv => whnf); try (refine hcut.go ?_; conv => whnf))
    have hR2 : R = (m, o) := by
      rcases ht with ⟨h1, h2⟩ | ⟨h1, h2⟩
      · rw [h2, h1]; rfl
      · rw [h1, List.append_nil]
    subst hR2
    refine hfin_of [(0, some 900)] rfl rfl trivial rfl rfl ⟨⟨rfl, .inl ⟨900, rfl, rfl⟩⟩, trivial⟩
  | cons s r =>
    rw [List.length_cons] at hlen
    have hs := hl s (by rw [h]; simp)
    have hrs : rise (s :: r) := by rw [h] at hr; exact (rise_app.1 hr).2.1
    ((refine hif_true ?_ ?_; (· (first | rfl | assumption | omega | (simp only [gt_iff_lt, ge_iff_le, decide_eq_true_eq, decide_eq_false_iff_not, beq_iff_eq, bne_iff_ne, ne_eq, beq_eq_false_iff_ne, bne_eq_false_iff_eq, List.length_map, List.length_append, List.length_cons, List.length_nil, List.length_take, List.length_drop, Bool.not_eq_true', Bool.not_eq_false', Bool.not_eq_true, Bool.not_eq_false, Decidable.not_not, Nat.cast_ofNat, Int.natCast_add] <;> omega) | (simp <;> omega))); conv => whnf); try (refine hcut.go ?_; conv => whnf))
    refine hrow_mid h rfl ?_; conv => whnf
    ((refine hwrap_fit (W_fit ?_ ?_) ?_; (· (first | omega | (simp only [List.length_map, List.length_append, List.length_take, List.length_drop, List.length_cons, List.length_nil] <;> omega) | (simp <;> omega))); (· (first | omega | (simp only [List.length_map, List.length_append, List.length_take, List.length_drop, List.length_cons, List.length_nil] <;> omega) | (simp <;> omega))); conv => whnf); try (refine hcut.go ?_; conv => whnf))
    by_cases c : s.lo ≤ m + 1
    · obtain ⟨rfl, htt⟩ : o = [] ∧ R = up r (if s.hi > m then s.hi else m) := by
        rcases ht with ⟨h1, h2⟩ | ⟨h1, h2⟩
        · exact ⟨h1, by rw [h2, up, if_pos c]⟩
        · have := h2 s (by simp); omega
      ((refine hif_true ?_ ?_; (· (first | rfl | assumption | omega | (simp only [gt_iff_lt, ge_iff_le, decide_eq_true_eq, decide_eq_false_iff_not, beq_iff_eq, bne_iff_ne, ne_eq, beq_eq_false_iff_ne, bne_eq_false_iff_eq, List.length_map, List.length_append, List.length_cons, List.length_nil, List.length_take, List.length_drop, Bool.not_eq_true', Bool.not_eq_false', Bool.not_eq_true, Bool.not_eq_false, Decidable.not_not, Nat.cast_ofNat, Int.natCast_add] <;> omega) | (simp <;> omega))); conv => whnf); try (refine hcut.go ?_; conv => whnf))
      by_cases c2 : s.hi > m
      · ((refine hif_true ?_ ?_; (· (first | rfl | assumption | omega | (simp only [gt_iff_lt, ge_iff_le, decide_eq_true_eq, decide_eq_false_iff_not, beq_iff_eq, bne_iff_ne, ne_eq, beq_eq_false_iff_ne, bne_eq_false_iff_eq, List.length_map, List.length_append, List.length_cons, List.length_nil, List.length_take, List.length_drop, Bool.not_eq_true', Bool.not_eq_false', Bool.not_eq_true, Bool.not_eq_false, Decidable.not_not, Nat.cast_ofNat, Int.natCast_add] <;> omega) | (simp <;> omega))); conv => whnf); try (refine hcut.go ?_; conv => whnf))
        ((refine hwrap_fit (W_fit ?_ ?_) ?_; (· (first | omega | (simp only [List.length_map, List.length_append, List.length_take, List.length_drop, List.length_cons, List.length_nil] <;> omega) | (simp <;> omega))); (· (first | omega | (simp only [List.length_map, List.length_append, List.length_take, List.length_drop, List.length_cons, List.length_nil] <;> omega) | (simp <;> omega))); conv => whnf); try (refine hcut.go ?_; conv => whnf))
        rw [if_pos c2] at htt
        exact ⟨⟨((a ++ [s], r), s.hi, []), zip_next h, .inl ⟨rfl, htt⟩, by dsimp only; omega, hs, by simp⟩, (hle_hs [(900, some 900)] rfl rfl rfl rfl (by repeat' (first | exact trivial | exact rfl | (refine ⟨⟨rfl, ?_⟩, ?_⟩) | (refine ⟨rfl, ?_⟩) | (simp; done) | (simp; rfl))) (by repeat' (first | exact trivial | exact rfl | exact .inl rfl | exact .inr rfl | (refine ⟨⟨rfl, .inl ⟨_, rfl, ?_⟩⟩, ?_⟩) | (refine ⟨⟨rfl, _, rfl, ?_⟩, ?_⟩) | (refine ⟨⟨rfl, .inr ⟨rfl, ?_⟩⟩, ?_⟩) | (refine ⟨rfl, ?_⟩) | (simp; done) | (simp; rfl)))), by simp⟩
      · ((refine hif_false ?_ ?_; (· (first | rfl | assumption | omega | (simp only [gt_iff_lt, ge_iff_le, decide_eq_true_eq, decide_eq_false_iff_not, beq_iff_eq, bne_iff_ne, ne_eq, beq_eq_false_iff_ne, bne_eq_false_iff_eq, List.length_map, List.length_append, List.length_cons, List.length_nil, List.length_take, List.length_drop, Bool.not_eq_true', Bool.not_eq_false', Bool.not_eq_true, Bool.not_eq_false, Decidable.not_not, Nat.cast_ofNat, Int.natCast_add] <;> omega) | (simp <;> omega))); conv => whnf); try (refine hcut.go ?_; conv => whnf))
        ((refine hwrap_fit (W_fit ?_ ?_) ?_; (· (first | omega | (simp only [List.length_map, List.length_append, List.length_take, List.length_drop, List.length_cons, List.length_nil] <;> omega) | (simp <;> omega))); (· (first | omega | (simp only [List.length_map, List.length_append, List.length_take, List.length_drop, List.length_cons, List.length_nil] <;> omega) | (simp <;> omega))); conv => whnf); try (refine hcut.go ?_; conv => whnf))
        rw [if_neg c2] at htt
        exact ⟨⟨((a ++ [s], r), m, []), zip_next h, .inl ⟨rfl, htt⟩, hm1, hm2, by simp⟩, (hle_hs [(900, some 900)] rfl rfl rfl rfl (by repeat' (first | exact trivial | exact rfl | (refine ⟨⟨rfl, ?_⟩, ?_⟩) | (refine ⟨rfl, ?_⟩) | (simp; done) | (simp; rfl))) (by repeat' (first | exact trivial | exact rfl | exact .inl rfl | exact .inr rfl | (refine ⟨⟨rfl, .inl ⟨_, rfl, ?_⟩⟩, ?_⟩) | (refine ⟨⟨rfl, _, rfl, ?_⟩, ?_⟩) | (refine ⟨⟨rfl, .inr ⟨rfl, ?_⟩⟩, ?_⟩) | (refine ⟨rfl, ?_⟩) | (simp; done) | (simp; rfl)))), by simp⟩
    · have ht2 : Tail R r m (o ++ [s]) := by
        refine .inr ?_
        rcases ht with ⟨h1, h2⟩ | ⟨h1, h2⟩
        · rw [h2, h1, up, if_neg c]
          exact ⟨rfl, fun t ht => by have := hrs.1; have := hrs.2.2.2.1 t ht; omega⟩
        · exact ⟨by rw [h1]; simp, fun t ht => h2 t (by simp [ht])⟩
      ((refine hif_false ?_ ?_; (· (first | rfl | assumption | omega | (simp only [gt_iff_lt, ge_iff_le, decide_eq_true_eq, decide_eq_false_iff_not, beq_iff_eq, bne_iff_ne, ne_eq, beq_eq_false_iff_ne, bne_eq_false_iff_eq, List.length_map, List.length_append, List.length_cons, List.length_nil, List.length_take, List.length_drop, Bool.not_eq_true', Bool.not_eq_false', Bool.not_eq_true, Bool.not_eq_false, Decidable.not_not, Nat.cast_ofNat, Int.natCast_add] <;> omega) | (simp <;> omega))); conv => whnf); try (refine hcut.go ?_; conv => whnf))
      refine hobl_intro (c := ((o.map Span.row).length + 1) * 16 ≤ 140737488355328) (by simp; omega) ?_; conv => whnf
      ((refine hwrap_fit (W_fit ?_ ?_) ?_; (· (first | omega | (simp only [List.length_map, List.length_append, List.length_take, List.length_drop, List.length_cons, List.length_nil] <;> omega) | (simp <;> omega))); (· (first | omega | (simp only [List.length_map, List.length_append, List.length_take, List.length_drop, List.length_cons, List.length_nil] <;> omega) | (simp <;> omega))); conv => whnf); try (refine hcut.go ?_; conv => whnf))
      exact ⟨⟨((a ++ [s], r), m, o ++ [s]), zip_next h, ht2, hm1, hm2, by simp; omega⟩, (hle_hs [(900, some 29)] rfl rfl rfl rfl (by repeat' (first | exact trivial | exact rfl | (refine ⟨⟨rfl, ?_⟩, ?_⟩) | (refine ⟨rfl, ?_⟩) | ((exact (row_snoc (f := Span.row) rfl).symm)) | (simp; done) | (simp; rfl))) (by repeat' (first | exact trivial | exact rfl | exact .inl rfl | exact .inr rfl | (refine ⟨⟨rfl, .inl ⟨_, rfl, ?_⟩⟩, ?_⟩) | (refine ⟨⟨rfl, _, rfl, ?_⟩, ?_⟩) | (refine ⟨⟨rfl, .inr ⟨rfl, ?_⟩⟩, ?_⟩) | (refine ⟨rfl, ?_⟩) | ((exact (row_snoc (f := Span.row) rfl).symm)) | (simp; done) | (simp; rfl)))), by simp⟩
instance : DecidableEq Span := fun a b => decidable_of_iff (a.lo = b.lo ∧ a.hi = b.hi) ⟨fun h => by cases a; cases b; simp_all, fun h => by rw [h]; simp⟩
theorem spec_rsame (l k : List Span) (hb : l.length < 2 ^ 39) : FunOK Try.prog 31 [spans l, spans k] noHeap (hbool (decide (l = k))) noHeap := by
  refine funOK_pure mixed Try.func31 (by decide) ?_
  conv => whnf
  by_cases c : l.length = k.length
  · ((refine hif_false ?_ ?_; (· (first | rfl | assumption | omega | (simp only [gt_iff_lt, ge_iff_le, decide_eq_true_eq, decide_eq_false_iff_not, beq_iff_eq, bne_iff_ne, ne_eq, beq_eq_false_iff_ne, bne_eq_false_iff_eq, List.length_map, List.length_append, List.length_cons, List.length_nil, List.length_take, List.length_drop, Bool.not_eq_true', Bool.not_eq_false', Bool.not_eq_true, Bool.not_eq_false, Decidable.not_not, Nat.cast_ofNat, Int.natCast_add] <;> omega) | (simp <;> omega))); conv => whnf); try (refine hcut.go ?_; conv => whnf))
    refine ⟨{ x : (List Span × List Span) × List Span × List Span // l = x.1.1 ++ x.1.2 ∧ k = x.2.1 ++ x.2.2 ∧ x.1.1 = x.2.1 }, fun | ⟨((a, b), _), _⟩ => hs 26 [(0, spans l), (1, spans k), (11, spans l), (12, i64 l.length), (13, i64 a.length)] [], fun x => x.1.1.2.length, ⟨(([], l), ([], k)), rfl, rfl, rfl⟩, ?_, ?_⟩
    · exact (hle_hs [] rfl rfl rfl rfl (by repeat' (first | exact trivial | exact rfl | (refine ⟨⟨rfl, ?_⟩, ?_⟩) | (refine ⟨rfl, ?_⟩) | (simp; done) | (simp; rfl))) (by repeat' (first | exact trivial | exact rfl | exact .inl rfl | exact .inr rfl | (refine ⟨⟨rfl, .inl ⟨_, rfl, ?_⟩⟩, ?_⟩) | (refine ⟨⟨rfl, _, rfl, ?_⟩, ?_⟩) | (refine ⟨⟨rfl, .inr ⟨rfl, ?_⟩⟩, ?_⟩) | (refine ⟨rfl, ?_⟩) | (simp; done) | (simp; rfl))))
    rintro ⟨⟨⟨a, b⟩, a', b'⟩, h, h', he⟩
    dsimp only at h h' he
    subst he
    conv => whnf
    have hlen : l.length = a.length + b.length := by rw [h]; simp
    have hlen' : k.length = a.length + b'.length := by rw [h']; simp
    cases b with
    | nil =>
      rw [List.length_nil] at hlen
      have hb' : b' = [] := List.eq_nil_of_length_eq_zero (by omega)
      ((refine hif_false ?_ ?_; (· (first | rfl | assumption | omega | (simp only [gt_iff_lt, ge_iff_le, decide_eq_true_eq, decide_eq_false_iff_not, beq_iff_eq, bne_iff_ne, ne_eq, beq_eq_false_iff_ne, bne_eq_false_iff_eq, List.length_map, List.length_append, List.length_cons, List.length_nil, List.length_take, List.length_drop, Bool.not_eq_true', Bool.not_eq_false', Bool.not_eq_true, Bool.not_eq_false, Decidable.not_not, Nat.cast_ofNat, Int.natCast_add] <;> omega) | (simp <;> omega))); conv => whnf); try (refine hcut.go ?_; conv => whnf))
      rw [decide_eq_true (by rw [h, h', hb'])]
    | cons s r =>
      rw [List.length_cons] at hlen
      cases b' with
      | nil => rw [List.length_nil] at hlen'; omega
      | cons t q =>
        ((refine hif_true ?_ ?_; (· (first | rfl | assumption | omega | (simp only [gt_iff_lt, ge_iff_le, decide_eq_true_eq, decide_eq_false_iff_not, beq_iff_eq, bne_iff_ne, ne_eq, beq_eq_false_iff_ne, bne_eq_false_iff_eq, List.length_map, List.length_append, List.length_cons, List.length_nil, List.length_take, List.length_drop, Bool.not_eq_true', Bool.not_eq_false', Bool.not_eq_true, Bool.not_eq_false, Decidable.not_not, Nat.cast_ofNat, Int.natCast_add] <;> omega) | (simp <;> omega))); conv => whnf); try (refine hcut.go ?_; conv => whnf))
        refine hrow_mid h rfl ?_; conv => whnf
        refine hrow_mid h' rfl ?_; conv => whnf
        refine hobl_intro (show eqFlat Try.prog 83 [true, true] = true by kernel_rfl) ?_; conv => whnf
        ((refine hdraw_intro ?_ ?_; (· kernel_rfl); conv => whnf); try (refine hcut.go ?_; conv => whnf))
        by_cases c2 : s = t
        · subst c2
          refine hif_false (by simp) ?_; conv => whnf
          try (refine hcut.go ?_; conv => whnf)
          ((refine hwrap_fit (W_fit ?_ ?_) ?_; (· (first | omega | (simp only [List.length_map, List.length_append, List.length_take, List.length_drop, List.length_cons, List.length_nil] <;> omega) | (simp <;> omega))); (· (first | omega | (simp only [List.length_map, List.length_append, List.length_take, List.length_drop, List.length_cons, List.length_nil] <;> omega) | (simp <;> omega))); conv => whnf); try (refine hcut.go ?_; conv => whnf))
          exact ⟨⟨((a ++ [s], r), a ++ [s], q), zip_next h, zip_next h', rfl⟩, (hle_hs [] rfl rfl rfl rfl (by repeat' (first | exact trivial | exact rfl | (refine ⟨⟨rfl, ?_⟩, ?_⟩) | (refine ⟨rfl, ?_⟩) | (simp; done) | (simp; rfl))) (by repeat' (first | exact trivial | exact rfl | exact .inl rfl | exact .inr rfl | (refine ⟨⟨rfl, .inl ⟨_, rfl, ?_⟩⟩, ?_⟩) | (refine ⟨⟨rfl, _, rfl, ?_⟩, ?_⟩) | (refine ⟨⟨rfl, .inr ⟨rfl, ?_⟩⟩, ?_⟩) | (refine ⟨rfl, ?_⟩) | (simp; done) | (simp; rfl)))), by simp⟩
        · refine hif_true (by simp; exact Classical.byContradiction fun h => c2 (by cases s; cases t; simp_all)) ?_; conv => whnf
          rw [decide_eq_false (by rw [h, h']; intro h; simp at h; exact c2 h.1)]
  · ((refine hif_true ?_ ?_; (· (first | rfl | assumption | omega | (simp only [gt_iff_lt, ge_iff_le, decide_eq_true_eq, decide_eq_false_iff_not, beq_iff_eq, bne_iff_ne, ne_eq, beq_eq_false_iff_ne, bne_eq_false_iff_eq, List.length_map, List.length_append, List.length_cons, List.length_nil, List.length_take, List.length_drop, Bool.not_eq_true', Bool.not_eq_false', Bool.not_eq_true, Bool.not_eq_false, Decidable.not_not, Nat.cast_ofNat, Int.natCast_add] <;> omega) | (simp <;> omega))); conv => whnf); try (refine hcut.go ?_; conv => whnf))
    rw [decide_eq_false (fun h => c (by rw [h]))]
/-- what Rise asks of a span, and of the one ahead of it -/
def gapS : Option Int → Int → Bool
  | some h, n => decide (h < n - 1)
  | none, _ => true
def okS (p : Option Int) (s : Span) : Bool := decide (-1099511627776 ≤ s.lo) && decide (s.hi ≤ 1099511627776) && decide (s.lo ≤ s.hi) && gapS p s.lo
def riseB : Option Int → List Span → Bool
  | _, [] => true
  | p, s :: r => okS p s && riseB (some s.hi) r
end Ser
end Go.HL
