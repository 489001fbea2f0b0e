/- The library's stable sort, of pieces by their parts' numbers. -/
import Derived.Test.YticmofoeecjnhaaSortP
namespace Go.HL
open Go.Proofs
namespace Srt
set_option maxHeartbeats 2000000
set_option maxRecDepth 100000
set_option linter.unusedSimpArgs false
theorem set_mid {α : Type} {A B : List α} {x y : α} {i : Nat} (h : i = A.length) : (A ++ x :: B).set i y = A ++ y :: B := by
  subst h
  induction A with
  | nil => rfl
  | cons a A ih => simp only [List.cons_append, List.length_cons, List.set_cons_succ, ih]
theorem row_swap {α : Type} {t n : Nat} {f : α → List PV} {l l' A B C : List α} {x y : α} {i j : Nat} {r s : List PV} (h : l = A ++ x :: (B ++ y :: C)) (h' : l' = A ++ y :: (B ++ x :: C)) (hi : i = A.length) (hj : j = A.length + 1 + B.length) (hr : f y = r) (hs : f x = s) :
    HSlot.live (.row t n (((l.map f).set i r).set j s)) = HSlot.live (.row t n (l'.map f)) := by
  subst h h' hr hs
  rw [← List.map_set, ← List.map_set, set_mid hi, show A ++ y :: (B ++ y :: C) = (A ++ y :: B) ++ y :: C by simp, set_mid (by simp; omega)]
  simp
theorem row_swap2 {α : Type} {t n : Nat} {f : α → List PV} {l l' A B C : List α} {x y : α} {i j : Nat} {r s : List PV} (h : l = A ++ x :: (B ++ y :: C)) (h' : l' = A ++ y :: (B ++ x :: C)) (hi : i = A.length) (hj : j = A.length + 1 + B.length) (hr : f y = r) (hs : f x = s) :
    HSlot.live (.row t n (((l.map f).set j s).set i r)) = HSlot.live (.row t n (l'.map f)) := by
  rw [List.set_comm _ _ (by omega)]
  exact row_swap h h' hi hj hr hs
theorem hrow_set_mid {α : Type} {f : α → List PV} {l A B : List α} {y : α} {i : Nat} {r : List PV} {z : Int} {K : List PV → Prop} (h : l = A ++ y :: B) (hz : z = A.length) (hi : i ≠ A.length) (hk : K (f y)) : hrow ((l.map f).set i r) z K :=
  ⟨f y, by omega, by rw [hz, Int.toNat_natCast, List.getElem?_set_ne hi, h]; simp, hk⟩
abbrev ck (p : Piece) : Int := p.chunk.part
abbrev H1 (l : List Piece) : List (Nat × HSlot) := [(1000000, .live (.row 80 12 (l.map Piece.row)))]
def cmp (a b : Piece) : Int := if ck a < ck b then -1 else if ck a > ck b then 1 else 0
def CmpOK (g : FuncId) : Prop := ∀ a b : Piece, FunOK Try.prog g [a.hv, b.hv] noHeap (i64 (cmp a b)) noHeap
theorem cmp_neg {a b : Piece} : cmp a b < 0 ↔ ck a < ck b := by unfold cmp; split <;> (try split) <;> omega
theorem spec_swap {g : FuncId} (P M Q X Y : List Piece) (hxy : X.length = Y.length) (hb : (P ++ X ++ M ++ Y ++ Q).length < 2 ^ 40) (a b n : Int) (ha : a = P.length) (hb' : b = (P ++ X ++ M).length) (hn : n = X.length) :
    FunOK Try.prog 135 [.own 1000000, i64 a, i64 b, i64 n, .clo g []] (lk .free (H1 (P ++ X ++ M ++ Y ++ Q))) (.tup []) (lk .free (H1 (P ++ Y ++ M ++ X ++ Q))) := by
  refine funOK_of mixed Try.func135 (by decide) [1000000] lk_pins ?_
  conv => whnf
  refine ⟨{ x : (List Piece × List Piece) × (List Piece × List Piece) // X = x.1.1 ++ x.1.2 ∧ Y = x.2.1 ++ x.2.2 ∧ x.1.1.length = x.2.1.length }, fun | ⟨((X1, X2), (Y1, Y2)), _⟩ => hsP [1000000] 38 [(0, .own 1000000), (1, i64 a), (2, i64 b), (3, i64 n), (10, i64 X1.length)] (H1 (P ++ Y1 ++ X2 ++ M ++ X1 ++ Y2 ++ Q)), fun x => x.1.1.2.length, ⟨(([], X), ([], Y)), rfl, rfl, rfl⟩, ?_, ?_⟩
  · exact (hle_of [(1000000, some 1000000)] rfl rfl rfl rfl (by repeat' (first | exact trivial | (refine ⟨rfl, ?_⟩))) (by repeat' (first | exact trivial | exact rfl | (refine ⟨⟨rfl, ?_⟩, ?_⟩) | (refine ⟨rfl, ?_⟩) | ((exact row_eqs (by simp))) | (simp; done) | (simp; rfl))) (by repeat' (first | exact trivial | exact rfl | exact .inl rfl | exact .inr rfl | (refine ⟨⟨rfl, .inl ⟨_, rfl, ?_⟩⟩, ?_⟩) | (refine ⟨⟨rfl, _, rfl, ?_⟩, ?_⟩) | (refine ⟨⟨rfl, .inr ⟨rfl, ?_⟩⟩, ?_⟩) | (refine ⟨rfl, ?_⟩) | ((exact row_eqs (by simp))) | (simp; done) | (simp; rfl))))
  rintro ⟨⟨⟨X1, X2⟩, ⟨Y1, Y2⟩⟩, hX, hY, h12⟩
  dsimp only at hX hY h12
  have lX : X.length = X1.length + X2.length := by rw [hX]; simp
  have lY : Y.length = Y1.length + Y2.length := by rw [hY]; simp
  simp only [List.length_append] at hb hb'
  conv => whnf
  cases X2 with
  | nil =>
    have : Y2 = [] := List.eq_nil_of_length_eq_zero (by rw [List.length_nil] at lX; omega)
    subst this
    rw [List.length_nil] at lX
    rw [List.append_nil] at hX hY
    subst hX hY
    ((refine hif_false ?_ ?_; (· (first | rfl | assumption | omega | (simp only [gt_iff_lt, ge_iff_le, decide_eq_true_eq, decide_eq_false_iff_not, beq_iff_eq, bne_iff_ne, ne_eq, beq_eq_false_iff_ne, bne_eq_false_iff_eq, List.length_map, List.length_append, List.length_cons, List.length_nil, List.length_take, List.length_drop, Bool.not_eq_true', Bool.not_eq_false', Bool.not_eq_true, Bool.not_eq_false, Decidable.not_not, Nat.cast_ofNat, Int.natCast_add] <;> omega) | (simp <;> omega))); conv => whnf); try (refine hcut.go ?_; conv => whnf))
    refine hfin_of [(1000000, some 1000000)] rfl rfl ⟨rfl, trivial⟩ rfl rfl ⟨⟨rfl, .inl ⟨1000000, rfl, ?_⟩⟩, trivial⟩
    exact row_eqs (by simp)
  | cons x X2 =>
    cases Y2 with
    | nil => simp at lX lY; omega
    | cons y Y2 =>
      rw [List.length_cons] at lX lY
      have e1 : P ++ Y1 ++ x :: X2 ++ M ++ X1 ++ y :: Y2 ++ Q = (P ++ Y1) ++ x :: ((X2 ++ M ++ X1) ++ y :: (Y2 ++ Q)) := by simp
      have e2 : P ++ Y1 ++ x :: X2 ++ M ++ X1 ++ y :: Y2 ++ Q = (P ++ Y1 ++ x :: X2 ++ M ++ X1) ++ y :: (Y2 ++ Q) := by simp
      ((refine hif_true ?_ ?_; (· (first | rfl | assumption | omega | (simp only [gt_iff_lt, ge_iff_le, decide_eq_true_eq, decide_eq_false_iff_not, beq_iff_eq, bne_iff_ne, ne_eq, beq_eq_false_iff_ne, bne_eq_false_iff_eq, List.length_map, List.length_append, List.length_cons, List.length_nil, List.length_take, List.length_drop, Bool.not_eq_true', Bool.not_eq_false', Bool.not_eq_true, Bool.not_eq_false, Decidable.not_not, Nat.cast_ofNat, Int.natCast_add] <;> omega) | (simp <;> omega))); conv => whnf); try (refine hcut.go ?_; conv => whnf))
      ((refine hwrap_fit (W_fit ?_ ?_) ?_; (· (first | omega | (simp only [List.length_map, List.length_append, List.length_take, List.length_drop, List.length_cons, List.length_nil] <;> omega) | (simp <;> omega))); (· (first | omega | (simp only [List.length_map, List.length_append, List.length_take, List.length_drop, List.length_cons, List.length_nil] <;> omega) | (simp <;> omega))); conv => whnf); try (refine hcut.go ?_; conv => whnf))
      ((refine hwrap_fit (W_fit ?_ ?_) ?_; (· (first | omega | (simp only [List.length_map, List.length_append, List.length_take, List.length_drop, List.length_cons, List.length_nil] <;> omega) | (simp <;> omega))); (· (first | omega | (simp only [List.length_map, List.length_append, List.length_take, List.length_drop, List.length_cons, List.length_nil] <;> omega) | (simp <;> omega))); conv => whnf); try (refine hcut.go ?_; conv => whnf))
      ((refine hwrap_fit (W_fit ?_ ?_) ?_; (· (first | omega | (simp only [List.length_map, List.length_append, List.length_take, List.length_drop, List.length_cons, List.length_nil] <;> omega) | (simp <;> omega))); (· (first | omega | (simp only [List.length_map, List.length_append, List.length_take, List.length_drop, List.length_cons, List.length_nil] <;> omega) | (simp <;> omega))); conv => whnf); try (refine hcut.go ?_; conv => whnf))
      ((refine hobl_intro ?_ ?_; (· (first | omega | (simp only [List.length_map, List.length_append, List.length_take, List.length_drop, List.length_cons, List.length_nil] <;> omega) | (simp <;> omega))); conv => whnf); try (refine hcut.go ?_; conv => whnf))
      refine hrow_mid e2 ?_ ?_
      · simp; omega
      conv => whnf
      ((refine hwrap_fit (W_fit ?_ ?_) ?_; (· (first | omega | (simp only [List.length_map, List.length_append, List.length_take, List.length_drop, List.length_cons, List.length_nil] <;> omega) | (simp <;> omega))); (· (first | omega | (simp only [List.length_map, List.length_append, List.length_take, List.length_drop, List.length_cons, List.length_nil] <;> omega) | (simp <;> omega))); conv => whnf); try (refine hcut.go ?_; conv => whnf))
      ((refine hobl_intro ?_ ?_; (· (first | omega | (simp only [List.length_map, List.length_append, List.length_take, List.length_drop, List.length_cons, List.length_nil] <;> omega) | (simp <;> omega))); conv => whnf); try (refine hcut.go ?_; conv => whnf))
      refine hrow_mid e1 ?_ ?_
      · simp; omega
      conv => whnf
      ((refine hobl_intro ?_ ?_; (· (first | omega | (simp only [List.length_map, List.length_append, List.length_take, List.length_drop, List.length_cons, List.length_nil] <;> omega) | (simp <;> omega))); conv => whnf); try (refine hcut.go ?_; conv => whnf))
      refine hrow_mid e1 ?_ ?_
      · simp; omega
      conv => whnf
      ((refine hobl_intro ?_ ?_; (· (first | omega | (simp only [List.length_map, List.length_append, List.length_take, List.length_drop, List.length_cons, List.length_nil] <;> omega) | (simp <;> omega))); conv => whnf); try (refine hcut.go ?_; conv => whnf))
      refine hrow_set_mid e2 ?_ ?_ ?_
      · simp; omega
      · simp; omega
      conv => whnf
      ((refine hdraw_intro ?_ ?_; (· kernel_rfl); conv => whnf); try (refine hcut.go ?_; conv => whnf))
      ((refine hwrap_fit (W_fit ?_ ?_) ?_; (· (first | omega | (simp only [List.length_map, List.length_append, List.length_take, List.length_drop, List.length_cons, List.length_nil] <;> omega) | (simp <;> omega))); (· (first | omega | (simp only [List.length_map, List.length_append, List.length_take, List.length_drop, List.length_cons, List.length_nil] <;> omega) | (simp <;> omega))); conv => whnf); try (refine hcut.go ?_; conv => whnf))
      refine ⟨⟨((X1 ++ [x], X2), (Y1 ++ [y], Y2)), by rw [hX]; simp, by rw [hY]; simp, by simp; omega⟩, (hle_of [(1000000, some 1000000)] rfl rfl rfl rfl (by repeat' (first | exact trivial | (refine ⟨rfl, ?_⟩))) (by repeat' (first | exact trivial | exact rfl | (refine ⟨⟨rfl, ?_⟩, ?_⟩) | (refine ⟨rfl, ?_⟩) | ((refine row_swap e1 (by simp) ?_ ?_ rfl rfl <;> (simp; try omega))) | (simp; done) | (simp; rfl))) (by repeat' (first | exact trivial | exact rfl | exact .inl rfl | exact .inr rfl | (refine ⟨⟨rfl, .inl ⟨_, rfl, ?_⟩⟩, ?_⟩) | (refine ⟨⟨rfl, _, rfl, ?_⟩, ?_⟩) | (refine ⟨⟨rfl, .inr ⟨rfl, ?_⟩⟩, ?_⟩) | (refine ⟨rfl, ?_⟩) | ((refine row_swap e1 (by simp) ?_ ?_ rfl rfl <;> (simp; try omega))) | (simp; done) | (simp; rfl)))), by simp⟩
theorem spec_swap_eq {g : FuncId} {L L' : List Piece} (P M Q X Y : List Piece) (h1 : L = P ++ X ++ M ++ Y ++ Q) (h2 : L' = P ++ Y ++ M ++ X ++ Q) (hxy : X.length = Y.length) (hb : L.length < 2 ^ 40) (a b n : Int) (ha : a = P.length) (hb' : b = (P ++ X ++ M).length) (hn : n = X.length) :
    FunOK Try.prog 135 [.own 1000000, i64 a, i64 b, i64 n, .clo g []] (lk .free (H1 L)) (.tup []) (lk .free (H1 L')) := by
  subst h1 h2; exact spec_swap P M Q X Y hxy hb a b n ha hb' hn
theorem spec_rotate {g : FuncId} (P Q U V : List Piece) (hU : U ≠ []) (hV : V ≠ []) (hb : (P ++ U ++ V ++ Q).length < 2 ^ 40) (a m b : Int) (ha : a = P.length) (hm : m = (P ++ U).length) (hb' : b = (P ++ U ++ V).length) :
    FunOK Try.prog 134 [.own 1000000, i64 a, i64 m, i64 b, .clo g []] (lk .free (H1 (P ++ U ++ V ++ Q))) (.tup []) (lk .free (H1 (P ++ V ++ U ++ Q))) := by
  refine funOK_of mixed Try.func134 (by decide) [1000000] lk_pins ?_
  simp only [List.length_append] at hb hm hb'
  have hU0 := List.length_pos_iff.2 hU
  have hV0 := List.length_pos_iff.2 hV
  generalize hT : P ++ V ++ U ++ Q = T
  conv => whnf
  ((refine hwrap_fit (W_fit ?_ ?_) ?_; (· (first | omega | (simp only [List.length_map, List.length_append, List.length_take, List.length_drop, List.length_cons, List.length_nil] <;> omega) | (simp <;> omega))); (· (first | omega | (simp only [List.length_map, List.length_append, List.length_take, List.length_drop, List.length_cons, List.length_nil] <;> omega) | (simp <;> omega))); conv => whnf); try (refine hcut.go ?_; conv => whnf))
  ((refine hwrap_fit (W_fit ?_ ?_) ?_; (· (first | omega | (simp only [List.length_map, List.length_append, List.length_take, List.length_drop, List.length_cons, List.length_nil] <;> omega) | (simp <;> omega))); (· (first | omega | (simp only [List.length_map, List.length_append, List.length_take, List.length_drop, List.length_cons, List.length_nil] <;> omega) | (simp <;> omega))); conv => whnf); try (refine hcut.go ?_; conv => whnf))
  refine ⟨{ x : (List Piece × List Piece) × (List Piece × List Piece) // x.1.1 ++ x.2.1 ++ x.1.2 ++ x.2.2 = T ∧ x.1.1.length + x.1.2.length = P.length + U.length ∧ 0 < x.1.2.length ∧ 0 < x.2.1.length ∧ x.1.1.length + x.1.2.length + x.2.1.length + x.2.2.length = P.length + U.length + V.length + Q.length },
    fun | ⟨((P', U'), (V', Q')), _⟩ => hsP [1000000] 58 [(0, .own 1000000), (2, i64 m), (4, .clo g []), (10, i64 U'.length), (11, i64 V'.length)] (H1 (P' ++ U' ++ V' ++ Q')), fun x => x.1.1.2.length + x.1.2.1.length, ⟨((P, U), (V, Q)), by simpa using hT, rfl, hU0, hV0, rfl⟩, ?_, ?_⟩
  · exact (hle_of [(1000000, some 1000000)] rfl rfl rfl rfl (by repeat' (first | exact trivial | (refine ⟨rfl, ?_⟩))) (by repeat' (first | exact trivial | exact rfl | (refine ⟨⟨rfl, ?_⟩, ?_⟩) | (refine ⟨rfl, ?_⟩) | ((exact i64_eq (by omega))) | (simp; done) | (simp; rfl))) (by repeat' (first | exact trivial | exact rfl | exact .inl rfl | exact .inr rfl | (refine ⟨⟨rfl, .inl ⟨_, rfl, ?_⟩⟩, ?_⟩) | (refine ⟨⟨rfl, _, rfl, ?_⟩, ?_⟩) | (refine ⟨⟨rfl, .inr ⟨rfl, ?_⟩⟩, ?_⟩) | (refine ⟨rfl, ?_⟩) | ((exact i64_eq (by omega))) | (simp; done) | (simp; rfl))))
  clear hT hU hV
  rintro ⟨⟨⟨P', U'⟩, ⟨V', Q'⟩⟩, h1, h2, h3, h4, h5⟩
  dsimp only at h1 h2 h3 h4 h5
  subst hm
  conv => whnf
  by_cases c : U'.length = V'.length
  · ((refine hif_false ?_ ?_; (· (first | rfl | assumption | omega | (simp only [gt_iff_lt, ge_iff_le, decide_eq_true_eq, decide_eq_false_iff_not, beq_iff_eq, bne_iff_ne, ne_eq, beq_eq_false_iff_ne, bne_eq_false_iff_eq, List.length_map, List.length_append, List.length_cons, List.length_nil, List.length_take, List.length_drop, Bool.not_eq_true', Bool.not_eq_false', Bool.not_eq_true, Bool.not_eq_false, Decidable.not_not, Nat.cast_ofNat, Int.natCast_add] <;> omega) | (simp <;> omega))); conv => whnf); try (refine hcut.go ?_; conv => whnf))
    ((refine hwrap_fit (W_fit ?_ ?_) ?_; (· (first | omega | (simp only [List.length_map, List.length_append, List.length_take, List.length_drop, List.length_cons, List.length_nil] <;> omega) | (simp <;> omega))); (· (first | omega | (simp only [List.length_map, List.length_append, List.length_take, List.length_drop, List.length_cons, List.length_nil] <;> omega) | (simp <;> omega))); conv => whnf); try (refine hcut.go ?_; conv => whnf))
    ((refine hcall_give [] [(1000000, 1000000)] [] ?_; (conv => whnf); refine ⟨_, _, _, _, spec_swap_eq (L := P' ++ U' ++ V' ++ Q') (L' := T) P' [] Q' U' V' (by simp) (by rw [← h1]; simp) c (by simp; omega) _ _ _ (by simp; omega) (by simp; omega) rfl, ⟨rfl, rfl, rfl, ⟨⟨rfl, _, rfl, .inl ⟨rfl, rfl⟩⟩, trivial⟩, trivial, rfl, rfl, rfl⟩, ?_⟩; conv => whnf); try (refine hcut.go ?_; conv => whnf))
    refine hfin_of [(1000000, some 1000000)] rfl rfl ⟨rfl, trivial⟩ rfl rfl ⟨⟨rfl, .inl ⟨1000000, rfl, rfl⟩⟩, trivial⟩
  · ((refine hif_true ?_ ?_; (· (first | rfl | assumption | omega | (simp only [gt_iff_lt, ge_iff_le, decide_eq_true_eq, decide_eq_false_iff_not, beq_iff_eq, bne_iff_ne, ne_eq, beq_eq_false_iff_ne, bne_eq_false_iff_eq, List.length_map, List.length_append, List.length_cons, List.length_nil, List.length_take, List.length_drop, Bool.not_eq_true', Bool.not_eq_false', Bool.not_eq_true, Bool.not_eq_false, Decidable.not_not, Nat.cast_ofNat, Int.natCast_add] <;> omega) | (simp <;> omega))); conv => whnf); try (refine hcut.go ?_; conv => whnf))
    by_cases c2 : U'.length > V'.length
    · obtain ⟨A, B, rfl, hA⟩ : ∃ A B, U' = A ++ B ∧ A.length = V'.length := ⟨U'.take V'.length, U'.drop V'.length, by simp, by simp; omega⟩
      simp only [List.length_append] at h2 h3 h5 c c2
      refine hif_true (by simp; omega) ?_; conv => whnf
      try (refine hcut.go ?_; conv => whnf)
      ((refine hwrap_fit (W_fit ?_ ?_) ?_; (· (first | omega | (simp only [List.length_map, List.length_append, List.length_take, List.length_drop, List.length_cons, List.length_nil] <;> omega) | (simp <;> omega))); (· (first | omega | (simp only [List.length_map, List.length_append, List.length_take, List.length_drop, List.length_cons, List.length_nil] <;> omega) | (simp <;> omega))); conv => whnf); try (refine hcut.go ?_; conv => whnf))
      ((refine hcall_give [] [(1000000, 1000000)] [] ?_; (conv => whnf); refine ⟨_, _, _, _, spec_swap_eq (L := P' ++ (A ++ B) ++ V' ++ Q') (L' := P' ++ V' ++ B ++ A ++ Q') P' B Q' A V' (by simp) rfl hA (by (first | omega | (simp only [List.length_map, List.length_append, List.length_take, List.length_drop, List.length_cons, List.length_nil] <;> omega) | (simp <;> omega))) _ _ _ (by (first | omega | (simp only [List.length_map, List.length_append, List.length_take, List.length_drop, List.length_cons, List.length_nil] <;> omega) | (simp <;> omega))) (by (first | omega | (simp only [List.length_map, List.length_append, List.length_take, List.length_drop, List.length_cons, List.length_nil] <;> omega) | (simp <;> omega))) (by (first | omega | (simp only [List.length_map, List.length_append, List.length_take, List.length_drop, List.length_cons, List.length_nil] <;> omega) | (simp <;> omega))), ⟨rfl, rfl, rfl, ⟨⟨rfl, _, rfl, .inl ⟨rfl, rfl⟩⟩, trivial⟩, trivial, rfl, rfl, rfl⟩, ?_⟩; conv => whnf); try (refine hcut.go ?_; conv => whnf))
      ((refine hwrap_fit (W_fit ?_ ?_) ?_; (· (first | omega | (simp only [List.length_map, List.length_append, List.length_take, List.length_drop, List.length_cons, List.length_nil] <;> omega) | (simp <;> omega))); (· (first | omega | (simp only [List.length_map, List.length_append, List.length_take, List.length_drop, List.length_cons, List.length_nil] <;> omega) | (simp <;> omega))); conv => whnf); try (refine hcut.go ?_; conv => whnf))
      refine ⟨⟨((P' ++ V', B), (A, Q')), by rw [← h1]; simp, by simp; omega, by dsimp only; omega, by dsimp only; omega, by simp; omega⟩, (hle_of [(1000000, some 1000000)] rfl rfl rfl rfl (by repeat' (first | exact trivial | (refine ⟨rfl, ?_⟩))) (by repeat' (first | exact trivial | exact rfl | (refine ⟨⟨rfl, ?_⟩, ?_⟩) | (refine ⟨rfl, ?_⟩) | ((exact i64_eq (by (first | omega | (simp only [List.length_map, List.length_append, List.length_take, List.length_drop, List.length_cons, List.length_nil] <;> omega) | (simp <;> omega))))) | (simp; done) | (simp; rfl))) (by repeat' (first | exact trivial | exact rfl | exact .inl rfl | exact .inr rfl | (refine ⟨⟨rfl, .inl ⟨_, rfl, ?_⟩⟩, ?_⟩) | (refine ⟨⟨rfl, _, rfl, ?_⟩, ?_⟩) | (refine ⟨⟨rfl, .inr ⟨rfl, ?_⟩⟩, ?_⟩) | (refine ⟨rfl, ?_⟩) | ((exact i64_eq (by (first | omega | (simp only [List.length_map, List.length_append, List.length_take, List.length_drop, List.length_cons, List.length_nil] <;> omega) | (simp <;> omega))))) | (simp; done) | (simp; rfl)))), by simp; omega⟩
    · obtain ⟨A, B, rfl, hB⟩ : ∃ A B, V' = A ++ B ∧ B.length = U'.length := ⟨V'.take (V'.length - U'.length), V'.drop (V'.length - U'.length), by simp, by simp; omega⟩
      simp only [List.length_append] at h2 h4 h5 c c2
      refine hif_false (by simp; omega) ?_; conv => whnf
      try (refine hcut.go ?_; conv => whnf)
      ((refine hwrap_fit (W_fit ?_ ?_) ?_; (· (first | omega | (simp only [List.length_map, List.length_append, List.length_take, List.length_drop, List.length_cons, List.length_nil] <;> omega) | (simp <;> omega))); (· (first | omega | (simp only [List.length_map, List.length_append, List.length_take, List.length_drop, List.length_cons, List.length_nil] <;> omega) | (simp <;> omega))); conv => whnf); try (refine hcut.go ?_; conv => whnf))
      ((refine hwrap_fit (W_fit ?_ ?_) ?_; (· (first | omega | (simp only [List.length_map, List.length_append, List.length_take, List.length_drop, List.length_cons, List.length_nil] <;> omega) | (simp <;> omega))); (· (first | omega | (simp only [List.length_map, List.length_append, List.length_take, List.length_drop, List.length_cons, List.length_nil] <;> omega) | (simp <;> omega))); conv => whnf); try (refine hcut.go ?_; conv => whnf))
      ((refine hwrap_fit (W_fit ?_ ?_) ?_; (· (first | omega | (simp only [List.length_map, List.length_append, List.length_take, List.length_drop, List.length_cons, List.length_nil] <;> omega) | (simp <;> omega))); (· (first | omega | (simp only [List.length_map, List.length_append, List.length_take, List.length_drop, List.length_cons, List.length_nil] <;> omega) | (simp <;> omega))); conv => whnf); try (refine hcut.go ?_; conv => whnf))
      ((refine hcall_give [] [(1000000, 1000000)] [] ?_; (conv => whnf); refine ⟨_, _, _, _, spec_swap_eq (L := P' ++ U' ++ (A ++ B) ++ Q') (L' := P' ++ B ++ A ++ U' ++ Q') P' A Q' U' B (by simp) rfl hB.symm (by (first | omega | (simp only [List.length_map, List.length_append, List.length_take, List.length_drop, List.length_cons, List.length_nil] <;> omega) | (simp <;> omega))) _ _ _ (by (first | omega | (simp only [List.length_map, List.length_append, List.length_take, List.length_drop, List.length_cons, List.length_nil] <;> omega) | (simp <;> omega))) (by (first | omega | (simp only [List.length_map, List.length_append, List.length_take, List.length_drop, List.length_cons, List.length_nil] <;> omega) | (simp <;> omega))) (by (first | omega | (simp only [List.length_map, List.length_append, List.length_take, List.length_drop, List.length_cons, List.length_nil] <;> omega) | (simp <;> omega))), ⟨rfl, rfl, rfl, ⟨⟨rfl, _, rfl, .inl ⟨rfl, rfl⟩⟩, trivial⟩, trivial, rfl, rfl, rfl⟩, ?_⟩; conv => whnf); try (refine hcut.go ?_; conv => whnf))
      ((refine hwrap_fit (W_fit ?_ ?_) ?_; (· (first | omega | (simp only [List.length_map, List.length_append, List.length_take, List.length_drop, List.length_cons, List.length_nil] <;> omega) | (simp <;> omega))); (· (first | omega | (simp only [List.length_map, List.length_append, List.length_take, List.length_drop, List.length_cons, List.length_nil] <;> omega) | (simp <;> omega))); conv => whnf); try (refine hcut.go ?_; conv => whnf))
      refine ⟨⟨((P', B), (A, U' ++ Q')), by rw [← h1]; simp, by simp; omega, by dsimp only; omega, by dsimp only; omega, by simp; omega⟩, (hle_of [(1000000, some 1000000)] rfl rfl rfl rfl (by repeat' (first | exact trivial | (refine ⟨rfl, ?_⟩))) (by repeat' (first | exact trivial | exact rfl | (refine ⟨⟨rfl, ?_⟩, ?_⟩) | (refine ⟨rfl, ?_⟩) | ((exact i64_eq (by (first | omega | (simp only [List.length_map, List.length_append, List.length_take, List.length_drop, List.length_cons, List.length_nil] <;> omega) | (simp <;> omega))))) | ((exact row_eqs (by simp))) | (simp; done) | (simp; rfl))) (by repeat' (first | exact trivial | exact rfl | exact .inl rfl | exact .inr rfl | (refine ⟨⟨rfl, .inl ⟨_, rfl, ?_⟩⟩, ?_⟩) | (refine ⟨⟨rfl, _, rfl, ?_⟩, ?_⟩) | (refine ⟨⟨rfl, .inr ⟨rfl, ?_⟩⟩, ?_⟩) | (refine ⟨rfl, ?_⟩) | ((exact i64_eq (by (first | omega | (simp only [List.length_map, List.length_append, List.length_take, List.length_drop, List.length_cons, List.length_nil] <;> omega) | (simp <;> omega))))) | ((exact row_eqs (by simp))) | (simp; done) | (simp; rfl)))), by simp; omega⟩
theorem nil_or_snoc {α : Type} (l : List α) : l = [] ∨ ∃ a x, l = a ++ [x] := by
  rcases List.eq_nil_or_concat l with h | ⟨a, x, h⟩
  · exact .inl h
  · exact .inr ⟨a, x, by rw [h, List.concat_eq_append]⟩
theorem spec_isort {g : FuncId} (hg : CmpOK g) (P X Q : List Piece) (hb : (P ++ X ++ Q).length < 2 ^ 40) (a b : Int) (ha : a = P.length) (hb' : b = (P ++ X).length) :
    FunOK Try.prog 131 [.own 1000000, i64 a, i64 b, .clo g []] (lk .free (H1 (P ++ X ++ Q))) (.tup []) (lk .free (H1 (P ++ srt ck X ++ Q))) := by
  refine funOK_of mixed Try.func131 (by decide) [1000000] lk_pins ?_
  simp only [List.length_append] at hb hb'
  conv => whnf
  ((refine hwrap_fit (W_fit ?_ ?_) ?_; (· (first | omega | (simp only [List.length_map, List.length_append, List.length_take, List.length_drop, List.length_cons, List.length_nil] <;> omega) | (simp <;> omega))); (· (first | omega | (simp only [List.length_map, List.length_append, List.length_take, List.length_drop, List.length_cons, List.length_nil] <;> omega) | (simp <;> omega))); conv => whnf); try (refine hcut.go ?_; conv => whnf))
  cases X with
  | nil =>
    refine ⟨Unit, fun _ => hsP [1000000] 53 [(0, .own 1000000), (1, i64 a), (2, i64 b), (3, .clo g []), (8, i64 (a + 1))] (H1 (P ++ [] ++ Q)), fun _ => 0, (), ?_, fun _ => ?_⟩
    · exact (hle_of [(1000000, some 1000000)] rfl rfl rfl rfl (by repeat' (first | exact trivial | (refine ⟨rfl, ?_⟩))) (by repeat' (first | exact trivial | exact rfl | (refine ⟨⟨rfl, ?_⟩, ?_⟩) | (refine ⟨rfl, ?_⟩) | (simp; done) | (simp; rfl))) (by repeat' (first | exact trivial | exact rfl | exact .inl rfl | exact .inr rfl | (refine ⟨⟨rfl, .inl ⟨_, rfl, ?_⟩⟩, ?_⟩) | (refine ⟨⟨rfl, _, rfl, ?_⟩, ?_⟩) | (refine ⟨⟨rfl, .inr ⟨rfl, ?_⟩⟩, ?_⟩) | (refine ⟨rfl, ?_⟩) | (simp; done) | (simp; rfl))))
    conv => whnf
    refine hif_false (by simp at hb' ⊢; omega) ?_; conv => whnf
    try (refine hcut.go ?_; conv => whnf)
    refine hfin_of [(1000000, some 1000000)] rfl rfl ⟨rfl, trivial⟩ rfl rfl ⟨⟨rfl, .inl ⟨1000000, rfl, rfl⟩⟩, trivial⟩
  | cons x0 X =>
    refine ⟨{ x : List Piece × List Piece // x0 :: X = x.1 ++ x.2 ∧ 0 < x.1.length }, fun | ⟨(A, B), _⟩ => hsP [1000000] 53 [(0, .own 1000000), (1, i64 a), (2, i64 b), (3, .clo g []), (8, i64 (P.length + A.length : Nat))] (H1 (P ++ srt ck A ++ B ++ Q)), fun x => x.1.2.length, ⟨([x0], X), rfl, by simp⟩, ?_, ?_⟩
    · exact (hle_of [(1000000, some 1000000)] rfl rfl rfl rfl (by repeat' (first | exact trivial | (refine ⟨rfl, ?_⟩))) (by repeat' (first | exact trivial | exact rfl | (refine ⟨⟨rfl, ?_⟩, ?_⟩) | (refine ⟨rfl, ?_⟩) | ((exact i64_eq (by (first | omega | (simp only [List.length_map, List.length_append, List.length_take, List.length_drop, List.length_cons, List.length_nil] <;> omega) | (simp <;> omega))))) | ((exact row_eqs (by simp [srt, ins]))) | (simp; done) | (simp; rfl))) (by repeat' (first | exact trivial | exact rfl | exact .inl rfl | exact .inr rfl | (refine ⟨⟨rfl, .inl ⟨_, rfl, ?_⟩⟩, ?_⟩) | (refine ⟨⟨rfl, _, rfl, ?_⟩, ?_⟩) | (refine ⟨⟨rfl, .inr ⟨rfl, ?_⟩⟩, ?_⟩) | (refine ⟨rfl, ?_⟩) | ((exact i64_eq (by (first | omega | (simp only [List.length_map, List.length_append, List.length_take, List.length_drop, List.length_cons, List.length_nil] <;> omega) | (simp <;> omega))))) | ((exact row_eqs (by simp [srt, ins]))) | (simp; done) | (simp; rfl))))
    rintro ⟨⟨A, B⟩, h, hA⟩
    dsimp only at h hA
    have hl : (x0 :: X).length = A.length + B.length := by rw [h]; simp
    rw [hl] at hb hb'
    have hS := srt_length (key := ck) A
    conv => whnf
    cases B with
    | nil =>
      rw [List.length_nil] at hb hb'
      rw [List.append_nil] at h
      ((refine hif_false ?_ ?_; (· (first | rfl | assumption | omega | (simp only [gt_iff_lt, ge_iff_le, decide_eq_true_eq, decide_eq_false_iff_not, beq_iff_eq, bne_iff_ne, ne_eq, beq_eq_false_iff_ne, bne_eq_false_iff_eq, List.length_map, List.length_append, List.length_cons, List.length_nil, List.length_take, List.length_drop, Bool.not_eq_true', Bool.not_eq_false', Bool.not_eq_true, Bool.not_eq_false, Decidable.not_not, Nat.cast_ofNat, Int.natCast_add] <;> omega) | (simp <;> omega))); conv => whnf); try (refine hcut.go ?_; conv => whnf))
      refine hfin_of [(1000000, some 1000000)] rfl rfl ⟨rfl, trivial⟩ rfl rfl ⟨⟨rfl, .inl ⟨1000000, rfl, ?_⟩⟩, trivial⟩
      exact row_eqs (by rw [h]; simp)
    | cons x B =>
      rw [List.length_cons] at hb hb'
      refine hif_true (by simp; omega) ?_; conv => whnf
      try (refine hcut.go ?_; conv => whnf)
      have hsd := srt_sd (key := ck) (l := A)
      have hsn := srt_snoc (key := ck) A x
      obtain ⟨S, hSe⟩ : ∃ S, S = srt ck A := ⟨_, rfl⟩
      rw [← hSe] at hS hsd hsn
      refine ⟨{ y : List Piece × List Piece // S = y.1 ++ y.2 ∧ ∀ z ∈ y.2, ck x < ck z }, fun | ⟨(S1, S2), _⟩ => hsP [1000000] 53 [(0, .own 1000000), (1, i64 a), (2, i64 b), (3, .clo g []), (8, i64 (P.length + A.length : Nat)), (9, i64 (P.length + S1.length : Nat))] (H1 (P ++ S1 ++ x :: (S2 ++ B ++ Q))), fun y => y.1.1.length, ⟨(S, []), by simp, by simp⟩, ?_, ?_⟩
      · exact (hle_of [(1000000, some 1000000)] rfl rfl rfl rfl (by repeat' (first | exact trivial | (refine ⟨rfl, ?_⟩))) (by repeat' (first | exact trivial | exact rfl | (refine ⟨⟨rfl, ?_⟩, ?_⟩) | (refine ⟨rfl, ?_⟩) | ((exact i64_eq (by (first | omega | (simp only [List.length_map, List.length_append, List.length_take, List.length_drop, List.length_cons, List.length_nil] <;> omega) | (simp <;> omega))))) | ((exact row_eqs (by simp [hSe]))) | (simp; done) | (simp; rfl))) (by repeat' (first | exact trivial | exact rfl | exact .inl rfl | exact .inr rfl | (refine ⟨⟨rfl, .inl ⟨_, rfl, ?_⟩⟩, ?_⟩) | (refine ⟨⟨rfl, _, rfl, ?_⟩, ?_⟩) | (refine ⟨⟨rfl, .inr ⟨rfl, ?_⟩⟩, ?_⟩) | (refine ⟨rfl, ?_⟩) | ((exact i64_eq (by (first | omega | (simp only [List.length_map, List.length_append, List.length_take, List.length_drop, List.length_cons, List.length_nil] <;> omega) | (simp <;> omega))))) | ((exact row_eqs (by simp [hSe]))) | (simp; done) | (simp; rfl))))
      rintro ⟨⟨S1, S2⟩, g1, g2⟩
      dsimp only at g1 g2
      have hSl : S.length = S1.length + S2.length := by rw [g1]; simp
      have fin : ∀ (hle : ∀ z ∈ S1, ck z ≤ ck x), srt ck (A ++ [x]) = S1 ++ x :: S2 := fun hle => by rw [hsn, g1]; exact mrg_right hle g2
      conv => whnf
      rcases nil_or_snoc S1 with rfl | ⟨S1, y, rfl⟩
      · refine hif_false (by simp; omega) ?_; conv => whnf
        ((refine hdraw_intro ?_ ?_; (· kernel_rfl); conv => whnf); try (refine hcut.go ?_; conv => whnf))
        ((refine hwrap_fit (W_fit ?_ ?_) ?_; (· (first | omega | (simp only [List.length_map, List.length_append, List.length_take, List.length_drop, List.length_cons, List.length_nil] <;> omega) | (simp <;> omega))); (· (first | omega | (simp only [List.length_map, List.length_append, List.length_take, List.length_drop, List.length_cons, List.length_nil] <;> omega) | (simp <;> omega))); conv => whnf); try (refine hcut.go ?_; conv => whnf))
        exact ⟨⟨(A ++ [x], B), by rw [h]; simp, by simp⟩, (hle_of [(1000000, some 1000000)] rfl rfl rfl rfl (by repeat' (first | exact trivial | (refine ⟨rfl, ?_⟩))) (by repeat' (first | exact trivial | exact rfl | (refine ⟨⟨rfl, ?_⟩, ?_⟩) | (refine ⟨rfl, ?_⟩) | ((exact i64_eq (by (first | omega | (simp only [List.length_map, List.length_append, List.length_take, List.length_drop, List.length_cons, List.length_nil] <;> omega) | (simp <;> omega))))) | ((exact row_eqs (by rw [fin (by simp)]; simp))) | (simp; done) | (simp; rfl))) (by repeat' (first | exact trivial | exact rfl | exact .inl rfl | exact .inr rfl | (refine ⟨⟨rfl, .inl ⟨_, rfl, ?_⟩⟩, ?_⟩) | (refine ⟨⟨rfl, _, rfl, ?_⟩, ?_⟩) | (refine ⟨⟨rfl, .inr ⟨rfl, ?_⟩⟩, ?_⟩) | (refine ⟨rfl, ?_⟩) | ((exact i64_eq (by (first | omega | (simp only [List.length_map, List.length_append, List.length_take, List.length_drop, List.length_cons, List.length_nil] <;> omega) | (simp <;> omega))))) | ((exact row_eqs (by rw [fin (by simp)]; simp))) | (simp; done) | (simp; rfl)))), by simp⟩
      · have e1 : P ++ (S1 ++ [y]) ++ x :: (S2 ++ B ++ Q) = (P ++ S1) ++ y :: ([] ++ x :: (S2 ++ B ++ Q)) := by simp
        have e2 : P ++ (S1 ++ [y]) ++ x :: (S2 ++ B ++ Q) = (P ++ S1 ++ [y]) ++ x :: (S2 ++ B ++ Q) := by simp
        simp only [List.length_append, List.length_cons, List.length_nil] at hSl
        refine hif_true (by simp; omega) ?_; conv => whnf
        ((refine hobl_intro ?_ ?_; (· (first | omega | (simp only [List.length_map, List.length_append, List.length_take, List.length_drop, List.length_cons, List.length_nil] <;> omega) | (simp <;> omega))); conv => whnf); try (refine hcut.go ?_; conv => whnf))
        refine hrow_mid e2 (by simp; omega) ?_; conv => whnf
        ((refine hwrap_fit (W_fit ?_ ?_) ?_; (· (first | omega | (simp only [List.length_map, List.length_append, List.length_take, List.length_drop, List.length_cons, List.length_nil] <;> omega) | (simp <;> omega))); (· (first | omega | (simp only [List.length_map, List.length_append, List.length_take, List.length_drop, List.length_cons, List.length_nil] <;> omega) | (simp <;> omega))); conv => whnf); try (refine hcut.go ?_; conv => whnf))
        ((refine hobl_intro ?_ ?_; (· (first | omega | (simp only [List.length_map, List.length_append, List.length_take, List.length_drop, List.length_cons, List.length_nil] <;> omega) | (simp <;> omega))); conv => whnf); try (refine hcut.go ?_; conv => whnf))
        refine hrow_mid e1 (by simp; omega) ?_; conv => whnf
        ((refine hcall_lend0 ?_; (conv => whnf); refine ⟨_, hg x y, rfl, ?_⟩; conv => whnf); try (refine hcut.go ?_; conv => whnf))
        ((refine hdraw_intro ?_ ?_; (· kernel_rfl); conv => whnf); try (refine hcut.go ?_; conv => whnf))
        by_cases c : cmp x y < 0
        · ((refine hif_true ?_ ?_; (· (first | rfl | assumption | omega | (simp only [gt_iff_lt, ge_iff_le, decide_eq_true_eq, decide_eq_false_iff_not, beq_iff_eq, bne_iff_ne, ne_eq, beq_eq_false_iff_ne, bne_eq_false_iff_eq, List.length_map, List.length_append, List.length_cons, List.length_nil, List.length_take, List.length_drop, Bool.not_eq_true', Bool.not_eq_false', Bool.not_eq_true, Bool.not_eq_false, Decidable.not_not, Nat.cast_ofNat, Int.natCast_add] <;> omega) | (simp <;> omega))); conv => whnf); try (refine hcut.go ?_; conv => whnf))
          ((refine hwrap_fit (W_fit ?_ ?_) ?_; (· (first | omega | (simp only [List.length_map, List.length_append, List.length_take, List.length_drop, List.length_cons, List.length_nil] <;> omega) | (simp <;> omega))); (· (first | omega | (simp only [List.length_map, List.length_append, List.length_take, List.length_drop, List.length_cons, List.length_nil] <;> omega) | (simp <;> omega))); conv => whnf); try (refine hcut.go ?_; conv => whnf))
          ((refine hwrap_fit (W_fit ?_ ?_) ?_; (· (first | omega | (simp only [List.length_map, List.length_append, List.length_take, List.length_drop, List.length_cons, List.length_nil] <;> omega) | (simp <;> omega))); (· (first | omega | (simp only [List.length_map, List.length_append, List.length_take, List.length_drop, List.length_cons, List.length_nil] <;> omega) | (simp <;> omega))); conv => whnf); try (refine hcut.go ?_; conv => whnf))
          ((refine hobl_intro ?_ ?_; (· (first | omega | (simp only [List.length_map, List.length_append, List.length_take, List.length_drop, List.length_cons, List.length_nil] <;> omega) | (simp <;> omega))); conv => whnf); try (refine hcut.go ?_; conv => whnf))
          refine hrow_mid e1 (by simp; omega) ?_; conv => whnf
          ((refine hobl_intro ?_ ?_; (· (first | omega | (simp only [List.length_map, List.length_append, List.length_take, List.length_drop, List.length_cons, List.length_nil] <;> omega) | (simp <;> omega))); conv => whnf); try (refine hcut.go ?_; conv => whnf))
          refine hrow_mid e2 (by simp; omega) ?_; conv => whnf
          ((refine hobl_intro ?_ ?_; (· (first | omega | (simp only [List.length_map, List.length_append, List.length_take, List.length_drop, List.length_cons, List.length_nil] <;> omega) | (simp <;> omega))); conv => whnf); try (refine hcut.go ?_; conv => whnf))
          refine hrow_mid e2 (by simp; omega) ?_; conv => whnf
          ((refine hobl_intro ?_ ?_; (· (first | omega | (simp only [List.length_map, List.length_append, List.length_take, List.length_drop, List.length_cons, List.length_nil] <;> omega) | (simp <;> omega))); conv => whnf); try (refine hcut.go ?_; conv => whnf))
          refine hrow_set_mid e1 (by simp; omega) (by simp; omega) ?_; conv => whnf
          ((refine hdraw_intro ?_ ?_; (· kernel_rfl); conv => whnf); try (refine hcut.go ?_; conv => whnf))
          ((refine hwrap_fit (W_fit ?_ ?_) ?_; (· (first | omega | (simp only [List.length_map, List.length_append, List.length_take, List.length_drop, List.length_cons, List.length_nil] <;> omega) | (simp <;> omega))); (· (first | omega | (simp only [List.length_map, List.length_append, List.length_take, List.length_drop, List.length_cons, List.length_nil] <;> omega) | (simp <;> omega))); conv => whnf); try (refine hcut.go ?_; conv => whnf))
          refine ⟨⟨(S1, y :: S2), by rw [g1]; simp, fun z hz => ?_⟩, (hle_of [(1000000, some 1000000)] rfl rfl rfl rfl (by repeat' (first | exact trivial | (refine ⟨rfl, ?_⟩))) (by repeat' (first | exact trivial | exact rfl | (refine ⟨⟨rfl, ?_⟩, ?_⟩) | (refine ⟨rfl, ?_⟩) | ((exact i64_eq (by (first | omega | (simp only [List.length_map, List.length_append, List.length_take, List.length_drop, List.length_cons, List.length_nil] <;> omega) | (simp <;> omega))))) | ((refine row_swap2 e1 (by simp) ?_ ?_ rfl rfl <;> (simp; try omega))) | (simp; done) | (simp; rfl))) (by repeat' (first | exact trivial | exact rfl | exact .inl rfl | exact .inr rfl | (refine ⟨⟨rfl, .inl ⟨_, rfl, ?_⟩⟩, ?_⟩) | (refine ⟨⟨rfl, _, rfl, ?_⟩, ?_⟩) | (refine ⟨⟨rfl, .inr ⟨rfl, ?_⟩⟩, ?_⟩) | (refine ⟨rfl, ?_⟩) | ((exact i64_eq (by (first | omega | (simp only [List.length_map, List.length_append, List.length_take, List.length_drop, List.length_cons, List.length_nil] <;> omega) | (simp <;> omega))))) | ((refine row_swap2 e1 (by simp) ?_ ?_ rfl rfl <;> (simp; try omega))) | (simp; done) | (simp; rfl)))), by simp⟩
          rcases List.mem_cons.1 hz with rfl | hz
          · exact cmp_neg.1 c
          · exact g2 z hz
        · have hle : ∀ z ∈ S1 ++ [y], ck z ≤ ck x := fun z hz => by
            have h1 : ¬ ck x < ck y := fun h => c (cmp_neg.2 h)
            rw [g1] at hsd
            have h2 := (sd_app.1 (sd_app.1 hsd).1).2.2
            rcases List.mem_append.1 hz with hz | hz
            · have := h2 z hz y (by simp); omega
            · rw [List.mem_singleton.1 hz]; omega
          ((refine hif_false ?_ ?_; (· (first | rfl | assumption | omega | (simp only [gt_iff_lt, ge_iff_le, decide_eq_true_eq, decide_eq_false_iff_not, beq_iff_eq, bne_iff_ne, ne_eq, beq_eq_false_iff_ne, bne_eq_false_iff_eq, List.length_map, List.length_append, List.length_cons, List.length_nil, List.length_take, List.length_drop, Bool.not_eq_true', Bool.not_eq_false', Bool.not_eq_true, Bool.not_eq_false, Decidable.not_not, Nat.cast_ofNat, Int.natCast_add] <;> omega) | (simp <;> omega))); conv => whnf); try (refine hcut.go ?_; conv => whnf))
          ((refine hwrap_fit (W_fit ?_ ?_) ?_; (· (first | omega | (simp only [List.length_map, List.length_append, List.length_take, List.length_drop, List.length_cons, List.length_nil] <;> omega) | (simp <;> omega))); (· (first | omega | (simp only [List.length_map, List.length_append, List.length_take, List.length_drop, List.length_cons, List.length_nil] <;> omega) | (simp <;> omega))); conv => whnf); try (refine hcut.go ?_; conv => whnf))
          exact ⟨⟨(A ++ [x], B), by rw [h]; simp, by simp⟩, (hle_of [(1000000, some 1000000)] rfl rfl rfl rfl (by repeat' (first | exact trivial | (refine ⟨rfl, ?_⟩))) (by repeat' (first | exact trivial | exact rfl | (refine ⟨⟨rfl, ?_⟩, ?_⟩) | (refine ⟨rfl, ?_⟩) | ((exact i64_eq (by (first | omega | (simp only [List.length_map, List.length_append, List.length_take, List.length_drop, List.length_cons, List.length_nil] <;> omega) | (simp <;> omega))))) | ((exact row_eqs (by rw [fin hle]; simp))) | (simp; done) | (simp; rfl))) (by repeat' (first | exact trivial | exact rfl | exact .inl rfl | exact .inr rfl | (refine ⟨⟨rfl, .inl ⟨_, rfl, ?_⟩⟩, ?_⟩) | (refine ⟨⟨rfl, _, rfl, ?_⟩, ?_⟩) | (refine ⟨⟨rfl, .inr ⟨rfl, ?_⟩⟩, ?_⟩) | (refine ⟨rfl, ?_⟩) | ((exact i64_eq (by (first | omega | (simp only [List.length_map, List.length_append, List.length_take, List.length_drop, List.length_cons, List.length_nil] <;> omega) | (simp <;> omega))))) | ((exact row_eqs (by rw [fin hle]; simp))) | (simp; done) | (simp; rfl)))), by simp⟩
theorem hrow_in {α : Type} {f : α → List PV} {l A V B : List α} {z : Int} {K : List PV → Prop} (k : Nat) (h : l = A ++ V ++ B) (hk : k < V.length) (hz : z = A.length + k) (hK : K (f V[k])) : hrow (l.map f) z K := by
  subst h
  refine ⟨_, by omega, ?_, hK⟩
  have : z.toNat = A.length + k := by omega
  rw [this, List.getElem?_map, List.append_assoc, List.getElem?_append_right (by omega), List.getElem?_append_left (by omega)]
  simp [hk]
theorem parted (p : Piece → Prop) [DecidablePred p] : ∀ {V : List Piece}, (∀ i j (hj : j < V.length) (hij : i ≤ j), p V[j] → p (V[i]'(by omega))) → ∃ V1 V2, V = V1 ++ V2 ∧ (∀ z ∈ V1, p z) ∧ ∀ z ∈ V2, ¬ p z
  | [], _ => ⟨[], [], rfl, by simp, by simp⟩
  | y :: V, h => by
    by_cases c : p y
    · obtain ⟨V1, V2, e, h1, h2⟩ := parted p (V := V) fun i j hj hij hp => by
        have := h (i + 1) (j + 1) (by simpa using hj) (by omega) (by simpa using hp)
        simpa using this
      exact ⟨y :: V1, V2, by rw [e]; rfl, fun z hz => by rcases List.mem_cons.1 hz with rfl | hz; exact c; exact h1 z hz, h2⟩
    · refine ⟨[], y :: V, rfl, by simp, fun z hz hp => ?_⟩
      obtain ⟨j, hj, rfl⟩ := List.getElem_of_mem hz
      exact c (h 0 j hj (Nat.zero_le _) hp)
theorem mem_left {V V1 V2 : List Piece} (h : V = V1 ++ V2) {k : Nat} (hk : k < V.length) (h1 : k < V1.length) : V[k] ∈ V1 := by
  subst h; rw [List.getElem_append_left h1]; exact List.getElem_mem h1
theorem mem_right {V V1 V2 : List Piece} (h : V = V1 ++ V2) {k : Nat} (hk : k < V.length) (h1 : ¬ k < V1.length) : V[k] ∈ V2 := by
  subst h; rw [List.getElem_append_right (by omega)]; exact List.getElem_mem _
end Srt
end Go.HL
