/- slices.Delete, slices.Insert and slices.BinarySearchFunc of spans, as what they compute. -/
import Derived.Test.YticmofoeecjnhaaSer
namespace Go.HL
open Go.Proofs
set_option maxHeartbeats 2000000
set_option maxRecDepth 100000
set_option linter.unusedSimpArgs false
theorem del_rows {rows ys : List (List PV)} {z : List PV} {i j a k m : Nat} (hij : i ≤ j) (hj : j ≤ rows.length) (ha : a = i) (hy : ys = (rows.drop j).take (rows.length - j)) (hk : k = i + ys.length) (hm : m = j - i) (_ : i + ys.length + (j - i) = rows.length) :
    splice (splice rows a ys) k (List.replicate m z) = rows.take i ++ rows.drop j ++ List.replicate (j - i) z := by
  subst ha hm
  have hy2 : ys = rows.drop j := by rw [hy, List.take_of_length_le (by simp)]
  have h1 : ys.length = rows.length - j := by rw [hy2]; simp
  have h2 : (rows.take a).length = a := by simp; omega
  have h3 : splice rows a ys = (rows.take a ++ ys) ++ rows.drop k := by rw [splice, hk]
  have h4 : (rows.take a ++ ys).length = k := by simp; omega
  rw [splice, h3, List.take_left' h4, List.drop_eq_nil_of_le (by simp only [List.length_append, List.length_drop, List.length_replicate, h2]; omega), List.append_nil, hy2]
theorem ins_rows {rows ys zs : List (List PV)} {a b k : Nat} (hk : k < rows.length) (ha : a = k + 1) (hy : ys = rows.drop k) (hb : b = k) (hz : zs.length = 1) : splice (splice rows a ys) b zs = rows.take k ++ zs ++ rows.drop k := by
  subst ha hy hb
  have h1 : splice rows (b + 1) (rows.drop b) = rows.take (b + 1) ++ rows.drop b := by
    rw [splice, List.drop_eq_nil_of_le (i := b + 1 + (rows.drop b).length) (by simp; omega), List.append_nil]
  have h2 : (rows.take (b + 1)).length = b + 1 := by simp; omega
  rw [splice, h1, hz, List.drop_left' h2, List.take_append_of_le_length (by omega), List.take_take, Nat.min_eq_left (by omega)]
theorem ins_grow {rows ys zs : List (List PV)} {z : List PV} {a b k m : Nat} (hk : k < rows.length) (hm : m = rows.length + 1 - k) (ha : a = k) (hz : zs.length = 1) (hb : b = k + 1) (hy : ys = rows.drop k) :
    splice (splice (rows.take k ++ List.replicate m z) a zs) b ys = rows.take k ++ zs ++ rows.drop k := by
  subst hm ha hb hy
  have h1 : (rows.take a).length = a := by simp; omega
  have h2 : splice (rows.take a ++ List.replicate (rows.length + 1 - a) z) a zs = (rows.take a ++ zs) ++ (rows.take a ++ List.replicate (rows.length + 1 - a) z).drop (a + 1) := by
    rw [splice, List.take_left' h1, hz]
  have h3 : (rows.take a ++ zs).length = a + 1 := by simp; omega
  rw [splice, h2, List.take_left' h3, List.drop_eq_nil_of_le (i := a + 1 + _) (by simp; omega), List.append_nil]
theorem row1 {α : Type} {f : α → List PV} {v : α} {m : Nat} {l r : List α} (h : 0 < m) : (l.map f ++ [f v].take m) ++ r.map f = (l ++ v :: r).map f := by
  rw [List.take_of_length_le (by simp; omega), List.map_append, List.map_cons, List.append_assoc]; rfl
theorem row1k {α : Type} {f : α → List PV} {v : α} {m k : Nat} {l : List α} (h : 0 < m) : (l.map f).take k ++ [f v].take m ++ (l.map f).drop k = (l.take k ++ v :: l.drop k).map f := by
  rw [← List.map_take, ← List.map_drop]; exact row1 h
def bsFound (cmp : Span → Int) (l : List Span) (K : Nat) : Bool := match l[K]? with | some s => cmp s == 0 | none => false
theorem spec_bs {g : FuncId} {cmp : Span → Int} {n : Int} (hg : ∀ m : Span, FunOK Try.prog g [m.hv, i64 n] noHeap (i64 (cmp m)) noHeap) (l : List Span) (K : Nat) (hK : K ≤ l.length) (hm : ∀ (i : Nat) (h : i < l.length), cmp l[i] < 0 ↔ i < K) (hb : l.length < 2 ^ 40) :
    FunOK Try.prog 66 [Ser.spans l, i64 n, .clo g []] noHeap (.tup [i64 K, hbool (bsFound cmp l K)]) noHeap := by
  refine funOK_pure mixed Try.func66 (by decide) ?_
  conv => whnf
  refine ⟨{ x : Nat × Nat // x.1 ≤ K ∧ K ≤ x.2 ∧ x.2 ≤ l.length }, fun | ⟨(i, j), _⟩ => hs 49 [(0, Ser.spans l), (1, i64 n), (2, .clo g []), (8, i64 l.length), (9, i64 i), (10, i64 j)] [], fun x => x.1.2 - x.1.1, ⟨(0, l.length), by simp, hK, Nat.le_refl _⟩, ?_, ?_⟩
  · exact (hle_hs [] rfl rfl rfl rfl (by repeat' (first | exact trivial | exact rfl | (refine ⟨⟨rfl, ?_⟩, ?_⟩) | (refine ⟨rfl, ?_⟩) | (simp; done) | (simp; rfl))) (by repeat' (first | exact trivial | exact rfl | exact .inl rfl | exact .inr rfl | (refine ⟨⟨rfl, .inl ⟨_, rfl, ?_⟩⟩, ?_⟩) | (refine ⟨⟨rfl, _, rfl, ?_⟩, ?_⟩) | (refine ⟨⟨rfl, .inr ⟨rfl, ?_⟩⟩, ?_⟩) | (refine ⟨rfl, ?_⟩) | (simp; done) | (simp; rfl))))
  rintro ⟨⟨i, j⟩, h1, h2, h3⟩
  dsimp only at h1 h2 h3
  conv => whnf
  by_cases c : i < j
  · have hlt : (i + j) / 2 < l.length := by omega
    ((refine hif_true ?_ ?_; (· (first | rfl | assumption | omega | (simp only [gt_iff_lt, ge_iff_le, decide_eq_true_eq, decide_eq_false_iff_not, beq_iff_eq, bne_iff_ne, ne_eq, beq_eq_false_iff_ne, bne_eq_false_iff_eq, List.length_map, List.length_append, List.length_cons, List.length_nil, List.length_take, List.length_drop, Bool.not_eq_true', Bool.not_eq_false', Bool.not_eq_true, Bool.not_eq_false, Decidable.not_not, Nat.cast_ofNat, Int.natCast_add] <;> omega) | (simp <;> omega))); conv => whnf); try (refine hcut.go ?_; conv => whnf))
    ((refine hwrap_fit (W_fit ?_ ?_) ?_; (· (first | omega | (simp only [List.length_map, List.length_append, List.length_take, List.length_drop, List.length_cons, List.length_nil] <;> omega) | (simp <;> omega))); (· (first | omega | (simp only [List.length_map, List.length_append, List.length_take, List.length_drop, List.length_cons, List.length_nil] <;> omega) | (simp <;> omega))); conv => whnf); try (refine hcut.go ?_; conv => whnf))
    refine hwrap_to (U64_fit (by omega) (by omega)) ?_; conv => whnf
    refine hobl_intro (by decide) ?_; conv => whnf
    refine hwrap_to (z' := (((i + j) / 2 : Nat) : Int)) ?_ ?_
    · show W (((i : Int) + j) / 2) = _
      rw [W_fit (by omega) (by omega)]; omega
    conv => whnf
    refine hrow_at ((i + j) / 2) rfl hlt ?_; conv => whnf
    ((refine hcall_lend0 ?_; (conv => whnf); refine ⟨_, hg l[(i + j) / 2], rfl, ?_⟩; conv => whnf); try (refine hcut.go ?_; conv => whnf))
    by_cases c2 : cmp l[(i + j) / 2] < 0
    · have hk := (hm _ hlt).1 c2
      ((refine hif_true ?_ ?_; (· (first | rfl | assumption | omega | (simp only [gt_iff_lt, ge_iff_le, decide_eq_true_eq, decide_eq_false_iff_not, beq_iff_eq, bne_iff_ne, ne_eq, beq_eq_false_iff_ne, bne_eq_false_iff_eq, List.length_map, List.length_append, List.length_cons, List.length_nil, List.length_take, List.length_drop, Bool.not_eq_true', Bool.not_eq_false', Bool.not_eq_true, Bool.not_eq_false, Decidable.not_not, Nat.cast_ofNat, Int.natCast_add] <;> omega) | (simp <;> omega))); conv => whnf); try (refine hcut.go ?_; conv => whnf))
      ((refine hwrap_fit (W_fit ?_ ?_) ?_; (· (first | omega | (simp only [List.length_map, List.length_append, List.length_take, List.length_drop, List.length_cons, List.length_nil] <;> omega) | (simp <;> omega))); (· (first | omega | (simp only [List.length_map, List.length_append, List.length_take, List.length_drop, List.length_cons, List.length_nil] <;> omega) | (simp <;> omega))); conv => whnf); try (refine hcut.go ?_; conv => whnf))
      exact ⟨⟨((i + j) / 2 + 1, j), hk, h2, h3⟩, (hle_hs [] rfl rfl rfl rfl (by repeat' (first | exact trivial | exact rfl | (refine ⟨⟨rfl, ?_⟩, ?_⟩) | (refine ⟨rfl, ?_⟩) | (simp; done) | (simp; rfl))) (by repeat' (first | exact trivial | exact rfl | exact .inl rfl | exact .inr rfl | (refine ⟨⟨rfl, .inl ⟨_, rfl, ?_⟩⟩, ?_⟩) | (refine ⟨⟨rfl, _, rfl, ?_⟩, ?_⟩) | (refine ⟨⟨rfl, .inr ⟨rfl, ?_⟩⟩, ?_⟩) | (refine ⟨rfl, ?_⟩) | (simp; done) | (simp; rfl)))), by dsimp only; omega⟩
    · have hk : ¬ (i + j) / 2 < K := fun h => c2 ((hm _ hlt).2 h)
      ((refine hif_false ?_ ?_; (· (first | rfl | assumption | omega | (simp only [gt_iff_lt, ge_iff_le, decide_eq_true_eq, decide_eq_false_iff_not, beq_iff_eq, bne_iff_ne, ne_eq, beq_eq_false_iff_ne, bne_eq_false_iff_eq, List.length_map, List.length_append, List.length_cons, List.length_nil, List.length_take, List.length_drop, Bool.not_eq_true', Bool.not_eq_false', Bool.not_eq_true, Bool.not_eq_false, Decidable.not_not, Nat.cast_ofNat, Int.natCast_add] <;> omega) | (simp <;> omega))); conv => whnf); try (refine hcut.go ?_; conv => whnf))
      exact ⟨⟨(i, (i + j) / 2), h1, by dsimp only; omega, by dsimp only; omega⟩, (hle_hs [] rfl rfl rfl rfl (by repeat' (first | exact trivial | exact rfl | (refine ⟨⟨rfl, ?_⟩, ?_⟩) | (refine ⟨rfl, ?_⟩) | (simp; done) | (simp; rfl))) (by repeat' (first | exact trivial | exact rfl | exact .inl rfl | exact .inr rfl | (refine ⟨⟨rfl, .inl ⟨_, rfl, ?_⟩⟩, ?_⟩) | (refine ⟨⟨rfl, _, rfl, ?_⟩, ?_⟩) | (refine ⟨⟨rfl, .inr ⟨rfl, ?_⟩⟩, ?_⟩) | (refine ⟨rfl, ?_⟩) | (simp; done) | (simp; rfl)))), by dsimp only; omega⟩
  · have hi : i = K := by omega
    subst hi
    ((refine hif_false ?_ ?_; (· (first | rfl | assumption | omega | (simp only [gt_iff_lt, ge_iff_le, decide_eq_true_eq, decide_eq_false_iff_not, beq_iff_eq, bne_iff_ne, ne_eq, beq_eq_false_iff_ne, bne_eq_false_iff_eq, List.length_map, List.length_append, List.length_cons, List.length_nil, List.length_take, List.length_drop, Bool.not_eq_true', Bool.not_eq_false', Bool.not_eq_true, Bool.not_eq_false, Decidable.not_not, Nat.cast_ofNat, Int.natCast_add] <;> omega) | (simp <;> omega))); conv => whnf); try (refine hcut.go ?_; conv => whnf))
    by_cases c2 : i < l.length
    · ((refine hif_true ?_ ?_; (· (first | rfl | assumption | omega | (simp only [gt_iff_lt, ge_iff_le, decide_eq_true_eq, decide_eq_false_iff_not, beq_iff_eq, bne_iff_ne, ne_eq, beq_eq_false_iff_ne, bne_eq_false_iff_eq, List.length_map, List.length_append, List.length_cons, List.length_nil, List.length_take, List.length_drop, Bool.not_eq_true', Bool.not_eq_false', Bool.not_eq_true, Bool.not_eq_false, Decidable.not_not, Nat.cast_ofNat, Int.natCast_add] <;> omega) | (simp <;> omega))); conv => whnf); try (refine hcut.go ?_; conv => whnf))
      refine hrow_at i rfl c2 ?_; conv => whnf
      ((refine hcall_lend0 ?_; (conv => whnf); refine ⟨_, hg l[i], rfl, ?_⟩; conv => whnf); try (refine hcut.go ?_; conv => whnf))
      rw [bsFound, List.getElem?_eq_getElem c2]
    · ((refine hif_false ?_ ?_; (· (first | rfl | assumption | omega | (simp only [gt_iff_lt, ge_iff_le, decide_eq_true_eq, decide_eq_false_iff_not, beq_iff_eq, bne_iff_ne, ne_eq, beq_eq_false_iff_ne, bne_eq_false_iff_eq, List.length_map, List.length_append, List.length_cons, List.length_nil, List.length_take, List.length_drop, Bool.not_eq_true', Bool.not_eq_false', Bool.not_eq_true, Bool.not_eq_false, Decidable.not_not, Nat.cast_ofNat, Int.natCast_add] <;> omega) | (simp <;> omega))); conv => whnf); try (refine hcut.go ?_; conv => whnf))
      rw [bsFound, List.getElem?_eq_none (by omega)]
theorem del_Span_w (l : List Span) (i j : Nat) (hij : i ≤ j) (hj : j ≤ l.length) (hb : l.length < 2 ^ 40) :
    FunOK Try.prog 69 [.osl 1000000 2 0 (l.map Span.row).length, i64 i, i64 j] (lk .free [(1000000, .live (.row 83 2 (l.map Span.row)))])
      (.osl 1000000 2 0 (l.length - (j - i))) (lk .free [(1000000, .live (.row 83 2 ((l.take i ++ l.drop j).map Span.row ++ List.replicate (j - i) [pi 0, pi 0])))]) := by
  refine funOK_of mixed Try.func69 (by decide) [1000000] lk_pins ?_
  have hlr : (l.map Span.row).length = l.length := by simp
  conv => whnf
  ((refine hobl_intro ?_ ?_; (· (first | omega | (simp only [List.length_map, List.length_append, List.length_take, List.length_drop, List.length_cons, List.length_nil] <;> omega) | (simp <;> omega))); conv => whnf); try (refine hcut.go ?_; conv => whnf))
  by_cases h : i = j
  · subst h
    ((refine hif_true ?_ ?_; (· (first | rfl | assumption | omega | (simp only [gt_iff_lt, ge_iff_le, decide_eq_true_eq, decide_eq_false_iff_not, beq_iff_eq, bne_iff_ne, ne_eq, beq_eq_false_iff_ne, bne_eq_false_iff_eq, List.length_map, List.length_append, List.length_cons, List.length_nil, List.length_take, List.length_drop, Bool.not_eq_true', Bool.not_eq_false', Bool.not_eq_true, Bool.not_eq_false, Decidable.not_not, Nat.cast_ofNat, Int.natCast_add] <;> omega) | (simp <;> omega))); conv => whnf); try (refine hcut.go ?_; conv => whnf))
    refine hfin_of [(1000000, some 1000000)] rfl rfl ⟨rfl, trivial⟩ rfl ?_ ⟨⟨rfl, .inl ⟨1000000, rfl, ?_⟩⟩, trivial⟩
    · show HV.osl 1000000 2 0 (l.length - (i - i)) = HV.osl 1000000 2 0 (l.map Span.row).length
      rw [hlr, Nat.sub_self]; rfl
    · show HSlot.live (.row _ 2 (l.map Span.row)) = HSlot.live (.row _ 2 _)
      rw [List.take_append_drop, Nat.sub_self, List.replicate_zero, List.append_nil]
  · ((refine hif_false ?_ ?_; (· (first | rfl | assumption | omega | (simp only [gt_iff_lt, ge_iff_le, decide_eq_true_eq, decide_eq_false_iff_not, beq_iff_eq, bne_iff_ne, ne_eq, beq_eq_false_iff_ne, bne_eq_false_iff_eq, List.length_map, List.length_append, List.length_cons, List.length_nil, List.length_take, List.length_drop, Bool.not_eq_true', Bool.not_eq_false', Bool.not_eq_true, Bool.not_eq_false, Decidable.not_not, Nat.cast_ofNat, Int.natCast_add] <;> omega) | (simp <;> omega))); conv => whnf); try (refine hcut.go ?_; conv => whnf))
    ((refine hobl_intro ?_ ?_; (· (first | omega | (simp only [List.length_map, List.length_append, List.length_take, List.length_drop, List.length_cons, List.length_nil] <;> omega) | (simp <;> omega))); conv => whnf); try (refine hcut.go ?_; conv => whnf))
    ((refine hobl_intro ?_ ?_; (· (first | omega | (simp only [List.length_map, List.length_append, List.length_take, List.length_drop, List.length_cons, List.length_nil] <;> omega) | (simp <;> omega))); conv => whnf); try (refine hcut.go ?_; conv => whnf))
    refine ⟨_, rfl, ?_, ?_⟩
    · rw [hlr]; omega
    conv => whnf
    refine hobl_intro (by simp; omega) ?_
    conv => whnf
    refine hdraw_intro ?_ ?_
    · kernel_rfl
    conv => whnf
    refine hobl_intro (by simp [splice]; omega) ?_
    conv => whnf
    refine hobl_intro (by simp [splice]; omega) ?_
    conv => whnf
    refine hfin_of [(1000000, some 1000000)] rfl rfl ⟨rfl, trivial⟩ rfl ?_ ⟨⟨rfl, .inl ⟨1000000, rfl, ?_⟩⟩, trivial⟩
    · show HV.osl 1000000 2 0 _ = HV.osl 1000000 2 0 _
      congr 1
      simp; omega
    · refine (congrArg (fun r => HSlot.live (.row _ 2 r)) (del_rows (rows := l.map Span.row) (i := i) (j := j) (z := [pi 0, pi 0]) hij (by rw [hlr]; exact hj) ?_ ?_ ?_ ?_ ?_)).trans ?_
      · simp <;> omega
      · simp <;> omega
      · simp <;> omega
      · simp; omega
      · simp; omega
      · rw [List.map_append, List.map_take, List.map_drop]; rfl
theorem del_Span (l : List Span) (i j : Nat) (hij : i ≤ j) (hj : j ≤ l.length) (hb : l.length < 2 ^ 40) :
    FunOK Try.prog 69 [.own 1000000, i64 i, i64 j] (lk .free [(1000000, .live (.row 83 2 (l.map Span.row)))])
      (.own 0) (lk .free [(1000000, .dead), (0, .live (.row 83 2 ((l.take i ++ l.drop j).map Span.row)))]) := by
  have h := funOK_win (d := 0) (L := []) (rows := (l.take i ++ l.drop j).map Span.row ++ List.replicate (j - i) [pi 0, pi 0]) (funOK_osl (del_Span_w l i j hij hj hb)) (.inl rfl) (by simp; omega) rfl (by decide)
  rwa [List.take_left' (by simp; omega)] at h
theorem del_Span_one (a b : List Span) (x : Span) (i j : Int) (hi : i = a.length) (hj : j = a.length + 1) (hb : (a ++ x :: b).length < 2 ^ 40) :
    FunOK Try.prog 69 [.own 1000000, i64 i, i64 j] (lk .free [(1000000, .live (.row 83 2 ((a ++ x :: b).map Span.row)))])
      (.own 0) (lk .free [(1000000, .dead), (0, .live (.row 83 2 ((a ++ b).map Span.row)))]) := by
  subst hi hj
  have h := del_Span (a ++ x :: b) a.length (a.length + 1) (by omega) (by simp) hb
  rwa [List.take_left, show (a ++ x :: b).drop (a.length + 1) = b by rw [← List.drop_drop, List.drop_left]; rfl, Int.natCast_add] at h
theorem del_Span_eq {inp out : List Span} (a b : List Span) (x : Span) (i j : Int) (h1 : inp = a ++ x :: b) (h2 : out = a ++ b) (hi : i = a.length) (hj : j = a.length + 1) (hb : inp.length < 2 ^ 40) :
    FunOK Try.prog 69 [.own 1000000, i64 i, i64 j] (lk .free [(1000000, .live (.row 83 2 (inp.map Span.row)))])
      (.own 0) (lk .free [(1000000, .dead), (0, .live (.row 83 2 (out.map Span.row)))]) := by
  subst h1 h2; exact del_Span_one a b x i j hi hj hb

theorem ov_Span {H : Nat → HSlot} {i1 i2 n o l : Nat} {t1 n1 t2 n2 c : Nat} {r1 r2 : List (List PV)} (h1 : H i1 = .live (.row t1 n1 r1)) (h2 : H i2 = .live (.buf t2 n2 r2 c)) (hne : i1 ≠ i2) :
    Ov Try.prog 98 [.own i1, .osl i2 n o l] H ⟨hbool false, [], [i1, i2]⟩ := by
  obtain ⟨inf, hi, hs⟩ := Option.map_eq_some_iff.1 (show (Try.prog.info? 83).map (·.size) = some 2 by kernel_rfl)
  exact ⟨Try.f98, 83, inf, _, _, i1, i2, _, _, Try.func98, rfl, by decide, by kernel_rfl, by kernel_rfl, ⟨26, rfl, by kernel_rfl⟩, hi, by rw [hs]; decide, rfl, .inl rfl, .inr ⟨_, _, _, rfl⟩, hne, h1, h2, by simp, by simp, rfl⟩
theorem ins_Span_end (l : List Span) (v : Span) (hb : l.length < 2 ^ 40) :
    FunOK Try.prog 68 [.own 1000000, i64 l.length, .own 1000001] (lk .free [(1000000, .live (.row 83 2 (l.map Span.row))), (1000001, .live (.row 83 2 [v.row]))])
      (.own 0) (lk .free [(1000000, .dead), (0, .live (.row 83 2 ((l ++ [v]).map Span.row))), (1000001, .dead)]) := by
  refine funOK_of mixed Try.func68 (by decide) [1000000, 1000001] (fun i => by rcases lk_pins (L := [(1000000, HSlot.live (.row 83 2 (l.map Span.row))), (1000001, .live (.row 83 2 [v.row]))]) i with h | h; exact .inl h; exact .inr h) ?_
  have hlr : (l.map Span.row).length = l.length := by simp
  conv => whnf
  ((refine hobl_intro ?_ ?_; (· (first | omega | (simp only [List.length_map, List.length_append, List.length_take, List.length_drop, List.length_cons, List.length_nil] <;> omega) | (simp <;> omega))); conv => whnf); try (refine hcut.go ?_; conv => whnf))
  ((refine hif_true ?_ ?_; (· (first | rfl | assumption | omega | (simp only [gt_iff_lt, ge_iff_le, decide_eq_true_eq, decide_eq_false_iff_not, beq_iff_eq, bne_iff_ne, ne_eq, beq_eq_false_iff_ne, bne_eq_false_iff_eq, List.length_map, List.length_append, List.length_cons, List.length_nil, List.length_take, List.length_drop, Bool.not_eq_true', Bool.not_eq_false', Bool.not_eq_true, Bool.not_eq_false, Decidable.not_not, Nat.cast_ofNat, Int.natCast_add] <;> omega) | (simp <;> omega))); conv => whnf); try (refine hcut.go ?_; conv => whnf))
  refine hobl_intro (c := ((l.map Span.row).length + [v.row].length) * 16 ≤ 140737488355328) (by simp; omega) ?_; conv => whnf
  refine hfin_of [(1000000, some 1000000), (0, some 25), (1000001, some 1000001)] rfl rfl ⟨rfl, rfl, trivial⟩ rfl rfl ⟨rfl, ⟨rfl, .inl ⟨25, rfl, ?_⟩⟩, rfl, trivial⟩
  exact row_app (f := Span.row) rfl rfl
theorem ins_Span_mid (l : List Span) (k : Nat) (v : Span) (hk : k < l.length) (hb : l.length < 2 ^ 40) :
    FunOK Try.prog 68 [.own 1000000, i64 k, .own 1000001] (lk .free [(1000000, .live (.row 83 2 (l.map Span.row))), (1000001, .live (.row 83 2 [v.row]))])
      (.own 0) (lk .free [(1000000, .dead), (0, .live (.row 83 2 ((l.take k ++ v :: l.drop k).map Span.row))), (1000001, .dead)]) := by
  have hlr : (l.map Span.row).length = l.length := by simp
  refine funOK_buf (by intro h; rw [h] at hlr; simp at hlr; omega) fun cap hc1 hc2 => ?_
  rw [hlr] at hc1
  by_cases hc : l.length + 1 ≤ cap
  · have hw := funOK_win (P := Try.prog) (f := 68) (args := [.osl 1000000 2 0 (l.map Span.row).length, i64 k, .own 1000001]) (H := lk .free [(1000000, .live (.buf 83 2 (l.map Span.row) cap)), (1000001, .live (.row 83 2 [v.row]))])
      (id := 1000000) (d := 0) (b := .buf 83 2 ((l.take k ++ v :: l.drop k).map Span.row) cap) (t := 83) (n := 2) (k := l.length + 1) (rows := (l.take k ++ v :: l.drop k).map Span.row) (L := [(1000001, .dead)]) ?_ (.inr ⟨cap, rfl⟩) (by simp; omega) rfl (by decide)
    · rwa [List.take_of_length_le (by simp; omega)] at hw
    refine funOK_of mixed Try.func68 (by decide) [1000000, 1000001] (fun i => by rcases lk_pins (L := [(1000000, HSlot.live (.buf 83 2 (l.map Span.row) cap)), (1000001, .live (.row 83 2 [v.row]))]) i with h | h; exact .inl h; exact .inr h) ?_
    conv => whnf
    ((refine hobl_intro ?_ ?_; (· (first | omega | (simp only [List.length_map, List.length_append, List.length_take, List.length_drop, List.length_cons, List.length_nil] <;> omega) | (simp <;> omega))); conv => whnf); try (refine hcut.go ?_; conv => whnf))
    ((refine hif_false ?_ ?_; (· (first | rfl | assumption | omega | (simp only [gt_iff_lt, ge_iff_le, decide_eq_true_eq, decide_eq_false_iff_not, beq_iff_eq, bne_iff_ne, ne_eq, beq_eq_false_iff_ne, bne_eq_false_iff_eq, List.length_map, List.length_append, List.length_cons, List.length_nil, List.length_take, List.length_drop, Bool.not_eq_true', Bool.not_eq_false', Bool.not_eq_true, Bool.not_eq_false, Decidable.not_not, Nat.cast_ofNat, Int.natCast_add] <;> omega) | (simp <;> omega))); conv => whnf); try (refine hcut.go ?_; conv => whnf))
    refine hwrap_fit (z := ((l.map Span.row).length : Int) + 1) (W_fit (by omega) (by omega)) ?_; conv => whnf
    refine hobl_intro (by omega) ?_; conv => whnf
    ((refine hif_false ?_ ?_; (· (first | rfl | assumption | omega | (simp only [gt_iff_lt, ge_iff_le, decide_eq_true_eq, decide_eq_false_iff_not, beq_iff_eq, bne_iff_ne, ne_eq, beq_eq_false_iff_ne, bne_eq_false_iff_eq, List.length_map, List.length_append, List.length_cons, List.length_nil, List.length_take, List.length_drop, Bool.not_eq_true', Bool.not_eq_false', Bool.not_eq_true, Bool.not_eq_false, Decidable.not_not, Nat.cast_ofNat, Int.natCast_add] <;> omega) | (simp <;> omega))); conv => whnf); try (refine hcut.go ?_; conv => whnf))
    refine hwrap_fit (z := ((l.map Span.row).length : Int) + 1) (W_fit (by omega) (by omega)) ?_; conv => whnf
    ((refine hobl_intro ?_ ?_; (· (first | omega | (simp only [List.length_map, List.length_append, List.length_take, List.length_drop, List.length_cons, List.length_nil] <;> omega) | (simp <;> omega))); conv => whnf); try (refine hcut.go ?_; conv => whnf))
    refine hwrap_to (z' := ((k + 1 : Nat) : Int)) ?_ ?_
    · show W ((k : Int) + 1) = _
      rw [W_fit (by omega) (by omega)]; push_cast; rfl
    conv => whnf
    ((refine hobl_intro ?_ ?_; (· (first | omega | (simp only [List.length_map, List.length_append, List.length_take, List.length_drop, List.length_cons, List.length_nil] <;> omega) | (simp <;> omega))); conv => whnf); try (refine hcut.go ?_; conv => whnf))
    refine hcall_ov (ov_Span rfl rfl (by decide)) ?_; conv => whnf
    refine hwrap_to (z' := ((k + 1 : Nat) : Int)) ?_ ?_
    · show W ((k : Int) + 1) = _
      rw [W_fit (by omega) (by omega)]; push_cast; rfl
    conv => whnf
    ((refine hobl_intro ?_ ?_; (· (first | omega | (simp only [List.length_map, List.length_append, List.length_take, List.length_drop, List.length_cons, List.length_nil] <;> omega) | (simp <;> omega))); conv => whnf); try (refine hcut.go ?_; conv => whnf))
    ((refine hobl_intro ?_ ?_; (· (first | omega | (simp only [List.length_map, List.length_append, List.length_take, List.length_drop, List.length_cons, List.length_nil] <;> omega) | (simp <;> omega))); conv => whnf); try (refine hcut.go ?_; conv => whnf))
    refine hsub_eq (o' := k) (n' := l.length - k) (by simp) ?_ ?_
    · show min _ _ = l.length - k
      simp; omega
    refine hsub_from (l := l) (by omega) ?_
    conv => whnf
    refine hobl_intro (by simp; omega) ?_; conv => whnf
    refine hdraw_intro ?_ ?_
    · kernel_rfl
    conv => whnf
    ((refine hobl_intro ?_ ?_; (· (first | omega | (simp only [List.length_map, List.length_append, List.length_take, List.length_drop, List.length_cons, List.length_nil] <;> omega) | (simp <;> omega))); conv => whnf); try (refine hcut.go ?_; conv => whnf))
    refine hobl_intro (by simp [splice]; omega) ?_; conv => whnf
    refine hfin_of [(1000000, some 1000000), (1000001, some 1000001)] rfl rfl ⟨rfl, rfl, trivial⟩ rfl ?_ ⟨⟨rfl, .inl ⟨1000000, rfl, ?_⟩⟩, rfl, trivial⟩
    · show HV.osl 1000000 2 0 _ = HV.osl 1000000 2 0 _
      congr 1
      simp
    · refine (congrArg (fun r => HSlot.live (.buf _ 2 r cap)) (ins_rows (rows := l.map Span.row) (k := k) (by omega) ?_ ?_ ?_ ?_)).trans ?_
      · simp <;> omega
      · rw [List.map_drop]
      · simp <;> omega
      · simp <;> omega
      · refine congrArg (fun r => HSlot.live (.buf _ 2 r cap)) (row1k (f := Span.row) ?_)
        simp; omega
  · refine funOK_of mixed Try.func68 (by decide) [1000000, 1000001] (fun i => by rcases lk_pins (L := [(1000000, HSlot.live (.buf 83 2 (l.map Span.row) cap)), (1000001, .live (.row 83 2 [v.row]))]) i with h | h; exact .inl h; exact .inr h) ?_
    conv => whnf
    ((refine hobl_intro ?_ ?_; (· (first | omega | (simp only [List.length_map, List.length_append, List.length_take, List.length_drop, List.length_cons, List.length_nil] <;> omega) | (simp <;> omega))); conv => whnf); try (refine hcut.go ?_; conv => whnf))
    ((refine hif_false ?_ ?_; (· (first | rfl | assumption | omega | (simp only [gt_iff_lt, ge_iff_le, decide_eq_true_eq, decide_eq_false_iff_not, beq_iff_eq, bne_iff_ne, ne_eq, beq_eq_false_iff_ne, bne_eq_false_iff_eq, List.length_map, List.length_append, List.length_cons, List.length_nil, List.length_take, List.length_drop, Bool.not_eq_true', Bool.not_eq_false', Bool.not_eq_true, Bool.not_eq_false, Decidable.not_not, Nat.cast_ofNat, Int.natCast_add] <;> omega) | (simp <;> omega))); conv => whnf); try (refine hcut.go ?_; conv => whnf))
    refine hwrap_fit (z := ((l.map Span.row).length : Int) + 1) (W_fit (by omega) (by omega)) ?_; conv => whnf
    refine hobl_intro (by omega) ?_; conv => whnf
    ((refine hif_true ?_ ?_; (· (first | rfl | assumption | omega | (simp only [gt_iff_lt, ge_iff_le, decide_eq_true_eq, decide_eq_false_iff_not, beq_iff_eq, bne_iff_ne, ne_eq, beq_eq_false_iff_ne, bne_eq_false_iff_eq, List.length_map, List.length_append, List.length_cons, List.length_nil, List.length_take, List.length_drop, Bool.not_eq_true', Bool.not_eq_false', Bool.not_eq_true, Bool.not_eq_false, Decidable.not_not, Nat.cast_ofNat, Int.natCast_add] <;> omega) | (simp <;> omega))); conv => whnf); try (refine hcut.go ?_; conv => whnf))
    ((refine hobl_intro ?_ ?_; (· (first | omega | (simp only [List.length_map, List.length_append, List.length_take, List.length_drop, List.length_cons, List.length_nil] <;> omega) | (simp <;> omega))); conv => whnf); try (refine hcut.go ?_; conv => whnf))
    refine hwrap_fit (z := ((l.map Span.row).length : Int) + 1) (W_fit (by omega) (by omega)) ?_; conv => whnf
    refine hwrap_to (z' := ((l.length + 1 - k : Nat) : Int)) ?_ ?_
    · show W (((l.map Span.row).length : Int) + 1 - k) = _
      rw [W_fit (by omega) (by omega)]; omega
    conv => whnf
    refine hobl_intro (show 0 ≤ _ ∧ _ ≤ _ ∧ _ < _ ∧ _ ≤ _ ∧ (_ : Int) * 16 ≤ (140737488355328 : Int) from ?_) ?_
    · simp; omega
    conv => whnf
    refine hobl_intro ?_ ?_
    · simp; omega
    conv => whnf
    refine hobl_intro (by simp [splice]; omega) ?_; conv => whnf
    refine hwrap_to (z' := ((k + 1 : Nat) : Int)) ?_ ?_
    · show W ((k : Int) + 1) = _
      rw [W_fit (by omega) (by omega)]; push_cast; rfl
    conv => whnf
    refine hobl_intro (by simp [splice]; omega) ?_; conv => whnf
    refine hobl_intro (by simp [splice]; omega) ?_; conv => whnf
    refine hsub_eq (o' := k) (n' := l.length - k) (by simp) ?_ ?_
    · show min _ _ = l.length - k
      simp [splice]; omega
    refine hsub_from (l := l) (by omega) ?_
    conv => whnf
    refine hobl_intro (by simp [splice]; omega) ?_; conv => whnf
    refine hdraw_intro ?_ ?_
    · kernel_rfl
    conv => whnf
    refine hfin_of [(1000000, some 1000000), (0, some 40), (1000001, some 1000001)] rfl rfl ⟨rfl, rfl, trivial⟩ rfl rfl ⟨rfl, ⟨rfl, .inl ⟨40, rfl, ?_⟩⟩, rfl, trivial⟩
    refine (congrArg (fun r => HSlot.live (.row _ 2 r)) (ins_grow (rows := l.map Span.row) (k := k) (by omega) ?_ ?_ ?_ ?_ ?_)).trans ?_
    · simp
    · simp
    · simp; omega
    · simp
    · rw [List.map_drop]
    · refine congrArg (fun r => HSlot.live (.row _ 2 r)) (row1k (f := Span.row) ?_)
      simp; omega
theorem ins_Span_at (a b : List Span) (v : Span) (k : Int) (hk : k = a.length) (hb : (a ++ b).length < 2 ^ 40) :
    FunOK Try.prog 68 [.own 1000000, i64 k, .own 1000001] (lk .free [(1000000, .live (.row 83 2 ((a ++ b).map Span.row))), (1000001, .live (.row 83 2 [v.row]))])
      (.own 0) (lk .free [(1000000, .dead), (0, .live (.row 83 2 ((a ++ v :: b).map Span.row))), (1000001, .dead)]) := by
  subst hk
  cases b with
  | nil =>
    rw [List.append_nil] at hb ⊢
    exact ins_Span_end a v hb
  | cons x b =>
    have h := ins_Span_mid (a ++ x :: b) a.length v (by simp) hb
    rwa [List.take_left, List.drop_left] at h

end Go.HL
