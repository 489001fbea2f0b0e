/- The document's Add. -/
import Derived.Test.YticmofoeecjnhaaSerB
namespace Go.HL
open Go.Proofs
namespace Ser
set_option maxHeartbeats 2000000
set_option maxRecDepth 100000
set_option linter.unusedSimpArgs false
def p1 (n : Int) : List Span → Int × Int → Int × Int
  | [], p => p
  | s :: r, p => p1 n r (if s.hi = n - 1 then (s.lo, p.2) else if s.lo = n + 1 then (p.1, s.hi) else p)
def p2 (n lo hi : Int) : List Span → Bool → List Span
  | [], put => if put then [] else [⟨lo, hi⟩]
  | s :: r, put => if s.hi = n - 1 ∨ s.lo = n + 1 then p2 n lo hi r put else if put = false ∧ s.lo > n then ⟨lo, hi⟩ :: s :: p2 n lo hi r true else s :: p2 n lo hi r put
theorem p1_low {n : Int} {r : List Span} : ∀ {a : List Span} {p : Int × Int}, (∀ s ∈ a, s.hi < n - 1 ∧ s.lo ≤ s.hi) → p1 n (a ++ r) p = p1 n r p
  | [], p, _ => rfl
  | s :: a, p, h => by
    have h1 := h s (by simp)
    rw [List.cons_append, p1, if_neg (by omega), if_neg (by omega)]
    exact p1_low fun s hs => h s (by simp [hs])
theorem p1_high {n : Int} : ∀ {a : List Span} {p : Int × Int}, (∀ s ∈ a, n + 1 < s.lo ∧ s.lo ≤ s.hi) → p1 n a p = p
  | [], p, _ => rfl
  | s :: a, p, h => by
    have h1 := h s (by simp)
    rw [p1, if_neg (by omega), if_neg (by omega)]
    exact p1_high fun s hs => h s (by simp [hs])
theorem p2_low {n lo hi : Int} {r : List Span} : ∀ {a : List Span}, (∀ s ∈ a, s.hi < n - 1 ∧ s.lo ≤ s.hi) → p2 n lo hi (a ++ r) false = a ++ p2 n lo hi r false
  | [], _ => rfl
  | s :: a, h => by
    have h1 := h s (by simp)
    rw [List.cons_append, p2, if_neg (by omega), if_neg (by omega), List.cons_append, p2_low fun s hs => h s (by simp [hs])]
theorem p2_put {n lo hi : Int} : ∀ {a : List Span}, (∀ s ∈ a, n + 1 < s.lo ∧ s.lo ≤ s.hi) → p2 n lo hi a true = a
  | [], _ => rfl
  | s :: a, h => by
    have h1 := h s (by simp)
    rw [p2, if_neg (by omega), if_neg (by simp), p2_put fun s hs => h s (by simp [hs])]
theorem p2_high {n lo hi : Int} {a : List Span} (h : ∀ s ∈ a, n + 1 < s.lo ∧ s.lo ≤ s.hi) : p2 n lo hi a false = ⟨lo, hi⟩ :: a := by
  cases a with
  | nil => rfl
  | cons s a =>
    have h1 := h s (by simp)
    rw [p2, if_neg (by omega), if_pos ⟨rfl, by omega⟩, p2_put fun s hs => h s (by simp [hs])]
theorem radd_eq {l : List Span} {n : Int} (h : rise l) (hn : has l n = false) : p2 n (p1 n l (n, n)).1 (p1 n l (n, n)).2 l false = add l n := by
  have hsp := split l n
  have hab := h
  rw [hsp] at hab
  obtain ⟨ra, rb, rab⟩ := rise_app.1 hab
  have hlow := below_lt (l := l) (n := n)
  have habv := above_gt h hn
  have hadd : add l n = (cutL n (below l n)).1 ++ ⟨(cutL n (below l n)).2, (cutR n (above l n)).1⟩ :: (cutR n (above l n)).2 := by rw [add, hn]; rfl
  rw [hadd]
  generalize below l n = A at *
  generalize above l n = B at *
  subst hsp
  have hA : ∃ a : List Span, (∀ s ∈ a, s.hi < n - 1 ∧ s.lo ≤ s.hi) ∧ (A = a ∧ cutL n A = (a, n) ∨ ∃ s, A = a ++ [s] ∧ s.hi = n - 1 ∧ cutL n A = (a, s.lo)) := by
    rcases nil_or_snoc A with rfl | ⟨a, s, rfl⟩
    · exact ⟨[], by simp, .inl ⟨rfl, rfl⟩⟩
    · obtain ⟨r1, r2, r3⟩ := rise_app.1 ra
      have hs := hlow s (by simp)
      have hs2 := r2.1
      have hal : ∀ t ∈ a, t.hi < n - 1 ∧ t.lo ≤ t.hi := fun t ht => by
        have := r3 t ht s (by simp); have := (rise_mem r1 t ht).1; omega
      rw [cutL_snoc]
      by_cases c : s.hi = n - 1
      · exact ⟨a, hal, .inr ⟨s, rfl, c, by rw [if_pos c]⟩⟩
      · refine ⟨a ++ [s], fun t ht => ?_, .inl ⟨rfl, by rw [if_neg c]⟩⟩
        rcases List.mem_append.1 ht with ht | ht
        · exact hal t ht
        · rw [List.mem_singleton.1 ht]; omega
  have hB : ∃ b : List Span, (∀ s ∈ b, n + 1 < s.lo ∧ s.lo ≤ s.hi) ∧ (B = b ∧ cutR n B = (n, b) ∨ ∃ s, B = s :: b ∧ s.lo = n + 1 ∧ s.lo ≤ s.hi ∧ cutR n B = (s.hi, b)) := by
    cases B with
    | nil => exact ⟨[], by simp, .inl ⟨rfl, rfl⟩⟩
    | cons s b =>
      have hs := habv s (by simp)
      have hs2 := rb.1
      have hbl : ∀ t ∈ b, n + 1 < t.lo ∧ t.lo ≤ t.hi := fun t ht => by
        have := rb.2.2.2.1 t ht; have := (rise_mem rb.2.2.2.2 t ht).1; omega
      by_cases c : s.lo = n + 1
      · exact ⟨b, hbl, .inr ⟨s, rfl, c, hs2, by simp [cutR, c]⟩⟩
      · refine ⟨s :: b, fun t ht => ?_, .inl ⟨rfl, by simp [cutR, c]⟩⟩
        rcases List.mem_cons.1 ht with rfl | ht
        · omega
        · exact hbl t ht
  obtain ⟨a, ha, hA⟩ := hA
  obtain ⟨b, hb, hB⟩ := hB
  rcases hA with ⟨rfl, eA⟩ | ⟨s, rfl, es, eA⟩ <;> rcases hB with ⟨rfl, eB⟩ | ⟨t, rfl, et, et2, eB⟩ <;> rw [eA, eB]
  · rw [p1_low ha, p1_high hb, p2_low ha, p2_high hb]
  · rw [p1_low ha, p1, if_neg (by omega), if_pos et, p1_high hb, p2_low ha, p2, if_pos (.inr et), p2_high hb]
  · rw [List.append_assoc, p1_low ha, List.singleton_append, p1, if_pos es, p1_high hb, p2_low ha, p2, if_pos (.inl es), p2_high hb]
  · rw [List.append_assoc, p1_low ha, List.singleton_append, p1, if_pos es, p1, if_neg (by omega), if_pos et, p1_high hb, p2_low ha, p2, if_pos (.inl es), p2, if_pos (.inr et), p2_high hb]
theorem spec_radd_has (l : List Span) (n : Int) (hb : l.length < 2 ^ 39) (hn : has l n = true) :
    FunOK Try.prog 44 [spans l, i64 n] noHeap (spans l) noHeap := by
  refine funOK_pure mixed Try.func44 (by decide) ?_
  conv => whnf
  (refine hcall_lend ?_; (conv => whnf); refine ⟨_, spec_in l n (by omega), rfl, ?_⟩; conv => whnf)
  rw [hn]
  conv => whnf
theorem spec_radd (l : List Span) (n : Int) (hn : has l n = false) (hl : rise l) (hb : l.length < 2 ^ 39) (h1 : -1099511627776 ≤ n) (h2 : n ≤ 1099511627776) :
    FunOK Try.prog 44 [spans l, i64 n] noHeap (.own 0) (lk .free [(0, .live (.row 83 2 ((add l n).map Span.row)))]) := by
  refine funOK_of mixed Try.func44 (by decide) [] (fun _ => .inl rfl) ?_
  conv => whnf
  ((refine hcall_lend ?_; (conv => whnf); refine ⟨_, spec_in l n (by omega), rfl, ?_⟩; conv => whnf); try (refine hcut.go ?_; conv => whnf))
  rw [hn, ← radd_eq hl hn]
  generalize hP : p1 n l (n, n) = P
  generalize hR : p2 n P.1 P.2 l false = R
  conv => whnf
  refine ⟨{ x : (List Span × List Span) × Int × Int // l = x.1.1 ++ x.1.2 ∧ p1 n x.1.2 x.2 = P }, fun | ⟨((a, b), lo, hi), _⟩ => hs 88 [(0, spans l), (1, i64 n), (5, i64 lo), (6, i64 hi), (7, .p (.v (.slice none 0 0))), (19, spans l), (20, i64 l.length), (21, i64 a.length)] [], fun x => x.1.1.2.length, ⟨(([], l), n, n), rfl, hP⟩, ?_, ?_⟩
  · exact (hle_hs [] rfl rfl rfl rfl (by repeat' (first | exact trivial | exact rfl | (refine ⟨⟨rfl, ?_⟩, ?_⟩) | (refine ⟨rfl, ?_⟩) | (simp; done) | (simp; rfl))) (by repeat' (first | exact trivial | exact rfl | exact .inl rfl | exact .inr rfl | (refine ⟨⟨rfl, .inl ⟨_, rfl, ?_⟩⟩, ?_⟩) | (refine ⟨⟨rfl, _, rfl, ?_⟩, ?_⟩) | (refine ⟨⟨rfl, .inr ⟨rfl, ?_⟩⟩, ?_⟩) | (refine ⟨rfl, ?_⟩) | (simp; done) | (simp; rfl))))
  rintro ⟨⟨⟨a, b⟩, lo, hi⟩, h, ht⟩
  dsimp only at h ht
  have hlen : l.length = a.length + b.length := by rw [h]; simp
  conv => whnf
  cases b with
  | nil =>
    rw [List.length_nil] at hlen
    ((refine hif_false ?_ ?_; (· (first | rfl | assumption | omega | (simp only [gt_iff_lt, ge_iff_le, decide_eq_true_eq, decide_eq_false_iff_not, beq_iff_eq, bne_iff_ne, ne_eq, beq_eq_false_iff_ne, bne_eq_false_iff_eq, List.length_map, List.length_append, List.length_cons, List.length_nil, List.length_take, List.length_drop, Bool.not_eq_true', Bool.not_eq_false', Bool.not_eq_true, Bool.not_eq_false, Decidable.not_not, Nat.cast_ofNat, Int.natCast_add] <;> omega) | (simp <;> omega))); conv => whnf); try (refine hcut.go ?_; conv => whnf))
    rw [p1] at ht
    subst ht
    refine ⟨{ x : (List Span × List Span) × Bool × List Span // l = x.1.1 ++ x.1.2 ∧ R = x.2.2 ++ p2 n lo hi x.1.2 x.2.1 ∧ x.2.2.length ≤ 2 * x.1.1.length }, fun | ⟨((a, b), put, o), _⟩ => hs 88 [(1, i64 n), (5, i64 lo), (6, i64 hi), (7, .own 900), (10, hbool put), (42, spans l), (43, i64 l.length), (44, i64 a.length)] [(900, .live (.row 83 2 (o.map Span.row)))], fun x => x.1.1.2.length, ⟨(([], l), false, []), rfl, hR.symm, Nat.zero_le _⟩, ?_, ?_⟩
    · exact (hle_hs [(900, none)] rfl rfl rfl rfl (by repeat' (first | exact trivial | exact rfl | (refine ⟨⟨rfl, ?_⟩, ?_⟩) | (refine ⟨rfl, ?_⟩) | (simp; done) | (simp; rfl))) (by repeat' (first | exact trivial | exact rfl | exact .inl rfl | exact .inr rfl | (refine ⟨⟨rfl, .inl ⟨_, rfl, ?_⟩⟩, ?_⟩) | (refine ⟨⟨rfl, _, rfl, ?_⟩, ?_⟩) | (refine ⟨⟨rfl, .inr ⟨rfl, ?_⟩⟩, ?_⟩) | (refine ⟨rfl, ?_⟩) | (simp; done) | (simp; rfl))))
    clear h hlen
    rintro ⟨⟨⟨a, b⟩, put, o⟩, h, ht, ho⟩
    dsimp only at h ht ho
    have hlen : l.length = a.length + b.length := by rw [h]; simp
    conv => whnf
    cases b with
    | nil =>
      rw [List.length_nil] at hlen
      ((refine hif_false ?_ ?_; (· (first | rfl | assumption | omega | (simp only [gt_iff_lt, ge_iff_le, decide_eq_true_eq, decide_eq_false_iff_not, beq_iff_eq, bne_iff_ne, ne_eq, beq_eq_false_iff_ne, bne_eq_false_iff_eq, List.length_map, List.length_append, List.length_cons, List.length_nil, List.length_take, List.length_drop, Bool.not_eq_true', Bool.not_eq_false', Bool.not_eq_true, Bool.not_eq_false, Decidable.not_not, Nat.cast_ofNat, Int.natCast_add] <;> omega) | (simp <;> omega))); conv => whnf); try (refine hcut.go ?_; conv => whnf))
      cases put with
      | true =>
        have hR2 : R = o := by rw [ht, p2, if_pos rfl, List.append_nil]
        conv => whnf
        try (refine hcut.go ?_; conv => whnf)
        subst hR2
        refine hfin_of [(0, some 900)] rfl rfl trivial rfl rfl ⟨⟨rfl, .inl ⟨900, rfl, rfl⟩⟩, trivial⟩
      | false =>
        have hR2 : R = o ++ [⟨lo, hi⟩] := by rw [ht, p2, if_neg (by simp)]
        conv => whnf
        try (refine hcut.go ?_; conv => whnf)
        refine hobl_intro (c := ((o.map Span.row).length + 1) * 16 ≤ 140737488355328) (by simp; omega) ?_; conv => whnf
        try (refine hcut.go ?_; conv => whnf)
        subst hR2
        refine hfin_of [(0, some 86)] rfl rfl trivial rfl rfl ⟨⟨rfl, .inl ⟨86, rfl, ?_⟩⟩, trivial⟩
        exact row_app (f := Span.row) (x := ⟨lo, hi⟩) rfl rfl
    | cons s r =>
      rw [List.length_cons] at hlen
      rw [p2] at ht
      ((refine hif_true ?_ ?_; (· (first | rfl | assumption | omega | (simp only [gt_iff_lt, ge_iff_le, decide_eq_true_eq, decide_eq_false_iff_not, beq_iff_eq, bne_iff_ne, ne_eq, beq_eq_false_iff_ne, bne_eq_false_iff_eq, List.length_map, List.length_append, List.length_cons, List.length_nil, List.length_take, List.length_drop, Bool.not_eq_true', Bool.not_eq_false', Bool.not_eq_true, Bool.not_eq_false, Decidable.not_not, Nat.cast_ofNat, Int.natCast_add] <;> omega) | (simp <;> omega))); conv => whnf); try (refine hcut.go ?_; conv => whnf))
      refine hrow_mid h rfl ?_; conv => whnf
      ((refine hwrap_fit (W_fit ?_ ?_) ?_; (· (first | omega | (simp only [List.length_map, List.length_append, List.length_take, List.length_drop, List.length_cons, List.length_nil] <;> omega) | (simp <;> omega))); (· (first | omega | (simp only [List.length_map, List.length_append, List.length_take, List.length_drop, List.length_cons, List.length_nil] <;> omega) | (simp <;> omega))); conv => whnf); try (refine hcut.go ?_; conv => whnf))
      by_cases c1 : s.hi = n - 1
      · rw [if_pos (.inl c1)] at ht
        ((refine hif_true ?_ ?_; (· (first | rfl | assumption | omega | (simp only [gt_iff_lt, ge_iff_le, decide_eq_true_eq, decide_eq_false_iff_not, beq_iff_eq, bne_iff_ne, ne_eq, beq_eq_false_iff_ne, bne_eq_false_iff_eq, List.length_map, List.length_append, List.length_cons, List.length_nil, List.length_take, List.length_drop, Bool.not_eq_true', Bool.not_eq_false', Bool.not_eq_true, Bool.not_eq_false, Decidable.not_not, Nat.cast_ofNat, Int.natCast_add] <;> omega) | (simp <;> omega))); conv => whnf); try (refine hcut.go ?_; conv => whnf))
        ((refine hwrap_fit (W_fit ?_ ?_) ?_; (· (first | omega | (simp only [List.length_map, List.length_append, List.length_take, List.length_drop, List.length_cons, List.length_nil] <;> omega) | (simp <;> omega))); (· (first | omega | (simp only [List.length_map, List.length_append, List.length_take, List.length_drop, List.length_cons, List.length_nil] <;> omega) | (simp <;> omega))); conv => whnf); try (refine hcut.go ?_; conv => whnf))
        exact ⟨⟨((a ++ [s], r), put, o), zip_next h, ht, by simp; omega⟩, (hle_hs [(900, some 900)] rfl rfl rfl rfl (by repeat' (first | exact trivial | exact rfl | (refine ⟨⟨rfl, ?_⟩, ?_⟩) | (refine ⟨rfl, ?_⟩) | (simp; done) | (simp; rfl))) (by repeat' (first | exact trivial | exact rfl | exact .inl rfl | exact .inr rfl | (refine ⟨⟨rfl, .inl ⟨_, rfl, ?_⟩⟩, ?_⟩) | (refine ⟨⟨rfl, _, rfl, ?_⟩, ?_⟩) | (refine ⟨⟨rfl, .inr ⟨rfl, ?_⟩⟩, ?_⟩) | (refine ⟨rfl, ?_⟩) | (simp; done) | (simp; rfl)))), by simp⟩
      ((refine hif_false ?_ ?_; (· (first | rfl | assumption | omega | (simp only [gt_iff_lt, ge_iff_le, decide_eq_true_eq, decide_eq_false_iff_not, beq_iff_eq, bne_iff_ne, ne_eq, beq_eq_false_iff_ne, bne_eq_false_iff_eq, List.length_map, List.length_append, List.length_cons, List.length_nil, List.length_take, List.length_drop, Bool.not_eq_true', Bool.not_eq_false', Bool.not_eq_true, Bool.not_eq_false, Decidable.not_not, Nat.cast_ofNat, Int.natCast_add] <;> omega) | (simp <;> omega))); conv => whnf); try (refine hcut.go ?_; conv => whnf))
      ((refine hwrap_fit (W_fit ?_ ?_) ?_; (· (first | omega | (simp only [List.length_map, List.length_append, List.length_take, List.length_drop, List.length_cons, List.length_nil] <;> omega) | (simp <;> omega))); (· (first | omega | (simp only [List.length_map, List.length_append, List.length_take, List.length_drop, List.length_cons, List.length_nil] <;> omega) | (simp <;> omega))); conv => whnf); try (refine hcut.go ?_; conv => whnf))
      by_cases c2 : s.lo = n + 1
      · rw [if_pos (.inr c2)] at ht
        ((refine hif_true ?_ ?_; (· (first | rfl | assumption | omega | (simp only [gt_iff_lt, ge_iff_le, decide_eq_true_eq, decide_eq_false_iff_not, beq_iff_eq, bne_iff_ne, ne_eq, beq_eq_false_iff_ne, bne_eq_false_iff_eq, List.length_map, List.length_append, List.length_cons, List.length_nil, List.length_take, List.length_drop, Bool.not_eq_true', Bool.not_eq_false', Bool.not_eq_true, Bool.not_eq_false, Decidable.not_not, Nat.cast_ofNat, Int.natCast_add] <;> omega) | (simp <;> omega))); conv => whnf); try (refine hcut.go ?_; conv => whnf))
        ((refine hwrap_fit (W_fit ?_ ?_) ?_; (· (first | omega | (simp only [List.length_map, List.length_append, List.length_take, List.length_drop, List.length_cons, List.length_nil] <;> omega) | (simp <;> omega))); (· (first | omega | (simp only [List.length_map, List.length_append, List.length_take, List.length_drop, List.length_cons, List.length_nil] <;> omega) | (simp <;> omega))); conv => whnf); try (refine hcut.go ?_; conv => whnf))
        exact ⟨⟨((a ++ [s], r), put, o), zip_next h, ht, by simp; omega⟩, (hle_hs [(900, some 900)] rfl rfl rfl rfl (by repeat' (first | exact trivial | exact rfl | (refine ⟨⟨rfl, ?_⟩, ?_⟩) | (refine ⟨rfl, ?_⟩) | (simp; done) | (simp; rfl))) (by repeat' (first | exact trivial | exact rfl | exact .inl rfl | exact .inr rfl | (refine ⟨⟨rfl, .inl ⟨_, rfl, ?_⟩⟩, ?_⟩) | (refine ⟨⟨rfl, _, rfl, ?_⟩, ?_⟩) | (refine ⟨⟨rfl, .inr ⟨rfl, ?_⟩⟩, ?_⟩) | (refine ⟨rfl, ?_⟩) | (simp; done) | (simp; rfl)))), by simp⟩
      rw [if_neg (by simp [c1, c2])] at ht
      ((refine hif_false ?_ ?_; (· (first | rfl | assumption | omega | (simp only [gt_iff_lt, ge_iff_le, decide_eq_true_eq, decide_eq_false_iff_not, beq_iff_eq, bne_iff_ne, ne_eq, beq_eq_false_iff_ne, bne_eq_false_iff_eq, List.length_map, List.length_append, List.length_cons, List.length_nil, List.length_take, List.length_drop, Bool.not_eq_true', Bool.not_eq_false', Bool.not_eq_true, Bool.not_eq_false, Decidable.not_not, Nat.cast_ofNat, Int.natCast_add] <;> omega) | (simp <;> omega))); conv => whnf); try (refine hcut.go ?_; conv => whnf))
      by_cases c3 : put = false ∧ s.lo > n
      · rw [if_pos c3] at ht
        obtain ⟨rfl, c3⟩ := c3
        conv => whnf
        try (refine hcut.go ?_; conv => whnf)
        ((refine hif_true ?_ ?_; (· (first | rfl | assumption | omega | (simp only [gt_iff_lt, ge_iff_le, decide_eq_true_eq, decide_eq_false_iff_not, beq_iff_eq, bne_iff_ne, ne_eq, beq_eq_false_iff_ne, bne_eq_false_iff_eq, List.length_map, List.length_append, List.length_cons, List.length_nil, List.length_take, List.length_drop, Bool.not_eq_true', Bool.not_eq_false', Bool.not_eq_true, Bool.not_eq_false, Decidable.not_not, Nat.cast_ofNat, Int.natCast_add] <;> omega) | (simp <;> omega))); conv => whnf); try (refine hcut.go ?_; conv => whnf))
        refine hobl_intro (c := ((o.map Span.row).length + 1) * 16 ≤ 140737488355328) (by simp; omega) ?_; conv => whnf
        try (refine hcut.go ?_; conv => whnf)
        refine hobl_intro (c := ((o.map Span.row ++ [[pi lo, pi hi]]).length + 1) * 16 ≤ 140737488355328) (by simp; omega) ?_; conv => whnf
        try (refine hcut.go ?_; conv => whnf)
        ((refine hwrap_fit (W_fit ?_ ?_) ?_; (· (first | omega | (simp only [List.length_map, List.length_append, List.length_take, List.length_drop, List.length_cons, List.length_nil] <;> omega) | (simp <;> omega))); (· (first | omega | (simp only [List.length_map, List.length_append, List.length_take, List.length_drop, List.length_cons, List.length_nil] <;> omega) | (simp <;> omega))); conv => whnf); try (refine hcut.go ?_; conv => whnf))
        refine ⟨⟨((a ++ [s], r), true, o ++ [⟨lo, hi⟩, s]), zip_next h, by rw [‹R = o ++ ⟨lo, hi⟩ :: s :: p2 n lo hi r true›]; simp, by simp; omega⟩, (hle_hs [(900, some 77)] rfl rfl rfl rfl (by repeat' (first | exact trivial | exact rfl | (refine ⟨⟨rfl, ?_⟩, ?_⟩) | (refine ⟨rfl, ?_⟩) | ((exact row_eqs (by simp; rfl))) | (simp; done) | (simp; rfl))) (by repeat' (first | exact trivial | exact rfl | exact .inl rfl | exact .inr rfl | (refine ⟨⟨rfl, .inl ⟨_, rfl, ?_⟩⟩, ?_⟩) | (refine ⟨⟨rfl, _, rfl, ?_⟩, ?_⟩) | (refine ⟨⟨rfl, .inr ⟨rfl, ?_⟩⟩, ?_⟩) | (refine ⟨rfl, ?_⟩) | ((exact row_eqs (by simp; rfl))) | (simp; done) | (simp; rfl)))), by simp⟩
      · rw [if_neg c3] at ht
        cases put with
        | true =>
          conv => whnf
          try (refine hcut.go ?_; conv => whnf)
          refine hobl_intro (c := ((o.map Span.row).length + 1) * 16 ≤ 140737488355328) (by simp; omega) ?_; conv => whnf
          try (refine hcut.go ?_; conv => whnf)
          ((refine hwrap_fit (W_fit ?_ ?_) ?_; (· (first | omega | (simp only [List.length_map, List.length_append, List.length_take, List.length_drop, List.length_cons, List.length_nil] <;> omega) | (simp <;> omega))); (· (first | omega | (simp only [List.length_map, List.length_append, List.length_take, List.length_drop, List.length_cons, List.length_nil] <;> omega) | (simp <;> omega))); conv => whnf); try (refine hcut.go ?_; conv => whnf))
          refine ⟨⟨((a ++ [s], r), true, o ++ [s]), zip_next h, by rw [ht]; simp, by simp; omega⟩, (hle_hs [(900, some 77)] rfl rfl rfl rfl (by repeat' (first | exact trivial | exact rfl | (refine ⟨⟨rfl, ?_⟩, ?_⟩) | (refine ⟨rfl, ?_⟩) | ((exact (row_snoc (f := Span.row) rfl).symm)) | (simp; done) | (simp; rfl))) (by repeat' (first | exact trivial | exact rfl | exact .inl rfl | exact .inr rfl | (refine ⟨⟨rfl, .inl ⟨_, rfl, ?_⟩⟩, ?_⟩) | (refine ⟨⟨rfl, _, rfl, ?_⟩, ?_⟩) | (refine ⟨⟨rfl, .inr ⟨rfl, ?_⟩⟩, ?_⟩) | (refine ⟨rfl, ?_⟩) | ((exact (row_snoc (f := Span.row) rfl).symm)) | (simp; done) | (simp; rfl)))), by simp⟩
        | false =>
          have c4 : ¬ s.lo > n := fun h => c3 ⟨rfl, h⟩
          conv => whnf
          try (refine hcut.go ?_; conv => whnf)
          ((refine hif_false ?_ ?_; (· (first | rfl | assumption | omega | (simp only [gt_iff_lt, ge_iff_le, decide_eq_true_eq, decide_eq_false_iff_not, beq_iff_eq, bne_iff_ne, ne_eq, beq_eq_false_iff_ne, bne_eq_false_iff_eq, List.length_map, List.length_append, List.length_cons, List.length_nil, List.length_take, List.length_drop, Bool.not_eq_true', Bool.not_eq_false', Bool.not_eq_true, Bool.not_eq_false, Decidable.not_not, Nat.cast_ofNat, Int.natCast_add] <;> omega) | (simp <;> omega))); conv => whnf); try (refine hcut.go ?_; conv => whnf))
          refine hobl_intro (c := ((o.map Span.row).length + 1) * 16 ≤ 140737488355328) (by simp; omega) ?_; conv => whnf
          try (refine hcut.go ?_; conv => whnf)
          ((refine hwrap_fit (W_fit ?_ ?_) ?_; (· (first | omega | (simp only [List.length_map, List.length_append, List.length_take, List.length_drop, List.length_cons, List.length_nil] <;> omega) | (simp <;> omega))); (· (first | omega | (simp only [List.length_map, List.length_append, List.length_take, List.length_drop, List.length_cons, List.length_nil] <;> omega) | (simp <;> omega))); conv => whnf); try (refine hcut.go ?_; conv => whnf))
          refine ⟨⟨((a ++ [s], r), false, o ++ [s]), zip_next h, by rw [ht]; simp, by simp; omega⟩, (hle_hs [(900, some 77)] rfl rfl rfl rfl (by repeat' (first | exact trivial | exact rfl | (refine ⟨⟨rfl, ?_⟩, ?_⟩) | (refine ⟨rfl, ?_⟩) | ((exact (row_snoc (f := Span.row) rfl).symm)) | (simp; done) | (simp; rfl))) (by repeat' (first | exact trivial | exact rfl | exact .inl rfl | exact .inr rfl | (refine ⟨⟨rfl, .inl ⟨_, rfl, ?_⟩⟩, ?_⟩) | (refine ⟨⟨rfl, _, rfl, ?_⟩, ?_⟩) | (refine ⟨⟨rfl, .inr ⟨rfl, ?_⟩⟩, ?_⟩) | (refine ⟨rfl, ?_⟩) | ((exact (row_snoc (f := Span.row) rfl).symm)) | (simp; done) | (simp; rfl)))), by simp⟩
  | cons s r =>
    rw [List.length_cons] at hlen
    rw [p1] at ht
    ((refine hif_true ?_ ?_; (· (first | rfl | assumption | omega | (simp only [gt_iff_lt, ge_iff_le, decide_eq_true_eq, decide_eq_false_iff_not, beq_iff_eq, bne_iff_ne, ne_eq, beq_eq_false_iff_ne, bne_eq_false_iff_eq, List.length_map, List.length_append, List.length_cons, List.length_nil, List.length_take, List.length_drop, Bool.not_eq_true', Bool.not_eq_false', Bool.not_eq_true, Bool.not_eq_false, Decidable.not_not, Nat.cast_ofNat, Int.natCast_add] <;> omega) | (simp <;> omega))); conv => whnf); try (refine hcut.go ?_; conv => whnf))
    refine hrow_mid h rfl ?_; conv => whnf
    ((refine hwrap_fit (W_fit ?_ ?_) ?_; (· (first | omega | (simp only [List.length_map, List.length_append, List.length_take, List.length_drop, List.length_cons, List.length_nil] <;> omega) | (simp <;> omega))); (· (first | omega | (simp only [List.length_map, List.length_append, List.length_take, List.length_drop, List.length_cons, List.length_nil] <;> omega) | (simp <;> omega))); conv => whnf); try (refine hcut.go ?_; conv => whnf))
    by_cases c1 : s.hi = n - 1
    · rw [if_pos c1] at ht
      ((refine hif_true ?_ ?_; (· (first | rfl | assumption | omega | (simp only [gt_iff_lt, ge_iff_le, decide_eq_true_eq, decide_eq_false_iff_not, beq_iff_eq, bne_iff_ne, ne_eq, beq_eq_false_iff_ne, bne_eq_false_iff_eq, List.length_map, List.length_append, List.length_cons, List.length_nil, List.length_take, List.length_drop, Bool.not_eq_true', Bool.not_eq_false', Bool.not_eq_true, Bool.not_eq_false, Decidable.not_not, Nat.cast_ofNat, Int.natCast_add] <;> omega) | (simp <;> omega))); conv => whnf); try (refine hcut.go ?_; conv => whnf))
      ((refine hwrap_fit (W_fit ?_ ?_) ?_; (· (first | omega | (simp only [List.length_map, List.length_append, List.length_take, List.length_drop, List.length_cons, List.length_nil] <;> omega) | (simp <;> omega))); (· (first | omega | (simp only [List.length_map, List.length_append, List.length_take, List.length_drop, List.length_cons, List.length_nil] <;> omega) | (simp <;> omega))); conv => whnf); try (refine hcut.go ?_; conv => whnf))
      exact ⟨⟨((a ++ [s], r), s.lo, hi), zip_next h, ht⟩, (hle_hs [] rfl rfl rfl rfl (by repeat' (first | exact trivial | exact rfl | (refine ⟨⟨rfl, ?_⟩, ?_⟩) | (refine ⟨rfl, ?_⟩) | (simp; done) | (simp; rfl))) (by repeat' (first | exact trivial | exact rfl | exact .inl rfl | exact .inr rfl | (refine ⟨⟨rfl, .inl ⟨_, rfl, ?_⟩⟩, ?_⟩) | (refine ⟨⟨rfl, _, rfl, ?_⟩, ?_⟩) | (refine ⟨⟨rfl, .inr ⟨rfl, ?_⟩⟩, ?_⟩) | (refine ⟨rfl, ?_⟩) | (simp; done) | (simp; rfl)))), by simp⟩
    · rw [if_neg c1] at ht
      ((refine hif_false ?_ ?_; (· (first | rfl | assumption | omega | (simp only [gt_iff_lt, ge_iff_le, decide_eq_true_eq, decide_eq_false_iff_not, beq_iff_eq, bne_iff_ne, ne_eq, beq_eq_false_iff_ne, bne_eq_false_iff_eq, List.length_map, List.length_append, List.length_cons, List.length_nil, List.length_take, List.length_drop, Bool.not_eq_true', Bool.not_eq_false', Bool.not_eq_true, Bool.not_eq_false, Decidable.not_not, Nat.cast_ofNat, Int.natCast_add] <;> omega) | (simp <;> omega))); conv => whnf); try (refine hcut.go ?_; conv => whnf))
      ((refine hwrap_fit (W_fit ?_ ?_) ?_; (· (first | omega | (simp only [List.length_map, List.length_append, List.length_take, List.length_drop, List.length_cons, List.length_nil] <;> omega) | (simp <;> omega))); (· (first | omega | (simp only [List.length_map, List.length_append, List.length_take, List.length_drop, List.length_cons, List.length_nil] <;> omega) | (simp <;> omega))); conv => whnf); try (refine hcut.go ?_; conv => whnf))
      by_cases c2 : s.lo = n + 1
      · rw [if_pos c2] at ht
        ((refine hif_true ?_ ?_; (· (first | rfl | assumption | omega | (simp only [gt_iff_lt, ge_iff_le, decide_eq_true_eq, decide_eq_false_iff_not, beq_iff_eq, bne_iff_ne, ne_eq, beq_eq_false_iff_ne, bne_eq_false_iff_eq, List.length_map, List.length_append, List.length_cons, List.length_nil, List.length_take, List.length_drop, Bool.not_eq_true', Bool.not_eq_false', Bool.not_eq_true, Bool.not_eq_false, Decidable.not_not, Nat.cast_ofNat, Int.natCast_add] <;> omega) | (simp <;> omega))); conv => whnf); try (refine hcut.go ?_; conv => whnf))
        ((refine hwrap_fit (W_fit ?_ ?_) ?_; (· (first | omega | (simp only [List.length_map, List.length_append, List.length_take, List.length_drop, List.length_cons, List.length_nil] <;> omega) | (simp <;> omega))); (· (first | omega | (simp only [List.length_map, List.length_append, List.length_take, List.length_drop, List.length_cons, List.length_nil] <;> omega) | (simp <;> omega))); conv => whnf); try (refine hcut.go ?_; conv => whnf))
        exact ⟨⟨((a ++ [s], r), lo, s.hi), zip_next h, ht⟩, (hle_hs [] rfl rfl rfl rfl (by repeat' (first | exact trivial | exact rfl | (refine ⟨⟨rfl, ?_⟩, ?_⟩) | (refine ⟨rfl, ?_⟩) | (simp; done) | (simp; rfl))) (by repeat' (first | exact trivial | exact rfl | exact .inl rfl | exact .inr rfl | (refine ⟨⟨rfl, .inl ⟨_, rfl, ?_⟩⟩, ?_⟩) | (refine ⟨⟨rfl, _, rfl, ?_⟩, ?_⟩) | (refine ⟨⟨rfl, .inr ⟨rfl, ?_⟩⟩, ?_⟩) | (refine ⟨rfl, ?_⟩) | (simp; done) | (simp; rfl)))), by simp⟩
      · rw [if_neg c2] at ht
        ((refine hif_false ?_ ?_; (· (first | rfl | assumption | omega | (simp only [gt_iff_lt, ge_iff_le, decide_eq_true_eq, decide_eq_false_iff_not, beq_iff_eq, bne_iff_ne, ne_eq, beq_eq_false_iff_ne, bne_eq_false_iff_eq, List.length_map, List.length_append, List.length_cons, List.length_nil, List.length_take, List.length_drop, Bool.not_eq_true', Bool.not_eq_false', Bool.not_eq_true, Bool.not_eq_false, Decidable.not_not, Nat.cast_ofNat, Int.natCast_add] <;> omega) | (simp <;> omega))); conv => whnf); try (refine hcut.go ?_; conv => whnf))
        ((refine hwrap_fit (W_fit ?_ ?_) ?_; (· (first | omega | (simp only [List.length_map, List.length_append, List.length_take, List.length_drop, List.length_cons, List.length_nil] <;> omega) | (simp <;> omega))); (· (first | omega | (simp only [List.length_map, List.length_append, List.length_take, List.length_drop, List.length_cons, List.length_nil] <;> omega) | (simp <;> omega))); conv => whnf); try (refine hcut.go ?_; conv => whnf))
        exact ⟨⟨((a ++ [s], r), lo, hi), zip_next h, ht⟩, (hle_hs [] rfl rfl rfl rfl (by repeat' (first | exact trivial | exact rfl | (refine ⟨⟨rfl, ?_⟩, ?_⟩) | (refine ⟨rfl, ?_⟩) | (simp; done) | (simp; rfl))) (by repeat' (first | exact trivial | exact rfl | exact .inl rfl | exact .inr rfl | (refine ⟨⟨rfl, .inl ⟨_, rfl, ?_⟩⟩, ?_⟩) | (refine ⟨⟨rfl, _, rfl, ?_⟩, ?_⟩) | (refine ⟨⟨rfl, .inr ⟨rfl, ?_⟩⟩, ?_⟩) | (refine ⟨rfl, ?_⟩) | (simp; done) | (simp; rfl)))), by simp⟩
end Ser
end Go.HL
