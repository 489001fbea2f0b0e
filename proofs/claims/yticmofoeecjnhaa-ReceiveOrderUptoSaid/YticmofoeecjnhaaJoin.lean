/- Joining pieces: by the library's sort, and one by one; both are one function. -/
import Derived.Test.YticmofoeecjnhaaSortD
namespace Go.HL
open Go.Proofs
namespace Jn
open Srt
set_option maxHeartbeats 2000000
set_option maxRecDepth 100000
set_option linter.unusedSimpArgs false
def joinL (n : Nat) : Nat → List Piece → Option (List UInt8)
  | _, [] => some []
  | i, p :: r => if p.chunk.part = (i : Int) ∧ p.chunk.last = decide (i + 1 = n) then (joinL n (i + 1) r).map (p.chunk.data ++ ·) else none
/-- what pieces make -/
def join (l : List Piece) : Option (List UInt8) := if l = [] then none else joinL l.length 0 (srt ck l)
def at_ (k : Nat) (p : Piece) : Bool := decide (p.chunk.part = (k : Int))
def rjFrom (l : List Piece) (n : Nat) : Nat → Nat → Option (List UInt8)
  | _, 0 => some []
  | k, m + 1 => match l.filter (at_ k) with
    | [p] => if p.chunk.last = decide (k + 1 = n) then (rjFrom l n (k + 1) m).map (p.chunk.data ++ ·) else none
    | _ => none
theorem filter_one {α : Type} {f : α → Bool} {l l' : List α} (h : l.Perm l') (p : α) : l.filter f = [p] ↔ l'.filter f = [p] := by
  have := h.filter f
  constructor
  · intro e; rw [e] at this; exact List.perm_singleton.1 this.symm
  · intro e; rw [e] at this; exact List.perm_singleton.1 this
theorem rj_perm {l l' : List Piece} (h : l.Perm l') (n : Nat) : ∀ (m k : Nat), rjFrom l n k m = rjFrom l' n k m
  | 0, k => rfl
  | m + 1, k => by
    have hf := fun p => filter_one (f := at_ k) h p
    rw [rjFrom, rjFrom]
    split
    · rename_i p hp
      rw [(hf p).1 hp, rj_perm h n m (k + 1)]
    · rename_i hno
      split
      · rename_i p hp
        exact absurd ((hf p).2 hp) (hno p)
      · rfl
theorem rj_some {l : List Piece} {n : Nat} : ∀ {m k : Nat} {b : List UInt8}, rjFrom l n k m = some b → ∀ i, k ≤ i → i < k + m → ∃ p ∈ l, p.chunk.part = (i : Int)
  | 0, k, b, _, i, h1, h2 => by omega
  | m + 1, k, b, h, i, h1, h2 => by
    rw [rjFrom] at h
    split at h
    · rename_i p hp
      split at h
      · obtain ⟨c, hc, -⟩ := Option.map_eq_some_iff.1 h
        by_cases he : i = k
        · subst he
          have : p ∈ l.filter (at_ i) := by rw [hp]; simp
          rw [List.mem_filter] at this
          exact ⟨p, this.1, by simpa [at_] using this.2⟩
        · exact rj_some hc i (by omega) (by omega)
      · cases h
    · cases h
/-- how many parts' numbers are below one -/
def lows (l : List Piece) (k : Nat) : Nat := l.countP fun p => decide (p.chunk.part < (k : Int))
def highs (l : List Piece) (k : Nat) : Nat := l.countP fun p => decide ((k : Int) ≤ p.chunk.part)
theorem low_high (l : List Piece) (k : Nat) : lows l k + highs l k = l.length := by
  induction l with
  | nil => rfl
  | cons p l ih =>
    simp only [lows, highs, List.countP_cons, List.length_cons] at *
    by_cases h : p.chunk.part < (k : Int)
    · have h2 : ¬ (k : Int) ≤ p.chunk.part := by omega
      simp [h, h2]; omega
    · have h2 : (k : Int) ≤ p.chunk.part := by omega
      simp [h, h2]; omega
theorem low_succ {l : List Piece} {k : Nat} (h : ∃ p ∈ l, p.chunk.part = (k : Int)) : lows l k + 1 ≤ lows l (k + 1) := by
  induction l with
  | nil => simp at h
  | cons p l ih =>
    have mono : ∀ l : List Piece, l.countP (fun p => decide (p.chunk.part < (k : Int))) ≤ l.countP (fun p => decide (p.chunk.part < ((k + 1 : Nat) : Int))) := fun l => List.countP_mono_left fun x _ hx => by simp at hx ⊢; omega
    simp only [lows, List.countP_cons] at ih ⊢
    by_cases he : p.chunk.part = (k : Int)
    · have := mono l
      have h2 : ¬ p.chunk.part < (k : Int) := by omega
      have h3 : p.chunk.part < ((k + 1 : Nat) : Int) := by omega
      rw [if_neg (by simpa using h2), if_pos (decide_eq_true h3)]; omega
    · have : ∃ p ∈ l, p.chunk.part = (k : Int) := by
        obtain ⟨q, hq, e⟩ := h
        rcases List.mem_cons.1 hq with rfl | hq
        · exact absurd e he
        · exact ⟨q, hq, e⟩
      have := ih this
      by_cases h2 : p.chunk.part < (k : Int)
      · have h3 : p.chunk.part < ((k + 1 : Nat) : Int) := by omega
        rw [if_pos (decide_eq_true h2), if_pos (decide_eq_true h3)]; omega
      · have h3 : ¬ p.chunk.part < ((k + 1 : Nat) : Int) := by omega
        rw [if_neg (by simpa using h2), if_neg (fun h => h3 (of_decide_eq_true h))]; omega
theorem low_ge {l : List Piece} {n : Nat} (h : ∀ i, i < n → ∃ p ∈ l, p.chunk.part = (i : Int)) : ∀ k, k ≤ n → k ≤ lows l k
  | 0, _ => Nat.zero_le _
  | k + 1, hk => by have := low_ge h k (by omega); have := low_succ (h k (by omega)); omega
theorem low_le {l : List Piece} {n : Nat} (hn : l.length = n) (h : ∀ i, i < n → ∃ p ∈ l, p.chunk.part = (i : Int)) : ∀ j, j ≤ n → lows l (n - j) ≤ n - j
  | 0, _ => by have := low_high l n; simp only [Nat.sub_zero]; omega
  | j + 1, hj => by
    have h1 := low_le hn h j (by omega)
    have h2 := low_succ (h (n - (j + 1)) (by omega))
    rw [show n - (j + 1) + 1 = n - j by omega] at h2
    omega
theorem sd_count : ∀ {S : List Piece} (_ : Sd ck S) (k : Nat) (i : Nat) (hi : i < S.length), (S[i].chunk.part < (k : Int) ↔ i < lows S k)
  | x :: S, h, k, 0, hi => by
    simp only [lows, List.countP_cons, List.getElem_cons_zero]
    by_cases hx : x.chunk.part < (k : Int)
    · simp [hx]
    · have : S.countP (fun p => decide (p.chunk.part < (k : Int))) = 0 := List.countP_eq_zero.2 fun y hy => by have := h.1 y hy; simp; simp only [ck] at this; omega
      simp [hx, this]
  | x :: S, h, k, i + 1, hi => by
    have ih := sd_count h.2 k i (by simpa using hi)
    simp only [lows, List.countP_cons, List.getElem_cons_succ] at *
    by_cases hx : x.chunk.part < (k : Int)
    · simp [hx]; exact ih
    · have : S.countP (fun p => decide (p.chunk.part < (k : Int))) = 0 := List.countP_eq_zero.2 fun y hy => by have := h.1 y hy; simp; simp only [ck] at this; omega
      rw [this] at ih ⊢
      simp [hx]; omega
theorem all_in_turn {S : List Piece} (hs : Sd ck S) (h : ∀ i, i < S.length → ∃ p ∈ S, p.chunk.part = (i : Int)) (i : Nat) (hi : i < S.length) : S[i].chunk.part = (i : Int) := by
  have e : ∀ k, k ≤ S.length → lows S k = k := fun k hk => by
    have h1 := low_ge h k hk
    have h2 := low_le rfl h (S.length - k) (by omega)
    rw [show S.length - (S.length - k) = k by omega] at h2
    omega
  have h1 := sd_count hs i i hi
  have h2 := sd_count hs (i + 1) i hi
  rw [e i (by omega)] at h1
  rw [e (i + 1) (by omega)] at h2
  omega
def InTurn (i : Nat) : List Piece → Prop
  | [] => True
  | p :: r => p.chunk.part = (i : Int) ∧ InTurn (i + 1) r
theorem inTurn_of : ∀ {S : List Piece} {i : Nat}, (∀ j (hj : j < S.length), S[j].chunk.part = ((i + j : Nat) : Int)) → InTurn i S
  | [], _, _ => trivial
  | p :: r, i, h => ⟨by have := h 0 (by simp); simp only [List.getElem_cons_zero, Nat.add_zero] at this; exact this, inTurn_of fun j hj => by have := h (j + 1) (by simpa using hj); rw [List.getElem_cons_succ] at this; rw [this]; congr 1; omega⟩
theorem inTurn_ge : ∀ {S : List Piece} {i : Nat}, InTurn i S → ∀ p ∈ S, (i : Int) ≤ p.chunk.part
  | q :: r, i, h, p, hp => by
    rcases List.mem_cons.1 hp with rfl | hp
    · rw [h.1]; omega
    · have := inTurn_ge h.2 p hp; omega
theorem joinL_turn {n : Nat} : ∀ {S : List Piece} {i : Nat} {b : List UInt8}, joinL n i S = some b → InTurn i S
  | [], _, _, _ => trivial
  | p :: r, i, b, h => by
    rw [joinL] at h
    split at h
    · rename_i c
      obtain ⟨d, hd, -⟩ := Option.map_eq_some_iff.1 h
      exact ⟨c.1, joinL_turn hd⟩
    · cases h
theorem filter_none {A : List Piece} {k : Nat} (h : ∀ p ∈ A, p.chunk.part ≠ (k : Int)) : A.filter (at_ k) = [] :=
  List.filter_eq_nil_iff.2 fun p hp => by simpa [at_] using h p hp
theorem rj_turn {S : List Piece} {n : Nat} : ∀ {B A : List Piece} {i : Nat}, S = A ++ B → (∀ p ∈ A, p.chunk.part < (i : Int)) → InTurn i B → rjFrom S n i B.length = joinL n i B
  | [], A, i, _, _, _ => rfl
  | p :: B, A, i, hS, hA, hB => by
    have hf : S.filter (at_ i) = [p] := by
      rw [hS, List.filter_append, filter_none fun q hq => by have := hA q hq; omega, List.filter_cons, if_pos (by simpa [at_] using hB.1), filter_none fun q hq => by have := inTurn_ge hB.2 q hq; omega]
      rfl
    rw [List.length_cons, rjFrom, hf]
    have ih := rj_turn (S := S) (n := n) (B := B) (A := A ++ [p]) (i := i + 1) (by rw [hS]; simp) (fun q hq => by
      rcases List.mem_append.1 hq with hq | hq
      · have := hA q hq; omega
      · rw [List.mem_singleton.1 hq, hB.1]; omega) hB.2
    dsimp only
    rw [ih, joinL]
    by_cases c : p.chunk.last = decide (i + 1 = n)
    · rw [if_pos c, if_pos ⟨hB.1, c⟩]
    · rw [if_neg c, if_neg fun h => c h.2]
theorem rj_eq (l : List Piece) : rjFrom l l.length 0 l.length = joinL l.length 0 (srt ck l) := by
  have hl := srt_length (key := ck) l
  rw [rj_perm (srt_perm (key := ck) (l := l)).symm]
  have hs := srt_sd (key := ck) (l := l)
  generalize srt ck l = S at *
  rw [← hl]
  clear hl
  cases hr : rjFrom S S.length 0 S.length with
  | some b =>
    have := all_in_turn hs fun i hi => rj_some hr i (by omega) (by omega)
    have ht : InTurn 0 S := inTurn_of fun j hj => by rw [this j hj]; simp
    rw [← hr]; exact rj_turn (A := []) rfl (by simp) ht
  | none =>
    cases hj : joinL S.length 0 S with
    | none => rfl
    | some b =>
      have := rj_turn (S := S) (n := S.length) (A := []) rfl (by simp) (joinL_turn hj)
      rw [hr, hj] at this; cases this
def tot (l : List Piece) : Nat := (l.map fun p => p.chunk.data.length).sum
theorem tot_perm {l l' : List Piece} (h : l.Perm l') : tot l = tot l' := (h.map _).sum_nat
theorem tot_cons (p : Piece) (l : List Piece) : tot (p :: l) = p.chunk.data.length + tot l := rfl
theorem tot_app (a b : List Piece) : tot (a ++ b) = tot a + tot b := by simp [tot]
theorem tot_mem {l : List Piece} {p : Piece} (h : p ∈ l) : p.chunk.data.length ≤ tot l := by
  induction l with
  | nil => cases h
  | cons q l ih =>
    rw [tot_cons]
    rcases List.mem_cons.1 h with rfl | h
    · omega
    · have := ih h; omega
def cat (l : List Piece) : List UInt8 := (l.map fun p => p.chunk.data).flatten
theorem cat_snoc (l : List Piece) (p : Piece) : cat (l ++ [p]) = cat l ++ p.chunk.data := by simp [cat]
theorem cat_len (l : List Piece) : (cat l).length = tot l := by induction l with
  | nil => rfl
  | cons p l ih => rw [tot_cons, ← ih]; simp [cat]
abbrev pieces (l : List Piece) : HV := .p (.sl 12 (l.map Piece.row))
theorem spec_isNaN (n : Int) : FunOK Try.prog 123 [i64 n] noHeap (hbool false) noHeap := by
  refine funOK_pure mixed Try.func123 (by decide) ?_
  conv => whnf
  simp
theorem spec_compare (a b : Int) : FunOK Try.prog 103 [i64 a, i64 b] noHeap (i64 (if a < b then -1 else if a > b then 1 else 0)) noHeap := by
  refine funOK_pure mixed Try.func103 (by decide) ?_
  conv => whnf
  ((refine hcall_lend ?_; (conv => whnf); refine ⟨_, spec_isNaN a, rfl, ?_⟩; conv => whnf); try (refine hcut.go ?_; conv => whnf))
  ((refine hcall_lend ?_; (conv => whnf); refine ⟨_, spec_isNaN b, rfl, ?_⟩; conv => whnf); try (refine hcut.go ?_; conv => whnf))
  by_cases c : a < b
  · rw [if_pos c]
    ((refine hif_true ?_ ?_; (· (first | rfl | assumption | omega | (simp only [gt_iff_lt, ge_iff_le, decide_eq_true_eq, decide_eq_false_iff_not, beq_iff_eq, bne_iff_ne, ne_eq, beq_eq_false_iff_ne, bne_eq_false_iff_eq, List.length_map, List.length_append, List.length_cons, List.length_nil, List.length_take, List.length_drop, Bool.not_eq_true', Bool.not_eq_false', Bool.not_eq_true, Bool.not_eq_false, Decidable.not_not, Nat.cast_ofNat, Int.natCast_add] <;> omega) | (simp <;> omega))); conv => whnf); try (refine hcut.go ?_; conv => whnf))
  rw [if_neg c]
  ((refine hif_false ?_ ?_; (· (first | rfl | assumption | omega | (simp only [gt_iff_lt, ge_iff_le, decide_eq_true_eq, decide_eq_false_iff_not, beq_iff_eq, bne_iff_ne, ne_eq, beq_eq_false_iff_ne, bne_eq_false_iff_eq, List.length_map, List.length_append, List.length_cons, List.length_nil, List.length_take, List.length_drop, Bool.not_eq_true', Bool.not_eq_false', Bool.not_eq_true, Bool.not_eq_false, Decidable.not_not, Nat.cast_ofNat, Int.natCast_add] <;> omega) | (simp <;> omega))); conv => whnf); try (refine hcut.go ?_; conv => whnf))
  by_cases c2 : a > b
  · rw [if_pos c2]
    ((refine hif_true ?_ ?_; (· (first | rfl | assumption | omega | (simp only [gt_iff_lt, ge_iff_le, decide_eq_true_eq, decide_eq_false_iff_not, beq_iff_eq, bne_iff_ne, ne_eq, beq_eq_false_iff_ne, bne_eq_false_iff_eq, List.length_map, List.length_append, List.length_cons, List.length_nil, List.length_take, List.length_drop, Bool.not_eq_true', Bool.not_eq_false', Bool.not_eq_true, Bool.not_eq_false, Decidable.not_not, Nat.cast_ofNat, Int.natCast_add] <;> omega) | (simp <;> omega))); conv => whnf); try (refine hcut.go ?_; conv => whnf))
  rw [if_neg c2]
  ((refine hif_false ?_ ?_; (· (first | rfl | assumption | omega | (simp only [gt_iff_lt, ge_iff_le, decide_eq_true_eq, decide_eq_false_iff_not, beq_iff_eq, bne_iff_ne, ne_eq, beq_eq_false_iff_ne, bne_eq_false_iff_eq, List.length_map, List.length_append, List.length_cons, List.length_nil, List.length_take, List.length_drop, Bool.not_eq_true', Bool.not_eq_false', Bool.not_eq_true, Bool.not_eq_false, Decidable.not_not, Nat.cast_ofNat, Int.natCast_add] <;> omega) | (simp <;> omega))); conv => whnf); try (refine hcut.go ?_; conv => whnf))
theorem spec_cmp : CmpOK 102 := fun a b => by
  refine funOK_pure mixed Try.func102 (by decide) ?_
  conv => whnf
  ((refine hcall_lend ?_; (conv => whnf); refine ⟨_, spec_compare a.chunk.part b.chunk.part, rfl, ?_⟩; conv => whnf); try (refine hcut.go ?_; conv => whnf))
  rfl
theorem tup2_eq {x : HV} {a b : Bool} (h : a = b) : HV.tup [x, hbool a] = HV.tup [x, hbool b] := by rw [h]
theorem clone_pieces (l : List Piece) (hb : l.length < 2 ^ 39) : FunOK Try.prog 100 [.p (.sl 12 (l.map Piece.row))] noHeap (.own 0) (lk .free [(0, .live (.row 80 12 (l.map Piece.row)))]) := by
  refine funOK_of mixed Try.func100 (by decide) [] (fun _ => .inl rfl) ?_
  conv => whnf
  intro b hn
  conv => whnf
  refine hif_intro (fun c => ?_) (fun c => ?_)
  · conv => whnf
    refine hfin_of [(0, none)] rfl rfl trivial rfl rfl ⟨⟨rfl, .inr ⟨rfl, hn c⟩⟩, trivial⟩
  · conv => whnf
    refine hobl_intro (c := (([] : List (List PV)).length + (l.map Piece.row).length) * 136 ≤ 140737488355328) (by simp; omega) ?_
    conv => whnf
    refine hfin_of [(0, some 7)] rfl rfl trivial rfl rfl ⟨⟨rfl, .inl ⟨7, rfl, ?_⟩⟩, trivial⟩
    rfl

theorem spec_join (l : List Piece) (hb : l.length < 2 ^ 38) (ht : tot l < 2 ^ 40) :
    FunOK Try.prog 71 [pieces l] noHeap (.tup [.own 0, hbool (join l).isSome]) (lk .free [(0, .live (.row 5 1 (((join l).getD []).map bRow)))]) := by
  refine funOK_of mixed Try.func71 (by decide) [] (fun _ => .inl rfl) ?_
  conv => whnf
  ((refine hcall_own [(0, 9)] ?_; (conv => whnf); refine ⟨_, _,  clone_pieces l (by omega), ⟨⟨⟨rfl, rfl⟩, trivial⟩, rfl, rfl, rfl⟩, ?_⟩; conv => whnf); try (refine hcut.go ?_; conv => whnf))
  ((refine hcall_give [] [(1000000, 9)] [] ?_; (conv => whnf); refine ⟨_, _, _, _, spec_sort spec_cmp l (by omega), ⟨rfl, rfl, rfl, ⟨⟨rfl, _, rfl, .inl ⟨rfl, rfl⟩⟩, trivial⟩, trivial, rfl, rfl, rfl⟩, ?_⟩; conv => whnf); try (refine hcut.go ?_; conv => whnf))
  have hl := srt_length (key := ck) l
  have ht2 : tot (srt ck l) < 2 ^ 40 := by rw [tot_perm srt_perm]; exact ht
  obtain ⟨S, hS⟩ : ∃ S, S = srt ck l := ⟨_, rfl⟩
  have hj : join l = if l = [] then none else joinL S.length 0 S := by rw [join, ← hS, ← hl, hS]
  rw [← hS] at hl ht2
  refine ⟨{ x : List Piece × List Piece // S = x.1 ++ x.2 ∧ joinL S.length 0 S = (joinL S.length x.1.length x.2).map (cat x.1 ++ ·) }, fun | ⟨(A, B), _⟩ => hs 45 [(4, .own 900), (5, .own 901), (12, .own 900), (13, i64 S.length), (14, i64 A.length)] [(900, .live (.row 80 12 (S.map Piece.row))), (901, .live (.row 5 1 ((cat A).map bRow)))], fun x => x.1.2.length, ⟨([], S), rfl, by simp [cat]⟩, ?_, ?_⟩
  · exact (hle_hs [(900, some 9), (901, none)] rfl rfl rfl rfl (by repeat' (first | exact trivial | exact rfl | (refine ⟨⟨rfl, ?_⟩, ?_⟩) | (refine ⟨rfl, ?_⟩) | ((exact i64_eq (by rw [List.length_map, hS]))) | ((exact row_eqs (by rw [hS]))) | (simp; done) | (simp; rfl))) (by repeat' (first | exact trivial | exact rfl | exact .inl rfl | exact .inr rfl | (refine ⟨⟨rfl, .inl ⟨_, rfl, ?_⟩⟩, ?_⟩) | (refine ⟨⟨rfl, _, rfl, ?_⟩, ?_⟩) | (refine ⟨⟨rfl, .inr ⟨rfl, ?_⟩⟩, ?_⟩) | (refine ⟨rfl, ?_⟩) | ((exact i64_eq (by rw [List.length_map, hS]))) | ((exact row_eqs (by rw [hS]))) | (simp; done) | (simp; rfl))))
  rintro ⟨⟨A, B⟩, h, hr⟩
  dsimp only at h hr
  have hAB : S.length = A.length + B.length := by rw [h]; simp
  have htA : tot S = tot A + tot B := by rw [h, tot_app]
  conv => whnf
  cases B with
  | nil =>
    rw [List.length_nil] at hAB
    rw [joinL] at hr
    have hcat : joinL S.length 0 S = some (cat A) := by rw [hr]; simp
    have h0 : tot [] = 0 := rfl
    ((refine hif_false ?_ ?_; (· (first | rfl | assumption | omega | (simp only [gt_iff_lt, ge_iff_le, decide_eq_true_eq, decide_eq_false_iff_not, beq_iff_eq, bne_iff_ne, ne_eq, beq_eq_false_iff_ne, bne_eq_false_iff_eq, List.length_map, List.length_append, List.length_cons, List.length_nil, List.length_take, List.length_drop, Bool.not_eq_true', Bool.not_eq_false', Bool.not_eq_true, Bool.not_eq_false, Decidable.not_not, Nat.cast_ofNat, Int.natCast_add] <;> omega) | (simp <;> omega))); conv => whnf); try (refine hcut.go ?_; conv => whnf))
    by_cases hln : l = []
    · subst hln
      have hl0 : S.length = 0 := hl
      have : A = [] := List.eq_nil_of_length_eq_zero (by omega)
      subst this
      refine hfin_of [(0, some 901)] rfl rfl trivial rfl (tup2_eq ?_) ⟨⟨rfl, .inl ⟨901, rfl, rfl⟩⟩, trivial⟩
      rw [List.length_map, hl0]; rfl
    · have := List.length_pos_iff.2 hln
      have hjv : join l = some (cat A) := by rw [hj, if_neg hln, hcat]
      rw [hjv]
      refine hfin_of [(0, some 901)] rfl rfl trivial rfl (tup2_eq ?_) ⟨⟨rfl, .inl ⟨901, rfl, rfl⟩⟩, trivial⟩
      simp; omega
  | cons p B =>
    rw [List.length_cons] at hAB
    rw [tot_cons] at htA
    rw [joinL] at hr
    have hca := cat_len A
    have hln : l ≠ [] := fun h => by subst h; have hl0 : S.length = 0 := hl; omega
    rw [if_neg hln] at hj
    ((refine hif_true ?_ ?_; (· (first | rfl | assumption | omega | (simp only [gt_iff_lt, ge_iff_le, decide_eq_true_eq, decide_eq_false_iff_not, beq_iff_eq, bne_iff_ne, ne_eq, beq_eq_false_iff_ne, bne_eq_false_iff_eq, List.length_map, List.length_append, List.length_cons, List.length_nil, List.length_take, List.length_drop, Bool.not_eq_true', Bool.not_eq_false', Bool.not_eq_true, Bool.not_eq_false, Decidable.not_not, Nat.cast_ofNat, Int.natCast_add] <;> omega) | (simp <;> omega))); conv => whnf); try (refine hcut.go ?_; conv => whnf))
    ((refine hobl_intro ?_ ?_; (· (first | omega | (simp only [List.length_map, List.length_append, List.length_take, List.length_drop, List.length_cons, List.length_nil] <;> omega) | (simp <;> omega))); conv => whnf); try (refine hcut.go ?_; conv => whnf))
    refine hrow_mid h (by simp) ?_; conv => whnf
    have e : ((A.length : Int) == ((S.map Piece.row).length : Int) - 1) = decide (A.length + 1 = S.length) := by
      rw [List.length_map, Bool.eq_iff_iff]; simp; omega
    by_cases c1 : p.chunk.part = (A.length : Int)
    · refine hif_false (by simp [c1]) ?_; conv => whnf
      ((refine hwrap_fit (W_fit ?_ ?_) ?_; (· (first | omega | (simp only [List.length_map, List.length_append, List.length_take, List.length_drop, List.length_cons, List.length_nil] <;> omega) | (simp <;> omega))); (· (first | omega | (simp only [List.length_map, List.length_append, List.length_take, List.length_drop, List.length_cons, List.length_nil] <;> omega) | (simp <;> omega))); conv => whnf); try (refine hcut.go ?_; conv => whnf))
      by_cases c2 : p.chunk.last = decide (A.length + 1 = S.length)
      · rw [if_pos ⟨c1, c2⟩] at hr
        refine hif_false (by rw [e, c2]; simp) ?_; conv => whnf
        try (refine hcut.go ?_; conv => whnf)
        refine hobl_intro (c := (((cat A).map bRow).length + (p.chunk.data.map bRow).length) * 1 ≤ 140737488355328) (by simp; omega) ?_; conv => whnf
        try (refine hcut.go ?_; conv => whnf)
        ((refine hwrap_fit (W_fit ?_ ?_) ?_; (· (first | omega | (simp only [List.length_map, List.length_append, List.length_take, List.length_drop, List.length_cons, List.length_nil] <;> omega) | (simp <;> omega))); (· (first | omega | (simp only [List.length_map, List.length_append, List.length_take, List.length_drop, List.length_cons, List.length_nil] <;> omega) | (simp <;> omega))); conv => whnf); try (refine hcut.go ?_; conv => whnf))
        refine ⟨⟨(A ++ [p], B), by rw [h]; simp, by dsimp only; rw [hr, Option.map_map, List.length_append, List.length_singleton]; congr 1; funext x; simp [cat_snoc]⟩, (hle_hs [(900, some 900), (901, some 39)] rfl rfl rfl rfl (by repeat' (first | exact trivial | exact rfl | (refine ⟨⟨rfl, ?_⟩, ?_⟩) | (refine ⟨rfl, ?_⟩) | ((exact row_eqs (by rw [cat_snoc]; simp))) | (simp; done) | (simp; rfl))) (by repeat' (first | exact trivial | exact rfl | exact .inl rfl | exact .inr rfl | (refine ⟨⟨rfl, .inl ⟨_, rfl, ?_⟩⟩, ?_⟩) | (refine ⟨⟨rfl, _, rfl, ?_⟩, ?_⟩) | (refine ⟨⟨rfl, .inr ⟨rfl, ?_⟩⟩, ?_⟩) | (refine ⟨rfl, ?_⟩) | ((exact row_eqs (by rw [cat_snoc]; simp))) | (simp; done) | (simp; rfl)))), by simp⟩
      · rw [if_neg fun h => c2 h.2] at hr
        have hjv : join l = none := by rw [hj, hr]; rfl
        refine hif_true (by rw [e]; cases hp : p.chunk.last <;> cases hd : decide (A.length + 1 = S.length) <;> simp_all) ?_; conv => whnf
        try (refine hcut.go ?_; conv => whnf)
        rw [hjv]
        refine hfin_of [(0, none)] rfl rfl trivial rfl rfl ⟨⟨rfl, .inr ⟨rfl, rfl⟩⟩, trivial⟩
    · rw [if_neg fun h => c1 h.1] at hr
      have hjv : join l = none := by rw [hj, hr]; rfl
      refine hif_true (by simpa using c1) ?_; conv => whnf
      try (refine hcut.go ?_; conv => whnf)
      rw [hjv]
      refine hfin_of [(0, none)] rfl rfl trivial rfl rfl ⟨⟨rfl, .inr ⟨rfl, rfl⟩⟩, trivial⟩
def Found (k : Nat) (a : List Piece) (z : Int) : Prop := (a.filter (at_ k) = [] ∧ z = -1) ∨ ∃ a1 p a2, a = a1 ++ p :: a2 ∧ z = (a1.length : Nat) ∧ a.filter (at_ k) = [p]
theorem spec_rjoin (l : List Piece) (hb : l.length < 2 ^ 22) (ht : tot l < 2 ^ 22) :
    FunOK Try.prog 73 [pieces l] noHeap (.tup [.own 0, hbool (join l).isSome]) (lk .free [(0, .live (.row 5 1 (((join l).getD []).map bRow)))]) := by
  refine funOK_of mixed Try.func73 (by decide) [] (fun _ => .inl rfl) ?_
  have hj : join l = if l = [] then none else rjFrom l l.length 0 l.length := by rw [join, rj_eq]
  conv => whnf
  refine ⟨{ x : Nat × Nat × List UInt8 // x.1 + x.2.1 = l.length ∧ rjFrom l l.length 0 l.length = (rjFrom l l.length x.1 x.2.1).map (x.2.2 ++ ·) ∧ x.2.2.length ≤ x.1 * 4194304 }, fun | ⟨(k, m, acc), _⟩ => hs 59 [(0, pieces l), (4, .own 900), (10, i64 l.length), (11, i64 k)] [(900, .live (.row 5 1 (acc.map bRow)))], fun x => x.1.2.1, ⟨(0, l.length, []), by simp, by simp, by simp⟩, ?_, ?_⟩
  · exact (hle_hs [(900, none)] rfl rfl rfl rfl (by repeat' (first | exact trivial | exact rfl | (refine ⟨⟨rfl, ?_⟩, ?_⟩) | (refine ⟨rfl, ?_⟩) | (simp; done) | (simp; rfl))) (by repeat' (first | exact trivial | exact rfl | exact .inl rfl | exact .inr rfl | (refine ⟨⟨rfl, .inl ⟨_, rfl, ?_⟩⟩, ?_⟩) | (refine ⟨⟨rfl, _, rfl, ?_⟩, ?_⟩) | (refine ⟨⟨rfl, .inr ⟨rfl, ?_⟩⟩, ?_⟩) | (refine ⟨rfl, ?_⟩) | (simp; done) | (simp; rfl))))
  rintro ⟨⟨k, m, acc⟩, h1, h2, h3⟩
  dsimp only at h1 h2 h3
  conv => whnf
  cases m with
  | zero =>
    rw [rjFrom] at h2
    ((refine hif_false ?_ ?_; (· (first | rfl | assumption | omega | (simp only [gt_iff_lt, ge_iff_le, decide_eq_true_eq, decide_eq_false_iff_not, beq_iff_eq, bne_iff_ne, ne_eq, beq_eq_false_iff_ne, bne_eq_false_iff_eq, List.length_map, List.length_append, List.length_cons, List.length_nil, List.length_take, List.length_drop, Bool.not_eq_true', Bool.not_eq_false', Bool.not_eq_true, Bool.not_eq_false, Decidable.not_not, Nat.cast_ofNat, Int.natCast_add] <;> omega) | (simp <;> omega))); conv => whnf); try (refine hcut.go ?_; conv => whnf))
    by_cases hln : l = []
    · subst hln
      have : acc = [] := List.eq_nil_of_length_eq_zero (by have : k = 0 := h1; omega)
      subst this
      refine hfin_of [(0, some 900)] rfl rfl trivial rfl (tup2_eq ?_) ⟨⟨rfl, .inl ⟨900, rfl, rfl⟩⟩, trivial⟩
      rfl
    · have := List.length_pos_iff.2 hln
      have hjv : join l = some acc := by rw [hj, if_neg hln, h2]; simp
      rw [hjv]
      refine hfin_of [(0, some 900)] rfl rfl trivial rfl (tup2_eq ?_) ⟨⟨rfl, .inl ⟨900, rfl, rfl⟩⟩, trivial⟩
      simp; omega
  | succ m =>
    have hln : l ≠ [] := fun h => by subst h; have h1 : k + (m + 1) = 0 := h1; omega
    rw [if_neg hln] at hj
    rw [rjFrom] at h2
    ((refine hif_true ?_ ?_; (· (first | rfl | assumption | omega | (simp only [gt_iff_lt, ge_iff_le, decide_eq_true_eq, decide_eq_false_iff_not, beq_iff_eq, bne_iff_ne, ne_eq, beq_eq_false_iff_ne, bne_eq_false_iff_eq, List.length_map, List.length_append, List.length_cons, List.length_nil, List.length_take, List.length_drop, Bool.not_eq_true', Bool.not_eq_false', Bool.not_eq_true, Bool.not_eq_false, Decidable.not_not, Nat.cast_ofNat, Int.natCast_add] <;> omega) | (simp <;> omega))); conv => whnf); try (refine hcut.go ?_; conv => whnf))
    refine ⟨{ x : (List Piece × List Piece) × Int // l = x.1.1 ++ x.1.2 ∧ Found k x.1.1 x.2 }, fun | ⟨((a, b), z), _⟩ => hs 59 [(0, pieces l), (4, .own 900), (5, i64 k), (6, i64 z), (10, i64 l.length), (11, i64 k), (14, pieces l), (15, i64 l.length), (16, i64 a.length)] [(900, .live (.row 5 1 (acc.map bRow)))], fun x => x.1.1.2.length, ⟨(([], l), -1), rfl, .inl ⟨rfl, rfl⟩⟩, ?_, ?_⟩
    · exact (hle_hs [(900, some 900)] rfl rfl rfl rfl (by repeat' (first | exact trivial | exact rfl | (refine ⟨⟨rfl, ?_⟩, ?_⟩) | (refine ⟨rfl, ?_⟩) | (simp; done) | (simp; rfl))) (by repeat' (first | exact trivial | exact rfl | exact .inl rfl | exact .inr rfl | (refine ⟨⟨rfl, .inl ⟨_, rfl, ?_⟩⟩, ?_⟩) | (refine ⟨⟨rfl, _, rfl, ?_⟩, ?_⟩) | (refine ⟨⟨rfl, .inr ⟨rfl, ?_⟩⟩, ?_⟩) | (refine ⟨rfl, ?_⟩) | (simp; done) | (simp; rfl))))
    rintro ⟨⟨⟨a, b⟩, z⟩, g1, g2⟩
    dsimp only at g1 g2
    have hl : l.length = a.length + b.length := by rw [g1]; simp
    conv => whnf
    cases b with
    | cons p b =>
      rw [List.length_cons] at hl
      ((refine hif_true ?_ ?_; (· (first | rfl | assumption | omega | (simp only [gt_iff_lt, ge_iff_le, decide_eq_true_eq, decide_eq_false_iff_not, beq_iff_eq, bne_iff_ne, ne_eq, beq_eq_false_iff_ne, bne_eq_false_iff_eq, List.length_map, List.length_append, List.length_cons, List.length_nil, List.length_take, List.length_drop, Bool.not_eq_true', Bool.not_eq_false', Bool.not_eq_true, Bool.not_eq_false, Decidable.not_not, Nat.cast_ofNat, Int.natCast_add] <;> omega) | (simp <;> omega))); conv => whnf); try (refine hcut.go ?_; conv => whnf))
      refine hrow_mid g1 (by simp) ?_; conv => whnf
      by_cases c : p.chunk.part = (k : Int)
      · have hat : at_ k p = true := by simpa [at_] using c
        refine hif_true (by simpa using c) ?_; conv => whnf
        try (refine hcut.go ?_; conv => whnf)
        rcases g2 with ⟨f1, rfl⟩ | ⟨a1, q, a2, f1, rfl, f2⟩
        · conv => whnf
          try (refine hcut.go ?_; conv => whnf)
          ((refine hwrap_fit (W_fit ?_ ?_) ?_; (· (first | omega | (simp only [List.length_map, List.length_append, List.length_take, List.length_drop, List.length_cons, List.length_nil] <;> omega) | (simp <;> omega))); (· (first | omega | (simp only [List.length_map, List.length_append, List.length_take, List.length_drop, List.length_cons, List.length_nil] <;> omega) | (simp <;> omega))); conv => whnf); try (refine hcut.go ?_; conv => whnf))
          exact ⟨⟨((a ++ [p], b), (a.length : Nat)), by rw [g1]; simp, .inr ⟨a, p, [], by simp, rfl, by rw [List.filter_append, f1, List.filter_cons, if_pos hat]; rfl⟩⟩, (hle_hs [(900, some 900)] rfl rfl rfl rfl (by repeat' (first | exact trivial | exact rfl | (refine ⟨⟨rfl, ?_⟩, ?_⟩) | (refine ⟨rfl, ?_⟩) | (simp; done) | (simp; rfl))) (by repeat' (first | exact trivial | exact rfl | exact .inl rfl | exact .inr rfl | (refine ⟨⟨rfl, .inl ⟨_, rfl, ?_⟩⟩, ?_⟩) | (refine ⟨⟨rfl, _, rfl, ?_⟩, ?_⟩) | (refine ⟨⟨rfl, .inr ⟨rfl, ?_⟩⟩, ?_⟩) | (refine ⟨rfl, ?_⟩) | (simp; done) | (simp; rfl)))), by simp⟩
        · have hjv : join l = none := by
            rw [hj, h2, g1, List.filter_append, f2, List.filter_cons, if_pos hat]; rfl
          conv => whnf
          try (refine hcut.go ?_; conv => whnf)
          rw [hjv]
          refine hfin_of [(0, none)] rfl rfl trivial rfl rfl ⟨⟨rfl, .inr ⟨rfl, rfl⟩⟩, trivial⟩
      · have hat : ¬ at_ k p = true := by simpa [at_] using c
        refine hif_false (by simpa using c) ?_; conv => whnf
        try (refine hcut.go ?_; conv => whnf)
        ((refine hwrap_fit (W_fit ?_ ?_) ?_; (· (first | omega | (simp only [List.length_map, List.length_append, List.length_take, List.length_drop, List.length_cons, List.length_nil] <;> omega) | (simp <;> omega))); (· (first | omega | (simp only [List.length_map, List.length_append, List.length_take, List.length_drop, List.length_cons, List.length_nil] <;> omega) | (simp <;> omega))); conv => whnf); try (refine hcut.go ?_; conv => whnf))
        refine ⟨⟨((a ++ [p], b), z), by rw [g1]; simp, ?_⟩, (hle_hs [(900, some 900)] rfl rfl rfl rfl (by repeat' (first | exact trivial | exact rfl | (refine ⟨⟨rfl, ?_⟩, ?_⟩) | (refine ⟨rfl, ?_⟩) | (simp; done) | (simp; rfl))) (by repeat' (first | exact trivial | exact rfl | exact .inl rfl | exact .inr rfl | (refine ⟨⟨rfl, .inl ⟨_, rfl, ?_⟩⟩, ?_⟩) | (refine ⟨⟨rfl, _, rfl, ?_⟩, ?_⟩) | (refine ⟨⟨rfl, .inr ⟨rfl, ?_⟩⟩, ?_⟩) | (refine ⟨rfl, ?_⟩) | (simp; done) | (simp; rfl)))), by simp⟩
        rcases g2 with ⟨f1, f0⟩ | ⟨a1, q, a2, f1, f0, f2⟩
        · exact .inl ⟨by rw [List.filter_append, f1, List.filter_cons, if_neg hat]; rfl, f0⟩
        · exact .inr ⟨a1, q, a2 ++ [p], by rw [f1]; simp, f0, by rw [List.filter_append, f2, List.filter_cons, if_neg hat]; rfl⟩
    | nil =>
      rw [List.length_nil] at hl
      rw [List.append_nil] at g1
      ((refine hif_false ?_ ?_; (· (first | rfl | assumption | omega | (simp only [gt_iff_lt, ge_iff_le, decide_eq_true_eq, decide_eq_false_iff_not, beq_iff_eq, bne_iff_ne, ne_eq, beq_eq_false_iff_ne, bne_eq_false_iff_eq, List.length_map, List.length_append, List.length_cons, List.length_nil, List.length_take, List.length_drop, Bool.not_eq_true', Bool.not_eq_false', Bool.not_eq_true, Bool.not_eq_false, Decidable.not_not, Nat.cast_ofNat, Int.natCast_add] <;> omega) | (simp <;> omega))); conv => whnf); try (refine hcut.go ?_; conv => whnf))
      rcases g2 with ⟨f1, rfl⟩ | ⟨a1, q, a2, f1, rfl, f2⟩
      · have hjv : join l = none := by rw [hj, h2, g1, f1]; rfl
        conv => whnf
        try (refine hcut.go ?_; conv => whnf)
        rw [hjv]
        refine hfin_of [(0, none)] rfl rfl trivial rfl rfl ⟨⟨rfl, .inr ⟨rfl, rfl⟩⟩, trivial⟩
      · have hq : q.chunk.data.length ≤ tot l := tot_mem (by rw [g1, f1]; simp)
        have e : ((k : Int) == ((l.map Piece.row).length : Int) - 1) = decide (k + 1 = l.length) := by
          rw [List.length_map, Bool.eq_iff_iff]; simp; omega
        rw [g1, f2] at h2
        dsimp only at h2
        rw [← g1] at h2
        conv => whnf
        refine hrow_mid (show l = a1 ++ q :: a2 by rw [g1, f1]) rfl ?_; conv => whnf
        ((refine hwrap_fit (W_fit ?_ ?_) ?_; (· (first | omega | (simp only [List.length_map, List.length_append, List.length_take, List.length_drop, List.length_cons, List.length_nil] <;> omega) | (simp <;> omega))); (· (first | omega | (simp only [List.length_map, List.length_append, List.length_take, List.length_drop, List.length_cons, List.length_nil] <;> omega) | (simp <;> omega))); conv => whnf); try (refine hcut.go ?_; conv => whnf))
        by_cases c2 : q.chunk.last = decide (k + 1 = l.length)
        · rw [if_pos c2] at h2
          refine hif_false (by rw [e, c2]; simp) ?_; conv => whnf
          try (refine hcut.go ?_; conv => whnf)
          refine hrow_mid (show l = a1 ++ q :: a2 by rw [g1, f1]) rfl ?_; conv => whnf
          refine hobl_intro (c := ((acc.map bRow).length + (q.chunk.data.map bRow).length) * 1 ≤ 140737488355328) (by simp; omega) ?_; conv => whnf
          try (refine hcut.go ?_; conv => whnf)
          ((refine hwrap_fit (W_fit ?_ ?_) ?_; (· (first | omega | (simp only [List.length_map, List.length_append, List.length_take, List.length_drop, List.length_cons, List.length_nil] <;> omega) | (simp <;> omega))); (· (first | omega | (simp only [List.length_map, List.length_append, List.length_take, List.length_drop, List.length_cons, List.length_nil] <;> omega) | (simp <;> omega))); conv => whnf); try (refine hcut.go ?_; conv => whnf))
          refine ⟨⟨(k + 1, m, acc ++ q.chunk.data), by dsimp only; omega, by dsimp only; rw [h2, Option.map_map]; congr 1; funext x; simp, by simp; omega⟩, (hle_hs [(900, some 53)] rfl rfl rfl rfl (by repeat' (first | exact trivial | exact rfl | (refine ⟨⟨rfl, ?_⟩, ?_⟩) | (refine ⟨rfl, ?_⟩) | ((exact row_eqs (by simp))) | (simp; done) | (simp; rfl))) (by repeat' (first | exact trivial | exact rfl | exact .inl rfl | exact .inr rfl | (refine ⟨⟨rfl, .inl ⟨_, rfl, ?_⟩⟩, ?_⟩) | (refine ⟨⟨rfl, _, rfl, ?_⟩, ?_⟩) | (refine ⟨⟨rfl, .inr ⟨rfl, ?_⟩⟩, ?_⟩) | (refine ⟨rfl, ?_⟩) | ((exact row_eqs (by simp))) | (simp; done) | (simp; rfl)))), by simp⟩
        · rw [if_neg c2] at h2
          have hjv : join l = none := by rw [hj, h2]; rfl
          refine hif_true (by rw [e]; cases hp : q.chunk.last <;> cases hd : decide (k + 1 = l.length) <;> simp_all) ?_; conv => whnf
          try (refine hcut.go ?_; conv => whnf)
          rw [hjv]
          refine hfin_of [(0, none)] rfl rfl trivial rfl rfl ⟨⟨rfl, .inr ⟨rfl, rfl⟩⟩, trivial⟩
end Jn
end Go.HL
