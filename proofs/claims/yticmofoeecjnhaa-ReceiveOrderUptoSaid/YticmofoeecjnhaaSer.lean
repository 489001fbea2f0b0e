/- Numbers that go round, and spans of numbers: what Tag, Near and Has compute, and the document's answers. -/
import Derived.Test.YticmofoeecjnhaaKit
namespace Go.HL
open Go.Proofs
namespace Ser
set_option maxHeartbeats 1000000
set_option maxRecDepth 100000
set_option linter.unusedSimpArgs false
abbrev spans (l : List Span) : HV := .p (.sl 2 (l.map Span.row))
def tag (n : Int) : Int := n % 65536
def near (a t : Int) : Int := W (a + (if tag (W (t - a)) > 32768 then tag (W (t - a)) - 65536 else tag (W (t - a))))
theorem tag_lo (n : Int) : 0 ≤ tag n ∧ tag n < 65536 := by unfold tag; omega
theorem W_tag (z : Int) : tag (W z) = tag z := by
  unfold tag W IntKind.wrap
  simp [IntKind.bits, IntKind.signed]
  omega
theorem near_lo {a t : Int} (h1 : -(2 ^ 61) ≤ a) (h2 : a ≤ 2 ^ 61) : a - 32767 ≤ near a t ∧ near a t ≤ a + 32768 ∧ tag (near a t) = tag t := by
  have h3 := tag_lo (W (t - a))
  have h4 := W_tag (t - a)
  unfold near
  split
  · rw [W_fit (by omega) (by omega)]; refine ⟨by omega, by omega, ?_⟩; rw [h4]; unfold tag; omega
  · rw [W_fit (by omega) (by omega)]; refine ⟨by omega, by omega, ?_⟩; rw [h4]; unfold tag; omega
theorem near_min {a t : Int} {d : Nat} (h1 : -(2 ^ 41) ≤ a) (h2 : a ≤ 2 ^ 41) (hd : d ≤ 32768) (h : tag (a + d) = tag t) : near a t = a + d := by
  have h4 := W_tag (t - a)
  have h5 : tag (t - a) = d := by unfold tag at h ⊢; omega
  unfold near
  rw [h4, h5, if_neg (by omega), W_fit (by omega) (by omega)]
theorem near_min2 {a t : Int} {d : Nat} (h1 : -(2 ^ 41) ≤ a) (h2 : a ≤ 2 ^ 41) (hd : d < 32768) (h0 : tag (a + d) ≠ tag t) (h : tag (a - d) = tag t) : near a t = a - d := by
  have h4 := W_tag (t - a)
  have h5 : tag (t - a) = 65536 - d := by unfold tag at h h0 ⊢; omega
  unfold near
  rw [h4, h5, if_pos (by omega), W_fit (by omega) (by omega)]; omega
theorem near_all {a t : Int} (h : ∀ j : Nat, j < 32768 → tag (a + j) ≠ tag t ∧ tag (a - j) ≠ tag t) : tag (a + (32768 : Nat)) = tag t := by
  have h5 := tag_lo (t - a)
  by_cases c : tag (t - a) < 32768
  · exact absurd (by unfold tag at c h5 ⊢; omega) (h (tag (t - a)).toNat (by omega)).1
  · by_cases c2 : tag (t - a) = 32768
    · unfold tag at c2 ⊢; omega
    · exact absurd (by unfold tag at c c2 h5 ⊢; omega) (h (65536 - tag (t - a)).toNat (by omega)).2
def has (l : List Span) (n : Int) : Bool := l.any fun s => decide (s.lo ≤ n) && decide (n ≤ s.hi)

theorem spec_tag (n : Int) : FunOK Try.prog 49 [i64 n] noHeap (i64 (tag n)) noHeap := by
  refine funOK_pure mixed Try.func49 (by decide) ?_
  conv => whnf
  show i64 (bits .and .i64 n 65535) = _
  rw [and_tag]; rfl
theorem tmod_tag (n : Int) : (n.tmod 65536 + 65536).tmod 65536 = tag n := by
  have h1 := Int.tmod_lt_of_pos n (show (0 : Int) < 65536 by decide)
  have h2 : -65536 < n.tmod 65536 := by
    have := Int.lt_tmod_of_pos n (show (0 : Int) < 65536 by decide); omega
  have h3 := Int.mul_tdiv_add_tmod n 65536
  rw [Int.tmod_eq_emod_of_nonneg (by omega)]
  unfold tag
  generalize n.tmod 65536 = x at *
  generalize n.tdiv 65536 = y at *
  omega
theorem spec_rtag (n : Int) : FunOK Try.prog 25 [i64 n] noHeap (i64 (tag n)) noHeap := by
  refine funOK_pure mixed Try.func25 (by decide) ?_
  have h1 := Int.tmod_lt_of_pos n (show (0 : Int) < 65536 by decide)
  have h2 : -65536 < n.tmod 65536 := by
    have := Int.lt_tmod_of_pos n (show (0 : Int) < 65536 by decide); omega
  conv => whnf
  refine hobl_intro (by decide) ?_; conv => whnf
  refine hwrap_fit (W_fit (by omega) (by omega)) ?_; conv => whnf
  refine hobl_intro (by decide) ?_; conv => whnf
  show i64 ((n.tmod 65536 + 65536).tmod 65536) = _
  rw [tmod_tag]
theorem spec_near (a t : Int) : FunOK Try.prog 35 [i64 a, i64 t] noHeap (i64 (near a t)) noHeap := by
  refine funOK_pure mixed Try.func35 (by decide) ?_
  have h3 := tag_lo (W (t - a))
  conv => whnf
  ((first | refine hwrap_W ?_ | refine hwrap_raw ?_); (conv => whnf); try (refine hcut.go ?_; conv => whnf))
  ((refine hcall_lend ?_; (conv => whnf); refine ⟨_, spec_tag _, rfl, ?_⟩; conv => whnf); try (refine hcut.go ?_; conv => whnf))
  (try (refine hcut.go ?_; conv => whnf))
  refine hif_intro (fun c => ?_) (fun c => ?_)
  · have c : tag (W (t - a)) > 32768 := by simpa using c
    conv => whnf
    refine hwrap_fit (z := tag (W (t - a)) - 65536) (W_fit (by omega) (by omega)) ?_; conv => whnf
    ((first | refine hwrap_W ?_ | refine hwrap_raw ?_); (conv => whnf); try (refine hcut.go ?_; conv => whnf))
    rw [near, if_pos c]
  · have c : ¬ tag (W (t - a)) > 32768 := by simpa using c
    conv => whnf
    ((first | refine hwrap_W ?_ | refine hwrap_raw ?_); (conv => whnf); try (refine hcut.go ?_; conv => whnf))
    rw [near, if_neg c]
structure RN (a t : Int) (d : Int) : Prop where
  lo : 0 ≤ d
  le : d ≤ 32768
  no : ∀ j : Nat, j < d → tag (a + j) ≠ tag t ∧ tag (a - j) ≠ tag t
theorem spec_rnear (a t : Int) (h1 : -(2 ^ 40) ≤ a) (h2 : a ≤ 2 ^ 40) : FunOK Try.prog 41 [i64 a, i64 t] noHeap (i64 (near a t)) noHeap := by
  refine funOK_pure mixed Try.func41 (by decide) ?_
  conv => whnf
  refine ⟨{ d : Int // RN a t d }, fun | ⟨d, _⟩ => hs 41 [(0, i64 a), (1, i64 t), (5, i64 d)] [], fun x => (32768 - x.1).toNat, ⟨0, by omega, by omega, fun j hj => absurd hj (by omega)⟩, ?_, ?_⟩
  · exact (hle_hs [] rfl rfl rfl rfl (by repeat' (first | exact trivial | exact rfl | (refine ⟨⟨rfl, ?_⟩, ?_⟩) | (refine ⟨rfl, ?_⟩) | (simp; done) | (simp; rfl))) (by repeat' (first | exact trivial | exact rfl | exact .inl rfl | exact .inr rfl | (refine ⟨⟨rfl, .inl ⟨_, rfl, ?_⟩⟩, ?_⟩) | (refine ⟨⟨rfl, _, rfl, ?_⟩, ?_⟩) | (refine ⟨⟨rfl, .inr ⟨rfl, ?_⟩⟩, ?_⟩) | (refine ⟨rfl, ?_⟩) | (simp; done) | (simp; rfl))))
  rintro ⟨d, hdn⟩
  have hd0 := hdn.lo
  have hd := hdn.le
  have hno := hdn.no
  conv => whnf
  refine hif_intro (fun c1 => ?_) (fun c1 => ?_)
  · have c1 : d < 32768 := of_decide_eq_true c1
    obtain ⟨n, hn⟩ : ∃ n : Nat, d = n := ⟨d.toNat, by omega⟩
    conv => whnf
    refine hwrap_fit (W_fit (by omega) (by omega)) ?_; conv => whnf
    ((refine hcall_lend ?_; (conv => whnf); refine ⟨_, spec_rtag _, rfl, ?_⟩; conv => whnf); try (refine hcut.go ?_; conv => whnf))
    ((refine hcall_lend ?_; (conv => whnf); refine ⟨_, spec_rtag _, rfl, ?_⟩; conv => whnf); try (refine hcut.go ?_; conv => whnf))
    refine hif_intro (fun c2 => ?_) (fun c2 => ?_)
    · have c2 : tag (a + d) ≠ tag t := by simpa using c2
      conv => whnf
      refine hwrap_fit (W_fit (by omega) (by omega)) ?_; conv => whnf
      ((refine hcall_lend ?_; (conv => whnf); refine ⟨_, spec_rtag _, rfl, ?_⟩; conv => whnf); try (refine hcut.go ?_; conv => whnf))
      ((refine hcall_lend ?_; (conv => whnf); refine ⟨_, spec_rtag _, rfl, ?_⟩; conv => whnf); try (refine hcut.go ?_; conv => whnf))
      refine hif_intro (fun c3 => ?_) (fun c3 => ?_)
      · have c3 : tag (a - d) ≠ tag t := by simpa using c3
        conv => whnf
        refine hwrap_fit (W_fit (by omega) (by omega)) ?_; conv => whnf
        refine ⟨⟨d + 1, by omega, by omega, fun j hj => ?_⟩, (hle_hs [] rfl rfl rfl rfl (by repeat' (first | exact trivial | exact rfl | (refine ⟨⟨rfl, ?_⟩, ?_⟩) | (refine ⟨rfl, ?_⟩) | (simp; done) | (simp; rfl))) (by repeat' (first | exact trivial | exact rfl | exact .inl rfl | exact .inr rfl | (refine ⟨⟨rfl, .inl ⟨_, rfl, ?_⟩⟩, ?_⟩) | (refine ⟨⟨rfl, _, rfl, ?_⟩, ?_⟩) | (refine ⟨⟨rfl, .inr ⟨rfl, ?_⟩⟩, ?_⟩) | (refine ⟨rfl, ?_⟩) | (simp; done) | (simp; rfl)))), by dsimp only; omega⟩
        by_cases hjd : (j : Int) = d
        · rw [hjd]; exact ⟨c2, c3⟩
        · exact hno j (by omega)
      · have c3 : tag (a - d) = tag t := by simpa using c3
        conv => whnf
        refine hwrap_fit (W_fit (by omega) (by omega)) ?_; conv => whnf
        ((refine hcall_lend ?_; (conv => whnf); refine ⟨_, spec_rtag _, rfl, ?_⟩; conv => whnf); try (refine hcut.go ?_; conv => whnf))
        ((refine hcall_lend ?_; (conv => whnf); refine ⟨_, spec_rtag _, rfl, ?_⟩; conv => whnf); try (refine hcut.go ?_; conv => whnf))
        refine hif_false (by simpa using c2) ?_
        conv => whnf
        refine hwrap_fit (W_fit (by omega) (by omega)) ?_; conv => whnf
        rw [hn] at c1 c2 c3 ⊢; rw [near_min2 (by omega) (by omega) (by omega) c2 c3]
    · have c2 : tag (a + d) = tag t := by simpa using c2
      conv => whnf
      refine hwrap_fit (W_fit (by omega) (by omega)) ?_; conv => whnf
      ((refine hcall_lend ?_; (conv => whnf); refine ⟨_, spec_rtag _, rfl, ?_⟩; conv => whnf); try (refine hcut.go ?_; conv => whnf))
      ((refine hcall_lend ?_; (conv => whnf); refine ⟨_, spec_rtag _, rfl, ?_⟩; conv => whnf); try (refine hcut.go ?_; conv => whnf))
      refine hif_true (by simpa using c2) ?_
      conv => whnf
      refine hwrap_fit (W_fit (by omega) (by omega)) ?_; conv => whnf
      rw [hn] at c2 ⊢; rw [near_min (by omega) (by omega) (by omega) c2]
  · have c1 : d = 32768 := by have := of_decide_eq_false c1; omega
    subst c1
    have c2 : tag (a + 32768) = tag t := near_all fun j hj => hno j (by omega)
    conv => whnf
    refine hwrap_fit (W_fit (by omega) (by omega)) ?_; conv => whnf
    ((refine hcall_lend ?_; (conv => whnf); refine ⟨_, spec_rtag _, rfl, ?_⟩; conv => whnf); try (refine hcut.go ?_; conv => whnf))
    ((refine hcall_lend ?_; (conv => whnf); refine ⟨_, spec_rtag _, rfl, ?_⟩; conv => whnf); try (refine hcut.go ?_; conv => whnf))
    refine hif_true (by simpa using c2) ?_
    conv => whnf
    refine hwrap_fit (W_fit (by omega) (by omega)) ?_; conv => whnf
    rw [near_min (d := 32768) (by omega) (by omega) (Nat.le_refl _) c2]; rfl

theorem idx_Span {g : FuncId} {cs : List PV} {p : Span → Bool} (hg : ∀ m : Span, FunOK Try.prog g [m.hv, .rp cs] noHeap (hbool (p m)) noHeap) (q : List Span) (hb : q.length < 2 ^ 62) :
    FunOK Try.prog 97 [.p (.sl 2 (q.map Span.row)), .clo g [.rp cs]] noHeap (i64 (idxFrom p 0 q)) noHeap := by
  refine funOK_pure mixed Try.func97 (by decide) ?_
  conv => whnf
  refine ⟨{ k : Nat // k ≤ q.length ∧ idxFrom p k (q.drop k) = idxFrom p 0 q }, fun | ⟨k, _⟩ => hs 19 [(0, .p (.sl 2 (q.map Span.row))), (1, .clo g [.rp cs]), (7, i64 (q.map Span.row).length), (8, i64 k)] [], fun k => q.length - k.1, ⟨0, by simp⟩, ?_, ?_⟩
  · exact (hle_hs [] rfl rfl rfl rfl (by repeat' (first | exact trivial | exact rfl | (refine ⟨⟨rfl, ?_⟩, ?_⟩) | (refine ⟨rfl, ?_⟩) | (simp; done) | (simp; rfl))) (by repeat' (first | exact trivial | exact rfl | exact .inl rfl | exact .inr rfl | (refine ⟨⟨rfl, .inl ⟨_, rfl, ?_⟩⟩, ?_⟩) | (refine ⟨⟨rfl, _, rfl, ?_⟩, ?_⟩) | (refine ⟨⟨rfl, .inr ⟨rfl, ?_⟩⟩, ?_⟩) | (refine ⟨rfl, ?_⟩) | (simp; done) | (simp; rfl))))
  · rintro ⟨k, hk, hi⟩
    conv => whnf
    refine hif_intro (fun h => ?_) (fun h => ?_)
    · have hlt : k < q.length := by simpa using h
      conv => whnf
      refine hrow_intro (r := (q[k]).row) (by simp) (by simp [hlt]) ?_
      conv => whnf
      refine hcall_lend0 ?_; conv => whnf
      refine ⟨_, hg q[k], rfl, ?_⟩; conv => whnf
      rw [List.drop_eq_getElem_cons hlt] at hi
      simp only [idxFrom] at hi
      refine hif_intro (fun h => ?_) (fun h => ?_)
      · conv => whnf
        rw [if_pos h] at hi
        rw [← hi]
      · conv => whnf
        rw [if_neg (by rw [h]; decide)] at hi
        refine hwrap_fit (W_fit (by omega) (by omega)) ?_
        conv => whnf
        exact ⟨⟨k + 1, hlt, hi⟩, (hle_hs [] rfl rfl rfl rfl (by repeat' (first | exact trivial | exact rfl | (refine ⟨⟨rfl, ?_⟩, ?_⟩) | (refine ⟨rfl, ?_⟩) | (simp; done) | (simp; rfl))) (by repeat' (first | exact trivial | exact rfl | exact .inl rfl | exact .inr rfl | (refine ⟨⟨rfl, .inl ⟨_, rfl, ?_⟩⟩, ?_⟩) | (refine ⟨⟨rfl, _, rfl, ?_⟩, ?_⟩) | (refine ⟨⟨rfl, .inr ⟨rfl, ?_⟩⟩, ?_⟩) | (refine ⟨rfl, ?_⟩) | (simp; done) | (simp; rfl)))), by dsimp only; omega⟩
    · conv => whnf
      have hge : q.length ≤ k := by simpa using h
      rw [List.drop_eq_nil_of_le hge] at hi
      rw [← hi]; rfl

theorem spec_has1 (s : Span) (n : Int) : FunOK Try.prog 65 [s.hv, .rp [pi n]] noHeap (hbool (decide (s.lo ≤ n) && decide (n ≤ s.hi))) noHeap := by
  refine funOK_pure mixed Try.func65 (by decide) ?_
  conv => whnf
  refine hif_intro (fun c => ?_) (fun c => ?_) <;> conv => whnf
  · show hbool (decide (n ≤ s.hi)) = _; rw [show decide (s.lo ≤ n) = true from c, Bool.true_and]
  · rw [show decide (s.lo ≤ n) = false from c, Bool.false_and]
theorem idx_any {α : Type} {p : α → Bool} : ∀ (l : List α) (k : Nat), decide (idxFrom p k l ≥ 0) = l.any p
  | [], k => rfl
  | x :: r, k => by
    simp only [idxFrom, List.any_cons]
    split
    · rename_i h; rw [h]; simp
    · rename_i h; rw [idx_any r]; simp [h]
theorem spec_contains {g : FuncId} {cs : List PV} {p : Span → Bool} (hg : ∀ m : Span, FunOK Try.prog g [m.hv, .rp cs] noHeap (hbool (p m)) noHeap) (q : List Span) (hb : q.length < 2 ^ 62) :
    FunOK Try.prog 64 [spans q, .clo g [.rp cs]] noHeap (hbool (q.any p)) noHeap := by
  refine funOK_pure mixed Try.func64 (by decide) ?_
  conv => whnf
  ((refine hcall_lend0 ?_; (conv => whnf); refine ⟨_, idx_Span hg q hb, rfl, ?_⟩; conv => whnf); try (refine hcut.go ?_; conv => whnf))
  show hbool (decide (idxFrom p 0 q ≥ 0)) = _
  rw [idx_any]
theorem spec_has (l : List Span) (n : Int) (hb : l.length < 2 ^ 62) : FunOK Try.prog 36 [spans l, i64 n] noHeap (hbool (has l n)) noHeap := by
  refine funOK_pure mixed Try.func36 (by decide) ?_
  conv => whnf
  ((refine hcall_lend ?_; (conv => whnf); refine ⟨_, spec_contains (fun m => spec_has1 m n) l hb, rfl, ?_⟩; conv => whnf); try (refine hcut.go ?_; conv => whnf))
  rfl
theorem spec_in (l : List Span) (n : Int) (hb : l.length < 2 ^ 62) : FunOK Try.prog 42 [spans l, i64 n] noHeap (hbool (has l n)) noHeap := by
  refine funOK_pure mixed Try.func42 (by decide) ?_
  conv => whnf
  refine ⟨{ k : Nat // k ≤ l.length ∧ has (l.drop k) n = has l n }, fun | ⟨k, _⟩ => hs 24 [(1, i64 n), (7, spans l), (8, i64 l.length), (9, i64 k)] [], fun x => l.length - x.1, ⟨0, by simp⟩, ?_, ?_⟩
  · exact (hle_hs [] rfl rfl rfl rfl (by repeat' (first | exact trivial | exact rfl | (refine ⟨⟨rfl, ?_⟩, ?_⟩) | (refine ⟨rfl, ?_⟩) | (simp; done) | (simp; rfl))) (by repeat' (first | exact trivial | exact rfl | exact .inl rfl | exact .inr rfl | (refine ⟨⟨rfl, .inl ⟨_, rfl, ?_⟩⟩, ?_⟩) | (refine ⟨⟨rfl, _, rfl, ?_⟩, ?_⟩) | (refine ⟨⟨rfl, .inr ⟨rfl, ?_⟩⟩, ?_⟩) | (refine ⟨rfl, ?_⟩) | (simp; done) | (simp; rfl))))
  rintro ⟨k, hk, hi⟩
  conv => whnf
  refine hif_intro (fun c => ?_) (fun c => ?_)
  · have hlt : k < l.length := by simpa using c
    rw [List.drop_eq_getElem_cons hlt, has, List.any_cons] at hi
    conv => whnf
    refine hrow_at k rfl hlt ?_; conv => whnf
    generalize l[k] = s at hi ⊢
    refine hif_intro (fun c1 => ?_) (fun c1 => ?_)
    · have c1 : s.lo ≤ n := of_decide_eq_true c1
      conv => whnf
      refine hif_intro (fun c2 => ?_) (fun c2 => ?_)
      · have c2 : n ≤ s.hi := of_decide_eq_true c2
        conv => whnf
        rw [← hi, decide_eq_true c1, decide_eq_true c2]; rfl
      · have c2 : ¬ n ≤ s.hi := of_decide_eq_false c2
        conv => whnf
        refine hwrap_fit (W_fit (by omega) (by omega)) ?_; conv => whnf
        exact ⟨⟨k + 1, hlt, by rw [← hi, decide_eq_false c2]; simp [has]⟩, (hle_hs [] rfl rfl rfl rfl (by repeat' (first | exact trivial | exact rfl | (refine ⟨⟨rfl, ?_⟩, ?_⟩) | (refine ⟨rfl, ?_⟩) | (simp; done) | (simp; rfl))) (by repeat' (first | exact trivial | exact rfl | exact .inl rfl | exact .inr rfl | (refine ⟨⟨rfl, .inl ⟨_, rfl, ?_⟩⟩, ?_⟩) | (refine ⟨⟨rfl, _, rfl, ?_⟩, ?_⟩) | (refine ⟨⟨rfl, .inr ⟨rfl, ?_⟩⟩, ?_⟩) | (refine ⟨rfl, ?_⟩) | (simp; done) | (simp; rfl)))), by dsimp only; omega⟩
    · have c1 : ¬ s.lo ≤ n := of_decide_eq_false c1
      conv => whnf
      refine hwrap_fit (W_fit (by omega) (by omega)) ?_; conv => whnf
      exact ⟨⟨k + 1, hlt, by rw [← hi, decide_eq_false c1]; simp [has]⟩, (hle_hs [] rfl rfl rfl rfl (by repeat' (first | exact trivial | exact rfl | (refine ⟨⟨rfl, ?_⟩, ?_⟩) | (refine ⟨rfl, ?_⟩) | (simp; done) | (simp; rfl))) (by repeat' (first | exact trivial | exact rfl | exact .inl rfl | exact .inr rfl | (refine ⟨⟨rfl, .inl ⟨_, rfl, ?_⟩⟩, ?_⟩) | (refine ⟨⟨rfl, _, rfl, ?_⟩, ?_⟩) | (refine ⟨⟨rfl, .inr ⟨rfl, ?_⟩⟩, ?_⟩) | (refine ⟨rfl, ?_⟩) | (simp; done) | (simp; rfl)))), by dsimp only; omega⟩
  · have hge : l.length ≤ k := by simpa using c
    rw [List.drop_eq_nil_of_le hge] at hi
    conv => whnf
    rw [← hi]; rfl
end Ser
end Go.HL
