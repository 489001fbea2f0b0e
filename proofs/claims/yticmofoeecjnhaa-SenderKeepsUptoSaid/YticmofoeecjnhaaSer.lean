/- Numbers that go round, and spans of numbers: what Tag, Near and Has compute, and the document's answers. -/
import Derived.Test.YticmofoeecjnhaaKit
namespace Go.HL
open Go.Proofs
namespace Ser
set_option maxHeartbeats 1000000
set_option maxRecDepth 100000
set_option linter.unusedSimpArgs false
abbrev spans (l : List Span) : HV := .p (.sl 2 (l.map Span.row))
def tag (n : Int) : Int := n % 65536
def near (a t : Int) : Int := W (a + (if tag (W (t - a)) > 32768 then tag (W (t - a)) - 65536 else tag (W (t - a))))
theorem tag_lo (n : Int) : 0 ≤ tag n ∧ tag n < 65536 := by unfold tag; omega
theorem W_tag (z : Int) : tag (W z) = tag z := by
  unfold tag W IntKind.wrap
  simp [IntKind.bits, IntKind.signed]
  omega
theorem near_lo {a t : Int} (h1 : -(2 ^ 61) ≤ a) (h2 : a ≤ 2 ^ 61) : a - 32767 ≤ near a t ∧ near a t ≤ a + 32768 ∧ tag (near a t) = tag t := by
  have h3 := tag_lo (W (t - a))
  have h4 := W_tag (t - a)
  unfold near
  split
  · rw [W_fit (by omega) (by omega)]; refine ⟨by omega, by omega, ?_⟩; rw [h4]; unfold tag; omega
  · rw [W_fit (by omega) (by omega)]; refine ⟨by omega, by omega, ?_⟩; rw [h4]; unfold tag; omega
def has (l : List Span) (n : Int) : Bool := l.any fun s => decide (s.lo ≤ n) && decide (n ≤ s.hi)
theorem spec_tag (n : Int) : FunOK Try.prog 49 [i64 n] noHeap (i64 (tag n)) noHeap := by
  refine funOK_pure mixed Try.func49 (by decide) ?_
  conv => whnf
  show i64 (bits .and .i64 n 65535) = _
  rw [and_tag]; rfl
theorem spec_near (a t : Int) : FunOK Try.prog 35 [i64 a, i64 t] noHeap (i64 (near a t)) noHeap := by
  refine funOK_pure mixed Try.func35 (by decide) ?_
  have h3 := tag_lo (W (t - a))
  conv => whnf
  ((first | refine hwrap_W ?_ | refine hwrap_raw ?_); (conv => whnf); try (refine hcut.go ?_; conv => whnf))
  ((refine hcall_lend ?_; (conv => whnf); refine ⟨_, spec_tag _, rfl, ?_⟩; conv => whnf); try (refine hcut.go ?_; conv => whnf))
  (try (refine hcut.go ?_; conv => whnf))
  refine hif_intro (fun c => ?_) (fun c => ?_)
  · have c : tag (W (t - a)) > 32768 := by simpa using c
    conv => whnf
    refine hwrap_fit (z := tag (W (t - a)) - 65536) (W_fit (by omega) (by omega)) ?_; conv => whnf
    ((first | refine hwrap_W ?_ | refine hwrap_raw ?_); (conv => whnf); try (refine hcut.go ?_; conv => whnf))
    rw [near, if_pos c]
  · have c : ¬ tag (W (t - a)) > 32768 := by simpa using c
    conv => whnf
    ((first | refine hwrap_W ?_ | refine hwrap_raw ?_); (conv => whnf); try (refine hcut.go ?_; conv => whnf))
    rw [near, if_neg c]
structure RN (a t : Int) (d : Int) : Prop where
  lo : 0 ≤ d
  le : d ≤ 32768
  no : ∀ j : Nat, j < d → tag (a + j) ≠ tag t ∧ tag (a - j) ≠ tag t
theorem idx_Span {g : FuncId} {cs : List PV} {p : Span → Bool} (hg : ∀ m : Span, FunOK Try.prog g [m.hv, .rp cs] noHeap (hbool (p m)) noHeap) (q : List Span) (hb : q.length < 2 ^ 62) :
    FunOK Try.prog 97 [.p (.sl 2 (q.map Span.row)), .clo g [.rp cs]] noHeap (i64 (idxFrom p 0 q)) noHeap := by
  refine funOK_pure mixed Try.func97 (by decide) ?_
  conv => whnf
  refine ⟨{ k : Nat // k ≤ q.length ∧ idxFrom p k (q.drop k) = idxFrom p 0 q }, fun | ⟨k, _⟩ => hs 19 [(0, .p (.sl 2 (q.map Span.row))), (1, .clo g [.rp cs]), (7, i64 (q.map Span.row).length), (8, i64 k)] [], fun k => q.length - k.1, ⟨0, by simp⟩, ?_, ?_⟩
  · exact (hle_Q [])
  · rintro ⟨k, hk, hi⟩
    conv => whnf
    refine hif_intro (fun h => ?_) (fun h => ?_)
    · have hlt : k < q.length := by simpa using h
      conv => whnf
      refine hrow_intro (r := (q[k]).row) (by simp) (by simp [hlt]) ?_
      conv => whnf
      refine hcall_lend0 ?_; conv => whnf
      refine ⟨_, hg q[k], rfl, ?_⟩; conv => whnf
      rw [List.drop_eq_getElem_cons hlt] at hi
      simp only [idxFrom] at hi
      refine hif_intro (fun h => ?_) (fun h => ?_)
      · conv => whnf
        rw [if_pos h] at hi
        rw [← hi]
      · conv => whnf
        rw [if_neg (by rw [h]; decide)] at hi
        refine hwrap_fit (W_fit (by omega) (by omega)) ?_
        conv => whnf
        exact ⟨⟨k + 1, hlt, hi⟩, (hle_Q []), by dsimp only; omega⟩
    · conv => whnf
      have hge : q.length ≤ k := by simpa using h
      rw [List.drop_eq_nil_of_le hge] at hi
      rw [← hi]; rfl
theorem spec_has1 (s : Span) (n : Int) : FunOK Try.prog 65 [s.hv, .rp [pi n]] noHeap (hbool (decide (s.lo ≤ n) && decide (n ≤ s.hi))) noHeap := by
  refine funOK_pure mixed Try.func65 (by decide) ?_
  conv => whnf
  refine hif_intro (fun c => ?_) (fun c => ?_) <;> conv => whnf
  · show hbool (decide (n ≤ s.hi)) = _; rw [show decide (s.lo ≤ n) = true from c, Bool.true_and]
  · rw [show decide (s.lo ≤ n) = false from c, Bool.false_and]
theorem idx_any {α : Type} {p : α → Bool} : ∀ (l : List α) (k : Nat), decide (idxFrom p k l ≥ 0) = l.any p
  | [], k => rfl
  | x :: r, k => by
    simp only [idxFrom, List.any_cons]
    split
    · rename_i h; rw [h]; simp
    · rename_i h; rw [idx_any r]; simp [h]
theorem spec_contains {g : FuncId} {cs : List PV} {p : Span → Bool} (hg : ∀ m : Span, FunOK Try.prog g [m.hv, .rp cs] noHeap (hbool (p m)) noHeap) (q : List Span) (hb : q.length < 2 ^ 62) :
    FunOK Try.prog 64 [spans q, .clo g [.rp cs]] noHeap (hbool (q.any p)) noHeap := by
  refine funOK_pure mixed Try.func64 (by decide) ?_
  conv => whnf
  ((refine hcall_lend0 ?_; (conv => whnf); refine ⟨_, idx_Span hg q hb, rfl, ?_⟩; conv => whnf); try (refine hcut.go ?_; conv => whnf))
  show hbool (decide (idxFrom p 0 q ≥ 0)) = _
  rw [idx_any]
theorem spec_has (l : List Span) (n : Int) (hb : l.length < 2 ^ 62) : FunOK Try.prog 36 [spans l, i64 n] noHeap (hbool (has l n)) noHeap := by
  refine funOK_pure mixed Try.func36 (by decide) ?_
  conv => whnf
  ((refine hcall_lend ?_; (conv => whnf); refine ⟨_, spec_contains (fun m => spec_has1 m n) l hb, rfl, ?_⟩; conv => whnf); try (refine hcut.go ?_; conv => whnf))
  rfl
end Ser
end Go.HL
