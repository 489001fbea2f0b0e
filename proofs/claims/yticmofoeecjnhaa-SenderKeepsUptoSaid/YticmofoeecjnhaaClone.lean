/- slices.Clone, slices.IndexFunc, slices.DeleteFunc and slices.ContainsFunc of the program's types. -/
import Derived.Test.YticmofoeecjnhaaSortD
namespace Go.HL
open Go.Proofs
namespace Cl
set_option maxHeartbeats 2000000
set_option maxRecDepth 100000
set_option linter.unusedSimpArgs false
theorem idx_first {α : Type} {p : α → Bool} (A B : List α) (x : α) (hA : ∀ y ∈ A, p y = false) (hx : p x = true) : idxFrom p 0 (A ++ x :: B) = (A.length : Int) := by
  have gen : ∀ (A : List α) (k : Nat), (∀ y ∈ A, p y = false) → idxFrom p k (A ++ x :: B) = ((k + A.length : Nat) : Int) := by
    intro A
    induction A with
    | nil => intro k _; simp [idxFrom, hx]
    | cons a A ih => intro k h; rw [List.cons_append, idxFrom, if_neg (by rw [h a (by simp)]; decide), ih (k + 1) fun y hy => h y (by simp [hy])]; simp; omega
  rw [gen A 0 hA]; simp
theorem idx_split {α : Type} (p : α → Bool) (l : List α) : (idxFrom p 0 l = -1 ∧ ∀ y ∈ l, p y = false) ∨ ∃ A x B, l = A ++ x :: B ∧ (∀ y ∈ A, p y = false) ∧ p x = true := by
  have gen : ∀ (l : List α) (k : Nat), (idxFrom p k l = -1 ∧ ∀ y ∈ l, p y = false) ∨ ∃ A x B, l = A ++ x :: B ∧ (∀ y ∈ A, p y = false) ∧ p x = true := by
    intro l
    induction l with
    | nil => intro k; exact .inl ⟨rfl, by simp⟩
    | cons a l ih =>
      intro k
      cases h : p a with
      | true => exact .inr ⟨[], a, l, rfl, by simp, h⟩
      | false =>
        rcases ih (k + 1) with ⟨h1, h2⟩ | ⟨A, x, B, rfl, h2, h3⟩
        · exact .inl ⟨by rw [idxFrom, if_neg (by rw [h]; decide), h1], fun y hy => by rcases List.mem_cons.1 hy with rfl | hy; exact h; exact h2 y hy⟩
        · exact .inr ⟨a :: A, x, B, rfl, fun y hy => by rcases List.mem_cons.1 hy with rfl | hy; exact h; exact h2 y hy, h3⟩
  exact gen l 0
theorem row_mid2 {α : Type} {t n : Nat} {f : α → List PV} {l A B : List α} {x y : α} {i : Nat} {r : List PV} (h : l = A ++ x :: B) (hi : i = A.length) (hr : f y = r) : HSlot.live (.row t n ((l.map f).set i r)) = HSlot.live (.row t n ((A ++ y :: B).map f)) := by
  subst h hr
  rw [← List.map_set, Srt.set_mid hi]
theorem clone_bytes (l : List UInt8) (hb : l.length < 2 ^ 40) : FunOK Try.prog 34 [.p (.sl 1 (l.map bRow))] noHeap (.own 0) (lk .free [(0, .live (.row 5 1 (l.map bRow)))]) := by
  refine funOK_of mixed Try.func34 (by decide) [] (fun _ => .inl rfl) ?_
  conv => whnf
  intro b hn
  conv => whnf
  refine hif_intro (fun c => ?_) (fun c => ?_)
  · conv => whnf
    refine hfin_of [(0, none)] rfl rfl trivial rfl rfl ⟨⟨rfl, .inr ⟨rfl, hn c⟩⟩, trivial⟩
  · conv => whnf
    refine hobl_intro (c := (([] : List (List PV)).length + (l.map bRow).length) * 1 ≤ 140737488355328) (by simp; omega) ?_
    conv => whnf
    refine hfin_of [(0, some 7)] rfl rfl trivial rfl rfl ⟨⟨rfl, .inl ⟨7, rfl, ?_⟩⟩, trivial⟩
    rfl
theorem clone_ints (l : List Int) (hb : l.length < 2 ^ 40) : FunOK Try.prog 33 [.p (.sl 1 (l.map (fun n => [pi n])))] noHeap (.own 0) (lk .free [(0, .live (.row 3 1 (l.map (fun n => [pi n]))))]) := by
  refine funOK_of mixed Try.func33 (by decide) [] (fun _ => .inl rfl) ?_
  conv => whnf
  intro b hn
  conv => whnf
  refine hif_intro (fun c => ?_) (fun c => ?_)
  · conv => whnf
    refine hfin_of [(0, none)] rfl rfl trivial rfl rfl ⟨⟨rfl, .inr ⟨rfl, hn c⟩⟩, trivial⟩
  · conv => whnf
    refine hobl_intro (c := (([] : List (List PV)).length + (l.map (fun n => [pi n])).length) * 8 ≤ 140737488355328) (by simp; omega) ?_
    conv => whnf
    refine hfin_of [(0, some 7)] rfl rfl trivial rfl rfl ⟨⟨rfl, .inl ⟨7, rfl, ?_⟩⟩, trivial⟩
    rfl
theorem clone_skips (l : List Skip) (hb : l.length < 2 ^ 40) : FunOK Try.prog 111 [.p (.sl 3 (l.map Skip.row))] noHeap (.own 0) (lk .free [(0, .live (.row 100 3 (l.map Skip.row)))]) := by
  refine funOK_of mixed Try.func111 (by decide) [] (fun _ => .inl rfl) ?_
  conv => whnf
  intro b hn
  conv => whnf
  refine hif_intro (fun c => ?_) (fun c => ?_)
  · conv => whnf
    refine hfin_of [(0, none)] rfl rfl trivial rfl rfl ⟨⟨rfl, .inr ⟨rfl, hn c⟩⟩, trivial⟩
  · conv => whnf
    refine hobl_intro (c := (([] : List (List PV)).length + (l.map Skip.row).length) * 24 ≤ 140737488355328) (by simp; omega) ?_
    conv => whnf
    refine hfin_of [(0, some 7)] rfl rfl trivial rfl rfl ⟨⟨rfl, .inl ⟨7, rfl, ?_⟩⟩, trivial⟩
    rfl
theorem clone_paths (l : List Path) (hb : l.length < 2 ^ 40) : FunOK Try.prog 82 [.p (.sl 7 (l.map Path.row))] noHeap (.own 0) (lk .free [(0, .live (.row 109 7 (l.map Path.row)))]) := by
  refine funOK_of mixed Try.func82 (by decide) [] (fun _ => .inl rfl) ?_
  conv => whnf
  intro b hn
  conv => whnf
  refine hif_intro (fun c => ?_) (fun c => ?_)
  · conv => whnf
    refine hfin_of [(0, none)] rfl rfl trivial rfl rfl ⟨⟨rfl, .inr ⟨rfl, hn c⟩⟩, trivial⟩
  · conv => whnf
    refine hobl_intro (c := (([] : List (List PV)).length + (l.map Path.row).length) * 56 ≤ 140737488355328) (by simp; omega) ?_
    conv => whnf
    refine hfin_of [(0, some 7)] rfl rfl trivial rfl rfl ⟨⟨rfl, .inl ⟨7, rfl, ?_⟩⟩, trivial⟩
    rfl
end Cl
end Go.HL
