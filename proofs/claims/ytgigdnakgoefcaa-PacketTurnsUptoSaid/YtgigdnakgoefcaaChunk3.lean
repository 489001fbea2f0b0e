/- Parse, of the program and of the document. -/
import Derived.Test.YtgigdnakgoefcaaChunk2
namespace Go.HL
open Go.Proofs
namespace Chk
set_option maxHeartbeats 1000000
set_option maxRecDepth 100000
set_option linter.unusedSimpArgs false
theorem skipsRun_len : ∀ l : List UInt8, (skipsRun l).1.length ≤ l.length
  | a :: b :: c :: d :: r => by
    have := skipsRun_len r
    simp only [skipsRun]
    split <;> simp <;> omega
  | [] => by simp [skipsRun]
  | [_] => by simp [skipsRun]
  | [_, _] => by simp [skipsRun]
  | [_, _, _] => by simp [skipsRun]
theorem bodyOf_len (kind : Int) (b : List UInt8) : (bodyOf kind b).1.spans.length ≤ b.length ∧ (bodyOf kind b).1.skips.length ≤ b.length := by
  have h1 := skipsRun_len (b.drop 2)
  have h2 := spansOf_len (b.drop 4)
  have h3 : (b.drop 2).length ≤ b.length := by simp
  have h4 : (b.drop 4).length ≤ b.length := by simp
  unfold bodyOf
  (repeat' split) <;> constructor <;> first | (simp [no]; done) | (dsimp only [no]; omega)
def parse (b : List UInt8) : Chunk × Int × Int :=
  if b.length < 2 ∨ b.length < 2 + (b[1]?.getD 0).toNat then (no, 0, 8) else
  if (b[0]?.getD 0).toNat < 1 ∨ (b[0]?.getD 0).toNat > 3 then (no, 0, 1) else
  if (bodyOf (b[0]?.getD 0).toNat ((b.drop 2).take (b[1]?.getD 0).toNat)).2 = false then (no, 0, 2) else
  if wrong (bodyOf (b[0]?.getD 0).toNat ((b.drop 2).take (b[1]?.getD 0).toNat)).1 ≠ 0 then (no, 0, wrong (bodyOf (b[0]?.getD 0).toNat ((b.drop 2).take (b[1]?.getD 0).toNat)).1) else
  ((bodyOf (b[0]?.getD 0).toNat ((b.drop 2).take (b[1]?.getD 0).toNat)).1, 2 + (b[1]?.getD 0).toNat, 0)

theorem hsub_eq {rows : List (List PV)} {o n o' n' : Nat} {K : List (List PV) → Prop} (ho : o = o') (hn : n = n') (h : hsub rows o' n' K) : hsub rows o n K := by subst ho; subst hn; exact h
theorem spec_parse (b : List UInt8) (hb : b.length < 2 ^ 39) : FunOK Try.prog 13 [byts b] noHeap (.tup [(parse b).1.hv, i64 (parse b).2.1, i64 (parse b).2.2]) noHeap := by
  refine funOK_pure mixed Try.func13 (by decide) ?_
  have hl : (b.map bRow).length = b.length := by simp
  have hb1 := (b[1]?.getD 0).toNat_lt
  conv => whnf
  refine hif_intro (fun c1 => ?_) (fun c1 => ?_)
  · have c1 : (b.length : Int) < 2 := by simpa using c1
    rw [parse, if_pos (.inl (by omega))]
    conv => whnf
    rfl
  have c1 : ¬ (b.length : Int) < 2 := by simpa using c1
  conv => whnf
  refine hwrap_fit (z := ((b.map bRow).length : Int) - 2) (W_fit (by omega) (by omega)) ?_; conv => whnf
  refine hrow_b 1 rfl (by omega) ?_; conv => whnf
  refine hwrap_fit (u8_fit _) ?_; conv => whnf
  refine hif_intro (fun c2 => ?_) (fun c2 => ?_)
  · have c2 : ((b.map bRow).length : Int) - 2 < (b[1]?.getD 0).toNat := of_decide_eq_true c2
    rw [parse, if_pos (.inr (by omega))]
    conv => whnf
    rfl
  have c2 : ¬ ((b.map bRow).length : Int) - 2 < (b[1]?.getD 0).toNat := of_decide_eq_false c2
  rw [parse, if_neg (by omega)]
  conv => whnf
  refine hrow_b 0 rfl (by omega) ?_; conv => whnf
  refine hif_intro (fun c3 => ?_) (fun c3 => ?_)
  · have c3 : ((b[0]?.getD 0).toNat : Int) < 1 := of_decide_eq_true c3
    rw [if_pos (.inl (by omega))]
    conv => whnf
    rfl
  have c3 : ¬ ((b[0]?.getD 0).toNat : Int) < 1 := of_decide_eq_false c3
  conv => whnf
  refine hrow_b 0 rfl (by omega) ?_; conv => whnf
  refine hif_intro (fun c4 => ?_) (fun c4 => ?_)
  · have c4 : ((b[0]?.getD 0).toNat : Int) > 3 := of_decide_eq_true c4
    rw [if_pos (.inr (by omega))]
    conv => whnf
    rfl
  have c4 : ¬ ((b[0]?.getD 0).toNat : Int) > 3 := of_decide_eq_false c4
  rw [if_neg (by omega)]
  conv => whnf
  refine hrow_b 1 rfl (by omega) ?_; conv => whnf
  refine hwrap_fit (u8_fit _) ?_; conv => whnf
  refine hwrap_fit (z := 2 + ((b[1]?.getD 0).toNat : Int)) (W_fit (by omega) (by omega)) ?_; conv => whnf
  refine hrow_b 0 rfl (by omega) ?_; conv => whnf
  refine hwrap_fit (u8_fit _) ?_; conv => whnf
  refine hobl_intro (by omega) ?_; conv => whnf
  refine hsub_eq (o' := 2) (n' := (b[1]?.getD 0).toNat) rfl (by omega) ?_
  refine hsub_at (l := b) (by omega) ?_
  have hlen : ((b.drop 2).take (b[1]?.getD 0).toNat).length ≤ 256 := by simp; omega
  obtain ⟨l1, l2⟩ := bodyOf_len (b[0]?.getD 0).toNat ((b.drop 2).take (b[1]?.getD 0).toNat)
  generalize hs : (b.drop 2).take (b[1]?.getD 0).toNat = s at hlen l1 l2 ⊢
  conv => whnf
  refine hcall_pure ?_; conv => whnf
  refine ⟨_, spec_body (b[0]?.getD 0).toNat s (by omega), rfl, ?_⟩
  generalize bodyOf (b[0]?.getD 0).toNat s = p at l1 l2 ⊢
  obtain ⟨c, ok⟩ := p
  dsimp only at l1 l2
  conv => whnf
  refine hdraw_intro ?_ ?_
  · kernel_rfl
  conv => whnf
  cases ok with
  | false =>
    conv => whnf
    rfl
  | true =>
    rw [if_neg (by simp)]
    conv => whnf
    refine hcall_lend ?_; conv => whnf
    refine ⟨_, spec_wrong c (by omega) (by omega), rfl, ?_⟩; conv => whnf
    refine hif_intro (fun c5 => ?_) (fun c5 => ?_)
    · have c5 : ¬ wrong c = 0 := by simpa using c5
      rw [if_pos c5]
      conv => whnf
      rfl
    · have c5 : wrong c = 0 := by simpa using c5
      rw [if_neg (fun h => h c5)]
      conv => whnf
      rfl

/-! ### The document's reader -/
def one (l : List UInt8) (ok : Bool) : Int × List UInt8 × Bool := match l with
  | [] => (0, [], false)
  | x :: r => (x.toNat, r, ok)
def two (l : List UInt8) (ok : Bool) : Int × List UInt8 × Bool := match l with
  | x :: y :: r => (dec16 x y, r, ok)
  | [x] => (x.toNat * 256, [], false)
  | [] => (0, [], false)
def rd (l : List UInt8) (ok : Bool) : HSlot := .live (.cells 59 [byts l, hbool ok])
theorem spec_one (l : List UInt8) (ok : Bool) : FunOK Try.prog 33 [.ptr 1000000 0] (lk .free [(1000000, rd l ok)]) (i64 (one l ok).1) (lk .free [(1000000, rd (one l ok).2.1 (one l ok).2.2)]) := by
  refine funOK_of mixed Try.func33 (by decide) [1000000] (fun i => lk_pins i) ?_
  cases l with
  | nil =>
    conv => whnf
    exact hfin_of [(1000000, some 1000000)] rfl rfl ⟨rfl, trivial⟩ rfl rfl ⟨⟨rfl, .inl ⟨1000000, rfl, rfl⟩⟩, trivial⟩
  | cons x r =>
    simp only [one]
    conv => whnf
    refine hrow_b (b := x :: r) 0 rfl (by simp) ?_; conv => whnf
    refine hwrap_fit (u8_fit x) ?_; conv => whnf
    refine hobl_intro (by simp; omega) ?_; conv => whnf
    refine hsub_from (l := x :: r) (by simp; omega) ?_
    conv => whnf
    exact hfin_of [(1000000, some 1000000)] rfl rfl ⟨rfl, trivial⟩ rfl rfl ⟨⟨rfl, .inl ⟨1000000, rfl, rfl⟩⟩, trivial⟩
theorem spec_two (l : List UInt8) (ok : Bool) : FunOK Try.prog 32 [.ptr 1000000 0] (lk .free [(1000000, rd l ok)]) (i64 (two l ok).1) (lk .free [(1000000, rd (two l ok).2.1 (two l ok).2.2)]) := by
  refine funOK_of mixed Try.func32 (by decide) [1000000] (fun i => lk_pins i) ?_
  have h1 : ∀ x y : UInt8, (x.toNat : Int) * 256 + y.toNat ≤ 70000 ∧ 0 ≤ (x.toNat : Int) * 256 + y.toNat := by
    intro x y; have := x.toNat_lt; have := y.toNat_lt; omega
  conv => whnf
  refine hcall_give [] [(1000000, 1000000)] [] ?_; conv => whnf
  refine ⟨_, _, _, _, spec_one l ok, ⟨rfl, rfl, rfl, ⟨⟨rfl, _, rfl, .inl ⟨rfl, rfl⟩⟩, trivial⟩, trivial, rfl, rfl, rfl⟩, ?_⟩
  conv => whnf
  have e1 : W ((one l ok).1 * 256) = (one l ok).1 * 256 := by
    cases l with
    | nil => rfl
    | cons x r => have := h1 x 0; exact W_fit (by simp only [one]; omega) (by simp only [one]; omega)
  have e1' : W (256 * (one l ok).1) = 256 * (one l ok).1 := by rw [Int.mul_comm]; exact e1
  refine hwrap_fit e1' ?_; conv => whnf
  refine hcall_give [] [(1000000, 1000000)] [] ?_; conv => whnf
  refine ⟨_, _, _, _, spec_one (one l ok).2.1 (one l ok).2.2, ⟨rfl, rfl, rfl, ⟨⟨rfl, _, rfl, .inl ⟨rfl, rfl⟩⟩, trivial⟩, trivial, rfl, rfl, rfl⟩, ?_⟩
  conv => whnf
  have e2 : 256 * (one l ok).1 + (one (one l ok).2.1 (one l ok).2.2).1 = (two l ok).1 := by
    cases l with
    | nil => rfl
    | cons x r => cases r with
      | nil => simp only [one, two]; omega
      | cons y r => simp only [one, two, dec16]; omega
  have e3 : W (two l ok).1 = (two l ok).1 := by
    cases l with
    | nil => rfl
    | cons x r => cases r with
      | nil => have := h1 x 0; exact W_fit (by simp only [two]; omega) (by simp only [two]; omega)
      | cons y r => have := h1 x y; exact W_fit (by simp only [two, dec16]; omega) (by simp only [two, dec16]; omega)
  have e4 : (one (one l ok).2.1 (one l ok).2.2).2 = (two l ok).2 := by
    cases l with
    | nil => rfl
    | cons x r => cases r <;> rfl
  refine hwrap_fit (z := 256 * (one l ok).1 + (one (one l ok).2.1 (one l ok).2.2).1) (by rw [e2]; exact e3) ?_; conv => whnf
  rw [← e4, ← e2]
  exact hfin_of [(1000000, some 1000000)] rfl rfl ⟨rfl, trivial⟩ rfl rfl ⟨⟨rfl, .inl ⟨1000000, rfl, rfl⟩⟩, trivial⟩
end Chk
end Go.HL
