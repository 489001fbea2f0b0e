/- Bytes read as chunks: the program's functions as what they compute. -/
import Derived.Test.YtgigdnakgoefcaaChunk
namespace Go.HL
open Go.Proofs
namespace Chk
set_option maxHeartbeats 1000000
set_option maxRecDepth 100000
set_option linter.unusedSimpArgs false
def at16 (b : List UInt8) (i : Nat) : Int := dec16 (b[i]?.getD 0) (b[i + 1]?.getD 0)
def no : Chunk := ⟨0, 0, 0, 0, 0, false, false, [], [], 0, []⟩
def spansOf : List UInt8 → List Span
  | a :: b :: c :: d :: r => ⟨dec16 a b, dec16 c d⟩ :: spansOf r
  | _ => []
def skipsRun : List UInt8 → List Skip × Bool
  | s :: f :: m :: n :: r => if f.toNat > 1 then ([], false) else (⟨s.toNat, dec16 m n, f.toNat == 1⟩ :: (skipsRun r).1, (skipsRun r).2)
  | _ => ([], true)
def bodyOf (kind : Int) (b : List UInt8) : Chunk × Bool :=
  if b.length < 2 then ({ no with kind := kind }, false) else
  if kind = 1 then
    if b.length < 7 ∨ (b[3]?.getD 0).toNat > 3 then ({ no with kind := kind, tag := at16 b 0 }, false)
    else ({ no with kind := kind, tag := at16 b 0, stream := (b[2]?.getD 0).toNat, last := (b[3]?.getD 0).toNat % 2 != 0, ordered := (b[3]?.getD 0).toNat / 2 * 2 != 0, mid := at16 b 4, part := (b[6]?.getD 0).toNat, data := b.drop 7 }, true)
  else if kind = 2 then
    if b.length < 4 ∨ b.length % 4 ≠ 0 then ({ no with kind := kind, tag := at16 b 0 }, false)
    else ({ no with kind := kind, tag := at16 b 0, room := at16 b 2, spans := spansOf (b.drop 4) }, true)
  else if b.length % 4 ≠ 2 then ({ no with kind := kind, tag := at16 b 0 }, false)
    else ({ no with kind := kind, tag := at16 b 0, skips := (skipsRun (b.drop 2)).1 }, (skipsRun (b.drop 2)).2)

/-- a chunk's cells before anything is written -/
def Chunk0 : List HV := [i64 0, i64 0, i64 0, i64 0, i64 0, hbool false, hbool false, hnil, hnil, i64 0, hnil]
theorem at16_drop (b : List UInt8) (j i : Nat) : at16 (b.drop j) i = at16 b (j + i) := by
  unfold at16
  rw [List.getElem?_drop, List.getElem?_drop, Nat.add_assoc]
theorem spansOf_len : ∀ l : List UInt8, (spansOf l).length = l.length / 4
  | a :: b :: c :: d :: r => by simp only [spansOf, List.length_cons, spansOf_len r]; omega
  | [] => by simp [spansOf]
  | [_] => by simp [spansOf]
  | [_, _] => by simp [spansOf]
  | [_, _, _] => by simp [spansOf]
theorem drop4 {b : List UInt8} {j : Nat} (h : j + 4 ≤ b.length) : b.drop j = b[j]?.getD 0 :: b[j + 1]?.getD 0 :: b[j + 2]?.getD 0 :: b[j + 3]?.getD 0 :: b.drop (j + 4) := by
  rw [List.drop_eq_getElem_cons (by omega), List.drop_eq_getElem_cons (by omega), List.drop_eq_getElem_cons (by omega), List.drop_eq_getElem_cons (by omega)]
  rw [List.getElem?_eq_getElem (by omega), List.getElem?_eq_getElem (by omega), List.getElem?_eq_getElem (by omega), List.getElem?_eq_getElem (by omega)]
  rfl
theorem skipsRun4 {b : List UInt8} {j : Nat} (h : j + 4 ≤ b.length) : skipsRun (b.drop j) =
    if (b[j + 1]?.getD 0).toNat > 1 then ([], false) else (⟨(b[j]?.getD 0).toNat, at16 b (j + 2), (b[j + 1]?.getD 0).toNat == 1⟩ :: (skipsRun (b.drop (j + 4))).1, (skipsRun (b.drop (j + 4))).2) := by
  rw [drop4 h, skipsRun]; rfl
theorem spansOf_take : ∀ {k : Nat} {l : List UInt8}, 4 * k + 4 ≤ l.length → (spansOf l).take (k + 1) = (spansOf l).take k ++ [⟨at16 l (4 * k), at16 l (4 * k + 2)⟩]
  | k, [], h => by simp at h
  | k, [_], h => by simp at h
  | k, [_, _], h => by simp at h
  | k, [_, _, _], h => by simp at h
  | 0, a :: b :: c :: d :: r, h => by simp [spansOf, at16]
  | k + 1, a :: b :: c :: d :: r, h => by
    have := spansOf_take (k := k) (l := r) (by simp at h; omega)
    simp only [spansOf, List.take_succ_cons, this, List.cons_append]
    have e : ∀ i, at16 (a :: b :: c :: d :: r) (4 * (k + 1) + i) = at16 r (4 * k + i) := by
      intro i
      have := at16_drop (a :: b :: c :: d :: r) 4 (4 * k + i)
      rw [show 4 * (k + 1) + i = 4 + (4 * k + i) by omega, ← this]
      rfl
    rw [e 2]
    have := e 0
    simp only [Nat.add_zero] at this
    rw [this]
theorem bget {b : List UInt8} {i : Nat} (h : i < b.length) : (b.map bRow)[i]? = some (bRow (b[i]?.getD 0)) := by
  rw [List.getElem?_map, List.getElem?_eq_getElem h]; rfl
theorem u8_fit (b : UInt8) : W (b.toNat : Int) = b.toNat := by have := b.toNat_lt; exact W_fit (by omega) (by omega)

theorem spec_size (n : Int) : FunOK Try.prog 12 [i64 n] noHeap (i64 (W (9 + n))) noHeap := by
  refine funOK_pure mixed Try.func12 (by decide) ?_
  conv => whnf
  refine hwrap_raw ?_; conv => whnf

theorem spec_get (b : List UInt8) (i : Nat) (h : i + 1 < b.length) (hb : b.length < 2 ^ 40) : FunOK Try.prog 35 [byts b, i64 i] noHeap (i64 (at16 b i)) noHeap := by
  refine funOK_pure mixed Try.func35 (by decide) ?_
  have e1 : W ((i : Int) + 1) = ((i + 1 : Nat) : Int) := by rw [W_fit (by omega) (by omega)]; push_cast; rfl
  conv => whnf
  refine hrow_intro (r := bRow (b[i]?.getD 0)) (by omega) (by rw [Int.toNat_natCast]; exact bget (by omega)) ?_
  conv => whnf
  refine hwrap_fit (u8_fit _) ?_; conv => whnf
  refine hobl_intro (by decide) ?_; conv => whnf
  refine hwrap_fit (W_fit (z := ((b[i]?.getD 0).toNat : Int) * 256) (by have := (b[i]?.getD 0).toNat_lt; omega) (by have := (b[i]?.getD 0).toNat_lt; omega)) ?_; conv => whnf
  refine hwrap_fit e1 ?_; conv => whnf
  refine hrow_b (i + 1) (by push_cast; rfl) h ?_
  conv => whnf
  refine hwrap_fit (u8_fit _) ?_; conv => whnf
  refine hdraw_intro ?_ ?_
  · kernel_rfl
  conv => whnf
  show i64 (bits .or .i64 (((b[i]?.getD 0).toNat : Int) * 256) ((b[i + 1]?.getD 0).toNat : Int)) = i64 (at16 b i)
  rw [or_bytes _ _ (b[i]?.getD 0).toNat_lt (b[i + 1]?.getD 0).toNat_lt]
  rfl

theorem spec_body (kind : Int) (b : List UInt8) (hb : b.length < 2 ^ 40) : FunOK Try.prog 31 [i64 kind, byts b] noHeap (.tup [(bodyOf kind b).1.hv, hbool (bodyOf kind b).2]) noHeap := by
  refine funOK_pure mixed Try.func31 (by decide) ?_
  have hl : (b.map bRow).length = b.length := by simp
  conv => whnf
  refine hif_intro (fun c1 => ?_) (fun c1 => ?_)
  · have c1 : (b.length : Int) < 2 := by simpa using c1
    rw [bodyOf, if_pos (by omega)]
    conv => whnf
    rfl
  have c1 : ¬ (b.length : Int) < 2 := by simpa using c1
  rw [bodyOf, if_neg (by omega)]
  conv => whnf
  refine hcall_lend ?_; conv => whnf
  refine ⟨_, spec_get b 0 (by omega) hb, rfl, ?_⟩; conv => whnf
  refine hcut.go ?_; conv => whnf
  refine hif_intro (fun k1 => ?_) (fun k1 => ?_)
  · have k1 : kind = 1 := by simpa using k1
    rw [if_pos k1]
    conv => whnf
    refine hif_intro (fun c2 => ?_) (fun c2 => ?_)
    · have c2 : (b.length : Int) < 7 := by simpa using c2
      rw [if_pos (.inl (by omega))]
      conv => whnf
      rfl
    have c2 : ¬ (b.length : Int) < 7 := by simpa using c2
    conv => whnf
    refine hrow_intro (r := bRow (b[3]?.getD 0)) (by omega) (bget (by omega)) ?_
    conv => whnf
    refine hif_intro (fun c3 => ?_) (fun c3 => ?_)
    · have c3 : ((b[3]?.getD 0).toNat : Int) > 3 := of_decide_eq_true c3
      rw [if_pos (.inr (by omega))]
      conv => whnf
      rfl
    have c3 : ¬ ((b[3]?.getD 0).toNat : Int) > 3 := of_decide_eq_false c3
    rw [if_neg (by omega)]
    conv => whnf
    refine hrow_intro (r := bRow (b[2]?.getD 0)) (by omega) (bget (by omega)) ?_
    conv => whnf
    refine hwrap_fit (u8_fit _) ?_; conv => whnf
    refine hrow_intro (r := bRow (b[3]?.getD 0)) (by omega) (bget (by omega)) ?_
    conv => whnf
    refine hrow_intro (r := bRow (b[3]?.getD 0)) (by omega) (bget (by omega)) ?_
    conv => whnf
    refine hdraw_intro ?_ ?_
    · kernel_rfl
    conv => whnf
    refine hcall_lend ?_; conv => whnf
    refine ⟨_, spec_get b 4 (by omega) hb, rfl, ?_⟩; conv => whnf
    refine hrow_intro (r := bRow (b[6]?.getD 0)) (by omega) (bget (by omega)) ?_
    conv => whnf
    refine hwrap_fit (u8_fit _) ?_; conv => whnf
    refine hobl_intro (by omega) ?_; conv => whnf
    refine hsub_from (l := b) (by simp; omega) ?_
    conv => whnf
    refine hobl_intro (c := ((b.drop 7).map bRow).length * 1 ≤ 140737488355328) (by simp; omega) ?_; conv => whnf
    refine hdraw_intro ?_ ?_
    · kernel_rfl
    conv => whnf
    have e1 := and_one (b[3]?.getD 0)
    have e2 := and_two (b[3]?.getD 0) (by omega)
    have key : ∀ (n m : Int) (k : Nat), n = k → (n != 0) = (k != 0) := by
      intro n m k h; subst h
      cases k <;> rfl
    rw [key _ 0 _ e1, key _ 0 _ e2]
    rfl
  have k1 : ¬ kind = 1 := by simpa using k1
  rw [if_neg k1]
  conv => whnf
  refine hif_intro (fun k2 => ?_) (fun k2 => ?_)
  · have k2 : kind = 2 := by simpa using k2
    rw [if_pos k2]
    conv => whnf
    refine hif_intro (fun c2 => ?_) (fun c2 => ?_)
    · have c2 : (b.length : Int) < 4 := by simpa using c2
      rw [if_pos (.inl (by omega))]
      conv => whnf
      rfl
    have c2 : ¬ (b.length : Int) < 4 := by simpa using c2
    conv => whnf
    refine hobl_intro (by decide) ?_; conv => whnf
    refine hif_intro (fun c3 => ?_) (fun c3 => ?_)
    · have c3 : ¬ ((b.length : Int).tmod 4 = 0) := by simpa using c3
      rw [if_pos (.inr (by rw [Int.tmod_eq_emod_of_nonneg (by omega)] at c3; omega))]
      conv => whnf
      rfl
    have c3 : (b.length : Int).tmod 4 = 0 := by simpa using c3
    have c4 : b.length % 4 = 0 := by rw [Int.tmod_eq_emod_of_nonneg (by omega)] at c3; omega
    rw [if_neg (by omega)]
    conv => whnf
    refine hcall_lend ?_; conv => whnf
    refine ⟨_, spec_get b 2 (by omega) hb, rfl, ?_⟩; conv => whnf
    refine ⟨{ k : Nat // 4 + 4 * k ≤ b.length }, fun | ⟨k, _⟩ => hs 134 [(1, byts b), (4, .ptr 4 0), (6, .ptr 6 0), (7, i64 (4 + 4 * k : Nat))] [(4, .live (.cells 26 Chunk0)), (6, .live (.cells 26 [i64 kind, i64 (at16 b 0), i64 0, i64 0, i64 0, hbool false, hbool false, hnil, .own 900, i64 (at16 b 2), hnil])), (900, .live (.row 48 2 (((spansOf (b.drop 4)).take k).map Span.row)))], fun x => b.length - 4 * x.1, ⟨0, by omega⟩, ?_, ?_⟩
    · exact hle_hs [(4, some 4), (6, some 6), (900, none)] rfl rfl rfl rfl ⟨⟨rfl, rfl⟩, ⟨rfl, rfl⟩, ⟨rfl, rfl⟩, ⟨rfl, rfl⟩, trivial⟩ ⟨⟨rfl, .inl ⟨4, rfl, rfl⟩⟩, ⟨rfl, .inl ⟨6, rfl, rfl⟩⟩, ⟨rfl, .inr ⟨rfl, rfl⟩⟩, trivial⟩
    rintro ⟨k, hk⟩
    conv => whnf
    refine hif_intro (fun c => ?_) (fun c => ?_)
    · have hlt : 4 + 4 * k < b.length := by
        have := of_decide_eq_true c; rw [List.length_map] at this; omega
      conv => whnf
      refine hcall_lend ?_; conv => whnf
      refine ⟨_, spec_get b (4 + 4 * k) (by omega) hb, rfl, ?_⟩; conv => whnf
      refine hwrap_fit (z := ((4 + 4 * k : Nat) : Int) + 2) (W_fit (by omega) (by omega)) ?_; conv => whnf
      refine hcall_lend ?_; conv => whnf
      refine ⟨_, spec_get b (4 + 4 * k + 2) (by omega) hb, rfl, ?_⟩; conv => whnf
      refine hobl_intro (c := (((((spansOf (b.drop 4)).take k).map Span.row).length) + 1) * 16 ≤ 140737488355328) (by simp; omega) ?_; conv => whnf
      refine hdraw_intro ?_ ?_
      · kernel_rfl
      conv => whnf
      refine hwrap_fit (z := ((4 + 4 * k : Nat) : Int) + 4) (W_fit (by omega) (by omega)) ?_; conv => whnf
      have ht := spansOf_take (l := b.drop 4) (k := k) (by simp; omega)
      refine ⟨⟨k + 1, by omega⟩, hle_hs [(4, some 4), (6, some 6), (900, some 131)] rfl rfl rfl rfl ⟨⟨rfl, rfl⟩, ⟨rfl, rfl⟩, ⟨rfl, rfl⟩, ⟨rfl, rfl⟩, trivial⟩ ⟨⟨rfl, .inl ⟨4, rfl, rfl⟩⟩, ⟨rfl, .inl ⟨6, rfl, rfl⟩⟩, ⟨rfl, .inl ⟨131, rfl, ?_⟩⟩, trivial⟩, by dsimp only; omega⟩
      show HSlot.live (.row _ 2 (((spansOf (b.drop 4)).take k).map Span.row ++ [Span.row ⟨at16 b (4 + 4 * k), at16 b (4 + 4 * k + 2)⟩])) = HSlot.live (.row _ 2 (((spansOf (b.drop 4)).take (k + 1)).map Span.row))
      rw [ht, List.map_append, at16_drop, at16_drop]
      rfl
    · have hge : ¬ 4 + 4 * k < b.length := by
        have := of_decide_eq_false c; rw [List.length_map] at this; omega
      conv => whnf
      rw [List.take_of_length_le (by rw [spansOf_len]; simp; omega)]
      rfl
  have k2 : ¬ kind = 2 := by simpa using k2
  rw [if_neg k2]
  conv => whnf
  refine hobl_intro (by decide) ?_; conv => whnf
  refine hif_intro (fun c3 => ?_) (fun c3 => ?_)
  · have c3 : ¬ ((b.length : Int).tmod 4 = 2) := by simpa using c3
    rw [if_pos (by rw [Int.tmod_eq_emod_of_nonneg (by omega)] at c3; omega)]
    conv => whnf
    rfl
  have c3 : (b.length : Int).tmod 4 = 2 := by simpa using c3
  have c4 : b.length % 4 = 2 := by rw [Int.tmod_eq_emod_of_nonneg (by omega)] at c3; omega
  rw [if_neg (by omega)]
  conv => whnf
  refine ⟨{ x : Nat × List Skip // 2 + 4 * x.1 ≤ b.length ∧ x.2.length = x.1 ∧ skipsRun (b.drop 2) = (x.2 ++ (skipsRun (b.drop (2 + 4 * x.1))).1, (skipsRun (b.drop (2 + 4 * x.1))).2) }, fun | ⟨(k, acc), _⟩ => hs 134 [(1, byts b), (4, .ptr 4 0), (6, .ptr 6 0), (8, i64 (2 + 4 * k : Nat))] [(4, .live (.cells 26 Chunk0)), (6, .live (.cells 26 [i64 kind, i64 (at16 b 0), i64 0, i64 0, i64 0, hbool false, hbool false, hnil, hnil, i64 0, .own 900])), (900, .live (.row 50 3 (acc.map Skip.row)))], fun x => b.length - 4 * x.1.1, ⟨(0, []), by dsimp only; omega, rfl, by simp⟩, ?_, ?_⟩
  · exact hle_hs [(4, some 4), (6, some 6), (900, none)] rfl rfl rfl rfl ⟨⟨rfl, rfl⟩, ⟨rfl, rfl⟩, ⟨rfl, rfl⟩, ⟨rfl, rfl⟩, trivial⟩ ⟨⟨rfl, .inl ⟨4, rfl, rfl⟩⟩, ⟨rfl, .inl ⟨6, rfl, rfl⟩⟩, ⟨rfl, .inr ⟨rfl, rfl⟩⟩, trivial⟩
  rintro ⟨⟨k, acc⟩, hk, hlen, hrun⟩
  dsimp only at hk hlen hrun
  conv => whnf
  refine hif_intro (fun c => ?_) (fun c => ?_)
  · have hlt : 2 + 4 * k < b.length := by
      have := of_decide_eq_true c; rw [List.length_map] at this; omega
    rw [skipsRun4 (j := 2 + 4 * k) (by omega)] at hrun
    conv => whnf
    refine hwrap_fit (z := ((2 + 4 * k : Nat) : Int) + 1) (W_fit (by omega) (by omega)) ?_; conv => whnf
    refine hrow_b (2 + 4 * k + 1) (by push_cast; rfl) (by omega) ?_
    conv => whnf
    refine hif_intro (fun c5 => ?_) (fun c5 => ?_)
    · have c5 := of_decide_eq_true c5
      rw [if_pos (by omega)] at hrun
      conv => whnf
      rw [hrun, List.append_nil]
      rfl
    have c5 := of_decide_eq_false c5
    rw [if_neg (by omega)] at hrun
    conv => whnf
    refine hrow_b (2 + 4 * k) rfl (by omega) ?_
    conv => whnf
    refine hwrap_fit (u8_fit _) ?_; conv => whnf
    refine hwrap_fit (z := ((2 + 4 * k : Nat) : Int) + 1) (W_fit (by omega) (by omega)) ?_; conv => whnf
    refine hrow_b (2 + 4 * k + 1) (by push_cast; rfl) (by omega) ?_
    conv => whnf
    refine hwrap_fit (z := ((2 + 4 * k : Nat) : Int) + 2) (W_fit (by omega) (by omega)) ?_; conv => whnf
    refine hcall_lend ?_; conv => whnf
    refine ⟨_, spec_get b (2 + 4 * k + 2) (by omega) hb, rfl, ?_⟩; conv => whnf
    refine hobl_intro (c := ((acc.map Skip.row).length + 1) * 24 ≤ 140737488355328) (by simp; omega) ?_; conv => whnf
    refine hdraw_intro ?_ ?_
    · kernel_rfl
    conv => whnf
    refine hwrap_fit (z := ((2 + 4 * k : Nat) : Int) + 4) (W_fit (by omega) (by omega)) ?_; conv => whnf
    refine ⟨⟨(k + 1, acc ++ [⟨(b[2 + 4 * k]?.getD 0).toNat, at16 b (2 + 4 * k + 2), (b[2 + 4 * k + 1]?.getD 0).toNat == 1⟩]), by dsimp only; omega, by simp [hlen], by
      dsimp only
      rw [hrun, show 2 + 4 * k + 4 = 2 + 4 * (k + 1) by omega]
      simp⟩, hle_hs [(4, some 4), (6, some 6), (900, some 56)] rfl rfl rfl rfl ⟨⟨rfl, rfl⟩, ⟨rfl, rfl⟩, ⟨rfl, rfl⟩, ⟨rfl, rfl⟩, trivial⟩ ⟨⟨rfl, .inl ⟨4, rfl, rfl⟩⟩, ⟨rfl, .inl ⟨6, rfl, rfl⟩⟩, ⟨rfl, .inl ⟨56, rfl, ?_⟩⟩, trivial⟩, by dsimp only; omega⟩
    have hbeq : ∀ n : Nat, ((n : Int) == 1) = (n == 1) := by
      intro n
      rcases Nat.decEq n 1 with h | h
      · rw [show ((n : Int) == 1) = false from by simpa using (by omega : ¬ (n : Int) = 1), show (n == 1) = false from by simpa using h]
      · subst h; rfl
    show HSlot.live (.row _ 3 (acc.map Skip.row ++ [[pi (b[2 + 4 * k]?.getD 0).toNat, pi (at16 b (2 + 4 * k + 2)), pb (((b[2 + 4 * k + 1]?.getD 0).toNat : Int) == 1)]])) = _
    rw [hbeq, List.map_append]
    rfl
  · have hge : ¬ 2 + 4 * k < b.length := by
      have := of_decide_eq_false c; rw [List.length_map] at this; omega
    rw [List.drop_eq_nil_of_le (show b.length ≤ 2 + 4 * k by omega)] at hrun
    simp only [skipsRun, List.append_nil] at hrun
    conv => whnf
    rw [hrun]
    rfl
end Chk
end Go.HL
