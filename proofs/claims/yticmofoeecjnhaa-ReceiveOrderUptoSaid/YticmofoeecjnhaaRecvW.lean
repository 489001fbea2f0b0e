/- The law ReceiveOrder. -/
import Derived.Test.YticmofoeecjnhaaRecvU
import Derived.Test.YticmofoeecjnhaaRecvB
namespace Go.HL
open Go.Proofs
namespace Rcv
open Srt Jn Ser
set_option maxHeartbeats 4000000
set_option maxRecDepth 100000
set_option linter.unusedSimpArgs false
def bs (s : ByteArray) : List UInt8 := s.data.toList
theorem bs_len (s : ByteArray) : (bs s).length = s.size := rfl
theorem bs_cut (s : ByteArray) (i j : Nat) : (s.extract i j).data.toList = ((bs s).drop i).take (j - i) := by simp [bs]
theorem bs_eq (s : ByteArray) : (⟨(bs s).toArray⟩ : ByteArray) = s := by cases s; simp [bs]
abbrev strs (ms : List ByteArray) : HV := .p (.sl 1 (ms.map fun s => [.v (.string s)]))
abbrev rowC (l : List Chunk) : HSlot := .live (.row 29 11 (l.map Chunk.row))
abbrev cfgB : HSlot := .live (.cells 23 [i64 2, i64 4, i64 60, i64 1, i64 1, i64 5, i64 7])
def Okm (m : List UInt8) : Prop := 1 ≤ m.length ∧ m.length ≤ 30
theorem chs_few {part : Nat} (hp : 1 ≤ part) : ∀ (l : List (List UInt8)) (k t : Nat), (∀ m ∈ l, Okm m) → (chs part k t l).length ≤ 30 * l.length
  | [], _, _, _ => Nat.zero_le _
  | m :: l, k, t, h => by
    have h1 := chk_len (k := k) hp m.length t 0 m
    have h2 := chs_few hp l (k + 1) (t + (chk k part m.length t 0 m).length) fun x hx => h x (by simp [hx])
    have h3 := (h m (by simp)).2
    rw [chs, List.length_append, List.length_cons]; omega
/-- a message is being cut: its parts so far, and what is left -/
structure Cut (m : List UInt8) (part k : Nat) (acc acc' : List Chunk) (d rest : List UInt8) (p n : Nat) : Prop where
  whole : m = d ++ rest
  goes : acc' ++ chk k part n (7 + acc'.length) p rest = acc ++ chk k part m.length (7 + acc.length) 0 m
  few : acc'.length + rest.length ≤ acc.length + m.length
  fuel : rest.length ≤ n
  pp : p ≤ d.length
theorem Cut.next {m : List UInt8} {part k : Nat} {acc acc' : List Chunk} {d rest : List UInt8} {p n : Nat} (h : Cut m part k acc acc' d rest p n) (hp : 1 ≤ part) (hr : rest ≠ []) :
    Cut m part k acc (acc' ++ [⟨1, (7 + acc'.length : Nat), (k % 2 : Nat), (k / 2 : Nat), p, decide (rest.length ≤ part), true, rest.take part, [], 0, []⟩]) (d ++ rest.take part) (rest.drop part) (p + 1) (n - 1) := by
  obtain ⟨h1, h2, h3, h4, h5⟩ := h
  have hl := List.length_pos_iff.2 hr
  obtain ⟨n', rfl⟩ : ∃ n', n = n' + 1 := ⟨n - 1, by omega⟩
  rw [chk, if_neg hr] at h2
  refine ⟨by rw [List.append_assoc, List.take_append_drop]; exact h1, ?_, ?_, ?_, ?_⟩
  · rw [List.length_append, List.length_singleton, List.append_assoc]; exact h2
  · simp only [List.length_append, List.length_singleton, List.length_drop]; omega
  · simp only [List.length_drop]; omega
  · simp only [List.length_append, List.length_take]; omega
theorem lit8 : (Config.mk 2 4 60 1 1 5 7) = cfg8 := rfl
theorem new_r0 : newR cfg8 = r0 := new8
theorem fold_fit2 : ∀ (l : List Chunk) {N : Nat} {r : Receiver}, RFit N r → N + wts l ≤ 2 ^ 21 → RFit (N + wts l) (l.foldl data r)
  | [], N, r, h, _ => h
  | c :: l, N, r, h, hN => by
    rw [wts_cons] at hN ⊢
    have hw : wt c = c.data.length + c.skips.length + 1 := rfl
    have h1 := (data_fit h (by omega) c).more (M := N + wt c) (by omega)
    have h2 := fold_fit2 l h1 (by omega)
    rw [← Nat.add_assoc]; exact h2
theorem arr2 {t : TypeId} {a b c d : Int} (h1 : a = c) (h2 : b = d) : HSlot.live (.cells t [i64 a, i64 b]) = HSlot.live (.cells t [i64 c, i64 d]) := by rw [h1, h2]
theorem swap_rows {X : List Chunk} {i j : Nat} (hi : i < X.length) (hj : j < X.length) : ((X.map Chunk.row).set i (X[j]).row).set j (X[i]).row = ((X.set i X[j]).set j X[i]).map Chunk.row := by
  rw [List.map_set, List.map_set]
theorem cut_row {q A at_ p T : Nat} {m : ByteArray} {rest : List UInt8} (hw : (bs m).length = at_ + rest.length) (hrest : rest = (bs m).drop at_) (hl : 0 < rest.length) :
    Chunk.row ⟨1, (T : Nat), (A % 2 : Nat), (A / 2 : Nat), (p : Nat), decide (rest.length ≤ q), true, rest.take q, [], 0, []⟩ = [pi 1, pi (T : Nat), pi ((A : Int).tmod 2), pi (A / 2 : Nat), pi (p : Nat), pb ((if (m.size : Int) < (at_ : Nat) + (q : Nat) then (m.size : Int) else (at_ : Nat) + (q : Nat)) == (m.size : Int)), pb true,
      .sl 1 ((m.extract ((at_ : Nat) : Int).toNat (if (m.size : Int) < (at_ : Nat) + (q : Nat) then (m.size : Int) else (at_ : Nat) + (q : Nat)).toNat).data.toList.map bRow), .sl 2 [], pi 0, .sl 3 []] := by
  have hs := bs_len m
  have e1 : (A : Int).tmod 2 = ((A % 2 : Nat) : Int) := by rw [Int.tmod_eq_emod_of_nonneg (by omega)]; omega
  have e2 : ((if (m.size : Int) < (at_ : Nat) + (q : Nat) then (m.size : Int) else (at_ : Nat) + (q : Nat)) == (m.size : Int)) = decide (rest.length ≤ q) := by
    rw [Bool.eq_iff_iff, beq_iff_eq, decide_eq_true_eq]
    split <;> omega
  have e3 : (m.extract ((at_ : Nat) : Int).toNat (if (m.size : Int) < (at_ : Nat) + (q : Nat) then (m.size : Int) else (at_ : Nat) + (q : Nat)).toNat).data.toList = rest.take q := by
    rw [bs_cut, Int.toNat_natCast, ← hrest]
    split
    · rw [List.take_of_length_le (by omega), List.take_of_length_le (by omega)]
    · congr 1; omega
  rw [e1, e2, e3]; rfl
def orSt (ms : List ByteArray) (part : Int) (order : List Int) (A : List ByteArray) (acc : List Chunk) : HS :=
  hs 205 [(0, strs ms), (1, i64 part), (2, ints order), (7, .ptr 7 0), (8, .own 900), (36, strs ms), (37, i64 ms.length), (38, i64 A.length)] [(7, cfgB), (900, rowC acc)]
def inSt (ms : List ByteArray) (part : Int) (order : List Int) (k : Nat) (m : ByteArray) (acc : List Chunk) (at_ p : Nat) : HS :=
  hs 205 [(0, strs ms), (1, i64 part), (2, ints order), (7, .ptr 7 0), (8, .own 901), (9, i64 k), (10, .p (.v (.string m))), (11, i64 at_), (12, i64 p), (36, strs ms), (37, i64 ms.length), (38, i64 k)] [(7, cfgB), (901, rowC acc)]
def swSt (ms : List ByteArray) (order A : List Int) (X : List Chunk) : HS :=
  hs 205 [(0, strs ms), (7, .ptr 7 0), (8, .own 902), (89, ints order), (90, i64 order.length), (91, i64 A.length)] [(7, cfgB), (902, rowC X)]
def daSt (ms : List ByteArray) (X A : List Chunk) (r : Receiver) : HS :=
  hs 205 [(0, strs ms), (7, .ptr 7 0), (8, .own 903), (16, .ptr 16 0), (127, .own 903), (128, i64 X.length), (129, i64 A.length)] [(7, cfgB), (16, rcvL r), (903, rowC X)]
def loSt (ms : List ByteArray) (r : Receiver) (A : List Arrival) : HS :=
  hs 205 [(0, strs ms), (16, .ptr 16 0), (19, .ptr 19 0), (162, arrs r.log), (163, i64 r.log.length), (164, i64 A.length)] [(16, rcvL r), (19, .live (.cells 53 [i64 (2 * cnt 0 A : Nat), i64 (2 * cnt 1 A + 1 : Nat)]))]
theorem orderlaw (ms : List ByteArray) (part : Int) (order : List Int) (hms : ∀ s ∈ ms, s.size ≤ maxLen) (ho : order.length < 2 ^ 40) : FunOK Try.prog 5 [strs ms, i64 part, ints order] noHeap (hbool true) noHeap := by
  refine funOK_pure mixed Try.func5 (by decide) ?_
  conv => whnf
  ((refine hcall_lend ?_; (conv => whnf); refine ⟨_, spec_alive8, rfl, ?_⟩; conv => whnf); try (refine hcut.go ?_; conv => whnf))
  refine hif_intro (fun c1 => ?_) (fun c1 => ?_)
  · conv => whnf
    repeat (refine hcut.go ?_; conv => whnf)
    try rfl
  conv => whnf
  refine hif_intro (fun c2 => ?_) (fun c2 => ?_)
  · conv => whnf
    repeat (refine hcut.go ?_; conv => whnf)
    try rfl
  conv => whnf
  refine hif_intro (fun c3 => ?_) (fun c3 => ?_)
  · conv => whnf
    repeat (refine hcut.go ?_; conv => whnf)
    try rfl
  conv => whnf
  repeat (refine hcut.go ?_; conv => whnf)
  have c1 : 1 ≤ part := by simpa using c1
  have c2 : part ≤ 16 := by simpa using c2
  have c3 : ms.length ≤ 8 := by simp at c3; omega
  obtain ⟨q, rfl⟩ : ∃ q : Nat, part = q := ⟨part.toNat, by omega⟩
  ((refine hcall_pure ?_; (conv => whnf); refine ⟨_, spec_config, rfl, ?_⟩; conv => whnf); try (refine hcut.go ?_; conv => whnf))
  refine ⟨{ x : (List ByteArray × List ByteArray) × List Chunk // ms = x.1.1 ++ x.1.2 ∧ (∀ m ∈ x.1.1, Okm (bs m)) ∧ x.2 = chs q 0 7 (x.1.1.map bs) }, fun x => orSt ms q order x.1.1.1 x.1.2, fun x => x.1.1.2.length, ⟨(([], ms), []), rfl, by simp, rfl⟩, ?_, ?_⟩
  · exact (hle_hs [(7, some 7), (900, none)] rfl rfl rfl rfl (by repeat' (first | exact trivial | exact rfl | (refine ⟨⟨rfl, ?_⟩, ?_⟩) | (refine ⟨rfl, ?_⟩) | (simp; done) | (simp; rfl))) (by repeat' (first | exact trivial | exact rfl | exact .inl rfl | exact .inr rfl | (refine ⟨⟨rfl, .inl ⟨_, rfl, ?_⟩⟩, ?_⟩) | (refine ⟨⟨rfl, _, rfl, ?_⟩, ?_⟩) | (refine ⟨⟨rfl, .inr ⟨rfl, ?_⟩⟩, ?_⟩) | (refine ⟨rfl, ?_⟩) | (simp; done) | (simp; rfl))))
  rintro ⟨⟨⟨A, B⟩, acc⟩, k1, k2, k3⟩
  dsimp only at k1 k2 k3
  refine hwp_gen fun Q hQ => ?_
  have hfew := chs_few (by omega : 1 ≤ q) (A.map bs) 0 7 (fun m hm => by obtain ⟨x, hx, rfl⟩ := List.mem_map.1 hm; exact k2 x hx)
  rw [← k3, List.length_map] at hfew
  cases B with
  | cons m B =>
    have hz := zip_cons k1
    have hmx := hms m (zip_mem k1)
    conv => whnf
    ((refine hif_true ?_ ?_; (· (first | rfl | assumption | omega | (simp only [gt_iff_lt, ge_iff_le, decide_eq_true_eq, decide_eq_false_iff_not, beq_iff_eq, bne_iff_ne, ne_eq, beq_eq_false_iff_ne, bne_eq_false_iff_eq, List.length_map, List.length_append, List.length_cons, List.length_nil, List.length_take, List.length_drop, Bool.not_eq_true', Bool.not_eq_false', Bool.not_eq_true, Bool.not_eq_false, Decidable.not_not, Nat.cast_ofNat, Int.natCast_add] <;> omega) | (simp <;> omega))); conv => whnf); try (refine hcut.go ?_; conv => whnf))
    refine hrow_mid k1 rfl ?_; conv => whnf
    refine hif_intro (fun c4 => ?_) (fun c4 => ?_)
    · conv => whnf
      repeat (refine hcut.go ?_; conv => whnf)
      refine hQ _ _ ?_; conv => whnf
      try rfl
    conv => whnf
    refine hif_intro (fun c5 => ?_) (fun c5 => ?_)
    · conv => whnf
      repeat (refine hcut.go ?_; conv => whnf)
      refine hQ _ _ ?_; conv => whnf
      try rfl
    conv => whnf
    repeat (refine hcut.go ?_; conv => whnf)
    have c4 : 1 ≤ m.size := by simp at c4; omega
    have c5 : m.size ≤ 30 := by simp at c5; omega
    have hbl := bs_len m
    refine ⟨{ x : (List Chunk × List UInt8 × List UInt8) × Nat × Nat // Cut (bs m) q A.length acc x.1.1 x.1.2.1 x.1.2.2 x.2.1 x.2.2 }, fun x => inSt ms q order A.length m x.1.1.1 x.1.1.2.1.length x.1.2.1, fun x => x.1.1.2.2.length, ⟨((acc, [], bs m), 0, (bs m).length), rfl, rfl, Nat.le_refl _, Nat.le_refl _, Nat.le_refl _⟩, ?_, ?_⟩
    · exact (hle_hs [(7, some 7), (901, some 900)] rfl rfl rfl rfl (by repeat' (first | exact trivial | exact rfl | (refine ⟨⟨rfl, ?_⟩, ?_⟩) | (refine ⟨rfl, ?_⟩) | (simp; done) | (simp; rfl))) (by repeat' (first | exact trivial | exact rfl | exact .inl rfl | exact .inr rfl | (refine ⟨⟨rfl, .inl ⟨_, rfl, ?_⟩⟩, ?_⟩) | (refine ⟨⟨rfl, _, rfl, ?_⟩, ?_⟩) | (refine ⟨⟨rfl, .inr ⟨rfl, ?_⟩⟩, ?_⟩) | (refine ⟨rfl, ?_⟩) | (simp; done) | (simp; rfl))))
    rintro ⟨⟨⟨acc', d, rest⟩, p, n⟩, hc⟩
    dsimp only at hc
    refine hwp_gen fun Q2 hQ2 => ?_
    have hw := congrArg List.length hc.whole
    rw [List.length_append] at hw
    have hfe := hc.few
    have hpp := hc.pp
    by_cases hr : rest = []
    · subst hr
      have hg := hc.goes
      rw [chk_nil, List.append_nil] at hg
      rw [List.length_nil] at hw
      conv => whnf
      ((refine hif_false ?_ ?_; (· (first | rfl | assumption | omega | (simp only [gt_iff_lt, ge_iff_le, decide_eq_true_eq, decide_eq_false_iff_not, beq_iff_eq, bne_iff_ne, ne_eq, beq_eq_false_iff_ne, bne_eq_false_iff_eq, List.length_map, List.length_append, List.length_cons, List.length_nil, List.length_take, List.length_drop, Bool.not_eq_true', Bool.not_eq_false', Bool.not_eq_true, Bool.not_eq_false, Decidable.not_not, Nat.cast_ofNat, Int.natCast_add] <;> omega) | (simp <;> omega))); conv => whnf); try (refine hcut.go ?_; conv => whnf))
      refine hQ2 _ _ ?_; conv => whnf
      ((refine hwrap_fit (W_fit ?_ ?_) ?_; (· (first | omega | (simp only [List.length_map, List.length_append, List.length_take, List.length_drop, List.length_cons, List.length_nil] <;> omega) | (simp <;> omega))); (· (first | omega | (simp only [List.length_map, List.length_append, List.length_take, List.length_drop, List.length_cons, List.length_nil] <;> omega) | (simp <;> omega))); conv => whnf); try (refine hcut.go ?_; conv => whnf))
      refine hQ _ _ ?_; conv => whnf
      refine ⟨⟨((A ++ [m], B), acc'), zip_next k1, ?_, ?_⟩, (hle_hs [(7, some 7), (900, some 901)] rfl rfl rfl rfl (by repeat' (first | exact trivial | exact rfl | (refine ⟨⟨rfl, ?_⟩, ?_⟩) | (refine ⟨rfl, ?_⟩) | (simp; done) | (simp; rfl))) (by repeat' (first | exact trivial | exact rfl | exact .inl rfl | exact .inr rfl | (refine ⟨⟨rfl, .inl ⟨_, rfl, ?_⟩⟩, ?_⟩) | (refine ⟨⟨rfl, _, rfl, ?_⟩, ?_⟩) | (refine ⟨⟨rfl, .inr ⟨rfl, ?_⟩⟩, ?_⟩) | (refine ⟨rfl, ?_⟩) | (simp; done) | (simp; rfl)))), by simp⟩
      · intro x hx
        rcases List.mem_append.1 hx with hx | hx
        · exact k2 x hx
        · rw [List.mem_singleton] at hx; subst hx; exact ⟨by omega, by omega⟩
      · rw [List.map_append, List.map_cons, List.map_nil, chs_snoc, Nat.zero_add, List.length_map, ← k3]; exact hg
    · have hl := List.length_pos_iff.2 hr
      have hn := hc.next (by omega) hr
      have hrest : rest = (bs m).drop d.length := by rw [hc.whole]; simp
      conv => whnf
      ((refine hif_true ?_ ?_; (· (first | rfl | assumption | omega | (simp only [gt_iff_lt, ge_iff_le, decide_eq_true_eq, decide_eq_false_iff_not, beq_iff_eq, bne_iff_ne, ne_eq, beq_eq_false_iff_ne, bne_eq_false_iff_eq, List.length_map, List.length_append, List.length_cons, List.length_nil, List.length_take, List.length_drop, Bool.not_eq_true', Bool.not_eq_false', Bool.not_eq_true, Bool.not_eq_false, Decidable.not_not, Nat.cast_ofNat, Int.natCast_add] <;> omega) | (simp <;> omega))); conv => whnf); try (refine hcut.go ?_; conv => whnf))
      ((refine hwrap_fit (W_fit ?_ ?_) ?_; (· (first | omega | (simp only [List.length_map, List.length_append, List.length_take, List.length_drop, List.length_cons, List.length_nil] <;> omega) | (simp <;> omega))); (· (first | omega | (simp only [List.length_map, List.length_append, List.length_take, List.length_drop, List.length_cons, List.length_nil] <;> omega) | (simp <;> omega))); conv => whnf); try (refine hcut.go ?_; conv => whnf))
      have htag : Ser.tag (7 + ((acc'.map Chunk.row).length : Int)) = ((7 + acc'.length : Nat) : Int) := by unfold Ser.tag; rw [List.length_map]; omega
      have pt := spec_rtag (7 + ((acc'.map Chunk.row).length : Int))
      rw [htag] at pt
      ((refine hwrap_fit (W_fit ?_ ?_) ?_; (· (first | omega | (simp only [List.length_map, List.length_append, List.length_take, List.length_drop, List.length_cons, List.length_nil] <;> omega) | (simp <;> omega))); (· (first | omega | (simp only [List.length_map, List.length_append, List.length_take, List.length_drop, List.length_cons, List.length_nil] <;> omega) | (simp <;> omega))); conv => whnf); try (refine hcut.go ?_; conv => whnf))
      ((refine hcall_lend ?_; (conv => whnf); refine ⟨_, pt, rfl, ?_⟩; conv => whnf); try (refine hcut.go ?_; conv => whnf))
      ((refine hobl_intro ?_ ?_; (· (first | omega | (simp only [List.length_map, List.length_append, List.length_take, List.length_drop, List.length_cons, List.length_nil] <;> omega) | (simp <;> omega))); conv => whnf); try (refine hcut.go ?_; conv => whnf))
      ((refine hobl_intro ?_ ?_; (· (first | omega | (simp only [List.length_map, List.length_append, List.length_take, List.length_drop, List.length_cons, List.length_nil] <;> omega) | (simp <;> omega))); conv => whnf); try (refine hcut.go ?_; conv => whnf))
      refine hwrap_to (z' := ((A.length / 2 : Nat) : Int)) ?_ ?_
      · show W ((A.length : Int).tdiv 2) = _
        rw [Int.tdiv_eq_ediv_of_nonneg (by omega), W_fit (by omega) (by omega)]; omega
      conv => whnf
      refine hobl_intro (by dsimp only; split <;> omega) ?_; conv => whnf
      refine hobl_intro (by simp [maxLen]; omega) ?_; conv => whnf
      refine hobl_intro (c := ((acc'.map Chunk.row).length + 1) * 128 ≤ 140737488355328) (by rw [List.length_map]; omega) ?_; conv => whnf
      ((refine hdraw_intro ?_ ?_; (· kernel_rfl); conv => whnf); try (refine hcut.go ?_; conv => whnf))
      ((refine hwrap_fit (W_fit ?_ ?_) ?_; (· (first | omega | (simp only [List.length_map, List.length_append, List.length_take, List.length_drop, List.length_cons, List.length_nil] <;> omega) | (simp <;> omega))); (· (first | omega | (simp only [List.length_map, List.length_append, List.length_take, List.length_drop, List.length_cons, List.length_nil] <;> omega) | (simp <;> omega))); conv => whnf); try (refine hcut.go ?_; conv => whnf))
      refine hQ2 _ _ ?_; conv => whnf
      refine ⟨⟨((_, _, _), _, _), hn⟩, (hle_hs [(7, some 7), (901, some 86)] rfl rfl rfl rfl (by repeat' (first | exact trivial | exact rfl | (refine ⟨⟨rfl, ?_⟩, ?_⟩) | (refine ⟨rfl, ?_⟩) | ((exact i64_eq (by simp; split <;> omega))) | ((exact row_app (f := Chunk.row) rfl (cut_row (by omega) hrest hl))) | (simp; done) | (simp; rfl))) (by repeat' (first | exact trivial | exact rfl | exact .inl rfl | exact .inr rfl | (refine ⟨⟨rfl, .inl ⟨_, rfl, ?_⟩⟩, ?_⟩) | (refine ⟨⟨rfl, _, rfl, ?_⟩, ?_⟩) | (refine ⟨⟨rfl, .inr ⟨rfl, ?_⟩⟩, ?_⟩) | (refine ⟨rfl, ?_⟩) | ((exact i64_eq (by simp; split <;> omega))) | ((exact row_app (f := Chunk.row) rfl (cut_row (by omega) hrest hl))) | (simp; done) | (simp; rfl)))), by simp; omega⟩
  | nil =>
    have hz := zip_nil k1
    rw [List.append_nil] at k1
    subst k1
    conv => whnf
    ((refine hif_false ?_ ?_; (· (first | rfl | assumption | omega | (simp only [gt_iff_lt, ge_iff_le, decide_eq_true_eq, decide_eq_false_iff_not, beq_iff_eq, bne_iff_ne, ne_eq, beq_eq_false_iff_ne, bne_eq_false_iff_eq, List.length_map, List.length_append, List.length_cons, List.length_nil, List.length_take, List.length_drop, Bool.not_eq_true', Bool.not_eq_false', Bool.not_eq_true, Bool.not_eq_false, Decidable.not_not, Nat.cast_ofNat, Int.natCast_add] <;> omega) | (simp <;> omega))); conv => whnf); try (refine hcut.go ?_; conv => whnf))
    refine hQ _ _ ?_; conv => whnf
    have hms8 : (ms.map bs).length ≤ 8 := by rw [List.length_map]; exact c3
    have hok : ∀ m ∈ ms.map bs, 1 ≤ m.length ∧ m.length ≤ 30 := fun m hm => by obtain ⟨x, hx, rfl⟩ := List.mem_map.1 hm; exact k2 x hx
    have hbook := book (ms.map bs) q (by omega) hms8 hok
    have hdsum := chs_dsum (by omega : 1 ≤ q) (ms.map bs) 0 7
    rw [← k3] at hbook
    refine ⟨{ x : (List Int × List Int) × List Chunk // order = x.1.1 ++ x.1.2 ∧ x.2.Perm acc }, fun x => swSt ms order x.1.1.1 x.1.2, fun x => x.1.1.2.length, ⟨(([], order), acc), rfl, List.Perm.refl _⟩, ?_, ?_⟩
    · exact (hle_hs [(7, some 7), (902, some 900)] rfl rfl rfl rfl (by repeat' (first | exact trivial | exact rfl | (refine ⟨⟨rfl, ?_⟩, ?_⟩) | (refine ⟨rfl, ?_⟩) | (simp; done) | (simp; rfl))) (by repeat' (first | exact trivial | exact rfl | exact .inl rfl | exact .inr rfl | (refine ⟨⟨rfl, .inl ⟨_, rfl, ?_⟩⟩, ?_⟩) | (refine ⟨⟨rfl, _, rfl, ?_⟩, ?_⟩) | (refine ⟨⟨rfl, .inr ⟨rfl, ?_⟩⟩, ?_⟩) | (refine ⟨rfl, ?_⟩) | (simp; done) | (simp; rfl))))
    rintro ⟨⟨⟨A, B⟩, X⟩, j1, j2⟩
    dsimp only at j1 j2
    refine hwp_gen fun Q hQ => ?_
    have hXl := j2.length_eq
    cases B with
    | cons n B =>
      have jz := zip_cons j1
      conv => whnf
      ((refine hif_true ?_ ?_; (· (first | rfl | assumption | omega | (simp only [gt_iff_lt, ge_iff_le, decide_eq_true_eq, decide_eq_false_iff_not, beq_iff_eq, bne_iff_ne, ne_eq, beq_eq_false_iff_ne, bne_eq_false_iff_eq, List.length_map, List.length_append, List.length_cons, List.length_nil, List.length_take, List.length_drop, Bool.not_eq_true', Bool.not_eq_false', Bool.not_eq_true, Bool.not_eq_false, Decidable.not_not, Nat.cast_ofNat, Int.natCast_add] <;> omega) | (simp <;> omega))); conv => whnf); try (refine hcut.go ?_; conv => whnf))
      refine hrow_mid j1 rfl ?_; conv => whnf
      by_cases g1 : A.length < X.length ∧ 0 ≤ n ∧ n < X.length
      case neg =>
        refine hif_intro (fun d1 => ?_) (fun d1 => ?_)
        · conv => whnf
          refine hif_intro (fun d2 => ?_) (fun d2 => ?_)
          · conv => whnf
            refine hif_false (by simp at d1 d2 ⊢; omega) ?_; conv => whnf
            repeat (refine hcut.go ?_; conv => whnf)
            ((refine hwrap_fit (W_fit ?_ ?_) ?_; (· (first | omega | (simp only [List.length_map, List.length_append, List.length_take, List.length_drop, List.length_cons, List.length_nil] <;> omega) | (simp <;> omega))); (· (first | omega | (simp only [List.length_map, List.length_append, List.length_take, List.length_drop, List.length_cons, List.length_nil] <;> omega) | (simp <;> omega))); conv => whnf); try (refine hcut.go ?_; conv => whnf))
            refine hQ _ _ ?_; conv => whnf
            exact ⟨⟨((A ++ [n], B), X), zip_next j1, j2⟩, (hle_hs [(7, some 7), (902, some 902)] rfl rfl rfl rfl (by repeat' (first | exact trivial | exact rfl | (refine ⟨⟨rfl, ?_⟩, ?_⟩) | (refine ⟨rfl, ?_⟩) | (simp; done) | (simp; rfl))) (by repeat' (first | exact trivial | exact rfl | exact .inl rfl | exact .inr rfl | (refine ⟨⟨rfl, .inl ⟨_, rfl, ?_⟩⟩, ?_⟩) | (refine ⟨⟨rfl, _, rfl, ?_⟩, ?_⟩) | (refine ⟨⟨rfl, .inr ⟨rfl, ?_⟩⟩, ?_⟩) | (refine ⟨rfl, ?_⟩) | (simp; done) | (simp; rfl)))), by simp⟩
          · conv => whnf
            repeat (refine hcut.go ?_; conv => whnf)
            ((refine hwrap_fit (W_fit ?_ ?_) ?_; (· (first | omega | (simp only [List.length_map, List.length_append, List.length_take, List.length_drop, List.length_cons, List.length_nil] <;> omega) | (simp <;> omega))); (· (first | omega | (simp only [List.length_map, List.length_append, List.length_take, List.length_drop, List.length_cons, List.length_nil] <;> omega) | (simp <;> omega))); conv => whnf); try (refine hcut.go ?_; conv => whnf))
            refine hQ _ _ ?_; conv => whnf
            exact ⟨⟨((A ++ [n], B), X), zip_next j1, j2⟩, (hle_hs [(7, some 7), (902, some 902)] rfl rfl rfl rfl (by repeat' (first | exact trivial | exact rfl | (refine ⟨⟨rfl, ?_⟩, ?_⟩) | (refine ⟨rfl, ?_⟩) | (simp; done) | (simp; rfl))) (by repeat' (first | exact trivial | exact rfl | exact .inl rfl | exact .inr rfl | (refine ⟨⟨rfl, .inl ⟨_, rfl, ?_⟩⟩, ?_⟩) | (refine ⟨⟨rfl, _, rfl, ?_⟩, ?_⟩) | (refine ⟨⟨rfl, .inr ⟨rfl, ?_⟩⟩, ?_⟩) | (refine ⟨rfl, ?_⟩) | (simp; done) | (simp; rfl)))), by simp⟩
        · conv => whnf
          repeat (refine hcut.go ?_; conv => whnf)
          ((refine hwrap_fit (W_fit ?_ ?_) ?_; (· (first | omega | (simp only [List.length_map, List.length_append, List.length_take, List.length_drop, List.length_cons, List.length_nil] <;> omega) | (simp <;> omega))); (· (first | omega | (simp only [List.length_map, List.length_append, List.length_take, List.length_drop, List.length_cons, List.length_nil] <;> omega) | (simp <;> omega))); conv => whnf); try (refine hcut.go ?_; conv => whnf))
          refine hQ _ _ ?_; conv => whnf
          exact ⟨⟨((A ++ [n], B), X), zip_next j1, j2⟩, (hle_hs [(7, some 7), (902, some 902)] rfl rfl rfl rfl (by repeat' (first | exact trivial | exact rfl | (refine ⟨⟨rfl, ?_⟩, ?_⟩) | (refine ⟨rfl, ?_⟩) | (simp; done) | (simp; rfl))) (by repeat' (first | exact trivial | exact rfl | exact .inl rfl | exact .inr rfl | (refine ⟨⟨rfl, .inl ⟨_, rfl, ?_⟩⟩, ?_⟩) | (refine ⟨⟨rfl, _, rfl, ?_⟩, ?_⟩) | (refine ⟨⟨rfl, .inr ⟨rfl, ?_⟩⟩, ?_⟩) | (refine ⟨rfl, ?_⟩) | (simp; done) | (simp; rfl)))), by simp⟩
      obtain ⟨g1, g2, g3⟩ := g1
      obtain ⟨j, rfl⟩ : ∃ j : Nat, n = j := ⟨n.toNat, by omega⟩
      have g3 : j < X.length := by omega
      refine hif_true (by simp; omega) ?_; conv => whnf
      refine hif_true (by simp; omega) ?_; conv => whnf
      repeat (refine hcut.go ?_; conv => whnf)
      ((refine hobl_intro ?_ ?_; (· (first | omega | (simp only [List.length_map, List.length_append, List.length_take, List.length_drop, List.length_cons, List.length_nil] <;> omega) | (simp <;> omega))); conv => whnf); try (refine hcut.go ?_; conv => whnf))
      refine hrow_at (f := Chunk.row) (l := X) j rfl g3 ?_; conv => whnf
      ((refine hobl_intro ?_ ?_; (· (first | omega | (simp only [List.length_map, List.length_append, List.length_take, List.length_drop, List.length_cons, List.length_nil] <;> omega) | (simp <;> omega))); conv => whnf); try (refine hcut.go ?_; conv => whnf))
      refine hrow_at (f := Chunk.row) (l := X) A.length rfl g1 ?_; conv => whnf
      ((refine hobl_intro ?_ ?_; (· (first | omega | (simp only [List.length_map, List.length_append, List.length_take, List.length_drop, List.length_cons, List.length_nil] <;> omega) | (simp <;> omega))); conv => whnf); try (refine hcut.go ?_; conv => whnf))
      refine hrow_at (f := Chunk.row) (l := X) A.length rfl g1 ?_; conv => whnf
      refine hobl_intro (by simp; omega) ?_; conv => whnf
      refine hrow_intro (r := (X[j]).row) (by omega) (by show ((X.map Chunk.row).set A.length (X[j]).row)[j]? = _; rw [List.getElem?_set]; split <;> simp [g3]; omega) ?_; conv => whnf
      ((refine hdraw_intro ?_ ?_; (· kernel_rfl); conv => whnf); try (refine hcut.go ?_; conv => whnf))
      ((refine hwrap_fit (W_fit ?_ ?_) ?_; (· (first | omega | (simp only [List.length_map, List.length_append, List.length_take, List.length_drop, List.length_cons, List.length_nil] <;> omega) | (simp <;> omega))); (· (first | omega | (simp only [List.length_map, List.length_append, List.length_take, List.length_drop, List.length_cons, List.length_nil] <;> omega) | (simp <;> omega))); conv => whnf); try (refine hcut.go ?_; conv => whnf))
      refine hQ _ _ ?_; conv => whnf
      refine ⟨⟨((A ++ [(j : Int)], B), (X.set A.length X[j]).set j X[A.length]), zip_next j1, (swap_perm g1 g3).trans j2⟩, (hle_hs [(7, some 7), (902, some 902)] rfl rfl rfl rfl (by repeat' (first | exact trivial | exact rfl | (refine ⟨⟨rfl, ?_⟩, ?_⟩) | (refine ⟨rfl, ?_⟩) | ((exact row_eqs (swap_rows g1 g3))) | (simp; done) | (simp; rfl))) (by repeat' (first | exact trivial | exact rfl | exact .inl rfl | exact .inr rfl | (refine ⟨⟨rfl, .inl ⟨_, rfl, ?_⟩⟩, ?_⟩) | (refine ⟨⟨rfl, _, rfl, ?_⟩, ?_⟩) | (refine ⟨⟨rfl, .inr ⟨rfl, ?_⟩⟩, ?_⟩) | (refine ⟨rfl, ?_⟩) | ((exact row_eqs (swap_rows g1 g3))) | (simp; done) | (simp; rfl)))), by simp⟩
    | nil =>
      have jz := zip_nil j1
      conv => whnf
      ((refine hif_false ?_ ?_; (· (first | rfl | assumption | omega | (simp only [gt_iff_lt, ge_iff_le, decide_eq_true_eq, decide_eq_false_iff_not, beq_iff_eq, bne_iff_ne, ne_eq, beq_eq_false_iff_ne, bne_eq_false_iff_eq, List.length_map, List.length_append, List.length_cons, List.length_nil, List.length_take, List.length_drop, Bool.not_eq_true', Bool.not_eq_false', Bool.not_eq_true, Bool.not_eq_false, Decidable.not_not, Nat.cast_ofNat, Int.natCast_add] <;> omega) | (simp <;> omega))); conv => whnf); try (refine hcut.go ?_; conv => whnf))
      refine hQ _ _ ?_; conv => whnf
      have xall := all_in hbook (Y := X) j2 (r := r0) rfl rfl rfl rfl rfl
      have p0 := spec_newp cfg8 (by decide) (by decide) (by decide)
      rw [new8] at p0
      ((refine hcall_pure ?_; (conv => whnf); refine ⟨_, p0, rfl, ?_⟩; conv => whnf); try (refine hcut.go ?_; conv => whnf))
      have hb1 := hbook.bytes
      have hb2 := hbook.few
      have hsum : dsum X = dsum acc := (j2.map fun c : Chunk => c.data.length).sum_nat
      generalize hD : X.foldl data r0 = D at xall
      refine ⟨{ x : Receiver × List Chunk × List Chunk // X = x.2.1 ++ x.2.2 ∧ RFit (dsum x.2.1 + x.2.1.length) x.1 ∧ x.2.2.foldl data x.1 = D }, fun x => daSt ms X x.1.2.1 x.1.1, fun x => x.1.2.2.length, ⟨(r0, [], X), rfl, by rw [← new8]; exact new_fit (by decide), hD⟩, ?_, ?_⟩
      · exact (hle_hs [(7, some 7), (16, some 16), (903, some 902)] rfl rfl rfl rfl (by repeat' (first | exact trivial | exact rfl | (refine ⟨⟨rfl, ?_⟩, ?_⟩) | (refine ⟨rfl, ?_⟩) | (simp; done) | (simp; rfl))) (by repeat' (first | exact trivial | exact rfl | exact .inl rfl | exact .inr rfl | (refine ⟨⟨rfl, .inl ⟨_, rfl, ?_⟩⟩, ?_⟩) | (refine ⟨⟨rfl, _, rfl, ?_⟩, ?_⟩) | (refine ⟨⟨rfl, .inr ⟨rfl, ?_⟩⟩, ?_⟩) | (refine ⟨rfl, ?_⟩) | (simp; done) | (simp; rfl))))
      rintro ⟨⟨x, U, V⟩, v1, v2, v3⟩
      dsimp only at v1 v2 v3
      refine hwp_gen fun Q hQ => ?_
      cases V with
      | cons y V =>
        have vz := zip_cons v1
        have vs : dsum X = dsum U + (y.data.length + dsum V) := by rw [v1]; simp [dsum]
        have vn := data_fit v2 (by omega) y
        have pd := spec_datap x y (v2.dfit (by omega) (by omega))
        have v3 : V.foldl data (data x y) = D := v3
        generalize data x y = z at vn pd v3
        conv => whnf
        ((refine hif_true ?_ ?_; (· (first | rfl | assumption | omega | (simp only [gt_iff_lt, ge_iff_le, decide_eq_true_eq, decide_eq_false_iff_not, beq_iff_eq, bne_iff_ne, ne_eq, beq_eq_false_iff_ne, bne_eq_false_iff_eq, List.length_map, List.length_append, List.length_cons, List.length_nil, List.length_take, List.length_drop, Bool.not_eq_true', Bool.not_eq_false', Bool.not_eq_true, Bool.not_eq_false, Decidable.not_not, Nat.cast_ofNat, Int.natCast_add] <;> omega) | (simp <;> omega))); conv => whnf); try (refine hcut.go ?_; conv => whnf))
        ((refine hobl_intro ?_ ?_; (· (first | omega | (simp only [List.length_map, List.length_append, List.length_take, List.length_drop, List.length_cons, List.length_nil] <;> omega) | (simp <;> omega))); conv => whnf); try (refine hcut.go ?_; conv => whnf))
        refine hrow_mid v1 rfl ?_; conv => whnf
        ((refine hcall_pure ?_; (conv => whnf); refine ⟨_, pd, rfl, ?_⟩; conv => whnf); try (refine hcut.go ?_; conv => whnf))
        ((refine hwrap_fit (W_fit ?_ ?_) ?_; (· (first | omega | (simp only [List.length_map, List.length_append, List.length_take, List.length_drop, List.length_cons, List.length_nil] <;> omega) | (simp <;> omega))); (· (first | omega | (simp only [List.length_map, List.length_append, List.length_take, List.length_drop, List.length_cons, List.length_nil] <;> omega) | (simp <;> omega))); conv => whnf); try (refine hcut.go ?_; conv => whnf))
        refine hQ _ _ ?_; conv => whnf
        exact ⟨⟨(z, U ++ [y], V), zip_next v1, by have e : dsum (U ++ [y]) + (U ++ [y]).length = dsum U + U.length + (y.data.length + 1) := by { simp [dsum]; omega }; rw [e]; exact vn, v3⟩, (hle_hs [(7, some 7), (16, some 16), (903, some 903)] rfl rfl rfl rfl (by repeat' (first | exact trivial | exact rfl | (refine ⟨⟨rfl, ?_⟩, ?_⟩) | (refine ⟨rfl, ?_⟩) | (simp; done) | (simp; rfl))) (by repeat' (first | exact trivial | exact rfl | exact .inl rfl | exact .inr rfl | (refine ⟨⟨rfl, .inl ⟨_, rfl, ?_⟩⟩, ?_⟩) | (refine ⟨⟨rfl, _, rfl, ?_⟩, ?_⟩) | (refine ⟨⟨rfl, .inr ⟨rfl, ?_⟩⟩, ?_⟩) | (refine ⟨rfl, ?_⟩) | (simp; done) | (simp; rfl)))), by simp⟩
      | nil =>
        have vz := zip_nil v1
        have v3 : x = D := v3
        subst v3
        have hl := allin_len xall
        rw [List.length_map] at hl
        conv => whnf
        ((refine hif_false ?_ ?_; (· (first | rfl | assumption | omega | (simp only [gt_iff_lt, ge_iff_le, decide_eq_true_eq, decide_eq_false_iff_not, beq_iff_eq, bne_iff_ne, ne_eq, beq_eq_false_iff_ne, bne_eq_false_iff_eq, List.length_map, List.length_append, List.length_cons, List.length_nil, List.length_take, List.length_drop, Bool.not_eq_true', Bool.not_eq_false', Bool.not_eq_true, Bool.not_eq_false, Decidable.not_not, Nat.cast_ofNat, Int.natCast_add] <;> omega) | (simp <;> omega))); conv => whnf); try (refine hcut.go ?_; conv => whnf))
        refine hQ _ _ ?_; conv => whnf
        refine hif_false (by simp [hl]) ?_; conv => whnf
        refine hif_false (by simp [xall.pieces]) ?_; conv => whnf
        ((refine hwrap_fit (W_fit ?_ ?_) ?_; (· (first | omega | (simp only [List.length_map, List.length_append, List.length_take, List.length_drop, List.length_cons, List.length_nil] <;> omega) | (simp <;> omega))); (· (first | omega | (simp only [List.length_map, List.length_append, List.length_take, List.length_drop, List.length_cons, List.length_nil] <;> omega) | (simp <;> omega))); conv => whnf); try (refine hcut.go ?_; conv => whnf))
        ((refine hwrap_fit (W_fit ?_ ?_) ?_; (· (first | omega | (simp only [List.length_map, List.length_append, List.length_take, List.length_drop, List.length_cons, List.length_nil] <;> omega) | (simp <;> omega))); (· (first | omega | (simp only [List.length_map, List.length_append, List.length_take, List.length_drop, List.length_cons, List.length_nil] <;> omega) | (simp <;> omega))); conv => whnf); try (refine hcut.go ?_; conv => whnf))
        refine hif_false (by simp [xall.cum]; omega) ?_; conv => whnf
        repeat (refine hcut.go ?_; conv => whnf)
        have v2' := v2.log
        refine ⟨{ w : List Arrival × List Arrival // x.log = w.1 ++ w.2 }, fun w => loSt ms x w.1.1, fun w => w.1.2.length, ⟨([], x.log), rfl⟩, ?_, ?_⟩
        · exact (hle_hs [(16, some 16), (19, some 19)] rfl rfl rfl rfl (by repeat' (first | exact trivial | exact rfl | (refine ⟨⟨rfl, ?_⟩, ?_⟩) | (refine ⟨rfl, ?_⟩) | (simp; done) | (simp; rfl))) (by repeat' (first | exact trivial | exact rfl | exact .inl rfl | exact .inr rfl | (refine ⟨⟨rfl, .inl ⟨_, rfl, ?_⟩⟩, ?_⟩) | (refine ⟨⟨rfl, _, rfl, ?_⟩, ?_⟩) | (refine ⟨⟨rfl, .inr ⟨rfl, ?_⟩⟩, ?_⟩) | (refine ⟨rfl, ?_⟩) | (simp; done) | (simp; rfl))))
        rintro ⟨⟨A, B⟩, w1⟩
        dsimp only at w1
        refine hwp_gen fun Q hQ => ?_
        cases B with
        | nil =>
          have wz := zip_nil w1
          conv => whnf
          ((refine hif_false ?_ ?_; (· (first | rfl | assumption | omega | (simp only [gt_iff_lt, ge_iff_le, decide_eq_true_eq, decide_eq_false_iff_not, beq_iff_eq, bne_iff_ne, ne_eq, beq_eq_false_iff_ne, bne_eq_false_iff_eq, List.length_map, List.length_append, List.length_cons, List.length_nil, List.length_take, List.length_drop, Bool.not_eq_true', Bool.not_eq_false', Bool.not_eq_true, Bool.not_eq_false, Decidable.not_not, Nat.cast_ofNat, Int.natCast_add] <;> omega) | (simp <;> omega))); conv => whnf); try (refine hcut.go ?_; conv => whnf))
          refine hQ _ _ ?_; conv => whnf
          try rfl
        | cons u B =>
          have wz := zip_cons w1
          obtain ⟨s, s2, e1, e2, e3⟩ := allin_at xall w1
          rw [List.length_map] at e2
          conv => whnf
          ((refine hif_true ?_ ?_; (· (first | rfl | assumption | omega | (simp only [gt_iff_lt, ge_iff_le, decide_eq_true_eq, decide_eq_false_iff_not, beq_iff_eq, bne_iff_ne, ne_eq, beq_eq_false_iff_ne, bne_eq_false_iff_eq, List.length_map, List.length_append, List.length_cons, List.length_nil, List.length_take, List.length_drop, Bool.not_eq_true', Bool.not_eq_false', Bool.not_eq_true, Bool.not_eq_false, Decidable.not_not, Nat.cast_ofNat, Int.natCast_add] <;> omega) | (simp <;> omega))); conv => whnf); try (refine hcut.go ?_; conv => whnf))
          refine hrow_mid w1 rfl ?_; conv => whnf
          have hs01 : s = 0 ∨ s = 1 := by omega
          rcases hs01 with rfl | rfl
          case inl =>
            refine hif_false (by simp [e1]) ?_; conv => whnf
            refine hif_false (by simp [e1]) ?_; conv => whnf
            refine ⟨0, e1, by decide, ?_⟩; conv => whnf
            refine hif_false (by simp; omega) ?_; conv => whnf
            refine hbytes_intro rfl ?_; conv => whnf
            refine ⟨0, e1, by decide, ?_⟩; conv => whnf
            refine hrow_at (f := fun s : ByteArray => [PV.v (.string s)]) (l := ms) (2 * cnt 0 A + 0) rfl e2 ?_; conv => whnf
            have e4 : u.data = bs ms[2 * cnt 0 A + 0] := by rw [e3, List.getElem?_map, List.getElem?_eq_getElem e2]; rfl
            ((refine hdraw_intro ?_ ?_; (· kernel_rfl); conv => whnf); try (refine hcut.go ?_; conv => whnf))
            refine hif_false (by rw [e4, bs_eq]; simp) ?_; conv => whnf
            repeat (refine hcut.go ?_; conv => whnf)
            refine ⟨0, e1, by decide, ?_⟩; conv => whnf
            ((refine hwrap_fit (W_fit ?_ ?_) ?_; (· (first | omega | (simp only [List.length_map, List.length_append, List.length_take, List.length_drop, List.length_cons, List.length_nil] <;> omega) | (simp <;> omega))); (· (first | omega | (simp only [List.length_map, List.length_append, List.length_take, List.length_drop, List.length_cons, List.length_nil] <;> omega) | (simp <;> omega))); conv => whnf); try (refine hcut.go ?_; conv => whnf))
            refine ⟨0, e1, by decide, ?_⟩; conv => whnf
            ((refine hwrap_fit (W_fit ?_ ?_) ?_; (· (first | omega | (simp only [List.length_map, List.length_append, List.length_take, List.length_drop, List.length_cons, List.length_nil] <;> omega) | (simp <;> omega))); (· (first | omega | (simp only [List.length_map, List.length_append, List.length_take, List.length_drop, List.length_cons, List.length_nil] <;> omega) | (simp <;> omega))); conv => whnf); try (refine hcut.go ?_; conv => whnf))
            refine hQ _ _ ?_; conv => whnf
            exact ⟨⟨(A ++ [u], B), zip_next w1⟩, (hle_hs [(16, some 16), (19, some 19)] rfl rfl rfl rfl (by repeat' (first | exact trivial | exact rfl | (refine ⟨⟨rfl, ?_⟩, ?_⟩) | (refine ⟨rfl, ?_⟩) | ((exact arr2 (by rw [cnt_snoc, e1]; simp; try omega) (by rw [cnt_snoc, e1]; simp; try omega))) | (simp; done) | (simp; rfl))) (by repeat' (first | exact trivial | exact rfl | exact .inl rfl | exact .inr rfl | (refine ⟨⟨rfl, .inl ⟨_, rfl, ?_⟩⟩, ?_⟩) | (refine ⟨⟨rfl, _, rfl, ?_⟩, ?_⟩) | (refine ⟨⟨rfl, .inr ⟨rfl, ?_⟩⟩, ?_⟩) | (refine ⟨rfl, ?_⟩) | ((exact arr2 (by rw [cnt_snoc, e1]; simp; try omega) (by rw [cnt_snoc, e1]; simp; try omega))) | (simp; done) | (simp; rfl)))), by simp⟩
          case inr =>
            refine hif_false (by simp [e1]) ?_; conv => whnf
            refine hif_false (by simp [e1]) ?_; conv => whnf
            refine ⟨1, e1, by decide, ?_⟩; conv => whnf
            refine hif_false (by simp; omega) ?_; conv => whnf
            refine hbytes_intro rfl ?_; conv => whnf
            refine ⟨1, e1, by decide, ?_⟩; conv => whnf
            refine hrow_at (f := fun s : ByteArray => [PV.v (.string s)]) (l := ms) (2 * cnt 1 A + 1) rfl e2 ?_; conv => whnf
            have e4 : u.data = bs ms[2 * cnt 1 A + 1] := by rw [e3, List.getElem?_map, List.getElem?_eq_getElem e2]; rfl
            ((refine hdraw_intro ?_ ?_; (· kernel_rfl); conv => whnf); try (refine hcut.go ?_; conv => whnf))
            refine hif_false (by rw [e4, bs_eq]; simp) ?_; conv => whnf
            repeat (refine hcut.go ?_; conv => whnf)
            refine ⟨1, e1, by decide, ?_⟩; conv => whnf
            ((refine hwrap_fit (W_fit ?_ ?_) ?_; (· (first | omega | (simp only [List.length_map, List.length_append, List.length_take, List.length_drop, List.length_cons, List.length_nil] <;> omega) | (simp <;> omega))); (· (first | omega | (simp only [List.length_map, List.length_append, List.length_take, List.length_drop, List.length_cons, List.length_nil] <;> omega) | (simp <;> omega))); conv => whnf); try (refine hcut.go ?_; conv => whnf))
            refine ⟨1, e1, by decide, ?_⟩; conv => whnf
            ((refine hwrap_fit (W_fit ?_ ?_) ?_; (· (first | omega | (simp only [List.length_map, List.length_append, List.length_take, List.length_drop, List.length_cons, List.length_nil] <;> omega) | (simp <;> omega))); (· (first | omega | (simp only [List.length_map, List.length_append, List.length_take, List.length_drop, List.length_cons, List.length_nil] <;> omega) | (simp <;> omega))); conv => whnf); try (refine hcut.go ?_; conv => whnf))
            refine hQ _ _ ?_; conv => whnf
            exact ⟨⟨(A ++ [u], B), zip_next w1⟩, (hle_hs [(16, some 16), (19, some 19)] rfl rfl rfl rfl (by repeat' (first | exact trivial | exact rfl | (refine ⟨⟨rfl, ?_⟩, ?_⟩) | (refine ⟨rfl, ?_⟩) | ((exact arr2 (by rw [cnt_snoc, e1]; simp; try omega) (by rw [cnt_snoc, e1]; simp; try omega))) | (simp; done) | (simp; rfl))) (by repeat' (first | exact trivial | exact rfl | exact .inl rfl | exact .inr rfl | (refine ⟨⟨rfl, .inl ⟨_, rfl, ?_⟩⟩, ?_⟩) | (refine ⟨⟨rfl, _, rfl, ?_⟩, ?_⟩) | (refine ⟨⟨rfl, .inr ⟨rfl, ?_⟩⟩, ?_⟩) | (refine ⟨rfl, ?_⟩) | ((exact arr2 (by rw [cnt_snoc, e1]; simp; try omega) (by rw [cnt_snoc, e1]; simp; try omega))) | (simp; done) | (simp; rfl)))), by simp⟩
end Rcv
end Go.HL
