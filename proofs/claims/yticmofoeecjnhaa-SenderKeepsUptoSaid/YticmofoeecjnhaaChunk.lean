/- The functions of package chunk, and the document's, as what they compute. -/
import Derived.Test.YticmofoeecjnhaaTypes
namespace Go.HL
open Go.Proofs
namespace Chk
set_option maxHeartbeats 1000000
set_option maxRecDepth 100000
set_option linter.unusedSimpArgs false
abbrev spansHV (l : List Span) : HV := .p (.sl 2 (l.map Span.row))
abbrev skipsHV (l : List Skip) : HV := .p (.sl 3 (l.map Skip.row))
def small (n : Int) : Bool := decide (0 ≤ n ∧ n < 65536)
def spansWrong (last : Int) : List Span → Int
  | [] => 0
  | s :: r => if s.lo ≤ last ∨ s.hi < s.lo ∨ ¬ (0 ≤ s.hi ∧ s.hi < 65536) then 3 else spansWrong (s.hi + 1) r
def skipsWrong : List Skip → Int
  | [] => 0
  | s :: r => if s.stream < 0 ∨ s.stream ≥ 4 ∨ ¬ (0 ≤ s.mid ∧ s.mid < 65536) then 3 else skipsWrong r
def wrong (c : Chunk) : Int :=
  if c.kind < 1 ∨ c.kind > 3 then 1 else
  if ¬ (0 ≤ c.tag ∧ c.tag < 65536) then 3 else
  if c.kind = 1 then
    if c.stream < 0 ∨ c.stream ≥ 4 ∨ ¬ (0 ≤ c.mid ∧ c.mid < 65536) ∨ c.part < 0 ∨ c.part > 255 then 3 else
    if c.data.length < 1 ∨ c.data.length > 16 then 4 else 0
  else if c.kind = 2 then
    if ¬ (0 ≤ c.room ∧ c.room < 65536) then 3 else
    if c.spans.length > 6 then 5 else spansWrong 1 c.spans
  else if c.skips.length > 8 then 5 else skipsWrong c.skips
theorem spec_small (n : Int) : FunOK Try.prog 133 [i64 n] noHeap (hbool (small n)) noHeap := by
  refine funOK_pure mixed Try.func133 (by decide) ?_
  conv => whnf
  refine hif_intro (fun h => ?_) (fun h => ?_) <;> conv => whnf
  · have h := of_decide_eq_true h
    rw [show decide (n < 65536) = small n from by simp only [small]; congr 1; simp; omega]
  · have h := of_decide_eq_false h
    rw [show small n = false from decide_eq_false (by omega)]
theorem spec_wrong (c : Chunk) (h9 : c.spans.length < 2 ^ 40) (h8 : c.skips.length < 2 ^ 40) : FunOK Try.prog 127 [c.hv] noHeap (i64 (wrong c)) noHeap := by
  refine funOK_pure mixed Try.func127 (by decide) ?_
  conv => whnf
  (repeat' (first | (refine hwrap_raw ?_; conv => whnf) | (refine hobl_intro ?_ ?_; (first | kernel_rfl | decide); conv => whnf) | (refine hdraw_intro ?_ ?_; kernel_rfl; conv => whnf) | (refine hcut.go ?_; conv => whnf) | (refine hcall_lend ?_; (conv => whnf); refine ⟨_, spec_small _, rfl, ?_⟩; conv => whnf) | (refine hif_intro (fun h => ?_) (fun h => ?_) <;> conv => whnf)))
  all_goals try simp only [Bool.not_eq_true', Bool.not_eq_false', beq_iff_eq, beq_eq_false_iff_ne, decide_eq_true_eq, decide_eq_false_iff_not, small, List.length_map] at *
  all_goals first | (simp only [wrong]; (repeat' split) <;> first | rfl | omega) | skip
  · have hw : wrong c = spansWrong 1 c.spans := by simp only [wrong]; (repeat' split) <;> first | rfl | omega
    rw [hw]
    refine ⟨{ x : Nat × Int // x.1 ≤ c.spans.length ∧ spansWrong x.2 (c.spans.drop x.1) = spansWrong 1 c.spans ∧ x.2 < 70000 ∧ 0 < x.2 }, fun | ⟨(k, last), _⟩ => hs 128 [(3, .clo 133 []), (4, i64 last), (100, spansHV c.spans), (101, i64 c.spans.length), (102, i64 k)] [], fun x => c.spans.length - x.1.1, ⟨(0, 1), by simp, rfl, by decide, by decide⟩, ?_, ?_⟩
    · exact hle_hs [] rfl rfl rfl rfl ⟨⟨rfl, rfl⟩, ⟨rfl, rfl⟩, ⟨rfl, rfl⟩, ⟨rfl, by simp; rfl⟩, ⟨rfl, rfl⟩, trivial⟩ trivial
    · rintro ⟨⟨k, last⟩, hk, hi, hlast, hlast0⟩
      dsimp only at hk hi hlast
      conv => whnf
      refine hif_intro (fun h => ?_) (fun h => ?_)
      · have hlt : k < c.spans.length := by simpa using h
        conv => whnf
        refine hrow_intro (r := (c.spans[k]).row) (by omega) (by rw [Int.toNat_natCast, List.getElem?_map, List.getElem?_eq_getElem hlt]; rfl) ?_
        rw [List.drop_eq_getElem_cons hlt] at hi
        simp only [spansWrong] at hi
        generalize c.spans[k] = s at hi ⊢
        conv => whnf
        (repeat' (first | (refine hwrap_raw ?_; conv => whnf) | (refine hobl_intro ?_ ?_; (first | kernel_rfl | decide); conv => whnf) | (refine hdraw_intro ?_ ?_; kernel_rfl; conv => whnf) | (refine hcut.go ?_; conv => whnf) | (refine hcall_lend ?_; (conv => whnf); refine ⟨_, spec_small _, rfl, ?_⟩; conv => whnf) | (refine hif_intro (fun h => ?_) (fun h => ?_) <;> conv => whnf)))
        all_goals try simp only [Bool.not_eq_true', Bool.not_eq_false', beq_iff_eq, beq_eq_false_iff_ne, decide_eq_true_eq, decide_eq_false_iff_not, small, List.length_map] at *
        all_goals first | (rw [if_pos (by omega)] at hi; rw [← hi]) | skip
        rw [if_neg (by omega)] at hi
        have e2 : W ((k : Int) + 1) = ((k + 1 : Nat) : Int) := W_nat hlt (by omega)
        have e1 : W (s.hi + 1) = s.hi + 1 := W_fit (by omega) (by omega)
        exact ⟨⟨(k + 1, s.hi + 1), hlt, hi, by dsimp only; omega, by dsimp only; omega⟩, hle_hs [] rfl rfl rfl rfl ⟨⟨rfl, rfl⟩, ⟨rfl, congrArg i64 e1.symm⟩, ⟨rfl, rfl⟩, ⟨rfl, rfl⟩, ⟨rfl, congrArg i64 e2.symm⟩, trivial⟩ trivial, by dsimp only; omega⟩
      · have hge : c.spans.length ≤ k := by simpa using h
        rw [List.drop_eq_nil_of_le hge] at hi
        conv => whnf
        rw [← hi]; rfl
  · have hw : wrong c = skipsWrong c.skips := by simp only [wrong]; (repeat' split) <;> first | rfl | omega
    rw [hw]
    refine ⟨{ k : Nat // k ≤ c.skips.length ∧ skipsWrong (c.skips.drop k) = skipsWrong c.skips }, fun | ⟨k, _⟩ => hs 128 [(3, .clo 133 []), (29, skipsHV c.skips), (30, i64 c.skips.length), (31, i64 k)] [], fun x => c.skips.length - x.1, ⟨0, by simp, rfl⟩, ?_, ?_⟩
    · exact hle_hs [] rfl rfl rfl rfl ⟨⟨rfl, rfl⟩, ⟨rfl, rfl⟩, ⟨rfl, by simp; rfl⟩, ⟨rfl, rfl⟩, trivial⟩ trivial
    · rintro ⟨k, hk, hi⟩
      conv => whnf
      refine hif_intro (fun h => ?_) (fun h => ?_)
      · have hlt : k < c.skips.length := by simpa using h
        conv => whnf
        refine hrow_intro (r := (c.skips[k]).row) (by omega) (by rw [Int.toNat_natCast, List.getElem?_map, List.getElem?_eq_getElem hlt]; rfl) ?_
        rw [List.drop_eq_getElem_cons hlt] at hi
        simp only [skipsWrong] at hi
        generalize c.skips[k] = s at hi ⊢
        conv => whnf
        (repeat' (first | (refine hwrap_raw ?_; conv => whnf) | (refine hobl_intro ?_ ?_; (first | kernel_rfl | decide); conv => whnf) | (refine hdraw_intro ?_ ?_; kernel_rfl; conv => whnf) | (refine hcut.go ?_; conv => whnf) | (refine hcall_lend ?_; (conv => whnf); refine ⟨_, spec_small _, rfl, ?_⟩; conv => whnf) | (refine hif_intro (fun h => ?_) (fun h => ?_) <;> conv => whnf)))
        all_goals try simp only [Bool.not_eq_true', Bool.not_eq_false', beq_iff_eq, beq_eq_false_iff_ne, decide_eq_true_eq, decide_eq_false_iff_not, small, List.length_map] at *
        all_goals first | (rw [if_pos (by omega)] at hi; rw [← hi]) | skip
        rw [if_neg (by omega)] at hi
        have e2 : W ((k : Int) + 1) = ((k + 1 : Nat) : Int) := W_nat hlt (by omega)
        exact ⟨⟨k + 1, hlt, hi⟩, hle_hs [] rfl rfl rfl rfl ⟨⟨rfl, rfl⟩, ⟨rfl, rfl⟩, ⟨rfl, rfl⟩, ⟨rfl, congrArg i64 e2.symm⟩, trivial⟩ trivial, by dsimp only; omega⟩
      · have hge : c.skips.length ≤ k := by simpa using h
        rw [List.drop_eq_nil_of_le hge] at hi
        conv => whnf
        rw [← hi]; rfl
def row8 (l : List UInt8) : HSlot := .live (.row 5 1 (l.map bRow))
theorem spec_num0 (n : Int) : FunOK Try.prog 128 [hnil, i64 n] noHeap (.own 0) (lk .free [(0, row8 (enc16 n))]) := by
  refine funOK_of mixed Try.func128 (by decide) [] (fun _ => .inl rfl) ?_
  conv => whnf
  refine hobl_intro (by decide) ?_; conv => whnf
  refine hwrap_by8 ?_; conv => whnf
  refine hwrap_by8 ?_; conv => whnf
  refine hobl_intro (c := 2 * 1 ≤ 140737488355328) (by decide) ?_; conv => whnf
  exact hfin_of [(0, some 12)] rfl rfl trivial rfl rfl ⟨⟨rfl, .inl ⟨12, rfl, rfl⟩⟩, trivial⟩
theorem spec_num (l : List UInt8) (n : Int) (hb : l.length < 2 ^ 40) : FunOK Try.prog 128 [.own 1000000, i64 n] (lk .free [(1000000, row8 l)]) (.own 0) (lk .free [(1000000, .dead), (0, row8 (l ++ enc16 n))]) := by
  refine funOK_of mixed Try.func128 (by decide) [1000000] (fun i => lk_pins i) ?_
  conv => whnf
  refine hobl_intro (by decide) ?_; conv => whnf
  refine hwrap_by8 ?_; conv => whnf
  refine hwrap_by8 ?_; conv => whnf
  refine hobl_intro (c := ((l.map bRow).length + 2) * 1 ≤ 140737488355328) (by simp; omega) ?_; conv => whnf
  refine hfin_of [(1000000, some 1000000), (0, some 12)] rfl rfl ⟨rfl, trivial⟩ rfl rfl ⟨rfl, ⟨rfl, .inl ⟨12, rfl, ?_⟩⟩, trivial⟩
  show HSlot.live (.row _ 1 _) = HSlot.live (.row _ 1 ((l ++ enc16 n).map bRow))
  rw [List.map_append]
  rfl
theorem spec_bit (b : Bool) (n : Int) : FunOK Try.prog 129 [hbool b, hint .u8 n] noHeap (hint .u8 (if b then n else 0)) noHeap := by
  refine funOK_pure mixed Try.func129 (by decide) ?_
  cases b <;> (conv => whnf) <;> rfl
def flags (c : Chunk) : Int := (if c.last then 1 else 0) + (if c.ordered then 2 else 0)
def spanBytes (l : List Span) : List UInt8 := l.flatMap fun s => enc16 s.lo ++ enc16 s.hi
def skipBytes (l : List Skip) : List UInt8 := l.flatMap fun s => [by8 s.stream, by8 (if s.ordered then 1 else 0)] ++ enc16 s.mid
def body (c : Chunk) : List UInt8 :=
  if c.kind = 1 then enc16 c.tag ++ [by8 c.stream, by8 (flags c)] ++ enc16 c.mid ++ [by8 c.part] ++ c.data
  else if c.kind = 2 then enc16 c.tag ++ enc16 c.room ++ spanBytes c.spans
  else enc16 c.tag ++ skipBytes c.skips
def bytes (c : Chunk) : List UInt8 := if wrong c = 0 then by8 c.kind :: by8 (body c).length :: body c else []
theorem spanBytes_len (l : List Span) : (spanBytes l).length = 4 * l.length := by
  induction l with
  | nil => rfl
  | cons x l ih => simp only [spanBytes, List.flatMap_cons, List.length_append, List.length_cons] at ih ⊢; simp [enc16] at ih ⊢; omega
theorem skipBytes_len (l : List Skip) : (skipBytes l).length = 4 * l.length := by
  induction l with
  | nil => rfl
  | cons x l ih => simp only [skipBytes, List.flatMap_cons, List.length_append, List.length_cons] at ih ⊢; simp [enc16] at ih ⊢; omega
theorem wrong_data {c : Chunk} (h : wrong c = 0) (k : c.kind = 1) : 1 ≤ c.data.length ∧ c.data.length ≤ 16 := by
  simp only [wrong] at h; (repeat' split at h) <;> first | omega | simp_all
theorem wrong_spans {c : Chunk} (h : wrong c = 0) (k : c.kind = 2) : c.spans.length ≤ 6 := by
  simp only [wrong] at h; (repeat' split at h) <;> first | omega | simp_all
theorem wrong_skips {c : Chunk} (h : wrong c = 0) (k1 : ¬ c.kind = 1) (k : ¬ c.kind = 2) : c.skips.length ≤ 8 := by
  simp only [wrong] at h; (repeat' split at h) <;> first | omega | simp_all
theorem body_len {c : Chunk} (h : wrong c = 0) : (body c).length ≤ 34 := by
  have h1 := wrong_data h
  have h2 := wrong_spans h
  have h3 := wrong_skips h
  unfold body
  split
  · have := h1 ‹_›; simp [enc16]; omega
  · split
    · have := h2 ‹_›; simp [enc16, spanBytes_len]; omega
    · have := h3 ‹_› ‹_›; simp [enc16, skipBytes_len]; omega
theorem spec_bytes (c : Chunk) (h9 : c.spans.length < 2 ^ 40) (h8 : c.skips.length < 2 ^ 40) : FunOK Try.prog 120 [c.hv] noHeap (.tup [byts (bytes c), i64 (wrong c)]) noHeap := by
  refine funOK_pure mixed Try.func120 (by decide) ?_
  conv => whnf
  refine hcall_lend ?_; conv => whnf
  refine ⟨_, spec_wrong c h9 h8, rfl, ?_⟩; conv => whnf
  refine hif_intro (fun h => ?_) (fun h => ?_)
  · conv => whnf
    have h : ¬ wrong c = 0 := by simpa using h
    rw [bytes, if_neg h]
    rfl
  have h : wrong c = 0 := by simpa using h
  rw [bytes, if_pos h]
  conv => whnf
  refine hcall_own0 [(0, 17)] ?_; conv => whnf
  refine ⟨_, _, spec_num0 c.tag, ⟨⟨⟨rfl, rfl⟩, trivial⟩, rfl, rfl, rfl⟩, ?_⟩; conv => whnf
  refine hcut.meet PUnit (fun _ => hs 97 [(1, .ptr 1 0), (5, .own 900)] [(1, .live (.cells 29 c.cells)), (900, row8 (body c))]) ?_ ?_
  · have h1 : wrong c = 0 := h
    conv => whnf
    refine hif_intro (fun k1 => ?_) (fun k1 => ?_)
    · conv => whnf
      refine hwrap_by8 ?_; conv => whnf
      refine hcall_lend ?_; conv => whnf
      refine ⟨_, spec_bit _ _, rfl, ?_⟩; conv => whnf
      refine hcall_lend ?_; conv => whnf
      refine ⟨_, spec_bit _ _, rfl, ?_⟩; conv => whnf
      have hbits : bits .or .u8 (if c.last then 1 else 0) (if c.ordered then 2 else 0) = ((by8 (flags c)).toNat : Int) := by
        unfold flags
        cases c.last <;> cases c.ordered <;> kernel_rfl
      have hd := (wrong_data h (by simpa using k1)).2
      refine hobl_intro (c := (((enc16 c.tag).map bRow).length + 2) * 1 ≤ 140737488355328) (by simp [enc16]) ?_; conv => whnf
      refine hcall_give [] [(1000000, 54)] [(0, 57)] ?_; conv => whnf
      refine ⟨_, _, _, _, spec_num (enc16 c.tag ++ [by8 c.stream, by8 (flags c)]) c.mid (by simp [enc16]), ⟨rfl, rfl, rfl, ⟨⟨rfl, _, rfl, .inl ⟨rfl, ?_⟩⟩, trivial⟩, ⟨⟨rfl, rfl⟩, trivial⟩, rfl, rfl, rfl⟩, ?_⟩
      · show HSlot.live (.row _ 1 ((enc16 c.tag).map bRow ++ [bRow (by8 c.stream), [.v (.int .u8 (bits .or .u8 (if c.last then 1 else 0) (if c.ordered then 2 else 0)))]])) = _
        rw [hbits]
        rfl
      conv => whnf
      refine hdraw_intro ?_ ?_
      · kernel_rfl
      conv => whnf
      refine hwrap_by8 ?_; conv => whnf
      refine hobl_intro (c := (((enc16 c.tag ++ [by8 c.stream, by8 (flags c)] ++ enc16 c.mid).map bRow).length + 1) * 1 ≤ 140737488355328) (by simp [enc16]) ?_; conv => whnf
      refine hobl_intro (c := (((enc16 c.tag ++ [by8 c.stream, by8 (flags c)] ++ enc16 c.mid ++ [by8 c.part]).map bRow).length + (c.data.map bRow).length) * 1 ≤ 140737488355328) (by simp [enc16]; omega) ?_; conv => whnf
      refine hdraw_intro ?_ ?_
      · kernel_rfl
      conv => whnf
      refine ⟨⟨⟩, hle_hs [(1, some 1), (900, some 66)] rfl rfl rfl rfl ⟨⟨rfl, rfl⟩, ⟨rfl, rfl⟩, trivial⟩ ⟨⟨rfl, .inl ⟨1, rfl, rfl⟩⟩, ⟨rfl, .inl ⟨66, rfl, ?_⟩⟩, trivial⟩⟩
      show HSlot.live (.row _ 1 ((enc16 c.tag ++ [by8 c.stream, by8 (flags c)] ++ enc16 c.mid ++ [by8 c.part]).map bRow ++ c.data.map bRow)) = HSlot.live (.row _ 1 ((body c).map bRow))
      have k1 : c.kind = 1 := by simpa using k1
      rw [body, if_pos k1, List.map_append (l₂ := c.data)]
    · conv => whnf
      refine hif_intro (fun k2 => ?_) (fun k2 => ?_)
      · conv => whnf
        refine hcall_give [] [(1000000, 17)] [(0, 72)] ?_; conv => whnf
        refine ⟨_, _, _, _, spec_num (enc16 c.tag) c.room (by simp [enc16]), ⟨rfl, rfl, rfl, ⟨⟨rfl, _, rfl, .inl ⟨rfl, rfl⟩⟩, trivial⟩, ⟨⟨rfl, rfl⟩, trivial⟩, rfl, rfl, rfl⟩, ?_⟩
        conv => whnf
        have k1 : ¬ c.kind = 1 := by simpa using k1
        have k2 : c.kind = 2 := by simpa using k2
        have hsp := wrong_spans h k2
        refine ⟨{ k : Nat // k ≤ c.spans.length }, fun | ⟨k, _⟩ => hs 97 [(1, .ptr 1 0), (5, .own 900), (74, spansHV c.spans), (75, i64 c.spans.length), (76, i64 k)] [(1, .live (.cells 29 c.cells)), (900, row8 (enc16 c.tag ++ enc16 c.room ++ spanBytes (c.spans.take k)))], fun k => c.spans.length - k.1, ⟨0, by omega⟩, ?_, ?_⟩
        · refine hle_hs [(1, some 1), (900, some 72)] rfl rfl rfl rfl ⟨⟨rfl, rfl⟩, ⟨rfl, rfl⟩, ⟨rfl, rfl⟩, ⟨rfl, by simp; rfl⟩, ⟨rfl, rfl⟩, trivial⟩ ⟨⟨rfl, .inl ⟨1, rfl, rfl⟩⟩, ⟨rfl, .inl ⟨72, rfl, ?_⟩⟩, trivial⟩
          rfl
        rintro ⟨k, hk⟩
        conv => whnf
        refine hif_intro (fun c1 => ?_) (fun c1 => ?_)
        · have hlt : k < c.spans.length := by simpa using c1
          conv => whnf
          refine hrow_intro (r := (c.spans[k]).row) (by omega) (by rw [Int.toNat_natCast, List.getElem?_map, List.getElem?_eq_getElem hlt]; rfl) ?_
          have ht : spanBytes (c.spans.take (k + 1)) = spanBytes (c.spans.take k) ++ (enc16 (c.spans[k]).lo ++ enc16 (c.spans[k]).hi) := by
            rw [← List.take_append_getElem hlt, spanBytes, List.flatMap_append]; simp [spanBytes]
          have hlen : (spanBytes (c.spans.take k)).length ≤ 24 := by
            rw [spanBytes_len]; simp; omega
          generalize c.spans[k] = s at ht ⊢
          conv => whnf
          refine hcall_give [] [(1000000, 900)] [(0, 83)] ?_; conv => whnf
          refine ⟨_, _, _, _, spec_num (enc16 c.tag ++ enc16 c.room ++ spanBytes (c.spans.take k)) s.lo (by simp [enc16]; omega), ⟨rfl, rfl, rfl, ⟨⟨rfl, _, rfl, .inl ⟨rfl, rfl⟩⟩, trivial⟩, ⟨⟨rfl, rfl⟩, trivial⟩, rfl, rfl, rfl⟩, ?_⟩
          conv => whnf
          refine hcall_give [] [(1000000, 83)] [(0, 86)] ?_; conv => whnf
          refine ⟨_, _, _, _, spec_num (enc16 c.tag ++ enc16 c.room ++ spanBytes (c.spans.take k) ++ enc16 s.lo) s.hi (by simp [enc16]; omega), ⟨rfl, rfl, rfl, ⟨⟨rfl, _, rfl, .inl ⟨rfl, rfl⟩⟩, trivial⟩, ⟨⟨rfl, rfl⟩, trivial⟩, rfl, rfl, rfl⟩, ?_⟩
          conv => whnf
          refine hdraw_intro ?_ ?_
          · kernel_rfl
          conv => whnf
          refine hwrap_fit (W_fit (by omega) (by omega)) ?_; conv => whnf
          refine ⟨⟨k + 1, hlt⟩, hle_hs [(1, some 1), (900, some 86)] rfl rfl rfl rfl ⟨⟨rfl, rfl⟩, ⟨rfl, rfl⟩, ⟨rfl, rfl⟩, ⟨rfl, rfl⟩, ⟨rfl, by simp; rfl⟩, trivial⟩ ⟨⟨rfl, .inl ⟨1, rfl, rfl⟩⟩, ⟨rfl, .inl ⟨86, rfl, ?_⟩⟩, trivial⟩, by dsimp only; omega⟩
          show row8 (enc16 c.tag ++ enc16 c.room ++ spanBytes (c.spans.take k) ++ enc16 s.lo ++ enc16 s.hi) = row8 (enc16 c.tag ++ enc16 c.room ++ spanBytes (c.spans.take (k + 1)))
          rw [ht]; simp only [List.append_assoc]
        · conv => whnf
          have hge : c.spans.length ≤ k := by simpa using c1
          refine ⟨⟨⟩, hle_hs [(1, some 1), (900, some 900)] rfl rfl rfl rfl ⟨⟨rfl, rfl⟩, ⟨rfl, rfl⟩, trivial⟩ ⟨⟨rfl, .inl ⟨1, rfl, rfl⟩⟩, ⟨rfl, .inl ⟨900, rfl, ?_⟩⟩, trivial⟩⟩
          show row8 (enc16 c.tag ++ enc16 c.room ++ spanBytes (c.spans.take k)) = row8 (body c)
          rw [body, if_neg k1, if_pos k2, List.take_of_length_le hge]
      · conv => whnf
        have k1 : ¬ c.kind = 1 := by simpa using k1
        have k2 : ¬ c.kind = 2 := by simpa using k2
        have hsk := wrong_skips h k1 k2
        refine ⟨{ k : Nat // k ≤ c.skips.length }, fun | ⟨k, _⟩ => hs 97 [(1, .ptr 1 0), (5, .own 900), (21, skipsHV c.skips), (22, i64 c.skips.length), (23, i64 k)] [(1, .live (.cells 29 c.cells)), (900, row8 (enc16 c.tag ++ skipBytes (c.skips.take k)))], fun k => c.skips.length - k.1, ⟨0, by omega⟩, ?_, ?_⟩
        · refine hle_hs [(1, some 1), (900, some 17)] rfl rfl rfl rfl ⟨⟨rfl, rfl⟩, ⟨rfl, rfl⟩, ⟨rfl, rfl⟩, ⟨rfl, by simp; rfl⟩, ⟨rfl, rfl⟩, trivial⟩ ⟨⟨rfl, .inl ⟨1, rfl, rfl⟩⟩, ⟨rfl, .inl ⟨17, rfl, ?_⟩⟩, trivial⟩
          rfl
        rintro ⟨k, hk⟩
        conv => whnf
        refine hif_intro (fun c1 => ?_) (fun c1 => ?_)
        · have hlt : k < c.skips.length := by simpa using c1
          conv => whnf
          refine hrow_intro (r := (c.skips[k]).row) (by omega) (by rw [Int.toNat_natCast, List.getElem?_map, List.getElem?_eq_getElem hlt]; rfl) ?_
          have ht : skipBytes (c.skips.take (k + 1)) = skipBytes (c.skips.take k) ++ ([by8 (c.skips[k]).stream, by8 (if (c.skips[k]).ordered then 1 else 0)] ++ enc16 (c.skips[k]).mid) := by
            rw [← List.take_append_getElem hlt, skipBytes, List.flatMap_append]; simp [skipBytes]
          have hlen : (skipBytes (c.skips.take k)).length ≤ 32 := by
            rw [skipBytes_len]; simp; omega
          generalize c.skips[k] = s at ht ⊢
          conv => whnf
          refine hwrap_by8 ?_; conv => whnf
          refine hcall_lend ?_; conv => whnf
          refine ⟨_, spec_bit _ _, rfl, ?_⟩; conv => whnf
          refine hobl_intro (c := (((enc16 c.tag ++ skipBytes (c.skips.take k)).map bRow).length + 2) * 1 ≤ 140737488355328) (by simp [enc16]; omega) ?_; conv => whnf
          refine hcall_give [] [(1000000, 35)] [(0, 38)] ?_; conv => whnf
          refine ⟨_, _, _, _, spec_num (enc16 c.tag ++ skipBytes (c.skips.take k) ++ [by8 s.stream, by8 (if s.ordered then 1 else 0)]) s.mid (by simp [enc16]; omega), ⟨rfl, rfl, rfl, ⟨⟨rfl, _, rfl, .inl ⟨rfl, ?_⟩⟩, trivial⟩, ⟨⟨rfl, rfl⟩, trivial⟩, rfl, rfl, rfl⟩, ?_⟩
          · show HSlot.live (.row _ 1 ((enc16 c.tag ++ skipBytes (c.skips.take k)).map bRow ++ [bRow (by8 s.stream), [.v (.int .u8 (if s.ordered then 1 else 0))]])) = row8 _
            simp only [row8, List.map_append]
            cases s.ordered <;> rfl
          conv => whnf
          refine hdraw_intro ?_ ?_
          · kernel_rfl
          conv => whnf
          refine hwrap_fit (W_fit (by omega) (by omega)) ?_; conv => whnf
          refine ⟨⟨k + 1, hlt⟩, hle_hs [(1, some 1), (900, some 38)] rfl rfl rfl rfl ⟨⟨rfl, rfl⟩, ⟨rfl, rfl⟩, ⟨rfl, rfl⟩, ⟨rfl, rfl⟩, ⟨rfl, by simp; rfl⟩, trivial⟩ ⟨⟨rfl, .inl ⟨1, rfl, rfl⟩⟩, ⟨rfl, .inl ⟨38, rfl, ?_⟩⟩, trivial⟩, by dsimp only; omega⟩
          show row8 (enc16 c.tag ++ skipBytes (c.skips.take k) ++ [by8 s.stream, by8 (if s.ordered then 1 else 0)] ++ enc16 s.mid) = row8 (enc16 c.tag ++ skipBytes (c.skips.take (k + 1)))
          rw [ht]; simp only [List.append_assoc]
        · conv => whnf
          have hge : c.skips.length ≤ k := by simpa using c1
          refine ⟨⟨⟩, hle_hs [(1, some 1), (900, some 900)] rfl rfl rfl rfl ⟨⟨rfl, rfl⟩, ⟨rfl, rfl⟩, trivial⟩ ⟨⟨rfl, .inl ⟨1, rfl, rfl⟩⟩, ⟨rfl, .inl ⟨900, rfl, ?_⟩⟩, trivial⟩⟩
          show row8 (enc16 c.tag ++ skipBytes (c.skips.take k)) = row8 (body c)
          rw [body, if_neg k1, if_neg k2, List.take_of_length_le hge]
  · rintro ⟨⟩
    have hlen := body_len h
    conv => whnf
    refine hwrap_by8 ?_; conv => whnf
    refine hwrap_by8 ?_; conv => whnf
    refine hobl_intro (c := (2 + ((body c).map bRow).length) * 1 ≤ 140737488355328) (by simp; omega) ?_; conv => whnf
    show HV.tup [.p (.sl 1 ([bRow (by8 c.kind), bRow (by8 ((body c).map bRow).length)] ++ (body c).map bRow)), i64 0] = _
    rw [List.length_map, h]
    rfl
structure Fine (c : Chunk) : Prop where
  kind : 1 ≤ c.kind ∧ c.kind ≤ 3
  tag : 0 ≤ c.tag ∧ c.tag < 65536
  data : c.kind = 1 → (0 ≤ c.stream ∧ c.stream < 4) ∧ (0 ≤ c.mid ∧ c.mid < 65536) ∧ (0 ≤ c.part ∧ c.part ≤ 255) ∧ 1 ≤ c.data.length ∧ c.data.length ≤ 16
  room : c.kind = 2 → (0 ≤ c.room ∧ c.room < 65536) ∧ c.spans.length ≤ 6 ∧ spansWrong 1 c.spans = 0
  skips : ¬ c.kind = 1 → ¬ c.kind = 2 → c.skips.length ≤ 8 ∧ skipsWrong c.skips = 0
theorem fine {c : Chunk} (h : wrong c = 0) : Fine c := by
  simp only [wrong] at h
  (repeat' split at h) <;> first | omega | (constructor <;> first | omega | (intros; omega) | skip)
end Chk
end Go.HL
