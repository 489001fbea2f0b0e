/- The receiver: parts in whatever order make the messages (plain). -/
import Derived.Test.YticmofoeecjnhaaRecv4
namespace Go.HL
open Go.Proofs
namespace Rcv
open Srt Jn Ser
set_option maxHeartbeats 1000000
set_option linter.unusedSimpArgs false
theorem join_rj (l : List Piece) : join l = if l = [] then none else rjFrom l l.length 0 l.length := by rw [join, rj_eq]
theorem join_perm {l l' : List Piece} (h : l.Perm l') : join l = join l' := by
  rw [join_rj, join_rj, h.length_eq, rj_perm h]
  have : l = [] ↔ l' = [] := by rw [← List.length_eq_zero_iff, ← List.length_eq_zero_iff, h.length_eq]
  simp only [this]
theorem joinL_get {n : Nat} : ∀ {S : List Piece} {i : Nat} {b : List UInt8}, joinL n i S = some b → ∀ k (hk : k < S.length), S[k].chunk.part = ((i + k : Nat) : Int) ∧ S[k].chunk.last = decide (i + k + 1 = n)
  | p :: r, i, b, h, k, hk => by
    rw [joinL] at h
    split at h
    · rename_i c
      obtain ⟨d, hd, -⟩ := Option.map_eq_some_iff.1 h
      cases k with
      | zero => exact ⟨c.1, c.2⟩
      | succ k =>
        have := joinL_get hd k (by simpa using hk)
        rw [List.getElem_cons_succ, show i + (k + 1) = i + 1 + k by omega]
        exact this
    · cases h
/-- a message's parts, of which some lack, make none -/
theorem join_lack {l y P : List Piece} {m : List UInt8} (h : (l ++ y).Perm P) (hy : y ≠ []) (hP : join P = some m) : join l = none := by
  cases hj : join l with
  | none => rfl
  | some b =>
    exfalso
    have hlen := h.length_eq
    rw [List.length_append] at hlen
    have hy1 := List.length_pos_iff.2 hy
    have hl0 := join_len hj
    rw [join, if_neg (List.length_pos_iff.1 hl0)] at hj
    have hP0 := join_len hP
    rw [join, if_neg (List.length_pos_iff.1 hP0)] at hP
    have hsl := srt_length (key := ck) l
    have hsP := srt_length (key := ck) P
    have g1 := joinL_get hj (l.length - 1) (by omega)
    have hm : (srt ck l)[l.length - 1]'(by omega) ∈ srt ck P := srt_perm.mem_iff.2 (h.mem_iff.1 (List.mem_append_left _ (srt_perm.mem_iff.1 (List.getElem_mem _))))
    obtain ⟨i, hi, e⟩ := List.getElem_of_mem hm
    have g2 := joinL_get hP i hi
    rw [e] at g2
    have e1 := g1.1.symm.trans g2.1
    have e2 := g1.2.symm.trans g2.2
    rw [decide_eq_decide] at e2
    omega
def pc (c : Chunk) : Piece := ⟨c.tag, c⟩
/-- a message's chunks -/
def msg (s j : Nat) (X : List Chunk) : List Chunk := X.filter fun c => decide (c.stream = s) && decide (c.mid = j)
theorem msg_app (s j : Nat) (X Y : List Chunk) : msg s j (X ++ Y) = msg s j X ++ msg s j Y := by simp [msg]
theorem msg_mem {s j : Nat} {X : List Chunk} {c : Chunk} : c ∈ msg s j X ↔ c ∈ X ∧ c.stream = s ∧ c.mid = j := by simp [msg]
def dsum (X : List Chunk) : Nat := (X.map fun c => c.data.length).sum
theorem dsum_filter (f : Chunk → Bool) : ∀ X : List Chunk, dsum (X.filter f) ≤ dsum X
  | [] => Nat.le_refl _
  | c :: X => by
    have := dsum_filter f X
    unfold dsum at this ⊢
    rw [List.filter_cons]
    split
    · rw [List.map_cons, List.sum_cons, List.map_cons, List.sum_cons]; omega
    · rw [List.map_cons, List.sum_cons]; omega
theorem tot_pc (X : List Chunk) : tot (X.map pc) = dsum X := by simp [tot, dsum, List.map_map, Function.comp_def, pc]
/-- the chunks of some messages: of each stream a list -/
structure Book (C : List Chunk) (M : Nat → List (List UInt8)) : Prop where
  kind : ∀ c ∈ C, c.kind = 1 ∧ c.ordered = true ∧ (c.stream = 0 ∨ c.stream = 1)
  tags : ∀ c ∈ C, 7 ≤ c.tag ∧ c.tag < 7 + C.length
  all : ∀ m : Int, 7 ≤ m → m < 7 + C.length → ∃ c ∈ C, c.tag = m
  one : C.Pairwise fun a b => a.tag ≠ b.tag
  few : C.length ≤ 1000
  bytes : dsum C ≤ 400
  mids : ∀ c ∈ C, 0 ≤ c.mid ∧ c.mid < (M c.stream.toNat).length
  lens : ∀ s, (M s).length ≤ 1000
  whole : ∀ s j : Nat, s < 2 → ∀ h : j < (M s).length, join ((msg s j C).map pc) = some (M s)[j]
def wait (T : Nat → Nat) (c : Chunk) : Bool := decide ((T c.stream.toNat : Int) ≤ c.mid)
/-- a receiver to which the chunks X have come -/
structure Got (C : List Chunk) (M : Nat → List (List UInt8)) (X : List Chunk) (r : Receiver) (T : Nat → Nat) : Prop where
  turn : r.turn = [(T 0 : Int), (T 1 : Int)]
  rise : rise r.spans
  above : ∀ s ∈ r.spans, r.cum + 1 < s.lo
  num : ∀ m : Int, (m ≤ r.cum ∨ has r.spans m = true) ↔ (m ≤ 6 ∨ ∃ c ∈ X, c.tag = m)
  pieces : r.pieces.Perm ((X.filter (wait T)).map pc)
  log : ∀ s : Nat, s < 2 → (r.log.filter fun a => decide (a.stream = (s : Int))) = (List.range (T s)).map fun j => ⟨s, j, true, (M s)[j]?.getD []⟩
  logs : ∀ a ∈ r.log, a.stream = 0 ∨ a.stream = 1
  le : ∀ s : Nat, s < 2 → T s ≤ (M s).length
  done : ∀ s j : Nat, s < 2 → j < T s → (msg s j X).length = (msg s j C).length
def Stuck (X : List Chunk) (T : Nat → Nat) (s : Nat) : Prop := join ((msg s (T s) X).map pc) = none
section
variable {C X Y : List Chunk} {M : Nat → List (List UInt8)} {r : Receiver} {T : Nat → Nat}
theorem mine_perm (hB : Book C M) (hX : ∀ c ∈ X, c ∈ C) (h : r.pieces.Perm ((X.filter (wait T)).map pc)) {k : Nat} (hk : k < 2) : (r.pieces.filter (mine k (T k) true)).Perm ((msg k (T k) X).map pc) := by
  have h1 := h.filter (mine k (T k) true)
  have e : (((X.filter (wait T)).map pc).filter (mine k (T k) true)) = (msg k (T k) X).map pc := by
    rw [List.filter_map, List.filter_filter, msg]
    congr 1
    refine List.filter_congr fun c hc => ?_
    obtain ⟨k1, k2, k3⟩ := hB.kind c (hX c hc)
    simp only [Function.comp, mine, pc, wait, k2]
    by_cases e1 : c.stream = k
    · by_cases e2 : c.mid = T k
      · simp [e1, e2]
      · simp [e1, e2]
    · simp [e1]
  rwa [e] at h1
theorem rest_perm (hB : Book C M) (hX : ∀ c ∈ X, c ∈ C) (h : r.pieces.Perm ((X.filter (wait T)).map pc)) {k : Nat} (hk : k < 2) {T' : Nat → Nat} (hT : T' = fun s => if s = k then T k + 1 else T s) :
    (r.pieces.filter fun p => !mine k (T k) true p).Perm ((X.filter (wait T')).map pc) := by
  have h1 := h.filter fun p => !mine k (T k) true p
  have e : (((X.filter (wait T)).map pc).filter fun p => !mine k (T k) true p) = (X.filter (wait T')).map pc := by
    rw [List.filter_map, List.filter_filter]
    congr 1
    refine List.filter_congr fun c hc => ?_
    obtain ⟨k1, k2, k3⟩ := hB.kind c (hX c hc)
    simp only [Function.comp, mine, pc, wait, k2, hT]
    by_cases e1 : c.stream = k
    · have e3 : c.stream.toNat = k := by omega
      rw [e3, if_pos rfl]
      by_cases e2 : c.mid = T k
      · simp [e1, e2]; omega
      · by_cases e4 : (T k : Int) ≤ c.mid
        · have : ((T k + 1 : Nat) : Int) ≤ c.mid := by omega
          simp [e1, e2, e4]; omega
        · simp [e1, e2, e4]; omega
    · have e3 : c.stream.toNat ≠ k := by omega
      rw [if_neg e3]
      simp [e1]
  rwa [e] at h1
/-- a stream's turn goes on as long as messages are whole -/
theorem got_turns (hB : Book C M) (hXY : (X ++ Y).Perm C) {k : Nat} (hk : k < 2) : ∀ (n : Nat) (r : Receiver) (T : Nat → Nat), Got C M X r T → (M k).length - T k ≤ n →
    ∃ T', Got C M X (turns r k) T' ∧ Stuck X T' k ∧ ∀ s, s ≠ k → T' s = T s := by
  have hX : ∀ c ∈ X, c ∈ C := fun c hc => hXY.mem_iff.1 (List.mem_append_left _ hc)
  have key : ∀ (r : Receiver) (T : Nat → Nat), Got C M X r T → (join ((msg k (T k) X).map pc) = none ∧ turns r k = r) ∨ ∃ (r' : Receiver) (T' : Nat → Nat), T k < (M k).length ∧ turns r k = turns r' k ∧ Got C M X r' T' ∧ T' k = T k + 1 ∧ ∀ s, s ≠ k → T' s = T s := by
    intro r T h
    have hmp := join_perm (mine_perm hB hX h.pieces hk)
    have hlen := hB.lens k
    have hle := h.le k hk
    have htk : r.turn[k]?.getD 0 = (T k : Int) := by
      rw [h.turn]
      match k, hk with
      | 0, _ => rfl
      | 1, _ => rfl
    have htag : tag (T k : Int) = (T k : Int) := by unfold tag; omega
    have hst := turns_step r k
    rw [htk, htag] at hst
    cases hj : join ((msg k (T k) X).map pc) with
    | none =>
      rw [hj] at hmp
      refine .inl ⟨rfl, ?_⟩
      rw [hst, dlv, hmp]; rfl
    | some b =>
      rw [hj] at hmp
      have hlt : T k < (M k).length := by
        apply Classical.byContradiction
        intro hc
        have : msg k (T k) X = [] := by
          rw [msg, List.filter_eq_nil_iff]
          intro c hcX hcc
          have h1 := hB.mids c (hX c hcX)
          simp only [Bool.and_eq_true, decide_eq_true_eq] at hcc
          rw [show c.stream.toNat = k by omega] at h1
          omega
        rw [this] at hj
        simp [join] at hj
      have hwh := hB.whole k (T k) hk hlt
      have hperm : (msg k (T k) X ++ msg k (T k) Y).Perm (msg k (T k) C) := by rw [← msg_app]; exact hXY.filter _
      have hYn : msg k (T k) Y = [] := by
        apply Classical.byContradiction
        intro hc
        have h1 := hperm.map pc
        rw [List.map_append] at h1
        have := join_lack h1 (by simpa using hc) hwh
        rw [this] at hj; cases hj
      rw [hYn, List.append_nil] at hperm
      have hb : b = (M k)[T k] := by
        have := join_perm (hperm.map pc)
        rw [hj, hwh] at this
        exact Option.some.inj this
      right
      refine ⟨bump { dropR r k (T k) true with log := r.log ++ [⟨k, T k, true, b⟩] } k, fun s => if s = k then T k + 1 else T s, hlt, ?_, ?_, by simp, fun s hs => by simp [hs]⟩
      · rw [hst, dlv, hmp]
        simp only [if_true]
      · refine ⟨?_, h.rise, h.above, h.num, rest_perm hB hX h.pieces hk rfl, ?_, ?_, ?_, ?_⟩
        · show r.turn.set k (r.turn[k]?.getD 0 + 1) = _
          rw [htk, h.turn]
          match k, hk with
          | 0, _ => simp
          | 1, _ => simp
        · intro s hs2
          show (r.log ++ [_]).filter _ = _
          rw [List.filter_append, h.log s hs2]
          by_cases e : s = k
          · subst e
            simp only [if_true]
            rw [List.range_succ, List.map_append]
            simp [hb, hlt]
          · have : ¬ ((k : Int) = (s : Int)) := by omega
            simp [this, e]
        · intro a ha
          rcases List.mem_append.1 ha with ha | ha
          · exact h.logs a ha
          · rw [List.mem_singleton] at ha
            subst ha
            show (k : Int) = 0 ∨ (k : Int) = 1
            omega
        · intro s hs2
          have := h.le s hs2
          by_cases e : s = k
          · subst e; simp; omega
          · simp [e]; omega
        · intro s j hs2 hjT
          by_cases e : s = k
          · subst e
            simp only [if_true] at hjT
            by_cases e2 : j = T s
            · subst e2; exact hperm.length_eq
            · exact h.done s j hs2 (by omega)
          · simp only [if_neg e] at hjT
            exact h.done s j hs2 hjT
  intro n
  induction n with
  | zero =>
    intro r T h hn
    rcases key r T h with ⟨h1, h2⟩ | ⟨r', T', h1, _⟩
    · rw [h2]; exact ⟨T, h, h1, fun _ _ => rfl⟩
    · omega
  | succ n ih =>
    intro r T h hn
    rcases key r T h with ⟨h1, h2⟩ | ⟨r', T', h1, h2, h3, h4, h5⟩
    · rw [h2]; exact ⟨T, h, h1, fun _ _ => rfl⟩
    · obtain ⟨T2, g1, g2, g3⟩ := ih r' T' h3 (by omega)
      rw [h2]
      exact ⟨T2, g1, g2, fun s hs => (g3 s hs).trans (h5 s hs)⟩
theorem up_num {l : List Span} {n : Int} (h : Ser.rise l) (hn : ∀ s ∈ l, n < s.lo) (m : Int) : (m ≤ (up l n).1 ∨ has (up l n).2 m = true) ↔ (m ≤ n ∨ has l m = true) := by
  cases l with
  | nil => simp [up, has]
  | cons s r =>
    have hs := hn s (by simp)
    have h1 := h.1
    by_cases c : s.lo ≤ n + 1
    · have hstop : up r s.hi = (s.hi, r) := by
        cases r with
        | nil => rfl
        | cons t r => rw [up, if_neg (by have := h.2.2.2.1 t (by simp); omega)]
      rw [up, if_pos c, if_pos (by omega), hstop]
      dsimp only
      rw [has_cons, Bool.or_eq_true, Bool.and_eq_true, decide_eq_true_eq, decide_eq_true_eq]
      constructor
      · rintro (h2 | h2)
        · by_cases h3 : m ≤ n
          · exact .inl h3
          · exact .inr (.inl ⟨by omega, h2⟩)
        · exact .inr (.inr h2)
      · rintro (h2 | ⟨h2, h3⟩ | h2)
        · exact .inl (by omega)
        · exact .inl h3
        · exact .inr h2
    · rw [up, if_neg c]
/-- one more chunk comes -/
theorem got_data (hB : Book C M) {c : Chunk} (hXY : (X ++ c :: Y).Perm C) (h : Got C M X r T) (hs : ∀ s, s < 2 → Stuck X T s) : ∃ T', Got C M (X ++ [c]) (data r c) T' ∧ ∀ s, s < 2 → Stuck (X ++ [c]) T' s := by
  have hX : ∀ x ∈ X, x ∈ C := fun x hx => hXY.mem_iff.1 (List.mem_append_left _ hx)
  have hcC : c ∈ C := hXY.mem_iff.1 (by simp)
  obtain ⟨k1, k2, k3⟩ := hB.kind c hcC
  have hk2 : c.stream.toNat < 2 := by rcases k3 with h | h <;> simp [h]
  have ht := hB.tags c hcC
  have hfew := hB.few
  have hlenXY := hXY.length_eq
  rw [List.length_append, List.length_cons] at hlenXY
  have hpw : (X ++ c :: Y).Pairwise fun a b => a.tag ≠ b.tag := (hXY.pairwise_iff fun {a b} hab => Ne.symm hab).2 hB.one
  have hnot : ∀ x ∈ X, x.tag ≠ c.tag := fun x hx => (List.pairwise_append.1 hpw).2.2 x hx c (by simp)
  have hnum := h.num c.tag
  have hfresh : ¬ (c.tag ≤ r.cum ∨ has r.spans c.tag = true) := by
    rw [hnum]
    rintro (h1 | ⟨x, hx, e⟩)
    · omega
    · exact hnot x hx e
  have hf1 : r.cum < c.tag := Int.not_le.1 fun hc => hfresh (.inl hc)
  have hf2 : has r.spans c.tag = false := by
    cases hh : has r.spans c.tag with
    | false => rfl
    | true => exact absurd (.inr hh) hfresh
  clear hfresh hnum
  have hcum : 6 ≤ r.cum := by
    have h1 := (h.num 6).2 (.inl (by omega))
    apply Classical.byContradiction
    intro hc
    rcases h1 with h1 | h1
    · omega
    · have h2 := (h.num (r.cum + 1)).2 (.inl (by omega))
      rcases h2 with h2 | h2
      · omega
      · obtain ⟨s, hs1, hs2, _⟩ := has_iff.1 h2
        have := h.above s hs1; omega
  have hcum2 : r.cum ≤ 6 + C.length := by
    have h1 := (h.num r.cum).1 (.inl (Int.le_refl _))
    rcases h1 with h1 | ⟨x, hx, e⟩
    · omega
    · have := hB.tags x (hX x hx); omega
  have hnear : near r.cum c.tag = c.tag := near_same (by omega) (by omega) (by omega) (by omega) rfl
  have hT0 := h.le c.stream.toNat (by omega)
  have hmid := hB.mids c hcC
  have hwaitc : wait T c = true := by
    rw [wait, decide_eq_true_eq]
    apply Classical.byContradiction
    intro hc
    have hd := h.done c.stream.toNat c.mid.toNat (by omega) (by omega)
    have hp : (msg c.stream.toNat c.mid.toNat X ++ msg c.stream.toNat c.mid.toNat (c :: Y)).Perm (msg c.stream.toNat c.mid.toNat C) := by rw [← msg_app]; exact hXY.filter _
    have hl := hp.length_eq
    rw [List.length_append] at hl
    have h0 : (msg c.stream.toNat c.mid.toNat (c :: Y)) = [] := List.eq_nil_of_length_eq_zero (by omega)
    have : c ∈ msg c.stream.toNat c.mid.toNat (c :: Y) := msg_mem.2 ⟨by simp, by omega, by omega⟩
    rw [h0] at this; cases this
  have hroom : tot r.pieces + c.data.length ≤ 400 := by
    have h1 : tot r.pieces = dsum (X.filter (wait T)) := by rw [tot_perm h.pieces, tot_pc]
    have h2 := dsum_filter (wait T) X
    have h3 : dsum X + (c.data.length + dsum Y) = dsum C := by
      have := (hXY.map fun c : Chunk => c.data.length).sum_nat
      simpa [dsum] using this
    have := hB.bytes
    omega
  have hlenT : r.turn.length = 2 := by rw [h.turn]; rfl
  have takes : Takes r c (near r.cum c.tag) := by
    rw [hnear]
    exact ⟨k1, by omega, by omega, hf1, hf2, .inr (by omega)⟩
  have e : data r c = turns (put r c) c.stream.toNat := by rw [data, if_pos takes, if_pos k2]
  have hadd := add_rise h.rise (n := c.tag) (by omega) (by omega)
  have hlow : ∀ s ∈ add r.spans c.tag, r.cum < s.lo := fun s hs1 => by
    have h1 := (rise_mem hadd.1 s hs1).1
    have h2 : has (add r.spans c.tag) s.lo = true := has_iff.2 ⟨s, hs1, Int.le_refl _, h1⟩
    rw [hadd.2, Bool.or_eq_true] at h2
    rcases h2 with h2 | h2
    · obtain ⟨t, ht1, ht2, _⟩ := has_iff.1 h2
      have := h.above t ht1; omega
    · have h2 : s.lo = c.tag := by simpa using h2
      omega
  obtain ⟨u1, u2, u3, u4, u5, -⟩ := up_fact (n := r.cum) hadd.1
  have hput : Got C M (X ++ [c]) (put r c) T := by
    refine ⟨h.turn, ?_, ?_, ?_, ?_, h.log, h.logs, h.le, ?_⟩
    · show Ser.rise (up (add r.spans (near r.cum c.tag)) r.cum).2
      rw [hnear]; exact u3
    · show ∀ s ∈ (up (add r.spans (near r.cum c.tag)) r.cum).2, (up (add r.spans (near r.cum c.tag)) r.cum).1 + 1 < s.lo
      rw [hnear]; exact u5
    · intro m
      show (m ≤ (up (add r.spans (near r.cum c.tag)) r.cum).1 ∨ has (up (add r.spans (near r.cum c.tag)) r.cum).2 m = true) ↔ _
      rw [hnear, up_num hadd.1 hlow, hadd.2, Bool.or_eq_true, ← or_assoc, h.num m]
      simp only [decide_eq_true_eq, List.mem_append, List.mem_singleton]
      constructor
      · rintro ((h1 | ⟨x, hx, ex⟩) | h1)
        · exact .inl h1
        · exact .inr ⟨x, .inl hx, ex⟩
        · exact .inr ⟨c, .inr rfl, h1.symm⟩
      · rintro (h1 | ⟨x, hx | hx, ex⟩)
        · exact .inl (.inl h1)
        · exact .inl (.inr ⟨x, hx, ex⟩)
        · exact .inr (by rw [← ex, hx])
    · show (r.pieces ++ [(⟨near r.cum c.tag, c⟩ : Piece)]).Perm _
      rw [hnear, List.filter_append, List.filter_cons, if_pos hwaitc, List.map_append]
      exact h.pieces.append_right _
    · intro s j hs2 hjT
      have hd := h.done s j hs2 hjT
      have hp : (msg s j X ++ msg s j (c :: Y)).Perm (msg s j C) := by rw [← msg_app]; exact hXY.filter _
      have hl := hp.length_eq
      rw [List.length_append] at hl
      have h0 : (msg s j (c :: Y)) = [] := List.eq_nil_of_length_eq_zero (by omega)
      have h1 : msg s j [c] = [] := by
        have : msg s j (c :: Y) = msg s j [c] ++ msg s j Y := by rw [← msg_app]; rfl
        rw [this] at h0
        exact (List.append_eq_nil_iff.1 h0).1
      rw [msg_app, h1, List.append_nil, hd]
  obtain ⟨T', g1, g2, g3⟩ := got_turns hB (X := X ++ [c]) (Y := Y) (by simpa using hXY) (k := c.stream.toNat) hk2 _ _ T hput (Nat.le_refl _)
  refine ⟨T', by rw [e]; exact g1, fun s hs2 => ?_⟩
  by_cases es : s = c.stream.toNat
  · rw [es]; exact g2
  · have h1 := hs s hs2
    unfold Stuck at h1 ⊢
    rw [g3 s es, msg_app]
    have : msg s (T s) [c] = [] := by
      rw [msg, List.filter_eq_nil_iff]
      intro x hx
      rw [List.mem_singleton] at hx
      subst hx
      simp; intro e; omega
    rw [this, List.append_nil]; exact h1
theorem got_fold (hB : Book C M) : ∀ (Y X : List Chunk) (r : Receiver) (T : Nat → Nat), (X ++ Y).Perm C → Got C M X r T → (∀ s, s < 2 → Stuck X T s) → ∃ T', Got C M (X ++ Y) (Y.foldl data r) T' ∧ ∀ s, s < 2 → Stuck (X ++ Y) T' s
  | [], X, r, T, _, h, hs => ⟨T, by rw [List.append_nil]; exact h, by rw [List.append_nil]; exact hs⟩
  | c :: Y, X, r, T, hp, h, hs => by
    obtain ⟨T', h1, h2⟩ := got_data hB hp h hs
    have e : X ++ c :: Y = (X ++ [c]) ++ Y := by simp
    rw [e] at hp ⊢
    exact got_fold hB Y (X ++ [c]) (data r c) T' hp h1 h2
end
/-- what comes of all chunks, in whatever order -/
structure AllIn (C : List Chunk) (M : Nat → List (List UInt8)) (r : Receiver) : Prop where
  cum : r.cum = 6 + C.length
  pieces : r.pieces = []
  log : ∀ s : Nat, s < 2 → (r.log.filter fun a => decide (a.stream = (s : Int))) = (List.range (M s).length).map fun j => ⟨s, j, true, (M s)[j]?.getD []⟩
  logs : ∀ a ∈ r.log, a.stream = 0 ∨ a.stream = 1
theorem all_in {C Y : List Chunk} {M : Nat → List (List UInt8)} (hB : Book C M) (hY : Y.Perm C) {r : Receiver} (h1 : r.turn = [0, 0]) (h2 : r.spans = []) (h3 : r.cum = 6) (h4 : r.pieces = []) (h5 : r.log = []) : AllIn C M (Y.foldl data r) := by
  have h0 : Got C M [] r fun _ => 0 := by
    refine ⟨h1, by rw [h2]; trivial, by rw [h2]; simp, fun m => ?_, by rw [h4]; exact List.Perm.refl _, fun s _ => by rw [h5]; rfl, by rw [h5]; simp, fun s _ => Nat.zero_le _, fun s j _ hj => by omega⟩
    rw [h2, h3]; simp [has]
  obtain ⟨T, g, gs⟩ := got_fold hB Y [] r _ (by simpa using hY) h0 fun s _ => by simp [Stuck, msg, join]
  rw [List.nil_append] at g gs
  generalize Y.foldl data r = x at g ⊢
  have hTall : ∀ s, s < 2 → T s = (M s).length := fun s hs2 => by
    have h6 := g.le s hs2
    apply Classical.byContradiction
    intro hc
    have h7 := hB.whole s (T s) hs2 (by omega)
    have h8 := gs s hs2
    have h9 := join_perm ((hY.filter (fun c => decide (c.stream = (s : Int)) && decide (c.mid = (T s : Int)))).map pc)
    unfold Stuck msg at h8
    unfold msg at h7
    rw [h8, h7] at h9; cases h9
  refine ⟨?_, ?_, fun s hs2 => by rw [← hTall s hs2]; exact g.log s hs2, g.logs⟩
  · have hlen := hY.length_eq
    have a1 := (g.num x.cum).1 (.inl (Int.le_refl _))
    have a2 : ¬ (x.cum + 1 ≤ 6 ∨ ∃ c ∈ Y, c.tag = x.cum + 1) := fun hc => by
      rcases (g.num (x.cum + 1)).2 hc with h6 | h6
      · omega
      · obtain ⟨s, hs1, hs2, _⟩ := has_iff.1 h6
        have := g.above s hs1; omega
    have a3 : ¬ (7 ≤ x.cum + 1 ∧ x.cum + 1 < 7 + C.length) := fun ⟨b1, b2⟩ => by
      obtain ⟨c, hc, e⟩ := hB.all _ b1 b2
      exact a2 (.inr ⟨c, hY.mem_iff.2 hc, e⟩)
    rcases a1 with a1 | ⟨c, hc, e⟩
    · have : 6 < x.cum + 1 := by
        apply Classical.byContradiction; intro hh; exact a2 (.inl (by omega))
      omega
    · have := hB.tags c (hY.mem_iff.1 hc); omega
  · have hp := g.pieces
    have : Y.filter (wait T) = [] := by
      rw [List.filter_eq_nil_iff]
      intro c hc
      have h6 := hB.kind c (hY.mem_iff.1 hc)
      have h7 := hB.mids c (hY.mem_iff.1 hc)
      have h8 := hTall c.stream.toNat (by omega)
      simp [wait]; omega
    rw [this] at hp
    exact hp.eq_nil
end Rcv
end Go.HL
