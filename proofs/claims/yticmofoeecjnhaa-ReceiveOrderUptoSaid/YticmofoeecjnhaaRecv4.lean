/- The receiver: how far it goes on. -/
import Derived.Test.YticmofoeecjnhaaRecv3
namespace Go.HL
open Go.Proofs
namespace Rcv
open Srt Jn Ser
set_option maxHeartbeats 1000000
set_option linter.unusedSimpArgs false
theorem joinL_tot {n : Nat} : ∀ {S : List Piece} {i : Nat} {b : List UInt8}, joinL n i S = some b → b.length = tot S
  | [], _, _, h => by rw [joinL] at h; cases h; rfl
  | p :: r, i, b, h => by
    rw [joinL] at h
    split at h
    · obtain ⟨d, hd, rfl⟩ := Option.map_eq_some_iff.1 h
      rw [List.length_append, tot_cons, joinL_tot hd]
    · cases h
theorem join_tot {l : List Piece} {b : List UInt8} (h : join l = some b) : b.length = tot l := by
  unfold join at h
  split at h
  · cases h
  · rw [joinL_tot h, tot_perm srt_perm]
/-- bytes of what was delivered -/
def logs (l : List Arrival) : Nat := (l.map fun a => a.data.length).sum
theorem logs_app (a b : List Arrival) : logs (a ++ b) = logs a + logs b := by simp [logs]
theorem logs_mem {l : List Arrival} {a : Arrival} (h : a ∈ l) : a.data.length ≤ logs l := by
  obtain ⟨x, y, rfl⟩ := List.append_of_mem h
  rw [logs_app]
  simp [logs]; omega
/-- what a receiver may come to, that goes on by d in turns -/
structure Goes (r r' : Receiver) (d : Nat) : Prop where
  len : r'.turn.length = r.turn.length
  cum : r'.cum = r.cum
  spans : r'.spans = r.spans
  config : r'.config = r.config
  pieces : r'.pieces.length ≤ r.pieces.length
  bytes : tot r'.pieces ≤ tot r.pieces
  log : r'.log.length + r'.pieces.length ≤ r.log.length + r.pieces.length
  mass : logs r'.log + tot r'.pieces ≤ logs r.log + tot r.pieces
  pre : r.log <+: r'.log
  lo : ∀ L : Int, (∀ t ∈ r.turn, L < t) → ∀ t ∈ r'.turn, L < t
  hi : ∀ T : Int, (∀ t ∈ r.turn, t + r.pieces.length ≤ T) → ∀ t ∈ r'.turn, t + r'.pieces.length ≤ T + d
theorem Goes.refl (r : Receiver) : Goes r r 0 := ⟨rfl, rfl, rfl, rfl, Nat.le_refl _, Nat.le_refl _, Nat.le_refl _, Nat.le_refl _, List.prefix_refl _, fun _ h => h, fun T h t ht => by have := h t ht; omega⟩
theorem Goes.trans {a b c : Receiver} {d e : Nat} (h : Goes a b d) (k : Goes b c e) : Goes a c (d + e) := by
  obtain ⟨a1, a2, a3, a4, a5, a6, a7, a8, a9, a10, a11⟩ := h
  obtain ⟨b1, b2, b3, b4, b5, b6, b7, b8, b9, b10, b11⟩ := k
  exact ⟨b1.trans a1, b2.trans a2, b3.trans a3, b4.trans a4, by omega, by omega, by omega, by omega, a9.trans b9, fun L h => b10 L (a10 L h), fun T h t ht => by have := b11 (T + d) (a11 T h) t ht; omega⟩
theorem Goes.more {a b : Receiver} {d e : Nat} (h : Goes a b d) (k : d ≤ e) : Goes a b e := { h with hi := fun T ht t hm => by have := h.hi T ht t hm; omega }
theorem part_len {l : List Piece} (f : Piece → Bool) : (l.filter fun p => !f p).length + (l.filter f).length = l.length := by
  induction l with
  | nil => rfl
  | cons p l ih =>
    rw [List.filter_cons, List.filter_cons]
    cases f p <;> simp <;> omega
theorem part_tot {l : List Piece} (f : Piece → Bool) : tot (l.filter fun p => !f p) + tot (l.filter f) = tot l := by
  induction l with
  | nil => rfl
  | cons p l ih =>
    rw [List.filter_cons, List.filter_cons]
    cases f p <;> simp [tot_cons] <;> omega
theorem drop_goes (r : Receiver) (s m : Int) (o : Bool) : Goes r (dropR r s m o) 0 := by
  have h1 := part_len (l := r.pieces) (mine s m o)
  have h2 := part_tot (l := r.pieces) (mine s m o)
  refine ⟨rfl, rfl, rfl, rfl, ?_, ?_, ?_, ?_, List.prefix_refl _, fun _ h => h, fun T h t ht => ?_⟩
  · show (r.pieces.filter fun p => !mine s m o p).length ≤ _; omega
  · show tot (r.pieces.filter fun p => !mine s m o p) ≤ _; omega
  · show _ + (r.pieces.filter fun p => !mine s m o p).length ≤ _; show r.log.length + _ ≤ _; omega
  · show _ + tot (r.pieces.filter fun p => !mine s m o p) ≤ _; show logs r.log + _ ≤ _; omega
  · have := h t ht
    show t + ((r.pieces.filter fun p => !mine s m o p).length : Int) ≤ _; omega
theorem dlv_goes (r : Receiver) (s m : Int) (o : Bool) : Goes r (dlv r s m o).1 0 := by
  obtain ⟨a1, a2, a3, a4, a5, a6, a7⟩ := dlv_keeps r s m o
  refine ⟨by rw [a1], a2, a3, a4, a5, a6, a7, ?_, ?_, fun L h => by rw [a1]; exact h, fun T h t ht => by rw [a1] at ht; have := h t ht; omega⟩
  · unfold dlv
    split
    · exact Nat.le_refl _
    · rename_i b hj
      have h1 := join_tot hj
      have h2 := part_tot (l := r.pieces) (mine s m o)
      show logs (r.log ++ [_]) + tot (r.pieces.filter fun p => !mine s m o p) ≤ _
      rw [logs_app]
      simp only [logs, List.map_cons, List.map_nil, List.sum_cons, List.sum_nil] at *
      omega
  · unfold dlv
    split
    · exact List.prefix_refl _
    · exact List.prefix_append _ _
theorem set_mem {l : List Int} {k : Nat} {t : Int} (h : t ∈ l.set k (l[k]?.getD 0 + 1)) : t ∈ l ∨ (t - 1 ∈ l) := by
  by_cases hk : k < l.length
  · rcases List.mem_or_eq_of_mem_set h with h | h
    · exact .inl h
    · right
      rw [h, List.getElem?_eq_getElem hk]
      simp only [Option.getD_some]
      rw [show l[k] + 1 - 1 = l[k] by omega]
      exact List.getElem_mem hk
  · rw [List.set_eq_of_length_le (by omega)] at h
    exact .inl h
theorem bump_goes (r : Receiver) (k : Nat) : Goes r (bump r k) 1 := by
  refine ⟨by show (r.turn.set k _).length = _; rw [List.length_set], rfl, rfl, rfl, Nat.le_refl _, Nat.le_refl _, Nat.le_refl _, Nat.le_refl _, List.prefix_refl _, fun L h t ht => ?_, fun T h t ht => ?_⟩
  · rcases set_mem ht with h1 | h1
    · exact h t h1
    · have := h _ h1; omega
  · show t + (r.pieces.length : Int) ≤ _
    rcases set_mem ht with h1 | h1
    · have := h t h1; omega
    · have := h _ h1; omega
theorem bump_goes0 {r x : Receiver} (k : Nat) (h : Goes r x 0) (hl : x.pieces.length < r.pieces.length) (ht : x.turn = r.turn) : Goes r (bump x k) 0 := by
  have h1 := h.trans (bump_goes x k)
  refine { h1 with hi := fun T hT t htm => ?_ }
  show t + (x.pieces.length : Int) ≤ _
  rcases set_mem htm with h2 | h2
  · rw [ht] at h2; have := hT t h2; omega
  · rw [ht] at h2; have := hT _ h2; omega
theorem turns_goes : ∀ (n : Nat) (r : Receiver) (k : Nat), r.pieces.length < n → Goes r (turns r k) 0
  | 0, r, k, h => by omega
  | n + 1, r, k, h => by
    rw [turns_step]
    have h1 := dlv_goes r k (tag (r.turn[k]?.getD 0)) true
    split
    · rename_i hd
      have h2 := dlv_less hd
      have h3 := bump_goes0 k h1 h2 (dlv_keeps r k (tag (r.turn[k]?.getD 0)) true).1
      exact h3.trans (turns_goes n _ k (by show (dlv r k (tag (r.turn[k]?.getD 0)) true).1.pieces.length < n; omega))
    · exact h1
theorem pass_goes (r : Receiver) (k : Nat) : Goes r (pass r k) 1 := by
  have h1 := dlv_goes r k (tag (r.turn[k]?.getD 0)) true
  unfold pass
  split
  · exact h1.trans (bump_goes _ _)
  · exact (h1.trans (drop_goes _ _ _ _)).trans (bump_goes _ _)
theorem passes_goes : ∀ (n : Nat) (r : Receiver) (k : Nat), Goes r (passes n r k) n
  | 0, r, _ => Goes.refl r
  | n + 1, r, k => ((pass_goes r k).trans (passes_goes n _ k)).more (by omega)
theorem skip_goes (r : Receiver) (s : Skip) (h : ∀ t ∈ r.turn, -(2 ^ 60) < t ∧ t < 2 ^ 60) : Goes r (skip1 r s) 32769 := by
  unfold skip1
  split
  · exact (Goes.refl r).more (by omega)
  split
  · exact (drop_goes _ _ _ _).more (by omega)
  rename_i c _
  have hk : s.stream.toNat < r.turn.length := by omega
  have hb := h _ (List.getElem_mem hk)
  have hg : r.turn[s.stream.toNat]?.getD 0 = r.turn[s.stream.toNat] := by simp [hk]
  obtain ⟨n1, n2, n3⟩ := near_lo (a := r.turn[s.stream.toNat]) (t := s.mid) (by omega) (by omega)
  have h1 := passes_goes (near r.turn[s.stream.toNat] s.mid + 1 - r.turn[s.stream.toNat]).toNat r s.stream.toNat
  refine (Goes.trans (b := upto r s.stream.toNat (near (r.turn[s.stream.toNat]?.getD 0) s.mid)) (d := 32769) (e := 0) ?_ (turns_goes _ _ _ (Nat.lt_succ_self _)))
  unfold upto
  rw [hg]
  exact h1.more (by omega)
theorem fold_goes : ∀ (l : List Skip) (r : Receiver) (L T : Int), -(2 ^ 59) ≤ L → T + l.length * 32769 < 2 ^ 59 → (∀ t ∈ r.turn, L < t) → (∀ t ∈ r.turn, t + r.pieces.length ≤ T) → Goes r (l.foldl skip1 r) (l.length * 32769)
  | [], r, _, _, _, _, _, _ => (Goes.refl r).more (by omega)
  | s :: l, r, L, T, h1, h2, h3, h4 => by
    rw [List.length_cons] at h2
    have g := skip_goes r s fun t ht => by have := h3 t ht; have := h4 t ht; omega
    have g2 := fold_goes l (skip1 r s) L (T + 32769) h1 (by omega) (g.lo L h3) (g.hi T h4)
    rw [List.foldl_cons, List.length_cons]
    exact (g.trans g2).more (by omega)
def forward (r : Receiver) (c : Chunk) : Receiver :=
  if ¬ c.kind = 3 ∨ near r.cum c.tag ≤ r.cum then r else c.skips.foldl skip1 { r with cum := (up r.spans (near r.cum c.tag)).1, spans := (up r.spans (near r.cum c.tag)).2 }
theorem put_goes (r : Receiver) (c : Chunk) : ∀ T : Int, (∀ t ∈ r.turn, t + r.pieces.length ≤ T) → ∀ t ∈ (put r c).turn, t + (put r c).pieces.length ≤ T + 1 := fun T h t ht => by
  have := h t ht
  show t + ((r.pieces ++ [_]).length : Int) ≤ _
  simp; omega
/-- a receiver to which N have come -/
structure RFit (N : Nat) (r : Receiver) : Prop where
  log : r.log.length + r.pieces.length ≤ N
  mass : logs r.log + tot r.pieces ≤ N
  many : r.spans.length ≤ N
  rise : rise r.spans
  above : ∀ s ∈ r.spans, r.cum + 1 < s.lo
  his : ∀ s ∈ r.spans, s.hi ≤ r.cum + 32768
  cum1 : -1 ≤ r.cum
  cum2 : r.cum ≤ 100000 + 32768 * N
  lo : ∀ t ∈ r.turn, -1 < t
  hi : ∀ t ∈ r.turn, t + r.pieces.length ≤ 32769 * N
  streams : r.turn.length < 2 ^ 30
theorem RFit.more {N M : Nat} {r : Receiver} (h : RFit N r) (k : N ≤ M) : RFit M r :=
  ⟨by have := h.log; omega, by have := h.mass; omega, by have := h.many; omega, h.rise, h.above, h.his, h.cum1, by have := h.cum2; omega, h.lo, fun t ht => by have := h.hi t ht; omega, h.streams⟩
theorem RFit.fit {N : Nat} {r : Receiver} (h : RFit N r) (hN : N ≤ 2 ^ 20) : Fit r := by
  obtain ⟨h1, h2, h3, h4, h5, h6, h7, h8, h9, h10, h11⟩ := h
  exact ⟨by omega, by omega, by omega, by omega, by omega, fun a ha => by have := logs_mem ha; omega⟩
theorem RFit.dfit {N : Nat} {r : Receiver} (h : RFit N r) (hN : N ≤ 2 ^ 20) {c : Chunk} (hc : c.data.length ≤ 2 ^ 20) : DFit r c := by
  have hf := h.fit hN
  obtain ⟨h1, h2, h3, h4, h5, h6, h7, h8, h9, h10, h11⟩ := h
  exact ⟨hf, h4, fun s hs => by have := h6 s hs; omega, by omega, by omega, fun t ht => by have := h9 t ht; have := h10 t ht; omega, by omega, by omega, by omega⟩
theorem up_fact : ∀ {l : List Span} {n : Int} (_ : Ser.rise l), n ≤ (up l n).1 ∧ (up l n).2.length ≤ l.length ∧ Ser.rise (up l n).2 ∧ (∀ s ∈ (up l n).2, s ∈ l) ∧ (∀ s ∈ (up l n).2, (up l n).1 + 1 < s.lo) ∧ ((up l n).1 = n ∨ ∃ s ∈ l, (up l n).1 = s.hi)
  | [], n, _ => by simp [up, Ser.rise]
  | s :: r, n, h => by
    rw [up]
    split
    · rename_i c
      have ih := up_fact (l := r) (n := if s.hi > n then s.hi else n) h.2.2.2.2
      have h1 : n ≤ (if s.hi > n then s.hi else n) := by split <;> omega
      have h2 : (if s.hi > n then s.hi else n) = n ∨ (if s.hi > n then s.hi else n) = s.hi := by split <;> simp
      generalize (if s.hi > n then s.hi else n) = n' at *
      obtain ⟨i1, i2, i3, i4, i5, i6⟩ := ih
      refine ⟨by omega, by simp; omega, i3, fun t ht => by simp [i4 t ht], i5, ?_⟩
      rcases i6 with i6 | ⟨t, ht, e⟩
      · rcases h2 with h2 | h2
        · exact .inl (i6.trans h2)
        · exact .inr ⟨s, by simp, i6.trans h2⟩
      · exact .inr ⟨t, by simp [ht], e⟩
    · rename_i c
      refine ⟨Int.le_refl _, Nat.le_refl _, h, fun t ht => ht, fun t ht => ?_, .inl rfl⟩
      have h0 := h.1
      rcases List.mem_cons.1 ht with rfl | ht
      · omega
      · have := h.2.2.2.1 t ht; omega
theorem up_in : ∀ {l : List Span} {n m : Int} (_ : Ser.rise l), has l m = true → m ≤ (up l n).1 ∨ has (up l n).2 m = true
  | [], n, m, _, h => by simp [has] at h
  | s :: r, n, m, h, hm => by
    rw [up]
    split
    · rename_i c
      rw [has_cons, Bool.or_eq_true] at hm
      have u := (up_fact (n := if s.hi > n then s.hi else n) h.2.2.2.2).1
      have h1 : s.hi ≤ (if s.hi > n then s.hi else n) := by split <;> omega
      rcases hm with hm | hm
      · left
        have : m ≤ s.hi := by simp at hm; exact hm.2
        omega
      · exact up_in h.2.2.2.2 hm
    · exact .inr hm
theorem RFit.goes {N d e : Nat} {r r' : Receiver} (h : RFit N r) (g : Goes r r' d) (hd : d ≤ 32769 * e) : RFit (N + e) r' := by
  obtain ⟨h1, h2, h3, h4, h5, h6, h7, h8, h9, h10, h11⟩ := h
  obtain ⟨a1, a2, a3, a4, a5, a6, a7, a8, a9, a10, a11⟩ := g
  exact ⟨by omega, by omega, by rw [a3]; omega, by rw [a3]; exact h4, by rw [a2, a3]; exact h5, fun s hs => by rw [a3] at hs; have := h6 s hs; omega, by omega, by omega, a10 _ h9, fun t ht => by have := a11 _ h10 t ht; omega, by omega⟩
theorem RFit.put {N : Nat} {r : Receiver} (h : RFit N r) (hN : N ≤ 2 ^ 21) {c : Chunk} (ht : Takes r c (near r.cum c.tag)) : RFit (N + (c.data.length + 1)) (put r c) := by
  obtain ⟨h1, h2, h3, h4, h5, h6, h7, h8, h9, h10, h11⟩ := h
  obtain ⟨n1, n2, n3⟩ := near_lo (a := r.cum) (t := c.tag) (by omega) (by omega)
  have ha := ht.above
  unfold Rcv.put
  generalize near r.cum c.tag = n at *
  have hadd := add_hi (n := n) (M := r.cum + 32768) h4 (by omega) (by omega) (fun s hs => by have := h6 s hs; omega) (by omega)
  have hal := add_len1 r.spans n
  obtain ⟨u1, u2, u3, u4, u5, u6⟩ := up_fact (n := r.cum) (add_rise h4 (n := n) (by omega) (by omega)).1
  refine ⟨?_, ?_, ?_, u3, u5, fun s hs => ?_, ?_, ?_, h9, ?_, h11⟩
  · simp only [List.length_append, List.length_singleton]; omega
  · dsimp only
    rw [tot_app, tot_cons]
    have : tot [] = 0 := rfl
    dsimp only; omega
  · dsimp only; omega
  · have := hadd s (u4 s hs); dsimp only; omega
  · dsimp only; omega
  · dsimp only
    rcases u6 with u6 | ⟨s, hs, u6⟩
    · omega
    · have := hadd s hs; omega
  · intro t htt
    have := h10 t htt
    simp only [List.length_append, List.length_singleton]; omega
theorem data_fit {N : Nat} {r : Receiver} (h : RFit N r) (hN : N ≤ 2 ^ 21) (c : Chunk) : RFit (N + (c.data.length + 1)) (data r c) := by
  unfold data
  split
  · rename_i ht
    have hp := h.put hN ht
    split
    · exact hp.goes (e := 0) (turns_goes _ _ _ (Nat.lt_succ_self _)) (Nat.zero_le _)
    · exact hp.goes (e := 0) (dlv_goes _ _ _ _) (Nat.zero_le _)
  · exact h.more (by omega)
theorem forward_fit {N : Nat} {r : Receiver} (h : RFit N r) (hN : N ≤ 2 ^ 21) (c : Chunk) (hc : c.skips.length ≤ 2 ^ 21) : RFit (N + (c.skips.length + 1)) (forward r c) := by
  unfold forward
  split
  · exact h.more (by omega)
  rename_i ht
  obtain ⟨h1, h2, h3, h4, h5, h6, h7, h8, h9, h10, h11⟩ := h
  obtain ⟨n1, n2, n3⟩ := near_lo (a := r.cum) (t := c.tag) (by omega) (by omega)
  have ha : r.cum < near r.cum c.tag := by
    apply Classical.byContradiction; intro hc; exact ht (.inr (by omega))
  generalize near r.cum c.tag = n at *
  obtain ⟨u1, u2, u3, u4, u5, u6⟩ := up_fact (n := n) h4
  have hw : RFit (N + 1) { r with cum := (up r.spans n).1, spans := (up r.spans n).2 } := by
    refine ⟨by dsimp only; omega, by dsimp only; omega, by dsimp only; omega, u3, u5, fun s hs => ?_, by dsimp only; omega, ?_, h9, fun t htt => by have := h10 t htt; dsimp only; omega, h11⟩
    · have := h6 s (u4 s hs); dsimp only; omega
    · dsimp only
      rcases u6 with u6 | ⟨s, hs, u6⟩
      · omega
      · have := h6 s hs; omega
  have g := fold_goes c.skips { r with cum := (up r.spans n).1, spans := (up r.spans n).2 } (-1) (32769 * N) (by omega) (by omega) h9 h10
  exact (hw.goes (e := c.skips.length) g (by omega)).more (by omega)
/-- a chunk that comes again does nothing -/
theorem near_same {a t n : Int} (h1 : -(2 ^ 61) ≤ a) (h2 : a ≤ 2 ^ 61) (h3 : a - 32767 ≤ n) (h4 : n ≤ a + 32768) (h5 : tag n = tag t) : near a t = n := by
  obtain ⟨n1, n2, n3⟩ := near_lo (a := a) (t := t) h1 h2
  rw [← h5] at n3
  unfold tag at n3; omega
theorem data_twice {N : Nat} {r : Receiver} (h : RFit N r) (hN : N ≤ 2 ^ 21) (c : Chunk) : data (data r c) c = data r c ∧ r.cum ≤ (data r c).cum ∧ r.log <+: (data r c).log := by
  by_cases ht : Takes r c (near r.cum c.tag)
  case neg =>
    have e : data r c = r := by rw [data, if_neg ht]
    rw [e]; exact ⟨e, Int.le_refl _, List.prefix_refl _⟩
  have hp := h.put hN ht
  obtain ⟨h1, h2, h3, h4, h5, h6, h7, h8, h9, h10, h11⟩ := h
  obtain ⟨n1, n2, n3⟩ := near_lo (a := r.cum) (t := c.tag) (by omega) (by omega)
  have ha := ht.above
  have hg : Goes (put r c) (data r c) 0 := by
    rw [data, if_pos ht]
    split
    · exact turns_goes _ _ _ (Nat.lt_succ_self _)
    · exact dlv_goes _ _ _ _
  have hcum := hg.cum
  have hspans := hg.spans
  have hlog := hg.pre
  generalize data r c = y at hcum hspans hlog ⊢
  have hadd := add_hi (n := near r.cum c.tag) (M := r.cum + 32768) h4 (by omega) (by omega) (fun s hs => by have := h6 s hs; omega) (by omega)
  obtain ⟨ar, ah⟩ := add_rise h4 (n := near r.cum c.tag) (by omega) (by omega)
  obtain ⟨u1, u2, u3, u4, u5, u6⟩ := up_fact (n := r.cum) ar
  have hc : y.cum = (up (add r.spans (near r.cum c.tag)) r.cum).1 := hcum
  have hs : y.spans = (up (add r.spans (near r.cum c.tag)) r.cum).2 := hspans
  have hin := up_in (n := r.cum) (m := near r.cum c.tag) ar (by rw [ah]; simp)
  rw [← hc, ← hs] at hin
  rw [← hc] at u1 u6
  have hy : y.cum ≤ r.cum + 32768 := by
    rcases u6 with u6 | ⟨s, hs, u6⟩
    · omega
    · have := hadd s hs; omega
  refine ⟨?_, by omega, hlog⟩
  have hn : near y.cum c.tag = near r.cum c.tag := near_same (by omega) (by omega) (by omega) (by omega) n3
  rw [data, if_neg]
  intro hc
  have q1 := hc.above
  have q2 := hc.fresh
  rw [hn] at q1 q2
  rcases hin with hin | hin
  · omega
  · rw [q2] at hin; cases hin
theorem forward_twice {N : Nat} {r : Receiver} (h : RFit N r) (hN : N ≤ 2 ^ 21) (c : Chunk) (hc : c.skips.length ≤ 2 ^ 21) : forward (forward r c) c = forward r c ∧ r.cum ≤ (forward r c).cum ∧ r.log <+: (forward r c).log := by
  by_cases ht : ¬ c.kind = 3 ∨ near r.cum c.tag ≤ r.cum
  case pos =>
    have e : forward r c = r := by rw [forward, if_pos ht]
    rw [e]; exact ⟨e, Int.le_refl _, List.prefix_refl _⟩
  obtain ⟨h1, h2, h3, h4, h5, h6, h7, h8, h9, h10, h11⟩ := h
  obtain ⟨n1, n2, n3⟩ := near_lo (a := r.cum) (t := c.tag) (by omega) (by omega)
  have ha : r.cum < near r.cum c.tag := by
    apply Classical.byContradiction; intro hc; exact ht (.inr (by omega))
  have g := fold_goes c.skips { r with cum := (up r.spans (near r.cum c.tag)).1, spans := (up r.spans (near r.cum c.tag)).2 } (-1) (32769 * N) (by omega) (by omega) h9 h10
  have e : forward r c = c.skips.foldl skip1 { r with cum := (up r.spans (near r.cum c.tag)).1, spans := (up r.spans (near r.cum c.tag)).2 } := by rw [forward, if_neg ht]
  rw [← e] at g
  have hcum : (forward r c).cum = (up r.spans (near r.cum c.tag)).1 := g.cum
  have hlog : r.log <+: (forward r c).log := g.pre
  generalize forward r c = y at hcum hlog ⊢
  obtain ⟨u1, u2, u3, u4, u5, u6⟩ := up_fact (n := near r.cum c.tag) h4
  rw [← hcum] at u1 u6
  have hy : y.cum ≤ r.cum + 32768 := by
    rcases u6 with u6 | ⟨s, hs, u6⟩
    · omega
    · have := h6 s hs; omega
  refine ⟨?_, by omega, hlog⟩
  have hn : near y.cum c.tag = near r.cum c.tag := near_same (by omega) (by omega) (by omega) (by omega) n3
  rw [forward, if_pos (.inr (by rw [hn]; omega))]
end Rcv
end Go.HL
