/- The receiver: what comes, what is gone without, and what is told. -/
import Derived.Test.YticmofoeecjnhaaRecv
namespace Go.HL
open Go.Proofs
namespace Rcv
open Srt Jn Ser
set_option maxHeartbeats 4000000
set_option maxRecDepth 100000
set_option linter.unusedSimpArgs false
theorem spec_turn_z (r : Receiver) (k : Nat) (z : Int) (hz : z = k) (hf : TFit r k) :
    FunOK Try.prog 39 [.ptr 1000000 0, i64 z] (lk .free (tkH r)) (.tup []) (lk .free (tkD (turns r k))) := by
  subst hz; exact spec_turn r k hf
/-- is a chunk nothing new, or has no room? -/
structure Takes (r : Receiver) (c : Chunk) (n : Int) : Prop where
  kind : c.kind = 1
  low : 0 ≤ c.stream
  high : c.stream < r.turn.length
  above : r.cum < n
  fresh : has r.spans n = false
  room : n = r.cum + 1 ∨ (tot r.pieces : Int) + c.data.length ≤ 400
/-- what has come is put in -/
def put (r : Receiver) (c : Chunk) : Receiver :=
  { r with pieces := r.pieces ++ [⟨near r.cum c.tag, c⟩], cum := (up (add r.spans (near r.cum c.tag)) r.cum).1, spans := (up (add r.spans (near r.cum c.tag)) r.cum).2 }
open Classical in
noncomputable def data (r : Receiver) (c : Chunk) : Receiver := if Takes r c (near r.cum c.tag) then (if c.ordered then turns (put r c) c.stream.toNat else (dlv (put r c) c.stream c.mid false).1) else r
structure DFit (r : Receiver) (c : Chunk) : Prop where
  fit : Fit r
  rise : rise r.spans
  hi : ∀ s ∈ r.spans, s.hi ≤ 2 ^ 39
  cum1 : -(2 ^ 39) ≤ r.cum
  cum2 : r.cum ≤ 2 ^ 39
  turn : ∀ t ∈ r.turn, -(2 ^ 59) < t ∧ t < 2 ^ 59
  data : c.data.length < 2 ^ 21
  more : tot r.pieces < 2 ^ 21
  many : r.pieces.length < 2 ^ 21
theorem add_hi {l : List Span} {n M : Int} (h : Ser.rise l) (h1 : -9223372036854775808 ≤ n) (h2 : n ≤ 9223372036854775807) (hl : ∀ s ∈ l, s.hi ≤ M) (hn : n ≤ M) : ∀ s ∈ add l n, s.hi ≤ M := by
  obtain ⟨r1, r2⟩ := add_rise h h1 h2
  intro s hs
  have h3 := (rise_mem r1 s hs).1
  have h4 : has (add l n) s.hi = true := has_iff.2 ⟨s, hs, h3, Int.le_refl _⟩
  rw [r2, Bool.or_eq_true] at h4
  rcases h4 with h4 | h4
  · obtain ⟨t, ht, _, h5⟩ := has_iff.1 h4
    have := hl t ht; omega
  · have : s.hi = n := by simpa using h4
    omega
theorem add_len1 (l : List Span) (n : Int) : (add l n).length ≤ l.length + 1 := by
  unfold add
  split
  · omega
  · have h1 : (cutL n (below l n)).1.length ≤ (below l n).length := by
      unfold cutL; split
      · split
        · simp
        · exact Nat.le_refl _
      · exact Nat.le_refl _
    have h2 : (cutR n (above l n)).2.length ≤ (above l n).length := by
      cases above l n with
      | nil => exact Nat.le_refl _
      | cons t r => simp only [cutR]; split <;> simp
    have h3 : l.length = (below l n).length + (above l n).length := by conv => lhs; rw [split l n]
                                                                       exact List.length_append
    simp only [List.length_append, List.length_cons]; omega
theorem spec_data (r : Receiver) (c : Chunk) (hf : DFit r c) : FunOK Try.prog 15 [r.hv, c.hv] noHeap (rcvO (data r c) 0 1 2 3) (lk .free (rcvB (data r c) 0 1 2 3 [])) := by
  obtain ⟨h1, h2, h3, h4, h5, h6, h7, h8, h9⟩ := hf
  obtain ⟨n1, n2, n3⟩ := near_lo (a := r.cum) (t := c.tag) (by omega) (by omega)
  generalize hD : data r c = D
  refine funOK_of mixed Try.func15 (by decide) [] (fun _ => .inl rfl) ?_
  conv => whnf
  ((refine hcall_own [(0, 910), (1, 911), (2, 912), (3, 913)]  ?_; (conv => whnf); refine ⟨_, _,  spec_own r h1, ⟨⟨⟨rfl, rfl⟩, ⟨⟨rfl, rfl⟩, ⟨⟨rfl, rfl⟩, ⟨⟨rfl, rfl⟩, trivial⟩⟩⟩⟩, rfl, rfl, rfl⟩, ?_⟩; conv => whnf); try (refine hcut.go ?_; conv => whnf))
  ((refine hcall_lend ?_; (conv => whnf); refine ⟨_, spec_near r.cum c.tag, rfl, ?_⟩; conv => whnf); try (refine hcut.go ?_; conv => whnf))
  have no : ¬ Takes r c (near r.cum c.tag) → D = r := fun h => by rw [← hD, data, if_neg h]
  by_cases c1 : c.kind = 1
  case neg =>
    obtain rfl := no fun h => c1 h.1
    refine hif_true (by simpa using c1) ?_; conv => whnf
    ((refine hdraw_intro ?_ ?_; (· kernel_rfl); conv => whnf); try (refine hcut.go ?_; conv => whnf))
    (exact hfin_of [(0, some 910), (1, some 911), (2, some 912), (3, some 913)] rfl rfl (by repeat' (first | exact trivial | (refine ⟨rfl, ?_⟩))) rfl (by first | rfl ) (by repeat' (first | exact trivial | exact rfl | exact .inl rfl | exact .inr rfl | (refine ⟨⟨rfl, .inl ⟨_, rfl, ?_⟩⟩, ?_⟩) | (refine ⟨⟨rfl, _, rfl, ?_⟩, ?_⟩) | (refine ⟨⟨rfl, .inr ⟨rfl, ?_⟩⟩, ?_⟩) | (refine ⟨rfl, ?_⟩) | (simp; done) | (simp; rfl))))
  refine hif_false (by simp [c1]) ?_; conv => whnf
  by_cases c2 : c.stream < 0
  · obtain rfl := no fun h => by have := h.2; omega
    refine hif_true (by simpa using c2) ?_; conv => whnf
    ((refine hdraw_intro ?_ ?_; (· kernel_rfl); conv => whnf); try (refine hcut.go ?_; conv => whnf))
    (exact hfin_of [(0, some 910), (1, some 911), (2, some 912), (3, some 913)] rfl rfl (by repeat' (first | exact trivial | (refine ⟨rfl, ?_⟩))) rfl (by first | rfl ) (by repeat' (first | exact trivial | exact rfl | exact .inl rfl | exact .inr rfl | (refine ⟨⟨rfl, .inl ⟨_, rfl, ?_⟩⟩, ?_⟩) | (refine ⟨⟨rfl, _, rfl, ?_⟩, ?_⟩) | (refine ⟨⟨rfl, .inr ⟨rfl, ?_⟩⟩, ?_⟩) | (refine ⟨rfl, ?_⟩) | (simp; done) | (simp; rfl))))
  refine hif_false (by simpa using c2) ?_; conv => whnf
  by_cases c3 : c.stream ≥ r.turn.length
  · obtain rfl := no fun h => by have := h.3; omega
    refine hif_true (by simpa using c3) ?_; conv => whnf
    ((refine hdraw_intro ?_ ?_; (· kernel_rfl); conv => whnf); try (refine hcut.go ?_; conv => whnf))
    (exact hfin_of [(0, some 910), (1, some 911), (2, some 912), (3, some 913)] rfl rfl (by repeat' (first | exact trivial | (refine ⟨rfl, ?_⟩))) rfl (by first | rfl ) (by repeat' (first | exact trivial | exact rfl | exact .inl rfl | exact .inr rfl | (refine ⟨⟨rfl, .inl ⟨_, rfl, ?_⟩⟩, ?_⟩) | (refine ⟨⟨rfl, _, rfl, ?_⟩, ?_⟩) | (refine ⟨⟨rfl, .inr ⟨rfl, ?_⟩⟩, ?_⟩) | (refine ⟨rfl, ?_⟩) | (simp; done) | (simp; rfl))))
  refine hif_false (by simpa using c3) ?_; conv => whnf
  by_cases c4 : near r.cum c.tag ≤ r.cum
  · obtain rfl := no fun h => by have := h.4; omega
    refine hif_true (by simpa using c4) ?_; conv => whnf
    ((refine hdraw_intro ?_ ?_; (· kernel_rfl); conv => whnf); try (refine hcut.go ?_; conv => whnf))
    (exact hfin_of [(0, some 910), (1, some 911), (2, some 912), (3, some 913)] rfl rfl (by repeat' (first | exact trivial | (refine ⟨rfl, ?_⟩))) rfl (by first | rfl ) (by repeat' (first | exact trivial | exact rfl | exact .inl rfl | exact .inr rfl | (refine ⟨⟨rfl, .inl ⟨_, rfl, ?_⟩⟩, ?_⟩) | (refine ⟨⟨rfl, _, rfl, ?_⟩, ?_⟩) | (refine ⟨⟨rfl, .inr ⟨rfl, ?_⟩⟩, ?_⟩) | (refine ⟨rfl, ?_⟩) | (simp; done) | (simp; rfl))))
  refine hif_false (by simpa using c4) ?_; conv => whnf
  ((refine hcall_lend ?_; (conv => whnf); refine ⟨_, spec_has r.spans (near r.cum c.tag) (by have := h1.spans; omega), rfl, ?_⟩; conv => whnf); try (refine hcut.go ?_; conv => whnf))
  cases c5 : has r.spans (near r.cum c.tag) with
  | true =>
    obtain rfl := no fun h => by have := h.5; rw [c5] at this; cases this
    conv => whnf
    ((refine hdraw_intro ?_ ?_; (· kernel_rfl); conv => whnf); try (refine hcut.go ?_; conv => whnf))
    (exact hfin_of [(0, some 910), (1, some 911), (2, some 912), (3, some 913)] rfl rfl (by repeat' (first | exact trivial | (refine ⟨rfl, ?_⟩))) rfl (by first | rfl ) (by repeat' (first | exact trivial | exact rfl | exact .inl rfl | exact .inr rfl | (refine ⟨⟨rfl, .inl ⟨_, rfl, ?_⟩⟩, ?_⟩) | (refine ⟨⟨rfl, _, rfl, ?_⟩, ?_⟩) | (refine ⟨⟨rfl, .inr ⟨rfl, ?_⟩⟩, ?_⟩) | (refine ⟨rfl, ?_⟩) | (simp; done) | (simp; rfl))))
  | false =>
  conv => whnf
  ((refine hwrap_fit (W_fit ?_ ?_) ?_; (· (first | omega | (simp only [List.length_map, List.length_append, List.length_take, List.length_drop, List.length_cons, List.length_nil] <;> omega) | (simp <;> omega))); (· (first | omega | (simp only [List.length_map, List.length_append, List.length_take, List.length_drop, List.length_cons, List.length_nil] <;> omega) | (simp <;> omega))); conv => whnf); try (refine hcut.go ?_; conv => whnf))
  have g1 := h1.spans
  have g2 := h1.log
  have rest : Takes r c (near r.cum c.tag) → D = if c.ordered then turns (put r c) c.stream.toNat else (dlv (put r c) c.stream c.mid false).1 := fun h => by rw [← hD, data, if_pos h]
  have hput : tot (put r c).pieces = tot r.pieces + c.data.length := by show tot (r.pieces ++ [_]) = _; rw [tot_app, tot_cons]; rfl
  have hpl : (put r c).pieces.length = r.pieces.length + 1 := by show (r.pieces ++ [_]).length = _; simp
  have hadd := add_hi (n := near r.cum c.tag) (M := 1099511627776) h2 (by omega) (by omega) (fun s hs => by have := h3 s hs; omega) (by omega)
  have hal := add_len1 r.spans (near r.cum c.tag)
  by_cases c6 : near r.cum c.tag = r.cum + 1
  case' pos =>
    have ok : Takes r c (near r.cum c.tag) := ⟨c1, by omega, by omega, by omega, c5, .inl c6⟩
    refine hif_false (by simpa using c6) ?_; conv => whnf
    ((refine hdraw_intro ?_ ?_; (· kernel_rfl); conv => whnf); try (refine hcut.go ?_; conv => whnf))
  case' neg =>
    refine hif_true (by simpa using c6) ?_; conv => whnf
    ((refine hcall_lend ?_; (conv => whnf); refine ⟨_, spec_held r (by omega) (by omega), rfl, ?_⟩; conv => whnf); try (refine hcut.go ?_; conv => whnf))
    ((refine hwrap_fit (W_fit ?_ ?_) ?_; (· (first | omega | (simp only [List.length_map, List.length_append, List.length_take, List.length_drop, List.length_cons, List.length_nil] <;> omega) | (simp <;> omega))); (· (first | omega | (simp only [List.length_map, List.length_append, List.length_take, List.length_drop, List.length_cons, List.length_nil] <;> omega) | (simp <;> omega))); conv => whnf); try (refine hcut.go ?_; conv => whnf))
    by_cases c7 : (tot r.pieces : Int) + c.data.length > 400
    case pos =>
      obtain rfl := no fun h => by have := h.6; omega
      ((refine hdraw_intro ?_ ?_; (· kernel_rfl); conv => whnf); try (refine hcut.go ?_; conv => whnf))
      refine hif_true (by simpa using c7) ?_; conv => whnf
      try (refine hcut.go ?_; conv => whnf)
      (exact hfin_of [(0, some 910), (1, some 911), (2, some 912), (3, some 913)] rfl rfl (by repeat' (first | exact trivial | (refine ⟨rfl, ?_⟩))) rfl (by first | rfl ) (by repeat' (first | exact trivial | exact rfl | exact .inl rfl | exact .inr rfl | (refine ⟨⟨rfl, .inl ⟨_, rfl, ?_⟩⟩, ?_⟩) | (refine ⟨⟨rfl, _, rfl, ?_⟩, ?_⟩) | (refine ⟨⟨rfl, .inr ⟨rfl, ?_⟩⟩, ?_⟩) | (refine ⟨rfl, ?_⟩) | (simp; done) | (simp; rfl))))
    have ok : Takes r c (near r.cum c.tag) := ⟨c1, by omega, by omega, by omega, c5, .inr (by omega)⟩
    ((refine hdraw_intro ?_ ?_; (· kernel_rfl); conv => whnf); try (refine hcut.go ?_; conv => whnf))
    refine hif_false (by simpa using c7) ?_; conv => whnf
    try (refine hcut.go ?_; conv => whnf)
  all_goals (
    have rest := rest ok
    ((refine hcall_own [(0, 66)]  ?_; (conv => whnf); refine ⟨_, _,  Cl.clone_bytes c.data (by omega), ⟨⟨⟨rfl, rfl⟩, trivial⟩, rfl, rfl, rfl⟩, ?_⟩; conv => whnf); try (refine hcut.go ?_; conv => whnf))
    refine hobl_intro (c := ((r.pieces.map Piece.row).length + 1) * 136 ≤ 140737488355328) (by simp; omega) ?_; conv => whnf
    ((refine hdraw_intro ?_ ?_; (· kernel_rfl); conv => whnf); try (refine hcut.go ?_; conv => whnf))
    ((refine hcall_own [(0, 88)]  ?_; (conv => whnf); refine ⟨_, _,  spec_add r.spans (near r.cum c.tag) h2 (by omega) (by omega) (by omega), ⟨⟨⟨rfl, rfl⟩, trivial⟩, rfl, rfl, rfl⟩, ?_⟩; conv => whnf); try (refine hcut.go ?_; conv => whnf))
    ((refine hcall_own [(0, 92)]  ?_; (conv => whnf); refine ⟨_, _,  spec_up (add r.spans (near r.cum c.tag)) r.cum hadd (by omega) (by omega) (by omega), ⟨⟨⟨rfl, rfl⟩, trivial⟩, rfl, rfl, rfl⟩, ?_⟩; conv => whnf); try (refine hcut.go ?_; conv => whnf))
    ((refine hdraw_intro ?_ ?_; (· kernel_rfl); conv => whnf); try (refine hcut.go ?_; conv => whnf))
    obtain ⟨k, hk⟩ : ∃ k : Nat, c.stream = k := ⟨c.stream.toNat, by omega⟩
    have hkl : k < r.turn.length := by omega
    have htk : (put r c).turn[k]?.getD 0 = r.turn[k] := by show r.turn[k]?.getD 0 = _; rw [List.getElem?_eq_getElem hkl]; rfl
    have htb := h6 _ (List.getElem_mem hkl)
    refine hif_intro (fun ho => ?_) (fun ho => ?_)
    · rw [if_pos ho, show c.stream.toNat = k by omega] at rest
      subst rest
      conv => whnf
      ((refine hcall_give [] [(1000000, 10), (1000001, 92), (1000002, 78), (1000003, 912), (1000004, 913)] [(0, 920), (1, 921), (2, 922), (3, 923)] ?_; (conv => whnf); refine ⟨_, _, _, _, spec_turn_z (put r c) k _ hk ⟨by omega, by omega, by show r.log.length + _ < _; omega, hkl, by rw [htk]; omega, by rw [htk]; omega⟩, ⟨rfl, rfl, rfl, ⟨⟨rfl, _, rfl, .inl ⟨rfl, rfl⟩⟩, ⟨⟨rfl, _, rfl, .inl ⟨rfl, rfl⟩⟩, ⟨⟨rfl, _, rfl, .inl ⟨rfl, row_app (f := Piece.row) (x := ⟨near r.cum c.tag, c⟩) rfl rfl⟩⟩, ⟨⟨rfl, _, rfl, .inl ⟨rfl, rfl⟩⟩, ⟨⟨rfl, _, rfl, .inl ⟨rfl, rfl⟩⟩, trivial⟩⟩⟩⟩⟩, ⟨⟨rfl, rfl⟩, ⟨⟨rfl, rfl⟩, ⟨⟨rfl, rfl⟩, ⟨⟨rfl, rfl⟩, trivial⟩⟩⟩⟩, rfl, rfl, rfl⟩, ?_⟩; conv => whnf); try (refine hcut.go ?_; conv => whnf))
      (exact hfin_of [(0, some 920), (1, some 921), (2, some 922), (3, some 923)] rfl rfl (by repeat' (first | exact trivial | (refine ⟨rfl, ?_⟩))) rfl (by first | rfl ) (by repeat' (first | exact trivial | exact rfl | exact .inl rfl | exact .inr rfl | (refine ⟨⟨rfl, .inl ⟨_, rfl, ?_⟩⟩, ?_⟩) | (refine ⟨⟨rfl, _, rfl, ?_⟩, ?_⟩) | (refine ⟨⟨rfl, .inr ⟨rfl, ?_⟩⟩, ?_⟩) | (refine ⟨rfl, ?_⟩) | (simp; done) | (simp; rfl))))
    · rw [if_neg (by rw [ho]; decide)] at rest
      subst rest
      conv => whnf
      ((refine hcall_give [] [(1000000, 10), (1000001, 92), (1000002, 78), (1000003, 912), (1000004, 913)] [(0, 920), (1, 921), (2, 922), (3, 923)] ?_; (conv => whnf); refine ⟨_, _, _, _, spec_deliver (put r c) c.stream c.mid false (by omega) (by omega) (by show r.log.length < _; omega), ⟨rfl, rfl, rfl, ⟨⟨rfl, _, rfl, .inl ⟨rfl, rfl⟩⟩, ⟨⟨rfl, _, rfl, .inl ⟨rfl, rfl⟩⟩, ⟨⟨rfl, _, rfl, .inl ⟨rfl, row_app (f := Piece.row) (x := ⟨near r.cum c.tag, c⟩) rfl rfl⟩⟩, ⟨⟨rfl, _, rfl, .inl ⟨rfl, rfl⟩⟩, ⟨⟨rfl, _, rfl, .inl ⟨rfl, rfl⟩⟩, trivial⟩⟩⟩⟩⟩, ⟨⟨rfl, rfl⟩, ⟨⟨rfl, rfl⟩, ⟨⟨rfl, rfl⟩, ⟨⟨rfl, rfl⟩, trivial⟩⟩⟩⟩, rfl, rfl, rfl⟩, ?_⟩; conv => whnf); try (refine hcut.go ?_; conv => whnf))
      (exact hfin_of [(0, some 920), (1, some 921), (2, some 922), (3, some 923)] rfl rfl (by repeat' (first | exact trivial | (refine ⟨rfl, ?_⟩))) rfl (by first | rfl ) (by repeat' (first | exact trivial | exact rfl | exact .inl rfl | exact .inr rfl | (refine ⟨⟨rfl, .inl ⟨_, rfl, ?_⟩⟩, ?_⟩) | (refine ⟨⟨rfl, _, rfl, ?_⟩, ?_⟩) | (refine ⟨⟨rfl, .inr ⟨rfl, ?_⟩⟩, ?_⟩) | (refine ⟨rfl, ?_⟩) | (simp; done) | (simp; rfl)))))
/-- what a receiver tells -/
def shift (c : Int) (s : Span) : Span := ⟨s.lo - c, s.hi - c⟩
def tells (r : Receiver) : Chunk := ⟨2, tag r.cum, 0, 0, 0, false, false, [], (r.spans.take 6).map (shift r.cum), (if 0 > 400 - (tot r.pieces : Int) then 0 else 400 - (tot r.pieces : Int)), []⟩
theorem take_snoc6 {α : Type} (A : List α) (x : α) (f : α → α) : ((A ++ [x]).take 6).map f = if A.length < 6 then (A.take 6).map f ++ [f x] else (A.take 6).map f := by
  split
  · rename_i h
    rw [List.take_of_length_le (by simp; omega), List.take_of_length_le (by omega)]; simp
  · rename_i h
    rw [List.take_append_of_le_length (by omega)]
abbrev tellC (r : Receiver) (v : HV) : List HV := [i64 2, i64 (tells r).tag, i64 0, i64 0, i64 0, hbool false, hbool false, hnil, v, i64 (tells r).room, hnil]
theorem spec_sack (r : Receiver) (h1 : r.spans.length < 2 ^ 40) (h2 : r.pieces.length < 2 ^ 40) (h3 : tot r.pieces < 2 ^ 60) (hc : -(2 ^ 60) ≤ r.cum) (hc2 : r.cum ≤ 2 ^ 60) (hsp : ∀ s ∈ r.spans, -(2 ^ 61) ≤ s.lo ∧ s.lo ≤ 2 ^ 61 ∧ -(2 ^ 61) ≤ s.hi ∧ s.hi ≤ 2 ^ 61) :
    FunOK Try.prog 20 [r.hv] noHeap (.agg (tellC r (.own 0))) (lk .free [(0, rowS (tells r).spans)]) := by
  refine funOK_of mixed Try.func20 (by decide) [] (fun _ => .inl rfl) ?_
  conv => whnf
  ((refine hcall_lend ?_; (conv => whnf); refine ⟨_, spec_tag r.cum, rfl, ?_⟩; conv => whnf); try (refine hcut.go ?_; conv => whnf))
  ((refine hcall_lend ?_; (conv => whnf); refine ⟨_, spec_held r (by omega) (by omega), rfl, ?_⟩; conv => whnf); try (refine hcut.go ?_; conv => whnf))
  ((refine hwrap_fit (W_fit ?_ ?_) ?_; (· (first | omega | (simp only [List.length_map, List.length_append, List.length_take, List.length_drop, List.length_cons, List.length_nil] <;> omega) | (simp <;> omega))); (· (first | omega | (simp only [List.length_map, List.length_append, List.length_take, List.length_drop, List.length_cons, List.length_nil] <;> omega) | (simp <;> omega))); conv => whnf); try (refine hcut.go ?_; conv => whnf))
  ((refine hdraw_intro ?_ ?_; (· kernel_rfl); conv => whnf); try (refine hcut.go ?_; conv => whnf))
  refine ⟨{ x : List Span × List Span // r.spans = x.1 ++ x.2 }, fun | ⟨(A, B), _⟩ => hs 43 [(1, .ptr 1 0), (2, .ptr 2 0), (3, .ptr 3 0), (15, spans r.spans), (16, i64 r.spans.length), (17, i64 A.length)] [(1, .live (.cells 35 (rcvC r (spans r.spans) (pieces r.pieces) (.p (.sl 1 (r.turn.map fun n => [pi n]))) (.p (.sl 4 (r.log.map Arrival.row)))))), (2, .live (.cells 29 [i64 0, i64 0, i64 0, i64 0, i64 0, hbool false, hbool false, hnil, hnil, i64 0, hnil])), (3, .live (.cells 29 (tellC r (.own 900)))), (900, rowS ((A.take 6).map (shift r.cum)))], fun x => x.1.2.length, ⟨([], r.spans), rfl⟩, ?_, ?_⟩
  · exact (hle_hs [(1, some 1), (2, some 2), (3, some 3), (900, none)] rfl rfl rfl rfl (by repeat' (first | exact trivial | exact rfl | (refine ⟨⟨rfl, ?_⟩, ?_⟩) | (refine ⟨rfl, ?_⟩) | (simp; done) | (simp; rfl))) (by repeat' (first | exact trivial | exact rfl | exact .inl rfl | exact .inr rfl | (refine ⟨⟨rfl, .inl ⟨_, rfl, ?_⟩⟩, ?_⟩) | (refine ⟨⟨rfl, _, rfl, ?_⟩, ?_⟩) | (refine ⟨⟨rfl, .inr ⟨rfl, ?_⟩⟩, ?_⟩) | (refine ⟨rfl, ?_⟩) | (simp; done) | (simp; rfl))))
  rintro ⟨⟨A, B⟩, h⟩
  dsimp only at h
  have hl : r.spans.length = A.length + B.length := by rw [h]; simp
  conv => whnf
  cases B with
  | cons p B =>
    have hp := hsp p (by rw [h]; simp)
    rw [List.length_cons] at hl
    have hq : ((A.take 6).map (shift r.cum)).length = min 6 A.length := by simp
    ((refine hif_true ?_ ?_; (· (first | rfl | assumption | omega | (simp only [gt_iff_lt, ge_iff_le, decide_eq_true_eq, decide_eq_false_iff_not, beq_iff_eq, bne_iff_ne, ne_eq, beq_eq_false_iff_ne, bne_eq_false_iff_eq, List.length_map, List.length_append, List.length_cons, List.length_nil, List.length_take, List.length_drop, Bool.not_eq_true', Bool.not_eq_false', Bool.not_eq_true, Bool.not_eq_false, Decidable.not_not, Nat.cast_ofNat, Int.natCast_add] <;> omega) | (simp <;> omega))); conv => whnf); try (refine hcut.go ?_; conv => whnf))
    refine hrow_mid h rfl ?_; conv => whnf
    have hsn := take_snoc6 A p (shift r.cum)
    by_cases c : A.length < 6
    · rw [if_pos c] at hsn
      ((refine hif_true ?_ ?_; (· (first | rfl | assumption | omega | (simp only [gt_iff_lt, ge_iff_le, decide_eq_true_eq, decide_eq_false_iff_not, beq_iff_eq, bne_iff_ne, ne_eq, beq_eq_false_iff_ne, bne_eq_false_iff_eq, List.length_map, List.length_append, List.length_cons, List.length_nil, List.length_take, List.length_drop, Bool.not_eq_true', Bool.not_eq_false', Bool.not_eq_true, Bool.not_eq_false, Decidable.not_not, Nat.cast_ofNat, Int.natCast_add] <;> omega) | (simp <;> omega))); conv => whnf); try (refine hcut.go ?_; conv => whnf))
      ((refine hwrap_fit (W_fit ?_ ?_) ?_; (· (first | omega | (simp only [List.length_map, List.length_append, List.length_take, List.length_drop, List.length_cons, List.length_nil] <;> omega) | (simp <;> omega))); (· (first | omega | (simp only [List.length_map, List.length_append, List.length_take, List.length_drop, List.length_cons, List.length_nil] <;> omega) | (simp <;> omega))); conv => whnf); try (refine hcut.go ?_; conv => whnf))
      ((refine hwrap_fit (W_fit ?_ ?_) ?_; (· (first | omega | (simp only [List.length_map, List.length_append, List.length_take, List.length_drop, List.length_cons, List.length_nil] <;> omega) | (simp <;> omega))); (· (first | omega | (simp only [List.length_map, List.length_append, List.length_take, List.length_drop, List.length_cons, List.length_nil] <;> omega) | (simp <;> omega))); conv => whnf); try (refine hcut.go ?_; conv => whnf))
      refine hobl_intro (c := ((((A.take 6).map (shift r.cum)).map Span.row).length + 1) * 16 ≤ 140737488355328) (by simp; omega) ?_; conv => whnf
      try (refine hcut.go ?_; conv => whnf)
      ((refine hwrap_fit (W_fit ?_ ?_) ?_; (· (first | omega | (simp only [List.length_map, List.length_append, List.length_take, List.length_drop, List.length_cons, List.length_nil] <;> omega) | (simp <;> omega))); (· (first | omega | (simp only [List.length_map, List.length_append, List.length_take, List.length_drop, List.length_cons, List.length_nil] <;> omega) | (simp <;> omega))); conv => whnf); try (refine hcut.go ?_; conv => whnf))
      refine ⟨⟨(A ++ [p], B), by rw [h]; simp⟩, (hle_hs [(1, some 1), (2, some 2), (3, some 3), (900, some 39)] rfl rfl rfl rfl (by repeat' (first | exact trivial | exact rfl | (refine ⟨⟨rfl, ?_⟩, ?_⟩) | (refine ⟨rfl, ?_⟩) | ((exact row_app (f := Span.row) hsn rfl)) | (simp; done) | (simp; rfl))) (by repeat' (first | exact trivial | exact rfl | exact .inl rfl | exact .inr rfl | (refine ⟨⟨rfl, .inl ⟨_, rfl, ?_⟩⟩, ?_⟩) | (refine ⟨⟨rfl, _, rfl, ?_⟩, ?_⟩) | (refine ⟨⟨rfl, .inr ⟨rfl, ?_⟩⟩, ?_⟩) | (refine ⟨rfl, ?_⟩) | ((exact row_app (f := Span.row) hsn rfl)) | (simp; done) | (simp; rfl)))), by simp⟩
    · rw [if_neg c] at hsn
      ((refine hif_false ?_ ?_; (· (first | rfl | assumption | omega | (simp only [gt_iff_lt, ge_iff_le, decide_eq_true_eq, decide_eq_false_iff_not, beq_iff_eq, bne_iff_ne, ne_eq, beq_eq_false_iff_ne, bne_eq_false_iff_eq, List.length_map, List.length_append, List.length_cons, List.length_nil, List.length_take, List.length_drop, Bool.not_eq_true', Bool.not_eq_false', Bool.not_eq_true, Bool.not_eq_false, Decidable.not_not, Nat.cast_ofNat, Int.natCast_add] <;> omega) | (simp <;> omega))); conv => whnf); try (refine hcut.go ?_; conv => whnf))
      ((refine hwrap_fit (W_fit ?_ ?_) ?_; (· (first | omega | (simp only [List.length_map, List.length_append, List.length_take, List.length_drop, List.length_cons, List.length_nil] <;> omega) | (simp <;> omega))); (· (first | omega | (simp only [List.length_map, List.length_append, List.length_take, List.length_drop, List.length_cons, List.length_nil] <;> omega) | (simp <;> omega))); conv => whnf); try (refine hcut.go ?_; conv => whnf))
      refine ⟨⟨(A ++ [p], B), by rw [h]; simp⟩, (hle_hs [(1, some 1), (2, some 2), (3, some 3), (900, some 900)] rfl rfl rfl rfl (by repeat' (first | exact trivial | exact rfl | (refine ⟨⟨rfl, ?_⟩, ?_⟩) | (refine ⟨rfl, ?_⟩) | ((exact row_eqs (by rw [hsn]))) | (simp; done) | (simp; rfl))) (by repeat' (first | exact trivial | exact rfl | exact .inl rfl | exact .inr rfl | (refine ⟨⟨rfl, .inl ⟨_, rfl, ?_⟩⟩, ?_⟩) | (refine ⟨⟨rfl, _, rfl, ?_⟩, ?_⟩) | (refine ⟨⟨rfl, .inr ⟨rfl, ?_⟩⟩, ?_⟩) | (refine ⟨rfl, ?_⟩) | ((exact row_eqs (by rw [hsn]))) | (simp; done) | (simp; rfl)))), by simp⟩
  | nil =>
    rw [List.length_nil] at hl
    rw [List.append_nil] at h
    ((refine hif_false ?_ ?_; (· (first | rfl | assumption | omega | (simp only [gt_iff_lt, ge_iff_le, decide_eq_true_eq, decide_eq_false_iff_not, beq_iff_eq, bne_iff_ne, ne_eq, beq_eq_false_iff_ne, bne_eq_false_iff_eq, List.length_map, List.length_append, List.length_cons, List.length_nil, List.length_take, List.length_drop, Bool.not_eq_true', Bool.not_eq_false', Bool.not_eq_true, Bool.not_eq_false, Decidable.not_not, Nat.cast_ofNat, Int.natCast_add] <;> omega) | (simp <;> omega))); conv => whnf); try (refine hcut.go ?_; conv => whnf))
    (exact hfin_of [(0, some 900)] rfl rfl (by repeat' (first | exact trivial | (refine ⟨rfl, ?_⟩))) rfl (by first | rfl | ((exact row_eqs (by rw [← h]; rfl))) ) (by repeat' (first | exact trivial | exact rfl | exact .inl rfl | exact .inr rfl | (refine ⟨⟨rfl, .inl ⟨_, rfl, ?_⟩⟩, ?_⟩) | (refine ⟨⟨rfl, _, rfl, ?_⟩, ?_⟩) | (refine ⟨⟨rfl, .inr ⟨rfl, ?_⟩⟩, ?_⟩) | (refine ⟨rfl, ?_⟩) | ((exact row_eqs (by rw [← h]; rfl))) | (simp; done) | (simp; rfl))))
end Rcv
end Go.HL
