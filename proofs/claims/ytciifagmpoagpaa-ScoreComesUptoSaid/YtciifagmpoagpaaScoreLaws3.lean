/- The law ScoreComes: what it hands back is true. -/
import Derived.Test.YtciifagmpoagpaaScoreLaws2
namespace Go.HL
open Go.Proofs
namespace Sco
open Ser
set_option maxHeartbeats 4000000
set_option maxRecDepth 100000
set_option linter.unusedSimpArgs false
/-- bytes on the way, or lost, of a path -/
def ws (p : Int) (l : List Sent) : Nat := (l.map fun s => if s.path = p ∧ (s.state = 1 ∨ s.state = 3) then s.chunk.data.length else 0).sum
/-- bytes of a path that come -/
def cs (c : Chunk) (n p : Int) (l : List Sent) : Nat := (l.map fun s => if s.path = p ∧ comes c n s = true then s.chunk.data.length else 0).sum
theorem ws_app (p : Int) (a b : List Sent) : ws p (a ++ b) = ws p a + ws p b := by simp [ws]
theorem ws_cons (p : Int) (s : Sent) (b : List Sent) : ws p (s :: b) = (if s.path = p ∧ (s.state = 1 ∨ s.state = 3) then s.chunk.data.length else 0) + ws p b := by simp [ws]
theorem cs_cons (c : Chunk) (n p : Int) (s : Sent) (b : List Sent) : cs c n p (s :: b) = (if s.path = p ∧ comes c n s = true then s.chunk.data.length else 0) + cs c n p b := by simp [cs]
theorem fl_cons (p : Int) (s : Sent) (b : List Sent) : fl p (s :: b) = (if s.state = 1 ∧ s.path = p then s.chunk.data.length else 0) + fl p b := by simp [fl]
theorem ws_le (p : Int) : ∀ l : List Sent, ws p l ≤ total l
  | [] => by simp [ws, total]
  | s :: r => by
    have := ws_le p r
    rw [ws_cons, total_cons]; split <;> omega
theorem comes_state {c : Chunk} {n : Int} {s : Sent} (h : comes c n s = true) : s.state = 1 ∨ s.state = 3 := by
  rw [comes, Bool.and_eq_true, Bool.or_eq_true] at h
  simpa using h.2
theorem cs_le (c : Chunk) (n p : Int) : ∀ l : List Sent, cs c n p l ≤ ws p l
  | [] => by simp [cs, ws]
  | s :: r => by
    have := cs_le c n p r
    rw [cs_cons, ws_cons]
    split
    · rename_i h
      rw [if_pos ⟨h.1, comes_state h.2⟩]; omega
    · omega
theorem fl_ws (p : Int) : ∀ l : List Sent, fl p l ≤ ws p l
  | [] => by simp [fl, ws]
  | s :: r => by
    have := fl_ws p r
    rw [fl_cons, ws_cons]
    split
    · rename_i h
      rw [if_pos ⟨h.2, .inl h.1⟩]; omega
    · omega
theorem age_one {h : Int} {s : Sent} (k : (age h s).state = 1) : s.state = 1 := by
  unfold age at k
  split at k
  · rename_i c; exact c.1
  · exact k
theorem left_cons (c : Chunk) (n : Int) (s : Sent) (r : List Sent) : left c n (s :: r) = (if s.number > n then [turn c n s] else []) ++ left c n r := by
  simp only [left, List.filter_cons]
  by_cases h : s.number > n <;> simp [h]
theorem fl_left (c : Chunk) (n h p : Int) : ∀ l : List Sent, fl p ((left c n l).map (age h)) + cs c n p l ≤ ws p l
  | [] => by simp [left, fl, cs, ws]
  | s :: r => by
    have ih := fl_left c n h p r
    rw [left_cons, cs_cons, ws_cons, List.map_append, fl_app]
    have h1 : fl p ((if s.number > n then [turn c n s] else []).map (age h)) + (if s.path = p ∧ comes c n s = true then s.chunk.data.length else 0) ≤ (if s.path = p ∧ (s.state = 1 ∨ s.state = 3) then s.chunk.data.length else 0) := by
      by_cases hc : comes c n s = true
      · have hst := comes_state hc
        have h2 : fl p ((if s.number > n then [turn c n s] else []).map (age h)) = 0 := by
          split
          · rw [List.map_singleton, fl_one, if_neg]
            intro hh
            have := age_one hh.1
            rw [turn, if_pos hc] at this
            simp at this
          · rfl
        rw [h2]
        by_cases hp : s.path = p
        · rw [if_pos ⟨hp, hc⟩, if_pos ⟨hp, hst⟩]; omega
        · rw [if_neg fun h : s.path = p ∧ _ => hp h.1]; omega
      · rw [if_neg fun h : s.path = p ∧ _ => hc h.2]
        by_cases hnn : s.number > n
        · rw [if_pos hnn, List.map_singleton, fl_one, turn, if_neg hc, age_path]
          split
          · rename_i hh
            rw [if_pos ⟨hh.2, .inl (age_one hh.1)⟩, age_chunk]; omega
          · omega
        · rw [if_neg hnn]; simp [fl]
    omega
theorem comeOf_at (c : Chunk) (n : Int) (P : Nat) {l : List Sent} (hl : total l < 2 ^ 60) (hp : ∀ s ∈ l, 0 ≤ s.path) (p : Nat) (h : p < P) : (comeOf c n P l)[p]?.getD 0 = (cs c n p l : Int) := by
  have gen : ∀ (l : List Sent) (z : List Int), (∀ s ∈ l, 0 ≤ s.path) → p < z.length → 0 ≤ z[p]?.getD 0 → z[p]?.getD 0 + total l < 2 ^ 61 → (l.foldl (come1 c n) z)[p]?.getD 0 = z[p]?.getD 0 + cs c n p l := by
    intro l
    induction l with
    | nil => intro z _ _ _ _; simp [cs]
    | cons s r ih =>
      intro z hp hz h0 h1
      rw [total_cons] at h1
      have hs0 := hp s (by simp)
      rw [List.foldl_cons, cs_cons]
      by_cases hc : comes c n s = true
      · rw [come1, if_pos hc]
        by_cases e : s.path = (p : Int)
        · have e2 : (addAt z s.path s.chunk.data.length)[p]?.getD 0 = z[p]?.getD 0 + s.chunk.data.length := by
            rw [addAt, show s.path.toNat = p by omega, List.getElem?_set_self hz, Option.getD_some, W_fit (by omega) (by omega)]
          rw [ih _ (fun t ht => hp t (by simp [ht])) (by rw [addAt, List.length_set]; exact hz) (by rw [e2]; omega) (by rw [e2]; omega), e2, if_pos ⟨e, hc⟩]; omega
        · have e2 : (addAt z s.path s.chunk.data.length)[p]?.getD 0 = z[p]?.getD 0 := by
            rw [addAt, List.getElem?_set_ne (by omega)]
          rw [ih _ (fun t ht => hp t (by simp [ht])) (by rw [addAt, List.length_set]; exact hz) (by rw [e2]; omega) (by rw [e2]; omega), e2, if_neg fun h => e h.1]; omega
      · rw [come1, if_neg hc, ih _ (fun t ht => hp t (by simp [ht])) hz h0 (by omega), if_neg fun h => hc h.2]; omega
  have := gen l (List.replicate P 0) hp (by simpa using h) (by simp [h]) (by simp [h]; omega)
  rw [comeOf, this]
  simp [h]
/-- what the law asks of a sack -/
structure Told (l A : List Sent) (n : Int) (come : List Int) (paths : Int) : Prop where
  has : ∀ s ∈ l, s.number > n → ∃ x ∈ A, x.number = s.number ∧ (x.state = s.state ∨ x.state = 2 ∨ (s.state = 1 ∧ x.state = 3))
  above : ∀ x ∈ A, n < x.number
  one : ∀ (i : Nat) x, A[i]? = some x → x.number = n + 1 + i
  len : come.length = paths.toNat
  sum : ∀ p : Nat, (p : Int) < paths → 0 ≤ come[p]?.getD 0 ∧ come[p]?.getD 0 ≤ ws p l ∧ (fl p A : Int) ≤ ws p l - come[p]?.getD 0
theorem age_states (h : Int) (s : Sent) : (age h s).state = s.state ∨ (s.state = 1 ∧ (age h s).state = 3) := by
  unfold age
  split
  · rename_i c
    split
    · exact .inr ⟨c.1, rfl⟩
    · exact .inl rfl
  · exact .inl rfl
theorem told_sack {l : List Sent} {cum paths : Int} (hr : Right l cum paths) (c : Chunk) (hl : Sized l) (hc : cum < 1000000) : Told l (sack l cum c paths).1 (sack l cum c paths).2.1 (sack l cum c paths).2.2.1 paths := by
  have hl1 := hl.len
  have hl2 := hl.bytes
  obtain ⟨hr2, hn1, hn2⟩ := sack_right hr c (by omega) hc
  have h2 := hr2.rise
  by_cases k : near cum c.tag < cum ∨ near cum c.tag > cum + l.length
  · rw [sack_out k] at h2 ⊢
    dsimp only at h2 ⊢
    refine ⟨fun s hs _ => ⟨s, hs, rfl, .inl rfl⟩, fun x hx => ?_, h2, by simp, fun p hp => ?_⟩
    · obtain ⟨i, hi⟩ := List.getElem?_of_mem hx
      have := h2 i x hi; omega
    · have := fl_ws p l
      have e : (List.replicate paths.toNat (0 : Int))[p]?.getD 0 = 0 := by
        rw [List.getElem?_replicate]; split <;> rfl
      rw [e]; omega
  · rw [sack_in rfl k] at h2 ⊢
    generalize near cum c.tag = n at *
    generalize highOf c n l = h at *
    dsimp only at h2 ⊢
    refine ⟨fun s hs hn => ⟨age h (turn c n s), List.mem_map_of_mem (List.mem_map_of_mem (List.mem_filter.2 ⟨hs, by simpa using hn⟩)), by rw [age_num, turn_num], ?_⟩, fun x hx => ?_, h2, by rw [comeOf_len], fun p hp => ?_⟩
    · rw [turn]
      split
      · rcases age_states h { s with state := 2 } with e | ⟨e, _⟩
        · exact .inr (.inl e)
        · exact absurd e (by decide : ¬ (2 : Int) = 1)
      · rcases age_states h s with e | e
        · exact .inl e
        · exact .inr (.inr e)
    · obtain ⟨i, hi⟩ := List.getElem?_of_mem hx
      have := h2 i x hi; omega
    · have h3 := fl_left c n h p l
      have h4 := cs_le c n p l
      rw [comeOf_at c n paths.toNat (by omega) (fun s hs => (hr.path s hs).1) p (by omega)]
      omega
/-! ### a map of parts by their numbers -/
def ent (s : Sent) : Value × List PV := (.int .i64 s.number, s.row)
theorem put_new {b : Int} {v : List PV} : ∀ {a : List Sent}, (∀ t ∈ a, t.number ≠ b) → putV (a.map ent) (.int .i64 b) v = a.map ent ++ [(.int .i64 b, v)]
  | [], _ => rfl
  | t :: a, h => by
    have h1 : keyEq (.int .i64 b) (.int .i64 t.number) = false := by
      have := h t (by simp)
      simpa [keyEq] using fun e => this e.symm
    rw [List.map_cons, show ent t = (.int .i64 t.number, t.row) from rfl, putV, h1, put_new fun x hx => h x (by simp [hx])]
    rfl
theorem find_no {b : Int} : ∀ {a : List Sent}, (∀ t ∈ a, t.number ≠ b) → findV (a.map ent) (.int .i64 b) = none
  | [], _ => rfl
  | t :: a, h => by
    have h1 : keyEq (.int .i64 b) (.int .i64 t.number) = false := by
      have := h t (by simp)
      simpa [keyEq] using fun e => this e.symm
    rw [List.map_cons, show ent t = (.int .i64 t.number, t.row) from rfl, findV, h1]
    exact find_no fun x hx => h x (by simp [hx])
theorem find_one {x : Sent} : ∀ {a : List Sent}, x ∈ a → (∀ t ∈ a, t.number = x.number → t = x) → findV (a.map ent) (.int .i64 x.number) = some x.row
  | t :: a, hx, h => by
    rw [List.map_cons, show ent t = (.int .i64 t.number, t.row) from rfl, findV]
    by_cases e : x.number = t.number
    · have := h t (by simp) e.symm
      subst this
      simp [keyEq]
    · have h1 : keyEq (.int .i64 x.number) (.int .i64 t.number) = false := by simpa [keyEq] using e
      rw [h1]
      refine find_one ?_ fun y hy => h y (by simp [hy])
      rcases List.mem_cons.1 hx with rfl | hx
      · exact absurd rfl e
      · exact hx
theorem Told.uniq {l A : List Sent} {n : Int} {come : List Int} {paths : Int} (h : Told l A n come paths) {x t : Sent} (hx : x ∈ A) (ht : t ∈ A) (e : t.number = x.number) : t = x := by
  obtain ⟨i, hi⟩ := List.getElem?_of_mem hx
  obtain ⟨j, hj⟩ := List.getElem?_of_mem ht
  have h1 := h.one i x hi
  have h2 := h.one j t hj
  have : i = j := by omega
  subst this
  rw [hi] at hj; exact (Option.some.inj hj).symm
theorem comeslaw (l : List Sent) (cum : Int) (c : Chunk) (paths : Int) (hl : Big l) (hsp : c.spans.length < 2 ^ 60) : FunOK Try.prog 4 [sents l, i64 cum, c.hv, i64 paths] noHeap (hbool true) noHeap := by
  have hl1 := hl.sized.len
  have hl2 := hl.sized.bytes
  refine funOK_pure mixed Try.func4 (by decide) ?_
  conv => whnf
  ((refine hcall_lend ?_; (conv => whnf); refine ⟨_, spec_alive6, rfl, ?_⟩; conv => whnf); try (refine hcut.go ?_; conv => whnf))
  ((refine hcall_lend ?_; (conv => whnf); refine ⟨_, spec_right l cum paths (by omega), rfl, ?_⟩; conv => whnf); try (refine hcut.go ?_; conv => whnf))
  refine hif_intro (fun c1 => ?_) (fun c1 => ?_)
  · conv => whnf
  have c1 : rightB l cum paths = true := by simpa using c1
  obtain ⟨hr, hcum, hmiss⟩ := right_of c1 (by omega)
  have hp0 := hr.p0
  have hp1 := hr.p1
  have hc0 := hr.c0
  have hbig := sack_big hl cum c paths
  obtain ⟨hr2, hn1, hn2⟩ := sack_right hr c (by omega) hcum
  have ht := told_sack hr c hl.sized hcum
  have ps := spec_sack l cum c paths hl.sized hr hsp
  generalize sack l cum c paths = S at hbig hr2 hn1 hn2 ps ht
  obtain ⟨A, n, come, lo⟩ := S
  dsimp only at hbig hr2 hn1 hn2 ps ht
  have hA := hbig.sized.len
  have hcl := ht.len
  conv => whnf
  ((refine hcall_pure ?_; (conv => whnf); refine ⟨_, ps, rfl, ?_⟩; conv => whnf); try (refine hcut.go ?_; conv => whnf))
  ((refine hif_false ?_ ?_; (· (first | rfl | assumption | omega | (simp only [gt_iff_lt, ge_iff_le, decide_eq_true_eq, decide_eq_false_iff_not, beq_iff_eq, bne_iff_ne, ne_eq, beq_eq_false_iff_ne, bne_eq_false_iff_eq, List.length_map, List.length_append, List.length_cons, List.length_nil, List.length_take, List.length_drop, Bool.not_eq_true', Bool.not_eq_false', Bool.not_eq_true, Bool.not_eq_false, Decidable.not_not, Nat.cast_ofNat, Int.natCast_add] <;> omega) | (simp <;> omega))); conv => whnf); try (refine hcut.go ?_; conv => whnf))
  refine hwrap_fit (z := cum + ((l.map Sent.row).length : Int)) (W_fit (by rw [List.length_map]; omega) (by rw [List.length_map]; omega)) ?_; conv => whnf
  ((refine hif_false ?_ ?_; (· (first | rfl | assumption | omega | (simp only [gt_iff_lt, ge_iff_le, decide_eq_true_eq, decide_eq_false_iff_not, beq_iff_eq, bne_iff_ne, ne_eq, beq_eq_false_iff_ne, bne_eq_false_iff_eq, List.length_map, List.length_append, List.length_cons, List.length_nil, List.length_take, List.length_drop, Bool.not_eq_true', Bool.not_eq_false', Bool.not_eq_true, Bool.not_eq_false, Decidable.not_not, Nat.cast_ofNat, Int.natCast_add] <;> omega) | (simp <;> omega))); conv => whnf); try (refine hcut.go ?_; conv => whnf))
  ((refine hif_false ?_ ?_; (· (first | rfl | assumption | omega | (simp only [gt_iff_lt, ge_iff_le, decide_eq_true_eq, decide_eq_false_iff_not, beq_iff_eq, bne_iff_ne, ne_eq, beq_eq_false_iff_ne, bne_eq_false_iff_eq, List.length_map, List.length_append, List.length_cons, List.length_nil, List.length_take, List.length_drop, Bool.not_eq_true', Bool.not_eq_false', Bool.not_eq_true, Bool.not_eq_false, Decidable.not_not, Nat.cast_ofNat, Int.natCast_add] <;> omega) | (simp <;> omega))); conv => whnf); try (refine hcut.go ?_; conv => whnf))
  refine ⟨{ x : List Sent × List Sent // A = x.1 ++ x.2 }, fun | ⟨(a, b), _⟩ => hs 171 [(0, sents l), (3, i64 paths), (9, sents A), (10, i64 n), (11, ints come), (13, .mp 901), (59, sents A), (60, i64 A.length), (61, i64 a.length)] [(901, .live (.map 4 true (a.map ent)))], fun x => x.1.2.length, ⟨([], A), rfl⟩, ?_, ?_⟩
  · exact (hle_hs [(901, some 58)] rfl rfl rfl rfl (by repeat' (first | exact trivial | exact rfl | (refine ⟨⟨rfl, ?_⟩, ?_⟩) | (refine ⟨rfl, ?_⟩) | (simp; done) | (simp; rfl))) (by repeat' (first | exact trivial | exact rfl | exact .inl rfl | exact .inr rfl | (refine ⟨⟨rfl, .inl ⟨_, rfl, ?_⟩⟩, ?_⟩) | (refine ⟨⟨rfl, _, rfl, ?_⟩, ?_⟩) | (refine ⟨⟨rfl, .inr ⟨rfl, ?_⟩⟩, ?_⟩) | (refine ⟨rfl, ?_⟩) | (simp; done) | (simp; rfl))))
  rintro ⟨⟨a, b⟩, h⟩
  dsimp only at h
  cases b with
  | cons s b =>
    have hz := zip_cons h
    have hnew : ∀ t ∈ a, t.number ≠ s.number := fun t hta e => by
      obtain ⟨i, hi⟩ := List.getElem?_of_mem hta
      have hi2 := (List.getElem?_eq_some_iff.1 hi).1
      have e1 := ht.one i t (by rw [h, List.getElem?_append_left hi2]; exact hi)
      have e2 := ht.one a.length s (by rw [h]; simp)
      omega
    conv => whnf
    ((refine hif_true ?_ ?_; (· (first | rfl | assumption | omega | (simp only [gt_iff_lt, ge_iff_le, decide_eq_true_eq, decide_eq_false_iff_not, beq_iff_eq, bne_iff_ne, ne_eq, beq_eq_false_iff_ne, bne_eq_false_iff_eq, List.length_map, List.length_append, List.length_cons, List.length_nil, List.length_take, List.length_drop, Bool.not_eq_true', Bool.not_eq_false', Bool.not_eq_true, Bool.not_eq_false, Decidable.not_not, Nat.cast_ofNat, Int.natCast_add] <;> omega) | (simp <;> omega))); conv => whnf); try (refine hcut.go ?_; conv => whnf))
    refine hrow_mid h rfl ?_; conv => whnf
    refine ⟨_, (put_new hnew).symm, ?_⟩; conv => whnf
    ((refine hwrap_fit (W_fit ?_ ?_) ?_; (· (first | omega | (simp only [List.length_map, List.length_append, List.length_take, List.length_drop, List.length_cons, List.length_nil] <;> omega) | (simp <;> omega))); (· (first | omega | (simp only [List.length_map, List.length_append, List.length_take, List.length_drop, List.length_cons, List.length_nil] <;> omega) | (simp <;> omega))); conv => whnf); try (refine hcut.go ?_; conv => whnf))
    exact ⟨⟨(a ++ [s], b), zip_next h⟩, (hle_hs [(901, some 901)] rfl rfl rfl rfl (by repeat' (first | exact trivial | exact rfl | (refine ⟨⟨rfl, ?_⟩, ?_⟩) | (refine ⟨rfl, ?_⟩) | ((simp [ent])) | (simp; done) | (simp; rfl))) (by repeat' (first | exact trivial | exact rfl | exact .inl rfl | exact .inr rfl | (refine ⟨⟨rfl, .inl ⟨_, rfl, ?_⟩⟩, ?_⟩) | (refine ⟨⟨rfl, _, rfl, ?_⟩, ?_⟩) | (refine ⟨⟨rfl, .inr ⟨rfl, ?_⟩⟩, ?_⟩) | (refine ⟨rfl, ?_⟩) | ((simp [ent])) | (simp; done) | (simp; rfl)))), by simp⟩
  | nil =>
    have hz := zip_nil h
    rw [List.append_nil] at h
    subst h
    conv => whnf
    ((refine hif_false ?_ ?_; (· (first | rfl | assumption | omega | (simp only [gt_iff_lt, ge_iff_le, decide_eq_true_eq, decide_eq_false_iff_not, beq_iff_eq, bne_iff_ne, ne_eq, beq_eq_false_iff_ne, bne_eq_false_iff_eq, List.length_map, List.length_append, List.length_cons, List.length_nil, List.length_take, List.length_drop, Bool.not_eq_true', Bool.not_eq_false', Bool.not_eq_true, Bool.not_eq_false, Decidable.not_not, Nat.cast_ofNat, Int.natCast_add] <;> omega) | (simp <;> omega))); conv => whnf); try (refine hcut.go ?_; conv => whnf))
    refine ⟨{ x : List Sent × List Sent // l = x.1 ++ x.2 }, fun | ⟨(a, b), _⟩ => hs 171 [(0, sents l), (3, i64 paths), (9, sents A), (10, i64 n), (11, ints come), (13, .mp 901), (70, sents l), (71, i64 l.length), (72, i64 a.length)] [(901, .live (.map 4 true (A.map ent)))], fun x => x.1.2.length, ⟨([], l), rfl⟩, ?_, ?_⟩
    · exact (hle_hs [(901, some 901)] rfl rfl rfl rfl (by repeat' (first | exact trivial | exact rfl | (refine ⟨⟨rfl, ?_⟩, ?_⟩) | (refine ⟨rfl, ?_⟩) | (simp; done) | (simp; rfl))) (by repeat' (first | exact trivial | exact rfl | exact .inl rfl | exact .inr rfl | (refine ⟨⟨rfl, .inl ⟨_, rfl, ?_⟩⟩, ?_⟩) | (refine ⟨⟨rfl, _, rfl, ?_⟩, ?_⟩) | (refine ⟨⟨rfl, .inr ⟨rfl, ?_⟩⟩, ?_⟩) | (refine ⟨rfl, ?_⟩) | (simp; done) | (simp; rfl))))
    rintro ⟨⟨a, b⟩, h⟩
    dsimp only at h
    cases b with
    | cons s b =>
      have hz := zip_cons h
      conv => whnf
      ((refine hif_true ?_ ?_; (· (first | rfl | assumption | omega | (simp only [gt_iff_lt, ge_iff_le, decide_eq_true_eq, decide_eq_false_iff_not, beq_iff_eq, bne_iff_ne, ne_eq, beq_eq_false_iff_ne, bne_eq_false_iff_eq, List.length_map, List.length_append, List.length_cons, List.length_nil, List.length_take, List.length_drop, Bool.not_eq_true', Bool.not_eq_false', Bool.not_eq_true, Bool.not_eq_false, Decidable.not_not, Nat.cast_ofNat, Int.natCast_add] <;> omega) | (simp <;> omega))); conv => whnf); try (refine hcut.go ?_; conv => whnf))
      refine hrow_mid h rfl ?_; conv => whnf
      by_cases c2 : s.number > n
      · obtain ⟨x, hx, hxn, hst⟩ := ht.has s (zip_mem h) c2
        have hf := find_one hx fun t htA e => ht.uniq hx htA e
        rw [hxn] at hf
        refine ⟨_, hf.symm, ?_⟩; conv => whnf
        refine hif_false (by simpa using c2) ?_; conv => whnf
        by_cases c3 : x.state = s.state
        · refine hif_false (by simpa using c3) ?_; conv => whnf
          (try (refine hcut.go ?_; conv => whnf))
          ((refine hwrap_fit (W_fit ?_ ?_) ?_; (· (first | omega | (simp only [List.length_map, List.length_append, List.length_take, List.length_drop, List.length_cons, List.length_nil] <;> omega) | (simp <;> omega))); (· (first | omega | (simp only [List.length_map, List.length_append, List.length_take, List.length_drop, List.length_cons, List.length_nil] <;> omega) | (simp <;> omega))); conv => whnf); try (refine hcut.go ?_; conv => whnf))
          exact ⟨⟨(a ++ [s], b), zip_next h⟩, (hle_hs [(901, some 901)] rfl rfl rfl rfl (by repeat' (first | exact trivial | exact rfl | (refine ⟨⟨rfl, ?_⟩, ?_⟩) | (refine ⟨rfl, ?_⟩) | (simp; done) | (simp; rfl))) (by repeat' (first | exact trivial | exact rfl | exact .inl rfl | exact .inr rfl | (refine ⟨⟨rfl, .inl ⟨_, rfl, ?_⟩⟩, ?_⟩) | (refine ⟨⟨rfl, _, rfl, ?_⟩, ?_⟩) | (refine ⟨⟨rfl, .inr ⟨rfl, ?_⟩⟩, ?_⟩) | (refine ⟨rfl, ?_⟩) | (simp; done) | (simp; rfl)))), by simp⟩
        · refine hif_true (by simpa using c3) ?_; conv => whnf
          by_cases c4 : x.state = 2
          · refine hif_false (by simpa using c4) ?_; conv => whnf
            (try (refine hcut.go ?_; conv => whnf))
            ((refine hwrap_fit (W_fit ?_ ?_) ?_; (· (first | omega | (simp only [List.length_map, List.length_append, List.length_take, List.length_drop, List.length_cons, List.length_nil] <;> omega) | (simp <;> omega))); (· (first | omega | (simp only [List.length_map, List.length_append, List.length_take, List.length_drop, List.length_cons, List.length_nil] <;> omega) | (simp <;> omega))); conv => whnf); try (refine hcut.go ?_; conv => whnf))
            exact ⟨⟨(a ++ [s], b), zip_next h⟩, (hle_hs [(901, some 901)] rfl rfl rfl rfl (by repeat' (first | exact trivial | exact rfl | (refine ⟨⟨rfl, ?_⟩, ?_⟩) | (refine ⟨rfl, ?_⟩) | (simp; done) | (simp; rfl))) (by repeat' (first | exact trivial | exact rfl | exact .inl rfl | exact .inr rfl | (refine ⟨⟨rfl, .inl ⟨_, rfl, ?_⟩⟩, ?_⟩) | (refine ⟨⟨rfl, _, rfl, ?_⟩, ?_⟩) | (refine ⟨⟨rfl, .inr ⟨rfl, ?_⟩⟩, ?_⟩) | (refine ⟨rfl, ?_⟩) | (simp; done) | (simp; rfl)))), by simp⟩
          · obtain ⟨e1, e2⟩ : s.state = 1 ∧ x.state = 3 := by
              rcases hst with h5 | h5 | h5
              · exact absurd h5 c3
              · exact absurd h5 c4
              · exact h5
            refine hif_true (by simpa using c4) ?_; conv => whnf
            refine hif_true (by simpa using e1) ?_; conv => whnf
            refine hif_false (by simpa using e2) ?_; conv => whnf
            (try (refine hcut.go ?_; conv => whnf))
            ((refine hwrap_fit (W_fit ?_ ?_) ?_; (· (first | omega | (simp only [List.length_map, List.length_append, List.length_take, List.length_drop, List.length_cons, List.length_nil] <;> omega) | (simp <;> omega))); (· (first | omega | (simp only [List.length_map, List.length_append, List.length_take, List.length_drop, List.length_cons, List.length_nil] <;> omega) | (simp <;> omega))); conv => whnf); try (refine hcut.go ?_; conv => whnf))
            exact ⟨⟨(a ++ [s], b), zip_next h⟩, (hle_hs [(901, some 901)] rfl rfl rfl rfl (by repeat' (first | exact trivial | exact rfl | (refine ⟨⟨rfl, ?_⟩, ?_⟩) | (refine ⟨rfl, ?_⟩) | (simp; done) | (simp; rfl))) (by repeat' (first | exact trivial | exact rfl | exact .inl rfl | exact .inr rfl | (refine ⟨⟨rfl, .inl ⟨_, rfl, ?_⟩⟩, ?_⟩) | (refine ⟨⟨rfl, _, rfl, ?_⟩, ?_⟩) | (refine ⟨⟨rfl, .inr ⟨rfl, ?_⟩⟩, ?_⟩) | (refine ⟨rfl, ?_⟩) | (simp; done) | (simp; rfl)))), by simp⟩
      · have hf := find_no (b := s.number) (a := A) fun t htA e => by have := ht.above t htA; omega
        refine ⟨_, hf.symm, ?_⟩; conv => whnf
        refine hif_false (by simpa using c2) ?_; conv => whnf
        (try (refine hcut.go ?_; conv => whnf))
        ((refine hwrap_fit (W_fit ?_ ?_) ?_; (· (first | omega | (simp only [List.length_map, List.length_append, List.length_take, List.length_drop, List.length_cons, List.length_nil] <;> omega) | (simp <;> omega))); (· (first | omega | (simp only [List.length_map, List.length_append, List.length_take, List.length_drop, List.length_cons, List.length_nil] <;> omega) | (simp <;> omega))); conv => whnf); try (refine hcut.go ?_; conv => whnf))
        exact ⟨⟨(a ++ [s], b), zip_next h⟩, (hle_hs [(901, some 901)] rfl rfl rfl rfl (by repeat' (first | exact trivial | exact rfl | (refine ⟨⟨rfl, ?_⟩, ?_⟩) | (refine ⟨rfl, ?_⟩) | (simp; done) | (simp; rfl))) (by repeat' (first | exact trivial | exact rfl | exact .inl rfl | exact .inr rfl | (refine ⟨⟨rfl, .inl ⟨_, rfl, ?_⟩⟩, ?_⟩) | (refine ⟨⟨rfl, _, rfl, ?_⟩, ?_⟩) | (refine ⟨⟨rfl, .inr ⟨rfl, ?_⟩⟩, ?_⟩) | (refine ⟨rfl, ?_⟩) | (simp; done) | (simp; rfl)))), by simp⟩
    | nil =>
      have hz := zip_nil h
      conv => whnf
      ((refine hif_false ?_ ?_; (· (first | rfl | assumption | omega | (simp only [gt_iff_lt, ge_iff_le, decide_eq_true_eq, decide_eq_false_iff_not, beq_iff_eq, bne_iff_ne, ne_eq, beq_eq_false_iff_ne, bne_eq_false_iff_eq, List.length_map, List.length_append, List.length_cons, List.length_nil, List.length_take, List.length_drop, Bool.not_eq_true', Bool.not_eq_false', Bool.not_eq_true, Bool.not_eq_false, Decidable.not_not, Nat.cast_ofNat, Int.natCast_add] <;> omega) | (simp <;> omega))); conv => whnf); try (refine hcut.go ?_; conv => whnf))
      refine ⟨{ p : Nat // (p : Int) ≤ paths }, fun | ⟨p, _⟩ => hs 171 [(0, sents l), (9, sents A), (11, ints come), (114, i64 paths), (115, i64 p)] [], fun p => (paths - p.1).toNat, ⟨0, by omega⟩, ?_, ?_⟩
      · exact (hle_hs [] rfl rfl rfl rfl (by repeat' (first | exact trivial | exact rfl | (refine ⟨⟨rfl, ?_⟩, ?_⟩) | (refine ⟨rfl, ?_⟩) | (simp; done) | (simp; rfl))) (by repeat' (first | exact trivial | exact rfl | exact .inl rfl | exact .inr rfl | (refine ⟨⟨rfl, .inl ⟨_, rfl, ?_⟩⟩, ?_⟩) | (refine ⟨⟨rfl, _, rfl, ?_⟩, ?_⟩) | (refine ⟨⟨rfl, .inr ⟨rfl, ?_⟩⟩, ?_⟩) | (refine ⟨rfl, ?_⟩) | (simp; done) | (simp; rfl))))
      rintro ⟨p, hp⟩
      conv => whnf
      by_cases c2 : (p : Int) < paths
      · obtain ⟨t1, t2, t3⟩ := ht.sum p c2
        have hpc : p < come.length := by omega
        rw [List.getElem?_eq_getElem hpc, Option.getD_some] at t1 t2 t3
        have hwl := ws_le p l
        ((refine hif_true ?_ ?_; (· (first | rfl | assumption | omega | (simp only [gt_iff_lt, ge_iff_le, decide_eq_true_eq, decide_eq_false_iff_not, beq_iff_eq, bne_iff_ne, ne_eq, beq_eq_false_iff_ne, bne_eq_false_iff_eq, List.length_map, List.length_append, List.length_cons, List.length_nil, List.length_take, List.length_drop, Bool.not_eq_true', Bool.not_eq_false', Bool.not_eq_true, Bool.not_eq_false, Decidable.not_not, Nat.cast_ofNat, Int.natCast_add] <;> omega) | (simp <;> omega))); conv => whnf); try (refine hcut.go ?_; conv => whnf))
        refine ⟨{ x : List Sent × List Sent // l = x.1 ++ x.2 }, fun | ⟨(a, b), _⟩ => hs 171 [(0, sents l), (9, sents A), (11, ints come), (114, i64 paths), (115, i64 p), (20, i64 p), (21, i64 (ws p a : Nat)), (118, sents l), (119, i64 l.length), (120, i64 a.length)] [], fun x => x.1.2.length, ⟨([], l), rfl⟩, ?_, ?_⟩
        · exact (hle_hs [] rfl rfl rfl rfl (by repeat' (first | exact trivial | exact rfl | (refine ⟨⟨rfl, ?_⟩, ?_⟩) | (refine ⟨rfl, ?_⟩) | (simp; done) | (simp; rfl))) (by repeat' (first | exact trivial | exact rfl | exact .inl rfl | exact .inr rfl | (refine ⟨⟨rfl, .inl ⟨_, rfl, ?_⟩⟩, ?_⟩) | (refine ⟨⟨rfl, _, rfl, ?_⟩, ?_⟩) | (refine ⟨⟨rfl, .inr ⟨rfl, ?_⟩⟩, ?_⟩) | (refine ⟨rfl, ?_⟩) | (simp; done) | (simp; rfl))))
        rintro ⟨⟨a, b⟩, h⟩
        dsimp only at h
        cases b with
        | cons s b =>
          have hz := zip_cons h
          have hwa : ws p l = ws p a + ws p (s :: b) := by rw [h, ws_app]
          have hone : ws p (a ++ [s]) = ws p a + (if s.path = p ∧ (s.state = 1 ∨ s.state = 3) then s.chunk.data.length else 0) := by rw [ws_app, ws_cons]; simp [ws]
          rw [ws_cons] at hwa
          conv => whnf
          ((refine hif_true ?_ ?_; (· (first | rfl | assumption | omega | (simp only [gt_iff_lt, ge_iff_le, decide_eq_true_eq, decide_eq_false_iff_not, beq_iff_eq, bne_iff_ne, ne_eq, beq_eq_false_iff_ne, bne_eq_false_iff_eq, List.length_map, List.length_append, List.length_cons, List.length_nil, List.length_take, List.length_drop, Bool.not_eq_true', Bool.not_eq_false', Bool.not_eq_true, Bool.not_eq_false, Decidable.not_not, Nat.cast_ofNat, Int.natCast_add] <;> omega) | (simp <;> omega))); conv => whnf); try (refine hcut.go ?_; conv => whnf))
          refine hrow_mid h rfl ?_; conv => whnf
          by_cases c3 : s.path = p
          case neg =>
            rw [if_neg fun h => c3 h.1] at hone
            refine hif_false (by simpa using c3) ?_; conv => whnf
            (try (refine hcut.go ?_; conv => whnf))
            ((refine hwrap_fit (W_fit ?_ ?_) ?_; (· (first | omega | (simp only [List.length_map, List.length_append, List.length_take, List.length_drop, List.length_cons, List.length_nil] <;> omega) | (simp <;> omega))); (· (first | omega | (simp only [List.length_map, List.length_append, List.length_take, List.length_drop, List.length_cons, List.length_nil] <;> omega) | (simp <;> omega))); conv => whnf); try (refine hcut.go ?_; conv => whnf))
            exact ⟨⟨(a ++ [s], b), zip_next h⟩, (hle_hs [] rfl rfl rfl rfl (by repeat' (first | exact trivial | exact rfl | (refine ⟨⟨rfl, ?_⟩, ?_⟩) | (refine ⟨rfl, ?_⟩) | ((exact i64_eq (by omega))) | (simp; done) | (simp; rfl))) (by repeat' (first | exact trivial | exact rfl | exact .inl rfl | exact .inr rfl | (refine ⟨⟨rfl, .inl ⟨_, rfl, ?_⟩⟩, ?_⟩) | (refine ⟨⟨rfl, _, rfl, ?_⟩, ?_⟩) | (refine ⟨⟨rfl, .inr ⟨rfl, ?_⟩⟩, ?_⟩) | (refine ⟨rfl, ?_⟩) | ((exact i64_eq (by omega))) | (simp; done) | (simp; rfl)))), by simp⟩
          refine hif_true (by simpa using c3) ?_; conv => whnf
          by_cases c4 : s.state = 1
          · rw [if_pos ⟨c3, .inl c4⟩] at hone hwa
            refine hif_true (by simpa using c4) ?_; conv => whnf
            (try (refine hcut.go ?_; conv => whnf))
            ((refine hwrap_fit (W_fit ?_ ?_) ?_; (· (first | omega | (simp only [List.length_map, List.length_append, List.length_take, List.length_drop, List.length_cons, List.length_nil] <;> omega) | (simp <;> omega))); (· (first | omega | (simp only [List.length_map, List.length_append, List.length_take, List.length_drop, List.length_cons, List.length_nil] <;> omega) | (simp <;> omega))); conv => whnf); try (refine hcut.go ?_; conv => whnf))
            ((refine hwrap_fit (W_fit ?_ ?_) ?_; (· (first | omega | (simp only [List.length_map, List.length_append, List.length_take, List.length_drop, List.length_cons, List.length_nil] <;> omega) | (simp <;> omega))); (· (first | omega | (simp only [List.length_map, List.length_append, List.length_take, List.length_drop, List.length_cons, List.length_nil] <;> omega) | (simp <;> omega))); conv => whnf); try (refine hcut.go ?_; conv => whnf))
            exact ⟨⟨(a ++ [s], b), zip_next h⟩, (hle_hs [] rfl rfl rfl rfl (by repeat' (first | exact trivial | exact rfl | (refine ⟨⟨rfl, ?_⟩, ?_⟩) | (refine ⟨rfl, ?_⟩) | ((exact i64_eq (by rw [hone]; simp))) | (simp; done) | (simp; rfl))) (by repeat' (first | exact trivial | exact rfl | exact .inl rfl | exact .inr rfl | (refine ⟨⟨rfl, .inl ⟨_, rfl, ?_⟩⟩, ?_⟩) | (refine ⟨⟨rfl, _, rfl, ?_⟩, ?_⟩) | (refine ⟨⟨rfl, .inr ⟨rfl, ?_⟩⟩, ?_⟩) | (refine ⟨rfl, ?_⟩) | ((exact i64_eq (by rw [hone]; simp))) | (simp; done) | (simp; rfl)))), by simp⟩
          refine hif_false (by simpa using c4) ?_; conv => whnf
          by_cases c5 : s.state = 3
          · rw [if_pos ⟨c3, .inr c5⟩] at hone hwa
            refine hif_true (by simpa using c5) ?_; conv => whnf
            (try (refine hcut.go ?_; conv => whnf))
            ((refine hwrap_fit (W_fit ?_ ?_) ?_; (· (first | omega | (simp only [List.length_map, List.length_append, List.length_take, List.length_drop, List.length_cons, List.length_nil] <;> omega) | (simp <;> omega))); (· (first | omega | (simp only [List.length_map, List.length_append, List.length_take, List.length_drop, List.length_cons, List.length_nil] <;> omega) | (simp <;> omega))); conv => whnf); try (refine hcut.go ?_; conv => whnf))
            ((refine hwrap_fit (W_fit ?_ ?_) ?_; (· (first | omega | (simp only [List.length_map, List.length_append, List.length_take, List.length_drop, List.length_cons, List.length_nil] <;> omega) | (simp <;> omega))); (· (first | omega | (simp only [List.length_map, List.length_append, List.length_take, List.length_drop, List.length_cons, List.length_nil] <;> omega) | (simp <;> omega))); conv => whnf); try (refine hcut.go ?_; conv => whnf))
            exact ⟨⟨(a ++ [s], b), zip_next h⟩, (hle_hs [] rfl rfl rfl rfl (by repeat' (first | exact trivial | exact rfl | (refine ⟨⟨rfl, ?_⟩, ?_⟩) | (refine ⟨rfl, ?_⟩) | ((exact i64_eq (by rw [hone]; simp))) | (simp; done) | (simp; rfl))) (by repeat' (first | exact trivial | exact rfl | exact .inl rfl | exact .inr rfl | (refine ⟨⟨rfl, .inl ⟨_, rfl, ?_⟩⟩, ?_⟩) | (refine ⟨⟨rfl, _, rfl, ?_⟩, ?_⟩) | (refine ⟨⟨rfl, .inr ⟨rfl, ?_⟩⟩, ?_⟩) | (refine ⟨rfl, ?_⟩) | ((exact i64_eq (by rw [hone]; simp))) | (simp; done) | (simp; rfl)))), by simp⟩
          rw [if_neg fun h => h.2.elim c4 c5] at hone
          refine hif_false (by simpa using c5) ?_; conv => whnf
          (try (refine hcut.go ?_; conv => whnf))
          ((refine hwrap_fit (W_fit ?_ ?_) ?_; (· (first | omega | (simp only [List.length_map, List.length_append, List.length_take, List.length_drop, List.length_cons, List.length_nil] <;> omega) | (simp <;> omega))); (· (first | omega | (simp only [List.length_map, List.length_append, List.length_take, List.length_drop, List.length_cons, List.length_nil] <;> omega) | (simp <;> omega))); conv => whnf); try (refine hcut.go ?_; conv => whnf))
          exact ⟨⟨(a ++ [s], b), zip_next h⟩, (hle_hs [] rfl rfl rfl rfl (by repeat' (first | exact trivial | exact rfl | (refine ⟨⟨rfl, ?_⟩, ?_⟩) | (refine ⟨rfl, ?_⟩) | ((exact i64_eq (by omega))) | (simp; done) | (simp; rfl))) (by repeat' (first | exact trivial | exact rfl | exact .inl rfl | exact .inr rfl | (refine ⟨⟨rfl, .inl ⟨_, rfl, ?_⟩⟩, ?_⟩) | (refine ⟨⟨rfl, _, rfl, ?_⟩, ?_⟩) | (refine ⟨⟨rfl, .inr ⟨rfl, ?_⟩⟩, ?_⟩) | (refine ⟨rfl, ?_⟩) | ((exact i64_eq (by omega))) | (simp; done) | (simp; rfl)))), by simp⟩
        | nil =>
          have hz := zip_nil h
          rw [List.append_nil] at h
          subst h
          conv => whnf
          ((refine hif_false ?_ ?_; (· (first | rfl | assumption | omega | (simp only [gt_iff_lt, ge_iff_le, decide_eq_true_eq, decide_eq_false_iff_not, beq_iff_eq, bne_iff_ne, ne_eq, beq_eq_false_iff_ne, bne_eq_false_iff_eq, List.length_map, List.length_append, List.length_cons, List.length_nil, List.length_take, List.length_drop, Bool.not_eq_true', Bool.not_eq_false', Bool.not_eq_true, Bool.not_eq_false, Decidable.not_not, Nat.cast_ofNat, Int.natCast_add] <;> omega) | (simp <;> omega))); conv => whnf); try (refine hcut.go ?_; conv => whnf))
          refine hrow_at p rfl hpc ?_; conv => whnf
          ((refine hif_false ?_ ?_; (· (first | rfl | assumption | omega | (simp only [gt_iff_lt, ge_iff_le, decide_eq_true_eq, decide_eq_false_iff_not, beq_iff_eq, bne_iff_ne, ne_eq, beq_eq_false_iff_ne, bne_eq_false_iff_eq, List.length_map, List.length_append, List.length_cons, List.length_nil, List.length_take, List.length_drop, Bool.not_eq_true', Bool.not_eq_false', Bool.not_eq_true, Bool.not_eq_false, Decidable.not_not, Nat.cast_ofNat, Int.natCast_add] <;> omega) | (simp <;> omega))); conv => whnf); try (refine hcut.go ?_; conv => whnf))
          refine hrow_at p rfl hpc ?_; conv => whnf
          ((refine hif_false ?_ ?_; (· (first | rfl | assumption | omega | (simp only [gt_iff_lt, ge_iff_le, decide_eq_true_eq, decide_eq_false_iff_not, beq_iff_eq, bne_iff_ne, ne_eq, beq_eq_false_iff_ne, bne_eq_false_iff_eq, List.length_map, List.length_append, List.length_cons, List.length_nil, List.length_take, List.length_drop, Bool.not_eq_true', Bool.not_eq_false', Bool.not_eq_true, Bool.not_eq_false, Decidable.not_not, Nat.cast_ofNat, Int.natCast_add] <;> omega) | (simp <;> omega))); conv => whnf); try (refine hcut.go ?_; conv => whnf))
          ((refine hcall_lend ?_; (conv => whnf); refine ⟨_, spec_flight A p hbig.sized, rfl, ?_⟩; conv => whnf); try (refine hcut.go ?_; conv => whnf))
          refine hrow_at p rfl hpc ?_; conv => whnf
          ((refine hwrap_fit (W_fit ?_ ?_) ?_; (· (first | omega | (simp only [List.length_map, List.length_append, List.length_take, List.length_drop, List.length_cons, List.length_nil] <;> omega) | (simp <;> omega))); (· (first | omega | (simp only [List.length_map, List.length_append, List.length_take, List.length_drop, List.length_cons, List.length_nil] <;> omega) | (simp <;> omega))); conv => whnf); try (refine hcut.go ?_; conv => whnf))
          ((refine hdraw_intro ?_ ?_; (· kernel_rfl); conv => whnf); try (refine hcut.go ?_; conv => whnf))
          ((refine hif_false ?_ ?_; (· (first | rfl | assumption | omega | (simp only [gt_iff_lt, ge_iff_le, decide_eq_true_eq, decide_eq_false_iff_not, beq_iff_eq, bne_iff_ne, ne_eq, beq_eq_false_iff_ne, bne_eq_false_iff_eq, List.length_map, List.length_append, List.length_cons, List.length_nil, List.length_take, List.length_drop, Bool.not_eq_true', Bool.not_eq_false', Bool.not_eq_true, Bool.not_eq_false, Decidable.not_not, Nat.cast_ofNat, Int.natCast_add] <;> omega) | (simp <;> omega))); conv => whnf); try (refine hcut.go ?_; conv => whnf))
          ((refine hwrap_fit (W_fit ?_ ?_) ?_; (· (first | omega | (simp only [List.length_map, List.length_append, List.length_take, List.length_drop, List.length_cons, List.length_nil] <;> omega) | (simp <;> omega))); (· (first | omega | (simp only [List.length_map, List.length_append, List.length_take, List.length_drop, List.length_cons, List.length_nil] <;> omega) | (simp <;> omega))); conv => whnf); try (refine hcut.go ?_; conv => whnf))
          exact ⟨⟨p + 1, by omega⟩, (hle_hs [] rfl rfl rfl rfl (by repeat' (first | exact trivial | exact rfl | (refine ⟨⟨rfl, ?_⟩, ?_⟩) | (refine ⟨rfl, ?_⟩) | (simp; done) | (simp; rfl))) (by repeat' (first | exact trivial | exact rfl | exact .inl rfl | exact .inr rfl | (refine ⟨⟨rfl, .inl ⟨_, rfl, ?_⟩⟩, ?_⟩) | (refine ⟨⟨rfl, _, rfl, ?_⟩, ?_⟩) | (refine ⟨⟨rfl, .inr ⟨rfl, ?_⟩⟩, ?_⟩) | (refine ⟨rfl, ?_⟩) | (simp; done) | (simp; rfl)))), by dsimp only; omega⟩
      · ((refine hif_false ?_ ?_; (· (first | rfl | assumption | omega | (simp only [gt_iff_lt, ge_iff_le, decide_eq_true_eq, decide_eq_false_iff_not, beq_iff_eq, bne_iff_ne, ne_eq, beq_eq_false_iff_ne, bne_eq_false_iff_eq, List.length_map, List.length_append, List.length_cons, List.length_nil, List.length_take, List.length_drop, Bool.not_eq_true', Bool.not_eq_false', Bool.not_eq_true, Bool.not_eq_false, Decidable.not_not, Nat.cast_ofNat, Int.natCast_add] <;> omega) | (simp <;> omega))); conv => whnf); try (refine hcut.go ?_; conv => whnf))
end Sco
end Go.HL
