/- slices.Clone, slices.IndexFunc, slices.DeleteFunc and slices.ContainsFunc of the program's types. -/
import Derived.Test.YticmofoeecjnhaaSortD
namespace Go.HL
open Go.Proofs
namespace Cl
set_option maxHeartbeats 2000000
set_option maxRecDepth 100000
set_option linter.unusedSimpArgs false
theorem idx_first {α : Type} {p : α → Bool} (A B : List α) (x : α) (hA : ∀ y ∈ A, p y = false) (hx : p x = true) : idxFrom p 0 (A ++ x :: B) = (A.length : Int) := by
  have gen : ∀ (A : List α) (k : Nat), (∀ y ∈ A, p y = false) → idxFrom p k (A ++ x :: B) = ((k + A.length : Nat) : Int) := by
    intro A
    induction A with
    | nil => intro k _; simp [idxFrom, hx]
    | cons a A ih => intro k h; rw [List.cons_append, idxFrom, if_neg (by rw [h a (by simp)]; decide), ih (k + 1) fun y hy => h y (by simp [hy])]; simp; omega
  rw [gen A 0 hA]; simp
theorem idx_split {α : Type} (p : α → Bool) (l : List α) : (idxFrom p 0 l = -1 ∧ ∀ y ∈ l, p y = false) ∨ ∃ A x B, l = A ++ x :: B ∧ (∀ y ∈ A, p y = false) ∧ p x = true := by
  have gen : ∀ (l : List α) (k : Nat), (idxFrom p k l = -1 ∧ ∀ y ∈ l, p y = false) ∨ ∃ A x B, l = A ++ x :: B ∧ (∀ y ∈ A, p y = false) ∧ p x = true := by
    intro l
    induction l with
    | nil => intro k; exact .inl ⟨rfl, by simp⟩
    | cons a l ih =>
      intro k
      cases h : p a with
      | true => exact .inr ⟨[], a, l, rfl, by simp, h⟩
      | false =>
        rcases ih (k + 1) with ⟨h1, h2⟩ | ⟨A, x, B, rfl, h2, h3⟩
        · exact .inl ⟨by rw [idxFrom, if_neg (by rw [h]; decide), h1], fun y hy => by rcases List.mem_cons.1 hy with rfl | hy; exact h; exact h2 y hy⟩
        · exact .inr ⟨a :: A, x, B, rfl, fun y hy => by rcases List.mem_cons.1 hy with rfl | hy; exact h; exact h2 y hy, h3⟩
  exact gen l 0
theorem row_mid2 {α : Type} {t n : Nat} {f : α → List PV} {l A B : List α} {x y : α} {i : Nat} {r : List PV} (h : l = A ++ x :: B) (hi : i = A.length) (hr : f y = r) : HSlot.live (.row t n ((l.map f).set i r)) = HSlot.live (.row t n ((A ++ y :: B).map f)) := by
  subst h hr
  rw [← List.map_set, Srt.set_mid hi]
theorem clone_bytes (l : List UInt8) (hb : l.length < 2 ^ 40) : FunOK Try.prog 34 [.p (.sl 1 (l.map bRow))] noHeap (.own 0) (lk .free [(0, .live (.row 5 1 (l.map bRow)))]) := by
  refine funOK_of mixed Try.func34 (by decide) [] (fun _ => .inl rfl) ?_
  conv => whnf
  intro b hn
  conv => whnf
  refine hif_intro (fun c => ?_) (fun c => ?_)
  · conv => whnf
    refine hfin_of [(0, none)] rfl rfl trivial rfl rfl ⟨⟨rfl, .inr ⟨rfl, hn c⟩⟩, trivial⟩
  · conv => whnf
    refine hobl_intro (c := (([] : List (List PV)).length + (l.map bRow).length) * 1 ≤ 140737488355328) (by simp; omega) ?_
    conv => whnf
    refine hfin_of [(0, some 7)] rfl rfl trivial rfl rfl ⟨⟨rfl, .inl ⟨7, rfl, ?_⟩⟩, trivial⟩
    rfl

theorem clone_ints (l : List Int) (hb : l.length < 2 ^ 40) : FunOK Try.prog 33 [.p (.sl 1 (l.map (fun n => [pi n])))] noHeap (.own 0) (lk .free [(0, .live (.row 3 1 (l.map (fun n => [pi n]))))]) := by
  refine funOK_of mixed Try.func33 (by decide) [] (fun _ => .inl rfl) ?_
  conv => whnf
  intro b hn
  conv => whnf
  refine hif_intro (fun c => ?_) (fun c => ?_)
  · conv => whnf
    refine hfin_of [(0, none)] rfl rfl trivial rfl rfl ⟨⟨rfl, .inr ⟨rfl, hn c⟩⟩, trivial⟩
  · conv => whnf
    refine hobl_intro (c := (([] : List (List PV)).length + (l.map (fun n => [pi n])).length) * 8 ≤ 140737488355328) (by simp; omega) ?_
    conv => whnf
    refine hfin_of [(0, some 7)] rfl rfl trivial rfl rfl ⟨⟨rfl, .inl ⟨7, rfl, ?_⟩⟩, trivial⟩
    rfl

theorem clone_spans (l : List Span) (hb : l.length < 2 ^ 40) : FunOK Try.prog 32 [.p (.sl 2 (l.map Span.row))] noHeap (.own 0) (lk .free [(0, .live (.row 83 2 (l.map Span.row)))]) := by
  refine funOK_of mixed Try.func32 (by decide) [] (fun _ => .inl rfl) ?_
  conv => whnf
  intro b hn
  conv => whnf
  refine hif_intro (fun c => ?_) (fun c => ?_)
  · conv => whnf
    refine hfin_of [(0, none)] rfl rfl trivial rfl rfl ⟨⟨rfl, .inr ⟨rfl, hn c⟩⟩, trivial⟩
  · conv => whnf
    refine hobl_intro (c := (([] : List (List PV)).length + (l.map Span.row).length) * 16 ≤ 140737488355328) (by simp; omega) ?_
    conv => whnf
    refine hfin_of [(0, some 7)] rfl rfl trivial rfl rfl ⟨⟨rfl, .inl ⟨7, rfl, ?_⟩⟩, trivial⟩
    rfl

theorem clone_skips (l : List Skip) (hb : l.length < 2 ^ 40) : FunOK Try.prog 111 [.p (.sl 3 (l.map Skip.row))] noHeap (.own 0) (lk .free [(0, .live (.row 100 3 (l.map Skip.row)))]) := by
  refine funOK_of mixed Try.func111 (by decide) [] (fun _ => .inl rfl) ?_
  conv => whnf
  intro b hn
  conv => whnf
  refine hif_intro (fun c => ?_) (fun c => ?_)
  · conv => whnf
    refine hfin_of [(0, none)] rfl rfl trivial rfl rfl ⟨⟨rfl, .inr ⟨rfl, hn c⟩⟩, trivial⟩
  · conv => whnf
    refine hobl_intro (c := (([] : List (List PV)).length + (l.map Skip.row).length) * 24 ≤ 140737488355328) (by simp; omega) ?_
    conv => whnf
    refine hfin_of [(0, some 7)] rfl rfl trivial rfl rfl ⟨⟨rfl, .inl ⟨7, rfl, ?_⟩⟩, trivial⟩
    rfl

theorem clone_paths (l : List Path) (hb : l.length < 2 ^ 40) : FunOK Try.prog 82 [.p (.sl 7 (l.map Path.row))] noHeap (.own 0) (lk .free [(0, .live (.row 109 7 (l.map Path.row)))]) := by
  refine funOK_of mixed Try.func82 (by decide) [] (fun _ => .inl rfl) ?_
  conv => whnf
  intro b hn
  conv => whnf
  refine hif_intro (fun c => ?_) (fun c => ?_)
  · conv => whnf
    refine hfin_of [(0, none)] rfl rfl trivial rfl rfl ⟨⟨rfl, .inr ⟨rfl, hn c⟩⟩, trivial⟩
  · conv => whnf
    refine hobl_intro (c := (([] : List (List PV)).length + (l.map Path.row).length) * 56 ≤ 140737488355328) (by simp; omega) ?_
    conv => whnf
    refine hfin_of [(0, some 7)] rfl rfl trivial rfl rfl ⟨⟨rfl, .inl ⟨7, rfl, ?_⟩⟩, trivial⟩
    rfl

theorem clone_queued (l : List Queued) (hb : l.length < 2 ^ 39) : FunOK Try.prog 84 [.p (.sl 10 (l.map Queued.row))] noHeap (.own 0) (lk .free [(0, .live (.row 112 10 (l.map Queued.row)))]) := by
  refine funOK_of mixed Try.func84 (by decide) [] (fun _ => .inl rfl) ?_
  conv => whnf
  intro b hn
  conv => whnf
  refine hif_intro (fun c => ?_) (fun c => ?_)
  · conv => whnf
    refine hfin_of [(0, none)] rfl rfl trivial rfl rfl ⟨⟨rfl, .inr ⟨rfl, hn c⟩⟩, trivial⟩
  · conv => whnf
    refine hobl_intro (c := (([] : List (List PV)).length + (l.map Queued.row).length) * 96 ≤ 140737488355328) (by simp; omega) ?_
    conv => whnf
    refine hfin_of [(0, some 7)] rfl rfl trivial rfl rfl ⟨⟨rfl, .inl ⟨7, rfl, ?_⟩⟩, trivial⟩
    rfl

theorem clone_sent (l : List Sent) (hb : l.length < 2 ^ 38) : FunOK Try.prog 87 [.p (.sl 20 (l.map Sent.row))] noHeap (.own 0) (lk .free [(0, .live (.row 145 20 (l.map Sent.row)))]) := by
  refine funOK_of mixed Try.func87 (by decide) [] (fun _ => .inl rfl) ?_
  conv => whnf
  intro b hn
  conv => whnf
  refine hif_intro (fun c => ?_) (fun c => ?_)
  · conv => whnf
    refine hfin_of [(0, none)] rfl rfl trivial rfl rfl ⟨⟨rfl, .inr ⟨rfl, hn c⟩⟩, trivial⟩
  · conv => whnf
    refine hobl_intro (c := (([] : List (List PV)).length + (l.map Sent.row).length) * 200 ≤ 140737488355328) (by simp; omega) ?_
    conv => whnf
    refine hfin_of [(0, some 7)] rfl rfl trivial rfl rfl ⟨⟨rfl, .inl ⟨7, rfl, ?_⟩⟩, trivial⟩
    rfl

theorem del_pieces_idx {g : FuncId} {c1 c2 c3 : List PV} {p : Piece → Bool} (hg : ∀ m : Piece, FunOK Try.prog g [m.hv, .rp c1, .rp c2, .rp c3] noHeap (hbool (p m)) noHeap) (q : List Piece) (hb : q.length < 2 ^ 62) :
    FunOK Try.prog 124 [.p (.sl 12 (q.map Piece.row)), .clo g [.rp c1, .rp c2, .rp c3]] noHeap (i64 (idxFrom p 0 q)) noHeap := by
  refine funOK_pure mixed Try.func124 (by decide) ?_
  conv => whnf
  refine ⟨{ k : Nat // k ≤ q.length ∧ idxFrom p k (q.drop k) = idxFrom p 0 q }, fun | ⟨k, _⟩ => hs 19 [(0, .p (.sl 12 (q.map Piece.row))), (1, .clo g [.rp c1, .rp c2, .rp c3]), (7, i64 (q.map Piece.row).length), (8, i64 k)] [], fun k => q.length - k.1, ⟨0, by simp⟩, ?_, ?_⟩
  · exact (hle_hs [] rfl rfl rfl rfl (by repeat' (first | exact trivial | exact rfl | (refine ⟨⟨rfl, ?_⟩, ?_⟩) | (refine ⟨rfl, ?_⟩) | (simp; done) | (simp; rfl))) (by repeat' (first | exact trivial | exact rfl | exact .inl rfl | exact .inr rfl | (refine ⟨⟨rfl, .inl ⟨_, rfl, ?_⟩⟩, ?_⟩) | (refine ⟨⟨rfl, _, rfl, ?_⟩, ?_⟩) | (refine ⟨⟨rfl, .inr ⟨rfl, ?_⟩⟩, ?_⟩) | (refine ⟨rfl, ?_⟩) | (simp; done) | (simp; rfl))))
  · rintro ⟨k, hk, hi⟩
    conv => whnf
    refine hif_intro (fun h => ?_) (fun h => ?_)
    · have hlt : k < q.length := by simpa using h
      conv => whnf
      refine hrow_intro (r := (q[k]).row) (by simp) (by simp [hlt]) ?_
      conv => whnf
      refine hcall_lend0 ?_; conv => whnf
      refine ⟨_, hg q[k], rfl, ?_⟩; conv => whnf
      rw [List.drop_eq_getElem_cons hlt] at hi
      simp only [idxFrom] at hi
      refine hif_intro (fun h => ?_) (fun h => ?_)
      · conv => whnf
        rw [if_pos h] at hi
        rw [← hi]
      · conv => whnf
        rw [if_neg (by rw [h]; decide)] at hi
        refine hwrap_fit (W_fit (by omega) (by omega)) ?_
        conv => whnf
        exact ⟨⟨k + 1, hlt, hi⟩, (hle_hs [] rfl rfl rfl rfl (by repeat' (first | exact trivial | exact rfl | (refine ⟨⟨rfl, ?_⟩, ?_⟩) | (refine ⟨rfl, ?_⟩) | (simp; done) | (simp; rfl))) (by repeat' (first | exact trivial | exact rfl | exact .inl rfl | exact .inr rfl | (refine ⟨⟨rfl, .inl ⟨_, rfl, ?_⟩⟩, ?_⟩) | (refine ⟨⟨rfl, _, rfl, ?_⟩, ?_⟩) | (refine ⟨⟨rfl, .inr ⟨rfl, ?_⟩⟩, ?_⟩) | (refine ⟨rfl, ?_⟩) | (simp; done) | (simp; rfl)))), by dsimp only; omega⟩
    · conv => whnf
      have hge : q.length ≤ k := by simpa using h
      rw [List.drop_eq_nil_of_le hge] at hi
      rw [← hi]; rfl
theorem del_pieces_w {g : FuncId} {c1 c2 c3 : List PV} {p : Piece → Bool} (hg : ∀ m : Piece, FunOK Try.prog g [m.hv, .rp c1, .rp c2, .rp c3] noHeap (hbool (p m)) noHeap) (A0 B0 : List Piece) (x : Piece) (hA : ∀ y ∈ A0, p y = false) (hx : p x = true) (hb : (A0 ++ x :: B0).length < 2 ^ 38) :
    FunOK Try.prog 104 [.own 1000000, .clo g [.rp c1, .rp c2, .rp c3]] (lk .free [(1000000, .live (.row 80 12 ((A0 ++ x :: B0).map Piece.row)))])
      (.osl 1000000 12 0 ((A0 ++ x :: B0).filter fun y => !p y).length) (lk .free [(1000000, .live (.row 80 12 ((((A0 ++ x :: B0).filter fun y => !p y).map Piece.row) ++ List.replicate ((A0 ++ x :: B0).length - ((A0 ++ x :: B0).filter fun y => !p y).length) ([pi 0, pi 0, pi 0, pi 0, pi 0, pi 0, pb false, pb false, .v (.slice none 0 0), .v (.slice none 0 0), pi 0, .v (.slice none 0 0)]))))]) := by
  refine funOK_of mixed Try.func104 (by decide) [1000000] lk_pins ?_
  have hfA : A0.filter (fun y => !p y) = A0 := List.filter_eq_self.2 fun y hy => by rw [hA y hy]; rfl
  have hlen : (A0 ++ x :: B0).length = A0.length + 1 + B0.length := by simp; omega
  conv => whnf
  ((refine hcall_lend ?_; (conv => whnf); refine ⟨_, del_pieces_idx hg (A0 ++ x :: B0) (by omega), rfl, ?_⟩; conv => whnf); try (refine hcut.go ?_; conv => whnf))
  rw [idx_first A0 B0 x hA hx]
  conv => whnf
  try (refine hcut.go ?_; conv => whnf)
  ((refine hwrap_fit (W_fit ?_ ?_) ?_; (· (first | omega | (simp only [List.length_map, List.length_append, List.length_take, List.length_drop, List.length_cons, List.length_nil] <;> omega) | (simp <;> omega))); (· (first | omega | (simp only [List.length_map, List.length_append, List.length_take, List.length_drop, List.length_cons, List.length_nil] <;> omega) | (simp <;> omega))); conv => whnf); try (refine hcut.go ?_; conv => whnf))
  refine ⟨{ y : (List Piece × List Piece) × List Piece × List Piece // A0 ++ x :: B0 = y.1.1 ++ y.1.2 ∧ y.2.1 = y.1.1.filter (fun z => !p z) ∧ 0 < y.2.2.length ∧ y.2.1.length + y.2.2.length = y.1.1.length }, fun | ⟨((A, B), K, G), _⟩ => hsP [1000000] 42 [(0, .own 1000000), (1, .clo g [.rp c1, .rp c2, .rp c3]), (5, i64 K.length), (6, i64 A.length)] [(1000000, .live (.row 80 12 ((K ++ G ++ B).map Piece.row)))], fun y => y.1.1.2.length, ⟨((A0 ++ [x], B0), A0, [x]), by simp, by simp [hfA, hx], by simp, by simp⟩, ?_, ?_⟩
  · exact (hle_of [(1000000, some 1000000)] rfl rfl rfl rfl (by repeat' (first | exact trivial | (refine ⟨rfl, ?_⟩))) (by repeat' (first | exact trivial | exact rfl | (refine ⟨⟨rfl, ?_⟩, ?_⟩) | (refine ⟨rfl, ?_⟩) | ((exact i64_eq (by (first | omega | (simp only [List.length_map, List.length_append, List.length_take, List.length_drop, List.length_cons, List.length_nil] <;> omega) | (simp <;> omega))))) | ((exact row_eqs (by simp))) | (simp; done) | (simp; rfl))) (by repeat' (first | exact trivial | exact rfl | exact .inl rfl | exact .inr rfl | (refine ⟨⟨rfl, .inl ⟨_, rfl, ?_⟩⟩, ?_⟩) | (refine ⟨⟨rfl, _, rfl, ?_⟩, ?_⟩) | (refine ⟨⟨rfl, .inr ⟨rfl, ?_⟩⟩, ?_⟩) | (refine ⟨rfl, ?_⟩) | ((exact i64_eq (by (first | omega | (simp only [List.length_map, List.length_append, List.length_take, List.length_drop, List.length_cons, List.length_nil] <;> omega) | (simp <;> omega))))) | ((exact row_eqs (by simp))) | (simp; done) | (simp; rfl))))
  rintro ⟨⟨⟨A, B⟩, K, G⟩, h, hK, hG, hl⟩
  dsimp only at h hK hG hl
  have hAB : (A0 ++ x :: B0).length = A.length + B.length := by rw [h]; simp
  conv => whnf
  cases B with
  | nil =>
    rw [List.length_nil] at hAB
    rw [List.append_nil] at h
    have hF : (A0 ++ x :: B0).filter (fun z => !p z) = K := by rw [h, hK]
    refine hif_false (by simp; omega) ?_; conv => whnf
    try (refine hcut.go ?_; conv => whnf)
    refine hobl_intro (by simp; omega) ?_; conv => whnf
    refine hobl_intro (by simp; omega) ?_; conv => whnf
    refine hobl_intro (by simp [splice]; omega) ?_; conv => whnf
    refine hfin_of [(1000000, some 1000000)] rfl rfl ⟨rfl, trivial⟩ rfl ?_ ⟨⟨rfl, .inl ⟨1000000, rfl, ?_⟩⟩, trivial⟩
    · show HV.osl 1000000 12 0 _ = HV.osl 1000000 12 0 _
      rw [hF]; rfl
    · refine row_eqs ?_
      rw [hF, splice, List.append_nil, List.map_append, List.drop_eq_nil_of_le (by simp; omega), List.append_nil]
      congr 1
      · exact List.take_left' (by simp)
      · congr 1; simp; omega
  | cons v B =>
    rw [List.length_cons] at hAB
    have e1 : K ++ G ++ v :: B = (K ++ G) ++ v :: B := rfl
    refine hif_true (by simp; omega) ?_; conv => whnf
    try (refine hcut.go ?_; conv => whnf)
    ((refine hobl_intro ?_ ?_; (· (first | omega | (simp only [List.length_map, List.length_append, List.length_take, List.length_drop, List.length_cons, List.length_nil] <;> omega) | (simp <;> omega))); conv => whnf); try (refine hcut.go ?_; conv => whnf))
    refine hrow_mid e1 (by simp; omega) ?_; conv => whnf
    ((refine hcall_lend0 ?_; (conv => whnf); refine ⟨_, hg v, rfl, ?_⟩; conv => whnf); try (refine hcut.go ?_; conv => whnf))
    cases hv : p v with
    | true =>
      conv => whnf
      try (refine hcut.go ?_; conv => whnf)
      ((refine hwrap_fit (W_fit ?_ ?_) ?_; (· (first | omega | (simp only [List.length_map, List.length_append, List.length_take, List.length_drop, List.length_cons, List.length_nil] <;> omega) | (simp <;> omega))); (· (first | omega | (simp only [List.length_map, List.length_append, List.length_take, List.length_drop, List.length_cons, List.length_nil] <;> omega) | (simp <;> omega))); conv => whnf); try (refine hcut.go ?_; conv => whnf))
      refine ⟨⟨((A ++ [v], B), K, G ++ [v]), by rw [h]; simp, by rw [List.filter_append, ← hK]; simp [hv], by simp, by simp; omega⟩, (hle_of [(1000000, some 1000000)] rfl rfl rfl rfl (by repeat' (first | exact trivial | (refine ⟨rfl, ?_⟩))) (by repeat' (first | exact trivial | exact rfl | (refine ⟨⟨rfl, ?_⟩, ?_⟩) | (refine ⟨rfl, ?_⟩) | ((exact i64_eq (by (first | omega | (simp only [List.length_map, List.length_append, List.length_take, List.length_drop, List.length_cons, List.length_nil] <;> omega) | (simp <;> omega))))) | ((exact row_eqs (by simp))) | (simp; done) | (simp; rfl))) (by repeat' (first | exact trivial | exact rfl | exact .inl rfl | exact .inr rfl | (refine ⟨⟨rfl, .inl ⟨_, rfl, ?_⟩⟩, ?_⟩) | (refine ⟨⟨rfl, _, rfl, ?_⟩, ?_⟩) | (refine ⟨⟨rfl, .inr ⟨rfl, ?_⟩⟩, ?_⟩) | (refine ⟨rfl, ?_⟩) | ((exact i64_eq (by (first | omega | (simp only [List.length_map, List.length_append, List.length_take, List.length_drop, List.length_cons, List.length_nil] <;> omega) | (simp <;> omega))))) | ((exact row_eqs (by simp))) | (simp; done) | (simp; rfl)))), by simp⟩
    | false =>
      obtain ⟨g0, G, rfl⟩ : ∃ g0 G', G = g0 :: G' := by cases G with
        | nil => simp at hG
        | cons a b => exact ⟨a, b, rfl⟩
      have e2 : K ++ (g0 :: G) ++ v :: B = K ++ g0 :: (G ++ v :: B) := by simp
      rw [List.length_cons] at hl
      conv => whnf
      try (refine hcut.go ?_; conv => whnf)
      ((refine hobl_intro ?_ ?_; (· (first | omega | (simp only [List.length_map, List.length_append, List.length_take, List.length_drop, List.length_cons, List.length_nil] <;> omega) | (simp <;> omega))); conv => whnf); try (refine hcut.go ?_; conv => whnf))
      refine hrow_mid e2 (by simp) ?_; conv => whnf
      ((refine hwrap_fit (W_fit ?_ ?_) ?_; (· (first | omega | (simp only [List.length_map, List.length_append, List.length_take, List.length_drop, List.length_cons, List.length_nil] <;> omega) | (simp <;> omega))); (· (first | omega | (simp only [List.length_map, List.length_append, List.length_take, List.length_drop, List.length_cons, List.length_nil] <;> omega) | (simp <;> omega))); conv => whnf); try (refine hcut.go ?_; conv => whnf))
      ((refine hwrap_fit (W_fit ?_ ?_) ?_; (· (first | omega | (simp only [List.length_map, List.length_append, List.length_take, List.length_drop, List.length_cons, List.length_nil] <;> omega) | (simp <;> omega))); (· (first | omega | (simp only [List.length_map, List.length_append, List.length_take, List.length_drop, List.length_cons, List.length_nil] <;> omega) | (simp <;> omega))); conv => whnf); try (refine hcut.go ?_; conv => whnf))
      refine ⟨⟨((A ++ [v], B), K ++ [v], G ++ [v]), by rw [h]; simp, by rw [List.filter_append, ← hK]; simp [hv], by simp, by simp; omega⟩, (hle_of [(1000000, some 1000000)] rfl rfl rfl rfl (by repeat' (first | exact trivial | (refine ⟨rfl, ?_⟩))) (by repeat' (first | exact trivial | exact rfl | (refine ⟨⟨rfl, ?_⟩, ?_⟩) | (refine ⟨rfl, ?_⟩) | ((exact i64_eq (by (first | omega | (simp only [List.length_map, List.length_append, List.length_take, List.length_drop, List.length_cons, List.length_nil] <;> omega) | (simp <;> omega))))) | ((exact (row_set (f := Piece.row) (a := K) (b := G ++ v :: B) (x := g0) (y := v) (by simp) rfl).symm.trans (row_eqs (by simp)))) | ((refine (row_mid2 e2 ?_ rfl).trans (row_eqs (by simp)); simp)) | (simp; done) | (simp; rfl))) (by repeat' (first | exact trivial | exact rfl | exact .inl rfl | exact .inr rfl | (refine ⟨⟨rfl, .inl ⟨_, rfl, ?_⟩⟩, ?_⟩) | (refine ⟨⟨rfl, _, rfl, ?_⟩, ?_⟩) | (refine ⟨⟨rfl, .inr ⟨rfl, ?_⟩⟩, ?_⟩) | (refine ⟨rfl, ?_⟩) | ((exact i64_eq (by (first | omega | (simp only [List.length_map, List.length_append, List.length_take, List.length_drop, List.length_cons, List.length_nil] <;> omega) | (simp <;> omega))))) | ((exact (row_set (f := Piece.row) (a := K) (b := G ++ v :: B) (x := g0) (y := v) (by simp) rfl).symm.trans (row_eqs (by simp)))) | ((refine (row_mid2 e2 ?_ rfl).trans (row_eqs (by simp)); simp)) | (simp; done) | (simp; rfl)))), by simp⟩
theorem del_pieces {g : FuncId} {c1 c2 c3 : List PV} {p : Piece → Bool} (hg : ∀ m : Piece, FunOK Try.prog g [m.hv, .rp c1, .rp c2, .rp c3] noHeap (hbool (p m)) noHeap) (l : List Piece) (hb : l.length < 2 ^ 38) :
    FunOK Try.prog 104 [.own 1000000, .clo g [.rp c1, .rp c2, .rp c3]] (lk .free [(1000000, .live (.row 80 12 (l.map Piece.row)))])
      (.own 0) (lk .free [(1000000, .dead), (0, .live (.row 80 12 ((l.filter fun y => !p y).map Piece.row)))]) := by
  rcases idx_split p l with ⟨h1, h2⟩ | ⟨A, x, B, rfl, hA, hx⟩
  · refine funOK_of mixed Try.func104 (by decide) [1000000] lk_pins ?_
    rw [List.filter_eq_self.2 fun y hy => by rw [h2 y hy]; rfl]
    conv => whnf
    ((refine hcall_lend ?_; (conv => whnf); refine ⟨_, del_pieces_idx hg l (by omega), rfl, ?_⟩; conv => whnf); try (refine hcut.go ?_; conv => whnf))
    rw [h1]
    conv => whnf
    try (refine hcut.go ?_; conv => whnf)
    refine hfin_of [(0, some 1000000), (1000000, some 1000000)] rfl rfl ⟨rfl, trivial⟩ rfl rfl ⟨rfl, ⟨rfl, .inl ⟨1000000, rfl, rfl⟩⟩, trivial⟩
  · have h := funOK_win (d := 0) (L := []) (rows := (((A ++ x :: B).filter fun y => !p y).map Piece.row) ++ List.replicate ((A ++ x :: B).length - ((A ++ x :: B).filter fun y => !p y).length) ([pi 0, pi 0, pi 0, pi 0, pi 0, pi 0, pb false, pb false, .v (.slice none 0 0), .v (.slice none 0 0), pi 0, .v (.slice none 0 0)])) (del_pieces_w hg A B x hA hx hb) (.inl rfl) (by simp) rfl (by decide)
    rwa [List.take_left' (by simp)] at h

end Cl
end Go.HL
