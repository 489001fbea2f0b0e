/- The sender: each path knows what is on it; a message is gone without. -/
import Derived.Test.YticmofoeecjnhaaSndA
namespace Go.HL
open Go.Proofs
namespace Snd
open Ser Cl
set_option maxHeartbeats 4000000
set_option maxRecDepth 100000
set_option linter.unusedSimpArgs false
theorem del_queued_idx {g : FuncId} {c1 : List PV} {p : Queued → Bool} (hg : ∀ m : Queued, FunOK Try.prog g [m.hv, .rp c1] noHeap (hbool (p m)) noHeap) (q : List Queued) (hb : q.length < 2 ^ 62) :
    FunOK Try.prog 115 [.p (.sl 10 (q.map Queued.row)), .clo g [.rp c1]] noHeap (i64 (idxFrom p 0 q)) noHeap := by
  refine funOK_pure mixed Try.func115 (by decide) ?_
  conv => whnf
  refine ⟨{ k : Nat // k ≤ q.length ∧ idxFrom p k (q.drop k) = idxFrom p 0 q }, fun | ⟨k, _⟩ => hs 19 [(0, .p (.sl 10 (q.map Queued.row))), (1, .clo g [.rp c1]), (7, i64 (q.map Queued.row).length), (8, i64 k)] [], fun k => q.length - k.1, ⟨0, by simp⟩, ?_, ?_⟩
  · exact (hle_Q [])
  · rintro ⟨k, hk, hi⟩
    conv => whnf
    refine hif_intro (fun h => ?_) (fun h => ?_)
    · have hlt : k < q.length := by simpa using h
      conv => whnf
      refine hrow_intro (r := (q[k]).row) (by simp) (by simp [hlt]) ?_
      conv => whnf
      refine hcall_lend0 ?_; conv => whnf
      refine ⟨_, hg q[k], rfl, ?_⟩; conv => whnf
      rw [List.drop_eq_getElem_cons hlt] at hi
      simp only [idxFrom] at hi
      refine hif_intro (fun h => ?_) (fun h => ?_)
      · conv => whnf
        rw [if_pos h] at hi
        rw [← hi]
      · conv => whnf
        rw [if_neg (by rw [h]; decide)] at hi
        refine hwrap_fit (W_fit (by omega) (by omega)) ?_
        conv => whnf
        exact ⟨⟨k + 1, hlt, hi⟩, (hle_Q []), by dsimp only; omega⟩
    · conv => whnf
      have hge : q.length ≤ k := by simpa using h
      rw [List.drop_eq_nil_of_le hge] at hi
      rw [← hi]; rfl
theorem del_queued_w {g : FuncId} {c1 : List PV} {p : Queued → Bool} (hg : ∀ m : Queued, FunOK Try.prog g [m.hv, .rp c1] noHeap (hbool (p m)) noHeap) (A0 B0 : List Queued) (x : Queued) (hA : ∀ y ∈ A0, p y = false) (hx : p x = true) (hb : (A0 ++ x :: B0).length < 2 ^ 38) :
    FunOK Try.prog 112 [.own 1000000, .clo g [.rp c1]] (lk .free [(1000000, .live (.row 112 10 ((A0 ++ x :: B0).map Queued.row)))])
      (.osl 1000000 10 0 ((A0 ++ x :: B0).filter fun y => !p y).length) (lk .free [(1000000, .live (.row 112 10 ((((A0 ++ x :: B0).filter fun y => !p y).map Queued.row) ++ List.replicate ((A0 ++ x :: B0).length - ((A0 ++ x :: B0).filter fun y => !p y).length) ([pi 0, pi 0, pi 0, pi 0, pi 0, pi 0, pb false, pi 0, pi 0, .v (.slice none 0 0)]))))]) := by
  refine funOK_of mixed Try.func112 (by decide) [1000000] lk_pins ?_
  have hfA : A0.filter (fun y => !p y) = A0 := List.filter_eq_self.2 fun y hy => by rw [hA y hy]; rfl
  have hlen : (A0 ++ x :: B0).length = A0.length + 1 + B0.length := by simp; omega
  conv => whnf
  ((refine hcall_lend ?_; (conv => whnf); refine ⟨_, del_queued_idx hg (A0 ++ x :: B0) (by omega), rfl, ?_⟩; conv => whnf); try (refine hcut.go ?_; conv => whnf))
  rw [idx_first A0 B0 x hA hx]
  conv => whnf
  try (refine hcut.go ?_; conv => whnf)
  ((refine hwrap_F ?_; conv => whnf); try (refine hcut.go ?_; conv => whnf))
  refine ⟨{ y : (List Queued × List Queued) × List Queued × List Queued // A0 ++ x :: B0 = y.1.1 ++ y.1.2 ∧ y.2.1 = y.1.1.filter (fun z => !p z) ∧ 0 < y.2.2.length ∧ y.2.1.length + y.2.2.length = y.1.1.length }, fun | ⟨((A, B), K, G), _⟩ => hsP [1000000] 42 [(0, .own 1000000), (1, .clo g [.rp c1]), (5, i64 K.length), (6, i64 A.length)] [(1000000, .live (.row 112 10 ((K ++ G ++ B).map Queued.row)))], fun y => y.1.1.2.length, ⟨((A0 ++ [x], B0), A0, [x]), by simp, by simp [hfA, hx], by simp, by simp⟩, ?_, ?_⟩
  · exact (hle_P [(1000000, some 1000000)] (by repeat' (first | exact trivial | exact rfl | (refine ⟨⟨rfl, ?_⟩, ?_⟩) | (refine ⟨rfl, ?_⟩) | ((exact i64_eq (by (first | omega | (simp only [List.length_map, List.length_append, List.length_take, List.length_drop, List.length_cons, List.length_nil] <;> omega) | (simp <;> omega))))) | ((exact row_eqs (by simp))) | (simp; done) | (simp; rfl))) (by repeat' (first | exact trivial | exact rfl | exact .inl rfl | exact .inr rfl | (refine ⟨⟨rfl, .inl ⟨_, rfl, ?_⟩⟩, ?_⟩) | (refine ⟨⟨rfl, _, rfl, ?_⟩, ?_⟩) | (refine ⟨⟨rfl, .inr ⟨rfl, ?_⟩⟩, ?_⟩) | (refine ⟨rfl, ?_⟩) | ((exact i64_eq (by (first | omega | (simp only [List.length_map, List.length_append, List.length_take, List.length_drop, List.length_cons, List.length_nil] <;> omega) | (simp <;> omega))))) | ((exact row_eqs (by simp))) | (simp; done) | (simp; rfl))))
  rintro ⟨⟨⟨A, B⟩, K, G⟩, h, hK, hG, hl⟩
  dsimp only at h hK hG hl
  have hAB : (A0 ++ x :: B0).length = A.length + B.length := by rw [h]; simp
  conv => whnf
  cases B with
  | nil =>
    rw [List.length_nil] at hAB
    rw [List.append_nil] at h
    have hF : (A0 ++ x :: B0).filter (fun z => !p z) = K := by rw [h, hK]
    refine hif_false (by simp; omega) ?_; conv => whnf
    try (refine hcut.go ?_; conv => whnf)
    refine hobl_intro (by simp; omega) ?_; conv => whnf
    refine hobl_intro (by simp; omega) ?_; conv => whnf
    refine hobl_intro (by simp [splice]; omega) ?_; conv => whnf
    refine hfin_of [(1000000, some 1000000)] rfl rfl ⟨rfl, trivial⟩ rfl ?_ ⟨⟨rfl, .inl ⟨1000000, rfl, ?_⟩⟩, trivial⟩
    · show HV.osl 1000000 10 0 _ = HV.osl 1000000 10 0 _
      rw [hF]; rfl
    · refine row_eqs ?_
      rw [hF, splice, List.append_nil, List.map_append, List.drop_eq_nil_of_le (by simp; omega), List.append_nil]
      congr 1
      · exact List.take_left' (by simp)
      · congr 1; simp; omega
  | cons v B =>
    rw [List.length_cons] at hAB
    have e1 : K ++ G ++ v :: B = (K ++ G) ++ v :: B := rfl
    refine hif_true (by simp; omega) ?_; conv => whnf
    try (refine hcut.go ?_; conv => whnf)
    ((refine hobl_O ?_; conv => whnf); try (refine hcut.go ?_; conv => whnf))
    refine hrow_mid e1 (by simp; omega) ?_; conv => whnf
    ((refine hcall_lend0 ?_; (conv => whnf); refine ⟨_, hg v, rfl, ?_⟩; conv => whnf); try (refine hcut.go ?_; conv => whnf))
    cases hv : p v with
    | true =>
      conv => whnf
      try (refine hcut.go ?_; conv => whnf)
      ((refine hwrap_F ?_; conv => whnf); try (refine hcut.go ?_; conv => whnf))
      refine ⟨⟨((A ++ [v], B), K, G ++ [v]), by rw [h]; simp, by rw [List.filter_append, ← hK]; simp [hv], by simp, by simp; omega⟩, (hle_P [(1000000, some 1000000)] (by repeat' (first | exact trivial | exact rfl | (refine ⟨⟨rfl, ?_⟩, ?_⟩) | (refine ⟨rfl, ?_⟩) | ((exact i64_eq (by (first | omega | (simp only [List.length_map, List.length_append, List.length_take, List.length_drop, List.length_cons, List.length_nil] <;> omega) | (simp <;> omega))))) | ((exact row_eqs (by simp))) | (simp; done) | (simp; rfl))) (by repeat' (first | exact trivial | exact rfl | exact .inl rfl | exact .inr rfl | (refine ⟨⟨rfl, .inl ⟨_, rfl, ?_⟩⟩, ?_⟩) | (refine ⟨⟨rfl, _, rfl, ?_⟩, ?_⟩) | (refine ⟨⟨rfl, .inr ⟨rfl, ?_⟩⟩, ?_⟩) | (refine ⟨rfl, ?_⟩) | ((exact i64_eq (by (first | omega | (simp only [List.length_map, List.length_append, List.length_take, List.length_drop, List.length_cons, List.length_nil] <;> omega) | (simp <;> omega))))) | ((exact row_eqs (by simp))) | (simp; done) | (simp; rfl)))), by simp⟩
    | false =>
      obtain ⟨g0, G, rfl⟩ : ∃ g0 G', G = g0 :: G' := by cases G with
        | nil => simp at hG
        | cons a b => exact ⟨a, b, rfl⟩
      have e2 : K ++ (g0 :: G) ++ v :: B = K ++ g0 :: (G ++ v :: B) := by simp
      rw [List.length_cons] at hl
      conv => whnf
      try (refine hcut.go ?_; conv => whnf)
      ((refine hobl_O ?_; conv => whnf); try (refine hcut.go ?_; conv => whnf))
      refine hrow_mid e2 (by simp) ?_; conv => whnf
      ((refine hwrap_F ?_; conv => whnf); try (refine hcut.go ?_; conv => whnf))
      ((refine hwrap_F ?_; conv => whnf); try (refine hcut.go ?_; conv => whnf))
      refine ⟨⟨((A ++ [v], B), K ++ [v], G ++ [v]), by rw [h]; simp, by rw [List.filter_append, ← hK]; simp [hv], by simp, by simp; omega⟩, (hle_P [(1000000, some 1000000)] (by repeat' (first | exact trivial | exact rfl | (refine ⟨⟨rfl, ?_⟩, ?_⟩) | (refine ⟨rfl, ?_⟩) | ((exact i64_eq (by (first | omega | (simp only [List.length_map, List.length_append, List.length_take, List.length_drop, List.length_cons, List.length_nil] <;> omega) | (simp <;> omega))))) | ((exact (row_set (f := Queued.row) (a := K) (b := G ++ v :: B) (x := g0) (y := v) (by simp) rfl).symm.trans (row_eqs (by simp)))) | ((refine (row_mid2 e2 ?_ rfl).trans (row_eqs (by simp)); simp)) | (simp; done) | (simp; rfl))) (by repeat' (first | exact trivial | exact rfl | exact .inl rfl | exact .inr rfl | (refine ⟨⟨rfl, .inl ⟨_, rfl, ?_⟩⟩, ?_⟩) | (refine ⟨⟨rfl, _, rfl, ?_⟩, ?_⟩) | (refine ⟨⟨rfl, .inr ⟨rfl, ?_⟩⟩, ?_⟩) | (refine ⟨rfl, ?_⟩) | ((exact i64_eq (by (first | omega | (simp only [List.length_map, List.length_append, List.length_take, List.length_drop, List.length_cons, List.length_nil] <;> omega) | (simp <;> omega))))) | ((exact (row_set (f := Queued.row) (a := K) (b := G ++ v :: B) (x := g0) (y := v) (by simp) rfl).symm.trans (row_eqs (by simp)))) | ((refine (row_mid2 e2 ?_ rfl).trans (row_eqs (by simp)); simp)) | (simp; done) | (simp; rfl)))), by simp⟩
theorem del_queued {g : FuncId} {c1 : List PV} {p : Queued → Bool} (hg : ∀ m : Queued, FunOK Try.prog g [m.hv, .rp c1] noHeap (hbool (p m)) noHeap) (l : List Queued) (hb : l.length < 2 ^ 38) :
    FunOK Try.prog 112 [.own 1000000, .clo g [.rp c1]] (lk .free [(1000000, .live (.row 112 10 (l.map Queued.row)))])
      (.own 0) (lk .free [(1000000, .dead), (0, .live (.row 112 10 ((l.filter fun y => !p y).map Queued.row)))]) := by
  rcases idx_split p l with ⟨h1, h2⟩ | ⟨A, x, B, rfl, hA, hx⟩
  · refine funOK_of mixed Try.func112 (by decide) [1000000] lk_pins ?_
    rw [List.filter_eq_self.2 fun y hy => by rw [h2 y hy]; rfl]
    conv => whnf
    ((refine hcall_lend ?_; (conv => whnf); refine ⟨_, del_queued_idx hg l (by omega), rfl, ?_⟩; conv => whnf); try (refine hcut.go ?_; conv => whnf))
    rw [h1]
    conv => whnf
    try (refine hcut.go ?_; conv => whnf)
    refine hfin_of [(0, some 1000000), (1000000, some 1000000)] rfl rfl ⟨rfl, trivial⟩ rfl rfl ⟨rfl, ⟨rfl, .inl ⟨1000000, rfl, rfl⟩⟩, trivial⟩
  · have h := funOK_win (d := 0) (L := []) (rows := (((A ++ x :: B).filter fun y => !p y).map Queued.row) ++ List.replicate ((A ++ x :: B).length - ((A ++ x :: B).filter fun y => !p y).length) ([pi 0, pi 0, pi 0, pi 0, pi 0, pi 0, pb false, pi 0, pi 0, .v (.slice none 0 0)])) (del_queued_w hg A B x hA hx hb) (.inl rfl) (by simp) rfl (by decide)
    rwa [List.take_left' (by simp)] at h
theorem spec_giveC (id : Int) (m : Queued) : FunOK Try.prog 113 [m.hv, .rp [pi id]] noHeap (hbool (m.id == id)) noHeap := by
  refine funOK_pure mixed Try.func113 (by decide) ?_
  conv => whnf
theorem fl_snoc (f : Nat → Path → Path) (A : List Path) (p : Path) (B : List Path) : (A ++ [p]).mapIdx f ++ B = A.mapIdx f ++ f A.length p :: B := by
  rw [List.mapIdx_concat]; simp
theorem spec_flights0 (s : Sender)  (h3 : Sco.Sized s.out) (h4 : s.paths.length < 2 ^ 22) : FunOK Try.prog 76 [.ptr 1000000 0] (lk .free (pH0 s )) (.tup []) (lk .free (pD0 (flights s) )) := by
  refine funOK_of mixed Try.func76 (by decide) [1000000, 1000001, 1000002, 1000003, 1000004, 1000005, 1000006] lk_pins ?_
  conv => whnf
  refine ⟨{ x : List Path × List Path // s.paths = x.1 ++ x.2 }, fun | ⟨(A, B), _⟩ => hsP [1000000, 1000001, 1000002, 1000003, 1000004, 1000005, 1000006] 25 [(0, .ptr 1000000 0), (7, i64 s.paths.length), (8, i64 A.length)] (pH0 { s with paths := A.mapIdx (flP s.out) ++ B } ), fun x => x.1.2.length, ⟨([], s.paths), rfl⟩, ?_, ?_⟩
  · exact (hle_P [(1000000, some 1000000), (1000001, some 1000001), (1000002, some 1000002), (1000003, some 1000003), (1000004, some 1000004), (1000005, some 1000005), (1000006, some 1000006)] (by repeat' (first | exact trivial | exact rfl | (refine ⟨⟨rfl, ?_⟩, ?_⟩) | (refine ⟨rfl, ?_⟩) | ((exact i64_eq (by (first | omega | (simp only [List.length_map, List.length_append, List.length_take, List.length_drop, List.length_cons, List.length_nil] <;> omega) | (simp <;> omega))))) | (simp; done) | (simp; rfl))) (by repeat' (first | exact trivial | exact rfl | exact .inl rfl | exact .inr rfl | (refine ⟨⟨rfl, .inl ⟨_, rfl, ?_⟩⟩, ?_⟩) | (refine ⟨⟨rfl, _, rfl, ?_⟩, ?_⟩) | (refine ⟨⟨rfl, .inr ⟨rfl, ?_⟩⟩, ?_⟩) | (refine ⟨rfl, ?_⟩) | ((exact i64_eq (by (first | omega | (simp only [List.length_map, List.length_append, List.length_take, List.length_drop, List.length_cons, List.length_nil] <;> omega) | (simp <;> omega))))) | (simp; done) | (simp; rfl))))
  rintro ⟨⟨A, B⟩, h⟩
  dsimp only at h
  conv => whnf
  cases B with
  | cons p B =>
    have hz := zip_cons h
    ((refine hif_T ?_; conv => whnf); try (refine hcut.go ?_; conv => whnf))
    ((refine hcall_lend ?_; (conv => whnf); refine ⟨_, Sco.spec_flight s.out A.length h3, rfl, ?_⟩; conv => whnf); try (refine hcut.go ?_; conv => whnf))
    refine hobl_intro (by simp; omega) ?_; conv => whnf
    refine hrow_mid (a := A.mapIdx (flP s.out)) (b := B) (s := p) rfl (by simp) ?_; conv => whnf
    ((refine hdraw_intro ?_ ?_; (· kernel_rfl); conv => whnf); try (refine hcut.go ?_; conv => whnf))
    ((refine hwrap_F ?_; conv => whnf); try (refine hcut.go ?_; conv => whnf))
    exact ⟨⟨(A ++ [p], B), zip_next h⟩, (hle_P [(1000000, some 1000000), (1000001, some 1000001), (1000002, some 1000002), (1000003, some 1000003), (1000004, some 1000004), (1000005, some 1000005), (1000006, some 1000006)] (by repeat' (first | exact trivial | exact rfl | (refine ⟨⟨rfl, ?_⟩, ?_⟩) | (refine ⟨rfl, ?_⟩) | ((rw [fl_snoc]; exact (row_set (by simp) rfl).symm)) | (simp; done) | (simp; rfl))) (by repeat' (first | exact trivial | exact rfl | exact .inl rfl | exact .inr rfl | (refine ⟨⟨rfl, .inl ⟨_, rfl, ?_⟩⟩, ?_⟩) | (refine ⟨⟨rfl, _, rfl, ?_⟩, ?_⟩) | (refine ⟨⟨rfl, .inr ⟨rfl, ?_⟩⟩, ?_⟩) | (refine ⟨rfl, ?_⟩) | ((rw [fl_snoc]; exact (row_set (by simp) rfl).symm)) | (simp; done) | (simp; rfl)))), by simp⟩
  | nil =>
    have hz := zip_nil h
    rw [List.append_nil] at h
    ((refine hif_F ?_; conv => whnf); try (refine hcut.go ?_; conv => whnf))
    (exact hfin_P [(1000000, some 1000000), (1000001, some 1000001), (1000002, some 1000002), (1000003, some 1000003), (1000004, some 1000004), (1000005, some 1000005), (1000006, some 1000006), (0, some 1000001), (1, some 1000002), (2, some 1000003), (3, some 1000004), (4, some 1000005), (5, some 1000006)] (by first | rfl | ((exact row_eqs (by rw [flights, h, List.append_nil]))) ) (by repeat' (first | exact trivial | exact rfl | exact .inl rfl | exact .inr rfl | (refine ⟨⟨rfl, .inl ⟨_, rfl, ?_⟩⟩, ?_⟩) | (refine ⟨⟨rfl, _, rfl, ?_⟩, ?_⟩) | (refine ⟨⟨rfl, .inr ⟨rfl, ?_⟩⟩, ?_⟩) | (refine ⟨rfl, ?_⟩) | ((exact row_eqs (by rw [flights, h, List.append_nil]))) | (simp; done) | (simp; rfl))))
theorem spec_flights3 (s : Sender)  (h3 : Sco.Sized s.out) (h4 : s.paths.length < 2 ^ 22) : FunOK Try.prog 76 [.ptr 1000000 0] (lk .free (pH3 s )) (.tup []) (lk .free (pD3 (flights s) )) := by
  refine funOK_of mixed Try.func76 (by decide) [1000000, 1000001, 1000002, 1000003, 1000004, 1000005, 1000006, 1000007] lk_pins ?_
  conv => whnf
  refine ⟨{ x : List Path × List Path // s.paths = x.1 ++ x.2 }, fun | ⟨(A, B), _⟩ => hsP [1000000, 1000001, 1000002, 1000003, 1000004, 1000005, 1000006, 1000007] 25 [(0, .ptr 1000000 0), (7, i64 s.paths.length), (8, i64 A.length)] (pH3 { s with paths := A.mapIdx (flP s.out) ++ B } ), fun x => x.1.2.length, ⟨([], s.paths), rfl⟩, ?_, ?_⟩
  · exact (hle_P [(1000000, some 1000000), (1000001, some 1000001), (1000002, some 1000002), (1000003, some 1000003), (1000004, some 1000004), (1000005, some 1000005), (1000006, some 1000006), (1000007, some 1000007)] (by repeat' (first | exact trivial | exact rfl | (refine ⟨⟨rfl, ?_⟩, ?_⟩) | (refine ⟨rfl, ?_⟩) | ((exact i64_eq (by (first | omega | (simp only [List.length_map, List.length_append, List.length_take, List.length_drop, List.length_cons, List.length_nil] <;> omega) | (simp <;> omega))))) | (simp; done) | (simp; rfl))) (by repeat' (first | exact trivial | exact rfl | exact .inl rfl | exact .inr rfl | (refine ⟨⟨rfl, .inl ⟨_, rfl, ?_⟩⟩, ?_⟩) | (refine ⟨⟨rfl, _, rfl, ?_⟩, ?_⟩) | (refine ⟨⟨rfl, .inr ⟨rfl, ?_⟩⟩, ?_⟩) | (refine ⟨rfl, ?_⟩) | ((exact i64_eq (by (first | omega | (simp only [List.length_map, List.length_append, List.length_take, List.length_drop, List.length_cons, List.length_nil] <;> omega) | (simp <;> omega))))) | (simp; done) | (simp; rfl))))
  rintro ⟨⟨A, B⟩, h⟩
  dsimp only at h
  conv => whnf
  cases B with
  | cons p B =>
    have hz := zip_cons h
    ((refine hif_T ?_; conv => whnf); try (refine hcut.go ?_; conv => whnf))
    ((refine hcall_lend ?_; (conv => whnf); refine ⟨_, Sco.spec_flight s.out A.length h3, rfl, ?_⟩; conv => whnf); try (refine hcut.go ?_; conv => whnf))
    refine hobl_intro (by simp; omega) ?_; conv => whnf
    refine hrow_mid (a := A.mapIdx (flP s.out)) (b := B) (s := p) rfl (by simp) ?_; conv => whnf
    ((refine hdraw_intro ?_ ?_; (· kernel_rfl); conv => whnf); try (refine hcut.go ?_; conv => whnf))
    ((refine hwrap_F ?_; conv => whnf); try (refine hcut.go ?_; conv => whnf))
    exact ⟨⟨(A ++ [p], B), zip_next h⟩, (hle_P [(1000000, some 1000000), (1000001, some 1000001), (1000002, some 1000002), (1000003, some 1000003), (1000004, some 1000004), (1000005, some 1000005), (1000006, some 1000006), (1000007, some 1000007)] (by repeat' (first | exact trivial | exact rfl | (refine ⟨⟨rfl, ?_⟩, ?_⟩) | (refine ⟨rfl, ?_⟩) | ((rw [fl_snoc]; exact (row_set (by simp) rfl).symm)) | (simp; done) | (simp; rfl))) (by repeat' (first | exact trivial | exact rfl | exact .inl rfl | exact .inr rfl | (refine ⟨⟨rfl, .inl ⟨_, rfl, ?_⟩⟩, ?_⟩) | (refine ⟨⟨rfl, _, rfl, ?_⟩, ?_⟩) | (refine ⟨⟨rfl, .inr ⟨rfl, ?_⟩⟩, ?_⟩) | (refine ⟨rfl, ?_⟩) | ((rw [fl_snoc]; exact (row_set (by simp) rfl).symm)) | (simp; done) | (simp; rfl)))), by simp⟩
  | nil =>
    have hz := zip_nil h
    rw [List.append_nil] at h
    ((refine hif_F ?_; conv => whnf); try (refine hcut.go ?_; conv => whnf))
    (exact hfin_P [(1000000, some 1000000), (1000001, some 1000001), (1000002, some 1000002), (1000003, some 1000003), (1000004, some 1000004), (1000005, some 1000005), (1000006, some 1000006), (1000007, some 1000007), (0, some 1000001), (1, some 1000002), (2, some 1000003), (3, some 1000004), (4, some 1000005), (5, some 1000006)] (by first | rfl | ((exact row_eqs (by rw [flights, h, List.append_nil]))) ) (by repeat' (first | exact trivial | exact rfl | exact .inl rfl | exact .inr rfl | (refine ⟨⟨rfl, .inl ⟨_, rfl, ?_⟩⟩, ?_⟩) | (refine ⟨⟨rfl, _, rfl, ?_⟩, ?_⟩) | (refine ⟨⟨rfl, .inr ⟨rfl, ?_⟩⟩, ?_⟩) | (refine ⟨rfl, ?_⟩) | ((exact row_eqs (by rw [flights, h, List.append_nil]))) | (simp; done) | (simp; rfl))))
theorem spec_flights4 (s : Sender)  (h3 : Sco.Sized s.out) (h4 : s.paths.length < 2 ^ 22) : FunOK Try.prog 76 [.ptr 1000000 0] (lk .free (pH4 s )) (.tup []) (lk .free (pD4 (flights s) )) := by
  refine funOK_of mixed Try.func76 (by decide) [1000000, 1000001, 1000002, 1000003, 1000004, 1000005, 1000006, 1000007] lk_pins ?_
  conv => whnf
  refine ⟨{ x : List Path × List Path // s.paths = x.1 ++ x.2 }, fun | ⟨(A, B), _⟩ => hsP [1000000, 1000001, 1000002, 1000003, 1000004, 1000005, 1000006, 1000007] 25 [(0, .ptr 1000000 0), (7, i64 s.paths.length), (8, i64 A.length)] (pH4 { s with paths := A.mapIdx (flP s.out) ++ B } ), fun x => x.1.2.length, ⟨([], s.paths), rfl⟩, ?_, ?_⟩
  · exact (hle_P [(1000000, some 1000000), (1000001, some 1000001), (1000002, some 1000002), (1000003, some 1000003), (1000004, some 1000004), (1000005, some 1000005), (1000006, some 1000006), (1000007, some 1000007)] (by repeat' (first | exact trivial | exact rfl | (refine ⟨⟨rfl, ?_⟩, ?_⟩) | (refine ⟨rfl, ?_⟩) | ((exact i64_eq (by (first | omega | (simp only [List.length_map, List.length_append, List.length_take, List.length_drop, List.length_cons, List.length_nil] <;> omega) | (simp <;> omega))))) | (simp; done) | (simp; rfl))) (by repeat' (first | exact trivial | exact rfl | exact .inl rfl | exact .inr rfl | (refine ⟨⟨rfl, .inl ⟨_, rfl, ?_⟩⟩, ?_⟩) | (refine ⟨⟨rfl, _, rfl, ?_⟩, ?_⟩) | (refine ⟨⟨rfl, .inr ⟨rfl, ?_⟩⟩, ?_⟩) | (refine ⟨rfl, ?_⟩) | ((exact i64_eq (by (first | omega | (simp only [List.length_map, List.length_append, List.length_take, List.length_drop, List.length_cons, List.length_nil] <;> omega) | (simp <;> omega))))) | (simp; done) | (simp; rfl))))
  rintro ⟨⟨A, B⟩, h⟩
  dsimp only at h
  conv => whnf
  cases B with
  | cons p B =>
    have hz := zip_cons h
    ((refine hif_T ?_; conv => whnf); try (refine hcut.go ?_; conv => whnf))
    ((refine hcall_lend ?_; (conv => whnf); refine ⟨_, Sco.spec_flight s.out A.length h3, rfl, ?_⟩; conv => whnf); try (refine hcut.go ?_; conv => whnf))
    refine hobl_intro (by simp; omega) ?_; conv => whnf
    refine hrow_mid (a := A.mapIdx (flP s.out)) (b := B) (s := p) rfl (by simp) ?_; conv => whnf
    ((refine hdraw_intro ?_ ?_; (· kernel_rfl); conv => whnf); try (refine hcut.go ?_; conv => whnf))
    ((refine hwrap_F ?_; conv => whnf); try (refine hcut.go ?_; conv => whnf))
    exact ⟨⟨(A ++ [p], B), zip_next h⟩, (hle_P [(1000000, some 1000000), (1000001, some 1000001), (1000002, some 1000002), (1000003, some 1000003), (1000004, some 1000004), (1000005, some 1000005), (1000006, some 1000006), (1000007, some 1000007)] (by repeat' (first | exact trivial | exact rfl | (refine ⟨⟨rfl, ?_⟩, ?_⟩) | (refine ⟨rfl, ?_⟩) | ((rw [fl_snoc]; exact (row_set (by simp) rfl).symm)) | (simp; done) | (simp; rfl))) (by repeat' (first | exact trivial | exact rfl | exact .inl rfl | exact .inr rfl | (refine ⟨⟨rfl, .inl ⟨_, rfl, ?_⟩⟩, ?_⟩) | (refine ⟨⟨rfl, _, rfl, ?_⟩, ?_⟩) | (refine ⟨⟨rfl, .inr ⟨rfl, ?_⟩⟩, ?_⟩) | (refine ⟨rfl, ?_⟩) | ((rw [fl_snoc]; exact (row_set (by simp) rfl).symm)) | (simp; done) | (simp; rfl)))), by simp⟩
  | nil =>
    have hz := zip_nil h
    rw [List.append_nil] at h
    ((refine hif_F ?_; conv => whnf); try (refine hcut.go ?_; conv => whnf))
    (exact hfin_P [(1000000, some 1000000), (1000001, some 1000001), (1000002, some 1000002), (1000003, some 1000003), (1000004, some 1000004), (1000005, some 1000005), (1000006, some 1000006), (1000007, some 1000007), (0, some 1000001), (1, some 1000002), (2, some 1000003), (3, some 1000004), (4, some 1000005), (5, some 1000006)] (by first | rfl | ((exact row_eqs (by rw [flights, h, List.append_nil]))) ) (by repeat' (first | exact trivial | exact rfl | exact .inl rfl | exact .inr rfl | (refine ⟨⟨rfl, .inl ⟨_, rfl, ?_⟩⟩, ?_⟩) | (refine ⟨⟨rfl, _, rfl, ?_⟩, ?_⟩) | (refine ⟨⟨rfl, .inr ⟨rfl, ?_⟩⟩, ?_⟩) | (refine ⟨rfl, ?_⟩) | ((exact row_eqs (by rw [flights, h, List.append_nil]))) | (simp; done) | (simp; rfl))))
end Snd
end Go.HL
