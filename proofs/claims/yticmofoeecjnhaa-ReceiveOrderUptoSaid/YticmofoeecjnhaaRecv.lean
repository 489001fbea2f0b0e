/- The receiver: new ones, copies, pieces of a message, delivering. -/
import Derived.Test.YticmofoeecjnhaaClone
import Derived.Test.YticmofoeecjnhaaJoin
import Derived.Test.YticmofoeecjnhaaSerC
namespace Go.HL
open Go.Proofs
namespace Rcv
open Srt Jn Ser
set_option maxHeartbeats 4000000
set_option maxRecDepth 100000
set_option linter.unusedSimpArgs false
/-- a receiver's cells, with its slices as they stand there -/
def rcvC (r : Receiver) (a b c d : HV) : List HV := [i64 r.config.streams, i64 r.config.part, i64 r.config.packet, i64 r.config.paths, i64 r.config.turns, i64 r.config.waiting, i64 r.config.first, i64 r.cum, a, b, c, d]
abbrev rowS (l : List Span) : HSlot := .live (.row 83 2 (l.map Span.row))
abbrev rowP (l : List Piece) : HSlot := .live (.row 80 12 (l.map Piece.row))
abbrev rowT (l : List Int) : HSlot := .live (.row 3 1 (l.map fun n => [pi n]))
abbrev rowL (l : List Arrival) : HSlot := .live (.row 48 4 (l.map Arrival.row))
abbrev rcvO (r : Receiver) (a b c d : Nat) : HV := .agg (rcvC r (.own a) (.own b) (.own c) (.own d))
abbrev rcvB (r : Receiver) (a b c d : Nat) (L : List (Nat × HSlot)) : List (Nat × HSlot) := (a, rowS r.spans) :: (b, rowP r.pieces) :: (c, rowT r.turn) :: (d, rowL r.log) :: L
/-- a receiver that is worked on -/
abbrev tkH (r : Receiver) : List (Nat × HSlot) := (1000000, .live (.cells 88 (rcvC r (.own 1000001) (.own 1000002) (.own 1000003) (.own 1000004)))) :: rcvB r 1000001 1000002 1000003 1000004 []
abbrev tkD (r : Receiver) : List (Nat × HSlot) := (1000000, .live (.cells 88 (rcvC r (.own 0) (.own 1) (.own 2) (.own 3)))) :: rcvB r 0 1 2 3 [(1000001, .dead), (1000002, .dead), (1000003, .dead), (1000004, .dead)]
def newR (c : Config) : Receiver := ⟨c, c.first - 1, [], [], List.replicate (max c.streams 0).toNat 0, []⟩
theorem spec_new (c : Config) (h1 : -9223372036854775808 < c.first) (h2 : c.first ≤ 9223372036854775807) (h3 : c.streams ≤ 1099511627776) :
    FunOK Try.prog 10 [c.hv] noHeap (rcvO (newR c) 0 1 2 3) (lk .free (rcvB (newR c) 0 1 2 3 [])) := by
  refine funOK_of mixed Try.func10 (by decide) [] (fun _ => .inl rfl) ?_
  conv => whnf
  ((refine hwrap_fit (W_fit ?_ ?_) ?_; (· (first | omega | (simp only [List.length_map, List.length_append, List.length_take, List.length_drop, List.length_cons, List.length_nil] <;> omega) | (simp <;> omega))); (· (first | omega | (simp only [List.length_map, List.length_append, List.length_take, List.length_drop, List.length_cons, List.length_nil] <;> omega) | (simp <;> omega))); conv => whnf); try (refine hcut.go ?_; conv => whnf))
  refine hobl_intro (c := (0 ≤ (if 0 > c.streams then 0 else c.streams : Int) ∧ (if 0 > c.streams then 0 else c.streams : Int) = (if 0 > c.streams then 0 else c.streams : Int) ∧ (if 0 > c.streams then 0 else c.streams : Int) * (8 : Nat) ≤ 140737488355328)) (by split <;> omega) ?_; conv => whnf
  ((refine hdraw_intro ?_ ?_; (· kernel_rfl); conv => whnf); try (refine hcut.go ?_; conv => whnf))
  refine hfin_of [(0, none), (1, none), (2, some 10), (3, none)] rfl rfl trivial rfl rfl ⟨⟨rfl, .inr ⟨rfl, rfl⟩⟩, ⟨rfl, .inr ⟨rfl, rfl⟩⟩, ⟨rfl, .inl ⟨10, rfl, ?_⟩⟩, ⟨rfl, .inr ⟨rfl, rfl⟩⟩, trivial⟩
  refine row_eqs ?_
  rw [show (newR c).turn = List.replicate (max c.streams 0).toNat 0 from rfl, List.map_replicate]
  have : (max c.streams 0).toNat = (if 0 > c.streams then 0 else c.streams : Int).toNat := by split <;> omega
  rw [this]; rfl
theorem spec_rnew (c : Config) (h1 : -9223372036854775808 < c.first) (h2 : c.first ≤ 9223372036854775807) (h3 : c.streams ≤ 1099511627776) :
    FunOK Try.prog 11 [c.hv] noHeap (rcvO (newR c) 0 1 2 3) (lk .free (rcvB (newR c) 0 1 2 3 [])) := by
  refine funOK_of mixed Try.func11 (by decide) [] (fun _ => .inl rfl) ?_
  conv => whnf
  ((refine hwrap_fit (W_fit ?_ ?_) ?_; (· (first | omega | (simp only [List.length_map, List.length_append, List.length_take, List.length_drop, List.length_cons, List.length_nil] <;> omega) | (simp <;> omega))); (· (first | omega | (simp only [List.length_map, List.length_append, List.length_take, List.length_drop, List.length_cons, List.length_nil] <;> omega) | (simp <;> omega))); conv => whnf); try (refine hcut.go ?_; conv => whnf))
  refine hobl_intro (c := (0 ≤ (if 0 > c.streams then 0 else c.streams : Int) ∧ (if 0 > c.streams then 0 else c.streams : Int) = (if 0 > c.streams then 0 else c.streams : Int) ∧ (if 0 > c.streams then 0 else c.streams : Int) * (8 : Nat) ≤ 140737488355328)) (by split <;> omega) ?_; conv => whnf
  ((refine hdraw_intro ?_ ?_; (· kernel_rfl); conv => whnf); try (refine hcut.go ?_; conv => whnf))
  refine hfin_of [(0, none), (1, none), (2, some 10), (3, none)] rfl rfl trivial rfl rfl ⟨⟨rfl, .inr ⟨rfl, rfl⟩⟩, ⟨rfl, .inr ⟨rfl, rfl⟩⟩, ⟨rfl, .inl ⟨10, rfl, ?_⟩⟩, ⟨rfl, .inr ⟨rfl, rfl⟩⟩, trivial⟩
  refine row_eqs ?_
  rw [show (newR c).turn = List.replicate (max c.streams 0).toNat 0 from rfl, List.map_replicate]
  have : (max c.streams 0).toNat = (if 0 > c.streams then 0 else c.streams : Int).toNat := by split <;> omega
  rw [this]; rfl
/-- bounds of a receiver within which all is counted -/
structure Fit (r : Receiver) : Prop where
  spans : r.spans.length < 2 ^ 36
  pieces : r.pieces.length < 2 ^ 22
  bytes : tot r.pieces < 2 ^ 22
  turn : r.turn.length < 2 ^ 36
  log : r.log.length < 2 ^ 36
  data : ∀ a ∈ r.log, a.data.length < 2 ^ 40
abbrev zeroR : List HV := [i64 0, i64 0, i64 0, i64 0, i64 0, i64 0, i64 0, i64 0, hnil, hnil, hnil, hnil]
theorem spec_own (r : Receiver) (hr : Fit r) : FunOK Try.prog 12 [r.hv] noHeap (rcvO r 0 1 2 3) (lk .free (rcvB r 0 1 2 3 [])) := by
  obtain ⟨h1, h2, h3, h4, h5, h6⟩ := hr
  refine funOK_of mixed Try.func12 (by decide) [] (fun _ => .inl rfl) ?_
  conv => whnf
  ((refine hcall_own [(0, 11)]  ?_; (conv => whnf); refine ⟨_, _,  Cl.clone_spans r.spans (by omega), ⟨⟨⟨rfl, rfl⟩, trivial⟩, rfl, rfl, rfl⟩, ?_⟩; conv => whnf); try (refine hcut.go ?_; conv => whnf))
  ((refine hcall_own [(0, 14)]  ?_; (conv => whnf); refine ⟨_, _,  Cl.clone_ints r.turn (by omega), ⟨⟨⟨rfl, rfl⟩, trivial⟩, rfl, rfl, rfl⟩, ?_⟩; conv => whnf); try (refine hcut.go ?_; conv => whnf))
  ((refine hdraw_intro ?_ ?_; (· kernel_rfl); conv => whnf); try (refine hcut.go ?_; conv => whnf))
  refine ⟨{ x : List Piece × List Piece // r.pieces = x.1 ++ x.2 }, fun | ⟨(A, B), _⟩ => hs 56 [(1, .ptr 1 0), (2, .ptr 2 0), (3, .own 900), (18, pieces r.pieces), (19, i64 r.pieces.length), (20, i64 A.length)] [(1, .live (.cells 35 (rcvC r (.own 11) (pieces r.pieces) (.own 14) (.p (.sl 4 (r.log.map Arrival.row)))))), (2, .live (.cells 35 zeroR)), (11, rowS r.spans), (14, rowT r.turn), (900, rowP A)], fun x => x.1.2.length, ⟨([], r.pieces), rfl⟩, ?_, ?_⟩
  · exact (hle_hs [(1, some 1), (2, some 2), (11, some 11), (14, some 14), (900, none)] rfl rfl rfl rfl (by repeat' (first | exact trivial | exact rfl | (refine ⟨⟨rfl, ?_⟩, ?_⟩) | (refine ⟨rfl, ?_⟩) | (simp; done) | (simp; rfl))) (by repeat' (first | exact trivial | exact rfl | exact .inl rfl | exact .inr rfl | (refine ⟨⟨rfl, .inl ⟨_, rfl, ?_⟩⟩, ?_⟩) | (refine ⟨⟨rfl, _, rfl, ?_⟩, ?_⟩) | (refine ⟨⟨rfl, .inr ⟨rfl, ?_⟩⟩, ?_⟩) | (refine ⟨rfl, ?_⟩) | (simp; done) | (simp; rfl))))
  rintro ⟨⟨A, B⟩, h⟩
  dsimp only at h
  have hl : r.pieces.length = A.length + B.length := by rw [h]; simp
  conv => whnf
  cases B with
  | cons p B =>
    have hp : p.chunk.data.length ≤ tot r.pieces := tot_mem (by rw [h]; simp)
    rw [List.length_cons] at hl
    ((refine hif_true ?_ ?_; (· (first | rfl | assumption | omega | (simp only [gt_iff_lt, ge_iff_le, decide_eq_true_eq, decide_eq_false_iff_not, beq_iff_eq, bne_iff_ne, ne_eq, beq_eq_false_iff_ne, bne_eq_false_iff_eq, List.length_map, List.length_append, List.length_cons, List.length_nil, List.length_take, List.length_drop, Bool.not_eq_true', Bool.not_eq_false', Bool.not_eq_true, Bool.not_eq_false, Decidable.not_not, Nat.cast_ofNat, Int.natCast_add] <;> omega) | (simp <;> omega))); conv => whnf); try (refine hcut.go ?_; conv => whnf))
    refine hrow_mid h rfl ?_; conv => whnf
    ((refine hcall_own [(0, 27)]  ?_; (conv => whnf); refine ⟨_, _,  Cl.clone_bytes p.chunk.data (by omega), ⟨⟨⟨rfl, rfl⟩, trivial⟩, rfl, rfl, rfl⟩, ?_⟩; conv => whnf); try (refine hcut.go ?_; conv => whnf))
    refine hobl_intro (c := ((A.map Piece.row).length + 1) * 136 ≤ 140737488355328) (by simp; omega) ?_; conv => whnf
    ((refine hwrap_fit (W_fit ?_ ?_) ?_; (· (first | omega | (simp only [List.length_map, List.length_append, List.length_take, List.length_drop, List.length_cons, List.length_nil] <;> omega) | (simp <;> omega))); (· (first | omega | (simp only [List.length_map, List.length_append, List.length_take, List.length_drop, List.length_cons, List.length_nil] <;> omega) | (simp <;> omega))); conv => whnf); try (refine hcut.go ?_; conv => whnf))
    refine ⟨⟨(A ++ [p], B), by rw [h]; simp⟩, (hle_hs [(1, some 1), (2, some 2), (11, some 11), (14, some 14), (900, some 33)] rfl rfl rfl rfl (by repeat' (first | exact trivial | exact rfl | (refine ⟨⟨rfl, ?_⟩, ?_⟩) | (refine ⟨rfl, ?_⟩) | ((exact row_app (f := Piece.row) rfl rfl)) | (simp; done) | (simp; rfl))) (by repeat' (first | exact trivial | exact rfl | exact .inl rfl | exact .inr rfl | (refine ⟨⟨rfl, .inl ⟨_, rfl, ?_⟩⟩, ?_⟩) | (refine ⟨⟨rfl, _, rfl, ?_⟩, ?_⟩) | (refine ⟨⟨rfl, .inr ⟨rfl, ?_⟩⟩, ?_⟩) | (refine ⟨rfl, ?_⟩) | ((exact row_app (f := Piece.row) rfl rfl)) | (simp; done) | (simp; rfl)))), by simp⟩
  | nil =>
    rw [List.length_nil] at hl
    rw [List.append_nil] at h
    ((refine hif_false ?_ ?_; (· (first | rfl | assumption | omega | (simp only [gt_iff_lt, ge_iff_le, decide_eq_true_eq, decide_eq_false_iff_not, beq_iff_eq, bne_iff_ne, ne_eq, beq_eq_false_iff_ne, bne_eq_false_iff_eq, List.length_map, List.length_append, List.length_cons, List.length_nil, List.length_take, List.length_drop, Bool.not_eq_true', Bool.not_eq_false', Bool.not_eq_true, Bool.not_eq_false, Decidable.not_not, Nat.cast_ofNat, Int.natCast_add] <;> omega) | (simp <;> omega))); conv => whnf); try (refine hcut.go ?_; conv => whnf))
    refine ⟨{ x : List Arrival × List Arrival // r.log = x.1 ++ x.2 }, fun | ⟨(A, B), _⟩ => hs 56 [(1, .ptr 1 0), (2, .ptr 2 0), (3, .own 900), (6, .own 901), (36, .p (.sl 4 (r.log.map Arrival.row))), (37, i64 r.log.length), (38, i64 A.length)] [(1, .live (.cells 35 (rcvC r (.own 11) (pieces r.pieces) (.own 14) (.p (.sl 4 (r.log.map Arrival.row)))))), (2, .live (.cells 35 zeroR)), (11, rowS r.spans), (14, rowT r.turn), (900, rowP r.pieces), (901, rowL A)], fun x => x.1.2.length, ⟨([], r.log), rfl⟩, ?_, ?_⟩
    · exact (hle_hs [(1, some 1), (2, some 2), (11, some 11), (14, some 14), (900, some 900), (901, none)] rfl rfl rfl rfl (by repeat' (first | exact trivial | exact rfl | (refine ⟨⟨rfl, ?_⟩, ?_⟩) | (refine ⟨rfl, ?_⟩) | ((exact row_eqs (by rw [h]))) | (simp; done) | (simp; rfl))) (by repeat' (first | exact trivial | exact rfl | exact .inl rfl | exact .inr rfl | (refine ⟨⟨rfl, .inl ⟨_, rfl, ?_⟩⟩, ?_⟩) | (refine ⟨⟨rfl, _, rfl, ?_⟩, ?_⟩) | (refine ⟨⟨rfl, .inr ⟨rfl, ?_⟩⟩, ?_⟩) | (refine ⟨rfl, ?_⟩) | ((exact row_eqs (by rw [h]))) | (simp; done) | (simp; rfl))))
    rintro ⟨⟨A, B⟩, h⟩
    dsimp only at h
    have hl : r.log.length = A.length + B.length := by rw [h]; simp
    conv => whnf
    cases B with
    | cons p B =>
      have hp := h6 p (by rw [h]; simp)
      rw [List.length_cons] at hl
      ((refine hif_true ?_ ?_; (· (first | rfl | assumption | omega | (simp only [gt_iff_lt, ge_iff_le, decide_eq_true_eq, decide_eq_false_iff_not, beq_iff_eq, bne_iff_ne, ne_eq, beq_eq_false_iff_ne, bne_eq_false_iff_eq, List.length_map, List.length_append, List.length_cons, List.length_nil, List.length_take, List.length_drop, Bool.not_eq_true', Bool.not_eq_false', Bool.not_eq_true, Bool.not_eq_false, Decidable.not_not, Nat.cast_ofNat, Int.natCast_add] <;> omega) | (simp <;> omega))); conv => whnf); try (refine hcut.go ?_; conv => whnf))
      refine hrow_mid h rfl ?_; conv => whnf
      ((refine hcall_own [(0, 44)]  ?_; (conv => whnf); refine ⟨_, _,  Cl.clone_bytes p.data (by omega), ⟨⟨⟨rfl, rfl⟩, trivial⟩, rfl, rfl, rfl⟩, ?_⟩; conv => whnf); try (refine hcut.go ?_; conv => whnf))
      refine hobl_intro (c := ((A.map Arrival.row).length + 1) * 48 ≤ 140737488355328) (by simp; omega) ?_; conv => whnf
      ((refine hwrap_fit (W_fit ?_ ?_) ?_; (· (first | omega | (simp only [List.length_map, List.length_append, List.length_take, List.length_drop, List.length_cons, List.length_nil] <;> omega) | (simp <;> omega))); (· (first | omega | (simp only [List.length_map, List.length_append, List.length_take, List.length_drop, List.length_cons, List.length_nil] <;> omega) | (simp <;> omega))); conv => whnf); try (refine hcut.go ?_; conv => whnf))
      refine ⟨⟨(A ++ [p], B), by rw [h]; simp⟩, (hle_hs [(1, some 1), (2, some 2), (11, some 11), (14, some 14), (900, some 900), (901, some 49)] rfl rfl rfl rfl (by repeat' (first | exact trivial | exact rfl | (refine ⟨⟨rfl, ?_⟩, ?_⟩) | (refine ⟨rfl, ?_⟩) | ((exact row_app (f := Arrival.row) rfl rfl)) | (simp; done) | (simp; rfl))) (by repeat' (first | exact trivial | exact rfl | exact .inl rfl | exact .inr rfl | (refine ⟨⟨rfl, .inl ⟨_, rfl, ?_⟩⟩, ?_⟩) | (refine ⟨⟨rfl, _, rfl, ?_⟩, ?_⟩) | (refine ⟨⟨rfl, .inr ⟨rfl, ?_⟩⟩, ?_⟩) | (refine ⟨rfl, ?_⟩) | ((exact row_app (f := Arrival.row) rfl rfl)) | (simp; done) | (simp; rfl)))), by simp⟩
    | nil =>
      rw [List.length_nil] at hl
      rw [List.append_nil] at h
      ((refine hif_false ?_ ?_; (· (first | rfl | assumption | omega | (simp only [gt_iff_lt, ge_iff_le, decide_eq_true_eq, decide_eq_false_iff_not, beq_iff_eq, bne_iff_ne, ne_eq, beq_eq_false_iff_ne, bne_eq_false_iff_eq, List.length_map, List.length_append, List.length_cons, List.length_nil, List.length_take, List.length_drop, Bool.not_eq_true', Bool.not_eq_false', Bool.not_eq_true, Bool.not_eq_false, Decidable.not_not, Nat.cast_ofNat, Int.natCast_add] <;> omega) | (simp <;> omega))); conv => whnf); try (refine hcut.go ?_; conv => whnf))
      refine hfin_of [(0, some 11), (1, some 900), (2, some 14), (3, some 901)] rfl rfl trivial rfl rfl ⟨⟨rfl, .inl ⟨11, rfl, rfl⟩⟩, ⟨rfl, .inl ⟨900, rfl, rfl⟩⟩, ⟨rfl, .inl ⟨14, rfl, rfl⟩⟩, ⟨rfl, .inl ⟨901, rfl, ?_⟩⟩, trivial⟩
      exact row_eqs (by rw [h])
theorem spec_held (r : Receiver) (h2 : r.pieces.length < 2 ^ 40) (h3 : tot r.pieces < 2 ^ 60) : FunOK Try.prog 13 [r.hv] noHeap (i64 (tot r.pieces : Nat)) noHeap := by
  refine funOK_pure mixed Try.func13 (by decide) ?_
  conv => whnf
  refine ⟨{ x : List Piece × List Piece // r.pieces = x.1 ++ x.2 }, fun | ⟨(A, B), _⟩ => hs 21 [(3, i64 (tot A : Nat)), (7, pieces r.pieces), (8, i64 r.pieces.length), (9, i64 A.length)] [], fun x => x.1.2.length, ⟨([], r.pieces), rfl⟩, ?_, ?_⟩
  · exact (hle_hs [] rfl rfl rfl rfl (by repeat' (first | exact trivial | exact rfl | (refine ⟨⟨rfl, ?_⟩, ?_⟩) | (refine ⟨rfl, ?_⟩) | (simp; done) | (simp; rfl))) (by repeat' (first | exact trivial | exact rfl | exact .inl rfl | exact .inr rfl | (refine ⟨⟨rfl, .inl ⟨_, rfl, ?_⟩⟩, ?_⟩) | (refine ⟨⟨rfl, _, rfl, ?_⟩, ?_⟩) | (refine ⟨⟨rfl, .inr ⟨rfl, ?_⟩⟩, ?_⟩) | (refine ⟨rfl, ?_⟩) | (simp; done) | (simp; rfl))))
  rintro ⟨⟨A, B⟩, h⟩
  dsimp only at h
  have hl : r.pieces.length = A.length + B.length := by rw [h]; simp
  have ht : tot r.pieces = tot A + tot B := by rw [h, tot_app]
  conv => whnf
  cases B with
  | cons p B =>
    rw [List.length_cons] at hl
    rw [tot_cons] at ht
    ((refine hif_true ?_ ?_; (· (first | rfl | assumption | omega | (simp only [gt_iff_lt, ge_iff_le, decide_eq_true_eq, decide_eq_false_iff_not, beq_iff_eq, bne_iff_ne, ne_eq, beq_eq_false_iff_ne, bne_eq_false_iff_eq, List.length_map, List.length_append, List.length_cons, List.length_nil, List.length_take, List.length_drop, Bool.not_eq_true', Bool.not_eq_false', Bool.not_eq_true, Bool.not_eq_false, Decidable.not_not, Nat.cast_ofNat, Int.natCast_add] <;> omega) | (simp <;> omega))); conv => whnf); try (refine hcut.go ?_; conv => whnf))
    refine hrow_mid h rfl ?_; conv => whnf
    ((refine hwrap_fit (W_fit ?_ ?_) ?_; (· (first | omega | (simp only [List.length_map, List.length_append, List.length_take, List.length_drop, List.length_cons, List.length_nil] <;> omega) | (simp <;> omega))); (· (first | omega | (simp only [List.length_map, List.length_append, List.length_take, List.length_drop, List.length_cons, List.length_nil] <;> omega) | (simp <;> omega))); conv => whnf); try (refine hcut.go ?_; conv => whnf))
    ((refine hwrap_fit (W_fit ?_ ?_) ?_; (· (first | omega | (simp only [List.length_map, List.length_append, List.length_take, List.length_drop, List.length_cons, List.length_nil] <;> omega) | (simp <;> omega))); (· (first | omega | (simp only [List.length_map, List.length_append, List.length_take, List.length_drop, List.length_cons, List.length_nil] <;> omega) | (simp <;> omega))); conv => whnf); try (refine hcut.go ?_; conv => whnf))
    exact ⟨⟨(A ++ [p], B), by rw [h]; simp⟩, (hle_hs [] rfl rfl rfl rfl (by repeat' (first | exact trivial | exact rfl | (refine ⟨⟨rfl, ?_⟩, ?_⟩) | (refine ⟨rfl, ?_⟩) | ((exact i64_eq (by rw [tot_app, tot_cons]; simp [tot]))) | (simp; done) | (simp; rfl))) (by repeat' (first | exact trivial | exact rfl | exact .inl rfl | exact .inr rfl | (refine ⟨⟨rfl, .inl ⟨_, rfl, ?_⟩⟩, ?_⟩) | (refine ⟨⟨rfl, _, rfl, ?_⟩, ?_⟩) | (refine ⟨⟨rfl, .inr ⟨rfl, ?_⟩⟩, ?_⟩) | (refine ⟨rfl, ?_⟩) | ((exact i64_eq (by rw [tot_app, tot_cons]; simp [tot]))) | (simp; done) | (simp; rfl)))), by simp⟩
  | nil =>
    rw [List.length_nil] at hl
    rw [List.append_nil] at h
    ((refine hif_false ?_ ?_; (· (first | rfl | assumption | omega | (simp only [gt_iff_lt, ge_iff_le, decide_eq_true_eq, decide_eq_false_iff_not, beq_iff_eq, bne_iff_ne, ne_eq, beq_eq_false_iff_ne, bne_eq_false_iff_eq, List.length_map, List.length_append, List.length_cons, List.length_nil, List.length_take, List.length_drop, Bool.not_eq_true', Bool.not_eq_false', Bool.not_eq_true, Bool.not_eq_false, Decidable.not_not, Nat.cast_ofNat, Int.natCast_add] <;> omega) | (simp <;> omega))); conv => whnf); try (refine hcut.go ?_; conv => whnf))
    rw [h]
theorem spec_rheld (r : Receiver) (h2 : r.pieces.length < 2 ^ 40) (h3 : tot r.pieces < 2 ^ 60) : FunOK Try.prog 14 [r.hv] noHeap (i64 (tot r.pieces : Nat)) noHeap := by
  refine funOK_pure mixed Try.func14 (by decide) ?_
  conv => whnf
  refine ⟨{ x : List Piece × List Piece // r.pieces = x.1 ++ x.2 }, fun | ⟨(A, B), _⟩ => hs 21 [(3, i64 (tot A : Nat)), (7, pieces r.pieces), (8, i64 r.pieces.length), (9, i64 A.length)] [], fun x => x.1.2.length, ⟨([], r.pieces), rfl⟩, ?_, ?_⟩
  · exact (hle_hs [] rfl rfl rfl rfl (by repeat' (first | exact trivial | exact rfl | (refine ⟨⟨rfl, ?_⟩, ?_⟩) | (refine ⟨rfl, ?_⟩) | (simp; done) | (simp; rfl))) (by repeat' (first | exact trivial | exact rfl | exact .inl rfl | exact .inr rfl | (refine ⟨⟨rfl, .inl ⟨_, rfl, ?_⟩⟩, ?_⟩) | (refine ⟨⟨rfl, _, rfl, ?_⟩, ?_⟩) | (refine ⟨⟨rfl, .inr ⟨rfl, ?_⟩⟩, ?_⟩) | (refine ⟨rfl, ?_⟩) | (simp; done) | (simp; rfl))))
  rintro ⟨⟨A, B⟩, h⟩
  dsimp only at h
  have hl : r.pieces.length = A.length + B.length := by rw [h]; simp
  have ht : tot r.pieces = tot A + tot B := by rw [h, tot_app]
  conv => whnf
  cases B with
  | cons p B =>
    rw [List.length_cons] at hl
    rw [tot_cons] at ht
    ((refine hif_true ?_ ?_; (· (first | rfl | assumption | omega | (simp only [gt_iff_lt, ge_iff_le, decide_eq_true_eq, decide_eq_false_iff_not, beq_iff_eq, bne_iff_ne, ne_eq, beq_eq_false_iff_ne, bne_eq_false_iff_eq, List.length_map, List.length_append, List.length_cons, List.length_nil, List.length_take, List.length_drop, Bool.not_eq_true', Bool.not_eq_false', Bool.not_eq_true, Bool.not_eq_false, Decidable.not_not, Nat.cast_ofNat, Int.natCast_add] <;> omega) | (simp <;> omega))); conv => whnf); try (refine hcut.go ?_; conv => whnf))
    refine hrow_mid h rfl ?_; conv => whnf
    ((refine hwrap_fit (W_fit ?_ ?_) ?_; (· (first | omega | (simp only [List.length_map, List.length_append, List.length_take, List.length_drop, List.length_cons, List.length_nil] <;> omega) | (simp <;> omega))); (· (first | omega | (simp only [List.length_map, List.length_append, List.length_take, List.length_drop, List.length_cons, List.length_nil] <;> omega) | (simp <;> omega))); conv => whnf); try (refine hcut.go ?_; conv => whnf))
    ((refine hwrap_fit (W_fit ?_ ?_) ?_; (· (first | omega | (simp only [List.length_map, List.length_append, List.length_take, List.length_drop, List.length_cons, List.length_nil] <;> omega) | (simp <;> omega))); (· (first | omega | (simp only [List.length_map, List.length_append, List.length_take, List.length_drop, List.length_cons, List.length_nil] <;> omega) | (simp <;> omega))); conv => whnf); try (refine hcut.go ?_; conv => whnf))
    exact ⟨⟨(A ++ [p], B), by rw [h]; simp⟩, (hle_hs [] rfl rfl rfl rfl (by repeat' (first | exact trivial | exact rfl | (refine ⟨⟨rfl, ?_⟩, ?_⟩) | (refine ⟨rfl, ?_⟩) | ((exact i64_eq (by rw [tot_app, tot_cons]; simp [tot]))) | (simp; done) | (simp; rfl))) (by repeat' (first | exact trivial | exact rfl | exact .inl rfl | exact .inr rfl | (refine ⟨⟨rfl, .inl ⟨_, rfl, ?_⟩⟩, ?_⟩) | (refine ⟨⟨rfl, _, rfl, ?_⟩, ?_⟩) | (refine ⟨⟨rfl, .inr ⟨rfl, ?_⟩⟩, ?_⟩) | (refine ⟨rfl, ?_⟩) | ((exact i64_eq (by rw [tot_app, tot_cons]; simp [tot]))) | (simp; done) | (simp; rfl)))), by simp⟩
  | nil =>
    rw [List.length_nil] at hl
    rw [List.append_nil] at h
    ((refine hif_false ?_ ?_; (· (first | rfl | assumption | omega | (simp only [gt_iff_lt, ge_iff_le, decide_eq_true_eq, decide_eq_false_iff_not, beq_iff_eq, bne_iff_ne, ne_eq, beq_eq_false_iff_ne, bne_eq_false_iff_eq, List.length_map, List.length_append, List.length_cons, List.length_nil, List.length_take, List.length_drop, Bool.not_eq_true', Bool.not_eq_false', Bool.not_eq_true, Bool.not_eq_false, Decidable.not_not, Nat.cast_ofNat, Int.natCast_add] <;> omega) | (simp <;> omega))); conv => whnf); try (refine hcut.go ?_; conv => whnf))
    rw [h]
/-- is a piece of a message? -/
def mine (s m : Int) (o : Bool) (p : Piece) : Bool := decide (p.chunk.stream = s) && decide (p.chunk.mid = m) && (p.chunk.ordered == o)
theorem spec_of (p : Piece) (s m : Int) (o : Bool) : FunOK Try.prog 70 [.rp p.row, i64 s, i64 m, hbool o] noHeap (hbool (mine s m o p)) noHeap := by
  refine funOK_pure mixed Try.func70 (by decide) ?_
  conv => whnf
  by_cases c1 : p.chunk.stream = s
  · refine hif_true (by simpa using c1) ?_; conv => whnf
    by_cases c2 : p.chunk.mid = m
    · refine hif_true (by simpa using c2) ?_; conv => whnf
      simp [mine, c1, c2]
    · refine hif_false (by simpa using c2) ?_; conv => whnf
      simp [mine, c2]
  · refine hif_false (by simpa using c1) ?_; conv => whnf
    simp [mine, c1]
theorem spec_drop1 (s m : Int) (o : Bool) (p : Piece) : FunOK Try.prog 105 [p.hv, .rp [pi s], .rp [pi m], .rp [pb o]] noHeap (hbool (mine s m o p)) noHeap := by
  refine funOK_pure mixed Try.func105 (by decide) ?_
  conv => whnf
  ((refine hcall_lend ?_; (conv => whnf); refine ⟨_, spec_of p s m o, rfl, ?_⟩; conv => whnf); try (refine hcut.go ?_; conv => whnf))
/-- without a message's pieces -/
def dropR (r : Receiver) (s m : Int) (o : Bool) : Receiver := { r with pieces := r.pieces.filter fun p => !mine s m o p }
theorem spec_drop (r : Receiver) (s m : Int) (o : Bool) (h2 : r.pieces.length < 2 ^ 38) :
    FunOK Try.prog 72 [.ptr 1000000 0, i64 s, i64 m, hbool o] (lk .free (tkH r)) (.tup []) (lk .free (tkD (dropR r s m o))) := by
  refine funOK_of mixed Try.func72 (by decide) [1000000, 1000001, 1000002, 1000003, 1000004] lk_pins ?_
  conv => whnf
  ((refine hcall_give [false, true] [(1000000, 1000002)] [(0, 15)] ?_; (conv => whnf); refine ⟨_, _, _, _, Cl.del_pieces (fun p => spec_drop1 s m o p) r.pieces (by omega), ⟨rfl, rfl, rfl, ⟨⟨rfl, _, rfl, .inl ⟨rfl, rfl⟩⟩, trivial⟩, ⟨⟨rfl, rfl⟩, trivial⟩, rfl, rfl, rfl⟩, ?_⟩; conv => whnf); try (refine hcut.go ?_; conv => whnf))
  (exact hfin_of [(1000000, some 1000000), (1000001, some 1000001), (1000002, some 1000002), (1000003, some 1000003), (1000004, some 1000004), (0, some 1000001), (1, some 15), (2, some 1000003), (3, some 1000004)] rfl rfl (by repeat' (first | exact trivial | (refine ⟨rfl, ?_⟩))) rfl (by first | rfl ) (by repeat' (first | exact trivial | exact rfl | exact .inl rfl | exact .inr rfl | (refine ⟨⟨rfl, .inl ⟨_, rfl, ?_⟩⟩, ?_⟩) | (refine ⟨⟨rfl, _, rfl, ?_⟩, ?_⟩) | (refine ⟨⟨rfl, .inr ⟨rfl, ?_⟩⟩, ?_⟩) | (refine ⟨rfl, ?_⟩) | (simp; done) | (simp; rfl))))
/-- a message is delivered, if it is whole -/
def dlv (r : Receiver) (s m : Int) (o : Bool) : Receiver × Bool := match join (r.pieces.filter (mine s m o)) with
  | none => (r, false)
  | some b => ({ dropR r s m o with log := r.log ++ [⟨s, m, o, b⟩] }, true)
theorem tot_filter (f : Piece → Bool) : ∀ l : List Piece, tot (l.filter f) ≤ tot l
  | [] => Nat.le_refl _
  | p :: l => by
    have := tot_filter f l
    rw [List.filter_cons]
    split
    · rw [tot_cons, tot_cons]; omega
    · rw [tot_cons]; omega
theorem spec_deliver (r : Receiver) (s m : Int) (o : Bool) (h2 : r.pieces.length < 2 ^ 37) (h3 : tot r.pieces < 2 ^ 40) (h4 : r.log.length < 2 ^ 38) :
    FunOK Try.prog 40 [.ptr 1000000 0, i64 s, i64 m, hbool o] (lk .free (tkH r)) (hbool (dlv r s m o).2) (lk .free (tkD (dlv r s m o).1)) := by
  refine funOK_of mixed Try.func40 (by decide) [1000000, 1000001, 1000002, 1000003, 1000004] lk_pins ?_
  conv => whnf
  refine ⟨{ x : List Piece × List Piece // r.pieces = x.1 ++ x.2 }, fun | ⟨(A, B), _⟩ => hsP [1000000, 1000001, 1000002, 1000003, 1000004] 61 [(0, .ptr 1000000 0), (1, i64 s), (2, i64 m), (3, hbool o), (8, hbool false), (9, .own 900), (18, .own 1000002), (19, i64 r.pieces.length), (20, i64 A.length)] (tkH r ++ [(900, rowP (A.filter (mine s m o)))]), fun x => x.1.2.length, ⟨([], r.pieces), rfl⟩, ?_, ?_⟩
  · exact (hle_of [(1000000, some 1000000), (1000001, some 1000001), (1000002, some 1000002), (1000003, some 1000003), (1000004, some 1000004), (900, none)] rfl rfl rfl rfl (by repeat' (first | exact trivial | (refine ⟨rfl, ?_⟩))) (by repeat' (first | exact trivial | exact rfl | (refine ⟨⟨rfl, ?_⟩, ?_⟩) | (refine ⟨rfl, ?_⟩) | ((exact i64_eq (by (first | omega | (simp only [List.length_map, List.length_append, List.length_take, List.length_drop, List.length_cons, List.length_nil] <;> omega) | (simp <;> omega))))) | (simp; done) | (simp; rfl))) (by repeat' (first | exact trivial | exact rfl | exact .inl rfl | exact .inr rfl | (refine ⟨⟨rfl, .inl ⟨_, rfl, ?_⟩⟩, ?_⟩) | (refine ⟨⟨rfl, _, rfl, ?_⟩, ?_⟩) | (refine ⟨⟨rfl, .inr ⟨rfl, ?_⟩⟩, ?_⟩) | (refine ⟨rfl, ?_⟩) | ((exact i64_eq (by (first | omega | (simp only [List.length_map, List.length_append, List.length_take, List.length_drop, List.length_cons, List.length_nil] <;> omega) | (simp <;> omega))))) | (simp; done) | (simp; rfl))))
  rintro ⟨⟨A, B⟩, h⟩
  dsimp only at h
  have hl : r.pieces.length = A.length + B.length := by rw [h]; simp
  have hf := List.length_filter_le (mine s m o) A
  conv => whnf
  cases B with
  | cons p B =>
    rw [List.length_cons] at hl
    ((refine hif_true ?_ ?_; (· (first | rfl | assumption | omega | (simp only [gt_iff_lt, ge_iff_le, decide_eq_true_eq, decide_eq_false_iff_not, beq_iff_eq, bne_iff_ne, ne_eq, beq_eq_false_iff_ne, bne_eq_false_iff_eq, List.length_map, List.length_append, List.length_cons, List.length_nil, List.length_take, List.length_drop, Bool.not_eq_true', Bool.not_eq_false', Bool.not_eq_true, Bool.not_eq_false, Decidable.not_not, Nat.cast_ofNat, Int.natCast_add] <;> omega) | (simp <;> omega))); conv => whnf); try (refine hcut.go ?_; conv => whnf))
    ((refine hobl_intro ?_ ?_; (· (first | omega | (simp only [List.length_map, List.length_append, List.length_take, List.length_drop, List.length_cons, List.length_nil] <;> omega) | (simp <;> omega))); conv => whnf); try (refine hcut.go ?_; conv => whnf))
    refine hrow_mid h rfl ?_; conv => whnf
    ((refine hcall_lend ?_; (conv => whnf); refine ⟨_, spec_of p s m o, rfl, ?_⟩; conv => whnf); try (refine hcut.go ?_; conv => whnf))
    cases hp : mine s m o p with
    | true =>
      conv => whnf
      try (refine hcut.go ?_; conv => whnf)
      refine hobl_intro (c := (((A.filter (mine s m o)).map Piece.row).length + 1) * 136 ≤ 140737488355328) (by simp; omega) ?_; conv => whnf
      try (refine hcut.go ?_; conv => whnf)
      ((refine hwrap_fit (W_fit ?_ ?_) ?_; (· (first | omega | (simp only [List.length_map, List.length_append, List.length_take, List.length_drop, List.length_cons, List.length_nil] <;> omega) | (simp <;> omega))); (· (first | omega | (simp only [List.length_map, List.length_append, List.length_take, List.length_drop, List.length_cons, List.length_nil] <;> omega) | (simp <;> omega))); conv => whnf); try (refine hcut.go ?_; conv => whnf))
      exact ⟨⟨(A ++ [p], B), by rw [h]; simp⟩, (hle_of [(1000000, some 1000000), (1000001, some 1000001), (1000002, some 1000002), (1000003, some 1000003), (1000004, some 1000004), (900, some 31)] rfl rfl rfl rfl (by repeat' (first | exact trivial | (refine ⟨rfl, ?_⟩))) (by repeat' (first | exact trivial | exact rfl | (refine ⟨⟨rfl, ?_⟩, ?_⟩) | (refine ⟨rfl, ?_⟩) | ((exact row_app (f := Piece.row) (by rw [List.filter_append, List.filter_cons, if_pos hp]; rfl) rfl)) | (simp; done) | (simp; rfl))) (by repeat' (first | exact trivial | exact rfl | exact .inl rfl | exact .inr rfl | (refine ⟨⟨rfl, .inl ⟨_, rfl, ?_⟩⟩, ?_⟩) | (refine ⟨⟨rfl, _, rfl, ?_⟩, ?_⟩) | (refine ⟨⟨rfl, .inr ⟨rfl, ?_⟩⟩, ?_⟩) | (refine ⟨rfl, ?_⟩) | ((exact row_app (f := Piece.row) (by rw [List.filter_append, List.filter_cons, if_pos hp]; rfl) rfl)) | (simp; done) | (simp; rfl)))), by simp⟩
    | false =>
      conv => whnf
      try (refine hcut.go ?_; conv => whnf)
      ((refine hwrap_fit (W_fit ?_ ?_) ?_; (· (first | omega | (simp only [List.length_map, List.length_append, List.length_take, List.length_drop, List.length_cons, List.length_nil] <;> omega) | (simp <;> omega))); (· (first | omega | (simp only [List.length_map, List.length_append, List.length_take, List.length_drop, List.length_cons, List.length_nil] <;> omega) | (simp <;> omega))); conv => whnf); try (refine hcut.go ?_; conv => whnf))
      exact ⟨⟨(A ++ [p], B), by rw [h]; simp⟩, (hle_of [(1000000, some 1000000), (1000001, some 1000001), (1000002, some 1000002), (1000003, some 1000003), (1000004, some 1000004), (900, some 900)] rfl rfl rfl rfl (by repeat' (first | exact trivial | (refine ⟨rfl, ?_⟩))) (by repeat' (first | exact trivial | exact rfl | (refine ⟨⟨rfl, ?_⟩, ?_⟩) | (refine ⟨rfl, ?_⟩) | ((exact row_eqs (by rw [List.filter_append, List.filter_cons, if_neg (by rw [hp]; decide)]; simp))) | (simp; done) | (simp; rfl))) (by repeat' (first | exact trivial | exact rfl | exact .inl rfl | exact .inr rfl | (refine ⟨⟨rfl, .inl ⟨_, rfl, ?_⟩⟩, ?_⟩) | (refine ⟨⟨rfl, _, rfl, ?_⟩, ?_⟩) | (refine ⟨⟨rfl, .inr ⟨rfl, ?_⟩⟩, ?_⟩) | (refine ⟨rfl, ?_⟩) | ((exact row_eqs (by rw [List.filter_append, List.filter_cons, if_neg (by rw [hp]; decide)]; simp))) | (simp; done) | (simp; rfl)))), by simp⟩
  | nil =>
    rw [List.length_nil] at hl
    rw [List.append_nil] at h
    have ht := tot_filter (mine s m o) A
    have hA : tot A = tot r.pieces := by rw [h]
    have hd : dlv r s m o = match join (A.filter (mine s m o)) with
      | none => (r, false)
      | some b => ({ dropR r s m o with log := r.log ++ [⟨s, m, o, b⟩] }, true) := by rw [dlv, h]
    have ps := spec_join (A.filter (mine s m o)) (by omega) (by omega)
    ((refine hif_false ?_ ?_; (· (first | rfl | assumption | omega | (simp only [gt_iff_lt, ge_iff_le, decide_eq_true_eq, decide_eq_false_iff_not, beq_iff_eq, bne_iff_ne, ne_eq, beq_eq_false_iff_ne, bne_eq_false_iff_eq, List.length_map, List.length_append, List.length_cons, List.length_nil, List.length_take, List.length_drop, Bool.not_eq_true', Bool.not_eq_false', Bool.not_eq_true, Bool.not_eq_false, Decidable.not_not, Nat.cast_ofNat, Int.natCast_add] <;> omega) | (simp <;> omega))); conv => whnf); try (refine hcut.go ?_; conv => whnf))
    cases hj : join (A.filter (mine s m o)) with
    | none =>
      rw [hj] at hd ps
      rw [hd]
      ((refine hcall_own [(0, 35)]  ?_; (conv => whnf); refine ⟨_, _,  ps, ⟨⟨⟨rfl, rfl⟩, trivial⟩, rfl, rfl, rfl⟩, ?_⟩; conv => whnf); try (refine hcut.go ?_; conv => whnf))
      (exact hfin_of [(1000000, some 1000000), (1000001, some 1000001), (1000002, some 1000002), (1000003, some 1000003), (1000004, some 1000004), (0, some 1000001), (1, some 1000002), (2, some 1000003), (3, some 1000004)] rfl rfl (by repeat' (first | exact trivial | (refine ⟨rfl, ?_⟩))) rfl (by first | rfl ) (by repeat' (first | exact trivial | exact rfl | exact .inl rfl | exact .inr rfl | (refine ⟨⟨rfl, .inl ⟨_, rfl, ?_⟩⟩, ?_⟩) | (refine ⟨⟨rfl, _, rfl, ?_⟩, ?_⟩) | (refine ⟨⟨rfl, .inr ⟨rfl, ?_⟩⟩, ?_⟩) | (refine ⟨rfl, ?_⟩) | (simp; done) | (simp; rfl))))
    | some b =>
      rw [hj] at hd ps
      rw [hd]
      ((refine hcall_own [(0, 35)]  ?_; (conv => whnf); refine ⟨_, _,  ps, ⟨⟨⟨rfl, rfl⟩, trivial⟩, rfl, rfl, rfl⟩, ?_⟩; conv => whnf); try (refine hcut.go ?_; conv => whnf))
      refine hobl_intro (c := ((r.log.map Arrival.row).length + 1) * 48 ≤ 140737488355328) (by simp; omega) ?_; conv => whnf
      try (refine hcut.go ?_; conv => whnf)
      ((refine hcall_give [] [(1000000, 1000000), (1000001, 1000001), (1000002, 1000002), (1000003, 1000003), (1000004, 52)] [(0, 910), (1, 911), (2, 912), (3, 913)] ?_; (conv => whnf); refine ⟨_, _, _, _, spec_drop { r with log := r.log ++ [⟨s, m, o, b⟩] } s m o (by dsimp only; omega), ⟨rfl, rfl, rfl, ⟨⟨rfl, _, rfl, .inl ⟨rfl, rfl⟩⟩, ⟨⟨rfl, _, rfl, .inl ⟨rfl, rfl⟩⟩, ⟨⟨rfl, _, rfl, .inl ⟨rfl, rfl⟩⟩, ⟨⟨rfl, _, rfl, .inl ⟨rfl, rfl⟩⟩, ⟨⟨rfl, _, rfl, .inl ⟨rfl, row_app (f := Arrival.row) (x := ⟨s, m, o, b⟩) rfl rfl⟩⟩, trivial⟩⟩⟩⟩⟩, ⟨⟨rfl, rfl⟩, ⟨⟨rfl, rfl⟩, ⟨⟨rfl, rfl⟩, ⟨⟨rfl, rfl⟩, trivial⟩⟩⟩⟩, rfl, rfl, rfl⟩, ?_⟩; conv => whnf); try (refine hcut.go ?_; conv => whnf))
      (exact hfin_of [(1000000, some 1000000), (1000001, some 1000001), (1000002, some 1000002), (1000003, some 1000003), (1000004, some 1000004), (0, some 910), (1, some 911), (2, some 912), (3, some 913)] rfl rfl (by repeat' (first | exact trivial | (refine ⟨rfl, ?_⟩))) rfl (by first | rfl ) (by repeat' (first | exact trivial | exact rfl | exact .inl rfl | exact .inr rfl | (refine ⟨⟨rfl, .inl ⟨_, rfl, ?_⟩⟩, ?_⟩) | (refine ⟨⟨rfl, _, rfl, ?_⟩, ?_⟩) | (refine ⟨⟨rfl, .inr ⟨rfl, ?_⟩⟩, ?_⟩) | (refine ⟨rfl, ?_⟩) | (simp; done) | (simp; rfl))))
theorem join_len {l : List Piece} {b : List UInt8} (h : join l = some b) : 0 < l.length := by
  unfold join at h
  split at h
  · cases h
  · rename_i c; exact List.length_pos_iff.2 c
theorem dlv_less {r : Receiver} {s m : Int} {o : Bool} (h : (dlv r s m o).2 = true) : (dlv r s m o).1.pieces.length < r.pieces.length := by
  unfold dlv at h ⊢
  split
  · rename_i hj; rw [hj] at h; cases h
  · rename_i b hj
    have h1 := join_len hj
    have h2 : (r.pieces.filter fun p => !mine s m o p).length + (r.pieces.filter (mine s m o)).length = r.pieces.length := by
      induction r.pieces with
      | nil => rfl
      | cons p l ih =>
        rw [List.filter_cons, List.filter_cons]
        cases mine s m o p <;> simp <;> omega
    show (r.pieces.filter fun p => !mine s m o p).length < _
    omega
theorem dlv_keeps (r : Receiver) (s m : Int) (o : Bool) : (dlv r s m o).1.turn = r.turn ∧ (dlv r s m o).1.cum = r.cum ∧ (dlv r s m o).1.spans = r.spans ∧ (dlv r s m o).1.config = r.config ∧ (dlv r s m o).1.pieces.length ≤ r.pieces.length ∧ tot (dlv r s m o).1.pieces ≤ tot r.pieces ∧
    (dlv r s m o).1.log.length + (dlv r s m o).1.pieces.length ≤ r.log.length + r.pieces.length := by
  have hl := fun h => dlv_less (r := r) (s := s) (m := m) (o := o) h
  unfold dlv at hl ⊢
  split
  · exact ⟨rfl, rfl, rfl, rfl, Nat.le_refl _, Nat.le_refl _, Nat.le_refl _⟩
  · rename_i b hj
    rw [hj] at hl
    have h1 := hl rfl
    dsimp only [dropR] at h1 ⊢
    refine ⟨rfl, rfl, rfl, rfl, List.length_filter_le _ _, tot_filter _ _, ?_⟩
    simp only [List.length_append, List.length_singleton]; omega
/-- a stream's messages whose turn it is -/
def bump (r : Receiver) (k : Nat) : Receiver := { r with turn := r.turn.set k (r.turn[k]?.getD 0 + 1) }
def turnsN : Nat → Receiver → Nat → Receiver
  | 0, r, _ => r
  | n + 1, r, k => if (dlv r k (tag (r.turn[k]?.getD 0)) true).2 then turnsN n (bump (dlv r k (tag (r.turn[k]?.getD 0)) true).1 k) k else (dlv r k (tag (r.turn[k]?.getD 0)) true).1
def turns (r : Receiver) (k : Nat) : Receiver := turnsN (r.pieces.length + 1) r k
theorem turns_step (r : Receiver) (k : Nat) : turns r k = if (dlv r k (tag (r.turn[k]?.getD 0)) true).2 then turns (bump (dlv r k (tag (r.turn[k]?.getD 0)) true).1 k) k else (dlv r k (tag (r.turn[k]?.getD 0)) true).1 := by
  have gen : ∀ (n m : Nat) (r : Receiver), r.pieces.length < n → r.pieces.length < m → turnsN n r k = turnsN m r k := by
    intro n
    induction n with
    | zero => intro m r h; omega
    | succ n ih =>
      intro m r h1 h2
      cases m with
      | zero => omega
      | succ m =>
        rw [turnsN, turnsN]
        split
        · rename_i hd
          have := dlv_less hd
          exact ih m _ (by show (dlv r k _ true).1.pieces.length < n; omega) (by show (dlv r k _ true).1.pieces.length < m; omega)
        · rfl
  conv => lhs; rw [turns, turnsN]
  split
  · rename_i hd
    have := dlv_less hd
    exact gen _ _ _ (by show (dlv r k _ true).1.pieces.length < _; omega) (by show (dlv r k _ true).1.pieces.length < _; exact Nat.lt_succ_self _)
  · rfl
/-- how far a turn may go on -/
structure TFit (r : Receiver) (k : Nat) : Prop where
  pieces : r.pieces.length < 2 ^ 22
  bytes : tot r.pieces < 2 ^ 22
  log : r.log.length + r.pieces.length < 2 ^ 37
  has : k < r.turn.length
  lo : -(2 ^ 60) < r.turn[k]?.getD 0
  hi : r.turn[k]?.getD 0 + r.pieces.length < 2 ^ 60
theorem spec_turn (r : Receiver) (k : Nat) (hf : TFit r k) :
    FunOK Try.prog 39 [.ptr 1000000 0, i64 k] (lk .free (tkH r)) (.tup []) (lk .free (tkD (turns r k))) := by
  generalize hT : turns r k = T
  refine funOK_of mixed Try.func39 (by decide) [1000000, 1000001, 1000002, 1000003, 1000004] lk_pins ?_
  conv => whnf
  refine ⟨{ x : Receiver // TFit x k ∧ turns x k = T }, fun | ⟨x, _⟩ => hsP [1000000, 1000001, 1000002, 1000003, 1000004] 26 [(0, .ptr 1000000 0), (1, i64 k)] ((1000000, .live (.cells 88 (rcvC x (.own 900) (.own 901) (.own 902) (.own 903)))) :: rcvB x 900 901 902 903 [(1000001, .dead), (1000002, .dead), (1000003, .dead), (1000004, .dead)]), fun x => x.1.pieces.length, ⟨r, hf, hT⟩, ?_, ?_⟩
  · exact (hle_of [(1000000, some 1000000), (1000001, some 1000001), (1000002, some 1000002), (1000003, some 1000003), (1000004, some 1000004), (900, some 1000001), (901, some 1000002), (902, some 1000003), (903, some 1000004)] rfl rfl rfl rfl (by repeat' (first | exact trivial | (refine ⟨rfl, ?_⟩))) (by repeat' (first | exact trivial | exact rfl | (refine ⟨⟨rfl, ?_⟩, ?_⟩) | (refine ⟨rfl, ?_⟩) | (simp; done) | (simp; rfl))) (by repeat' (first | exact trivial | exact rfl | exact .inl rfl | exact .inr rfl | (refine ⟨⟨rfl, .inl ⟨_, rfl, ?_⟩⟩, ?_⟩) | (refine ⟨⟨rfl, _, rfl, ?_⟩, ?_⟩) | (refine ⟨⟨rfl, .inr ⟨rfl, ?_⟩⟩, ?_⟩) | (refine ⟨rfl, ?_⟩) | (simp; done) | (simp; rfl))))
  rintro ⟨x, ⟨h1, h2, h3, h4, h5, h6⟩, he⟩
  conv => whnf
  ((refine hobl_intro ?_ ?_; (· (first | omega | (simp only [List.length_map, List.length_append, List.length_take, List.length_drop, List.length_cons, List.length_nil] <;> omega) | (simp <;> omega))); conv => whnf); try (refine hcut.go ?_; conv => whnf))
  refine hrow_at k rfl h4 ?_; conv => whnf
  have hg : x.turn[k]?.getD 0 = x.turn[k] := by simp [h4]
  ((refine hcall_lend ?_; (conv => whnf); refine ⟨_, spec_tag _, rfl, ?_⟩; conv => whnf); try (refine hcut.go ?_; conv => whnf))
  have hstep := turns_step x k
  rw [he, hg] at hstep
  rw [hg] at h5 h6
  obtain ⟨k1, k2, k3, k4, k5, k6, k7⟩ := dlv_keeps x k (tag x.turn[k]) true
  have hless : (dlv x k (tag x.turn[k]) true).2 = true → (dlv x k (tag x.turn[k]) true).1.pieces.length < x.pieces.length := fun h => dlv_less h
  ((refine hcall_give [] [(1000000, 1000000), (1000001, 900), (1000002, 901), (1000003, 902), (1000004, 903)] [(0, 910), (1, 911), (2, 912), (3, 913)] ?_; (conv => whnf); refine ⟨_, _, _, _, spec_deliver x k (tag x.turn[k]) true (by omega) (by omega) (by omega), ⟨rfl, rfl, rfl, ⟨⟨rfl, _, rfl, .inl ⟨rfl, rfl⟩⟩, ⟨⟨rfl, _, rfl, .inl ⟨rfl, rfl⟩⟩, ⟨⟨rfl, _, rfl, .inl ⟨rfl, rfl⟩⟩, ⟨⟨rfl, _, rfl, .inl ⟨rfl, rfl⟩⟩, ⟨⟨rfl, _, rfl, .inl ⟨rfl, rfl⟩⟩, trivial⟩⟩⟩⟩⟩, ⟨⟨rfl, rfl⟩, ⟨⟨rfl, rfl⟩, ⟨⟨rfl, rfl⟩, ⟨⟨rfl, rfl⟩, trivial⟩⟩⟩⟩, rfl, rfl, rfl⟩, ?_⟩; conv => whnf); try (refine hcut.go ?_; conv => whnf))
  generalize hD : dlv x k (tag x.turn[k]) true = D at *
  obtain ⟨y, ok⟩ := D
  dsimp only at k1 k2 k3 k4 k5 k6 k7 hless hstep
  have h4' : k < y.turn.length := by rw [k1]; exact h4
  have hyk : y.turn[k] = x.turn[k] := by simp only [k1]
  cases ok with
  | false =>
    have hstep : T = y := hstep
    subst hstep
    conv => whnf
    try (refine hcut.go ?_; conv => whnf)
    (exact hfin_of [(1000000, some 1000000), (1000001, some 1000001), (1000002, some 1000002), (1000003, some 1000003), (1000004, some 1000004), (0, some 910), (1, some 911), (2, some 912), (3, some 913)] rfl rfl (by repeat' (first | exact trivial | (refine ⟨rfl, ?_⟩))) rfl (by first | rfl ) (by repeat' (first | exact trivial | exact rfl | exact .inl rfl | exact .inr rfl | (refine ⟨⟨rfl, .inl ⟨_, rfl, ?_⟩⟩, ?_⟩) | (refine ⟨⟨rfl, _, rfl, ?_⟩, ?_⟩) | (refine ⟨⟨rfl, .inr ⟨rfl, ?_⟩⟩, ?_⟩) | (refine ⟨rfl, ?_⟩) | (simp; done) | (simp; rfl))))
  | true =>
    have hless := hless rfl
    conv => whnf
    try (refine hcut.go ?_; conv => whnf)
    ((refine hobl_intro ?_ ?_; (· (first | omega | (simp only [List.length_map, List.length_append, List.length_take, List.length_drop, List.length_cons, List.length_nil] <;> omega) | (simp <;> omega))); conv => whnf); try (refine hcut.go ?_; conv => whnf))
    refine hrow_at k rfl h4' ?_; conv => whnf
    rw [hyk]
    ((refine hwrap_fit (W_fit ?_ ?_) ?_; (· (first | omega | (simp only [List.length_map, List.length_append, List.length_take, List.length_drop, List.length_cons, List.length_nil] <;> omega) | (simp <;> omega))); (· (first | omega | (simp only [List.length_map, List.length_append, List.length_take, List.length_drop, List.length_cons, List.length_nil] <;> omega) | (simp <;> omega))); conv => whnf); try (refine hcut.go ?_; conv => whnf))
    ((refine hobl_intro ?_ ?_; (· (first | omega | (simp only [List.length_map, List.length_append, List.length_take, List.length_drop, List.length_cons, List.length_nil] <;> omega) | (simp <;> omega))); conv => whnf); try (refine hcut.go ?_; conv => whnf))
    refine hrow_at k rfl h4' ?_; conv => whnf
    have hb : (bump y k).turn[k]?.getD 0 = x.turn[k] + 1 := by
      show (y.turn.set k (y.turn[k]?.getD 0 + 1))[k]?.getD 0 = _
      rw [List.getElem?_set_self h4', List.getElem?_eq_getElem h4', hyk]; rfl
    refine ⟨⟨bump y k, ⟨by show y.pieces.length < _; omega, by show tot y.pieces < _; omega, by show y.log.length + y.pieces.length < _; omega, by show k < (y.turn.set k _).length; rw [List.length_set]; exact h4', by rw [hb]; omega, by rw [hb]; show _ + (y.pieces.length : Int) < _; omega⟩, ?_⟩, (hle_of [(1000000, some 1000000), (1000001, some 1000001), (1000002, some 1000002), (1000003, some 1000003), (1000004, some 1000004), (900, some 910), (901, some 911), (902, some 912), (903, some 913)] rfl rfl rfl rfl (by repeat' (first | exact trivial | (refine ⟨rfl, ?_⟩))) (by repeat' (first | exact trivial | exact rfl | (refine ⟨⟨rfl, ?_⟩, ?_⟩) | (refine ⟨rfl, ?_⟩) | ((refine row_eqs ?_; show _ = (y.turn.set k (y.turn[k]?.getD 0 + 1)).map _; rw [List.map_set, List.getElem?_eq_getElem h4', hyk]; rfl)) | (simp; done) | (simp; rfl))) (by repeat' (first | exact trivial | exact rfl | exact .inl rfl | exact .inr rfl | (refine ⟨⟨rfl, .inl ⟨_, rfl, ?_⟩⟩, ?_⟩) | (refine ⟨⟨rfl, _, rfl, ?_⟩, ?_⟩) | (refine ⟨⟨rfl, .inr ⟨rfl, ?_⟩⟩, ?_⟩) | (refine ⟨rfl, ?_⟩) | ((refine row_eqs ?_; show _ = (y.turn.set k (y.turn[k]?.getD 0 + 1)).map _; rw [List.map_set, List.getElem?_eq_getElem h4', hyk]; rfl)) | (simp; done) | (simp; rfl)))), by show y.pieces.length < x.pieces.length; omega⟩
    rw [hstep]; rfl
end Rcv
end Go.HL
