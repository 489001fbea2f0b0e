/- The functions of package score as what they compute: Own, Flight, Give, Late, skip, Point. -/
import Derived.Test.YticmofoeecjnhaaSer
namespace Go.HL
open Go.Proofs
namespace Sco
open Ser
set_option maxHeartbeats 1000000
set_option maxRecDepth 100000
set_option linter.unusedSimpArgs false
abbrev sents (l : List Sent) : HV := .p (.sl 20 (l.map Sent.row))
abbrev skips (l : List Skip) : HV := .p (.sl 3 (l.map Skip.row))
abbrev sentB (l : List Sent) : HSlot := .live (.row 145 20 (l.map Sent.row))
abbrev skipB (l : List Skip) : HSlot := .live (.row 100 3 (l.map Skip.row))
abbrev intB (l : List Int) : HSlot := .live (.row 3 1 (l.map fun n => [pi n]))
def total (l : List Sent) : Nat := (l.map fun s => s.chunk.data.length).sum
theorem total_app (a b : List Sent) : total (a ++ b) = total a + total b := by simp [total]
theorem total_cons (s : Sent) (b : List Sent) : total (s :: b) = s.chunk.data.length + total b := by simp [total]
structure Sized (l : List Sent) : Prop where
  len : l.length < 2 ^ 38
  bytes : total l < 2 ^ 38
theorem clone_bytes (l : List UInt8) (hb : l.length < 2 ^ 40) : FunOK Try.prog 34 [.p (.sl 1 (l.map bRow))] noHeap (.own 0) (lk .free [(0, .live (.row 5 1 (l.map bRow)))]) := by
  refine funOK_of mixed Try.func34 (by decide) [] (fun _ => .inl rfl) ?_
  conv => whnf
  intro b hn
  conv => whnf
  refine hif_intro (fun c => ?_) (fun c => ?_)
  · conv => whnf
    refine hfin_of [(0, none)] rfl rfl trivial rfl rfl ⟨⟨rfl, .inr ⟨rfl, hn c⟩⟩, trivial⟩
  · conv => whnf
    refine hobl_intro (c := (([] : List (List PV)).length + (l.map bRow).length) * 1 ≤ 140737488355328) (by simp; omega) ?_
    conv => whnf
    refine hfin_of [(0, some 7)] rfl rfl trivial rfl rfl ⟨⟨rfl, .inl ⟨7, rfl, ?_⟩⟩, trivial⟩
    rfl
theorem clone_skips (l : List Skip) (hb : l.length < 2 ^ 40) : FunOK Try.prog 111 [.p (.sl 3 (l.map Skip.row))] noHeap (.own 0) (lk .free [(0, .live (.row 100 3 (l.map Skip.row)))]) := by
  refine funOK_of mixed Try.func111 (by decide) [] (fun _ => .inl rfl) ?_
  conv => whnf
  intro b hn
  conv => whnf
  refine hif_intro (fun c => ?_) (fun c => ?_)
  · conv => whnf
    refine hfin_of [(0, none)] rfl rfl trivial rfl rfl ⟨⟨rfl, .inr ⟨rfl, hn c⟩⟩, trivial⟩
  · conv => whnf
    refine hobl_intro (c := (([] : List (List PV)).length + (l.map Skip.row).length) * 24 ≤ 140737488355328) (by simp; omega) ?_
    conv => whnf
    refine hfin_of [(0, some 7)] rfl rfl trivial rfl rfl ⟨⟨rfl, .inl ⟨7, rfl, ?_⟩⟩, trivial⟩
    rfl
theorem spec_own (l : List Sent) (hl : Sized l) : FunOK Try.prog 81 [sents l] noHeap (.own 0) (lk .free [(0, sentB l)]) := by
  obtain ⟨hl1, hl2⟩ := hl
  refine funOK_of mixed Try.func81 (by decide) [] (fun _ => .inl rfl) ?_
  conv => whnf
  refine ⟨{ x : List Sent × List Sent // l = x.1 ++ x.2 }, fun | ⟨(a, b), _⟩ => hs 24 [(3, .own 900), (6, sents l), (7, i64 l.length), (8, i64 a.length)] [(900, sentB a)], fun x => x.1.2.length, ⟨([], l), rfl⟩, ?_, ?_⟩
  · exact (hle_Q [(900, none)])
  rintro ⟨⟨a, b⟩, h⟩
  dsimp only at h
  cases b with
  | nil =>
    have hz := zip_nil h
    conv => whnf
    ((refine hif_F ?_; conv => whnf); try (refine hcut.go ?_; conv => whnf))
    refine hfin_of [(0, some 900)] rfl rfl trivial rfl rfl ⟨⟨rfl, .inl ⟨900, rfl, ?_⟩⟩, trivial⟩
    show sentB a = sentB l
    rw [h, List.append_nil]
  | cons s b =>
    have hz := zip_cons h
    rw [h, total_app, total_cons] at hl2
    conv => whnf
    ((refine hif_T ?_; conv => whnf); try (refine hcut.go ?_; conv => whnf))
    refine hrow_mid h rfl ?_; conv => whnf
    ((refine hcall_own [(0, 15)]  ?_; (conv => whnf); refine ⟨_, _,  clone_bytes s.chunk.data (by omega), ⟨⟨⟨rfl, rfl⟩, trivial⟩, rfl, rfl, rfl⟩, ?_⟩; conv => whnf); try (refine hcut.go ?_; conv => whnf))
    refine hobl_intro (c := ((a.map Sent.row).length + 1) * 200 ≤ 140737488355328) (by (first | omega | (simp only [List.length_map, List.length_append, List.length_take, List.length_drop, List.length_cons, List.length_nil] <;> omega) | (simp <;> omega))) ?_
    conv => whnf
    ((refine hwrap_F ?_; conv => whnf); try (refine hcut.go ?_; conv => whnf))
    exact ⟨⟨(a ++ [s], b), zip_next h⟩, (hle_Q [(900, some 21)] (by repeat' (first | exact trivial | exact rfl | (refine ⟨⟨rfl, ?_⟩, ?_⟩) | (refine ⟨rfl, ?_⟩) | (exact row_snoc rfl) | (simp; done) | (simp; rfl))) (by repeat' (first | exact trivial | exact rfl | exact .inl rfl | exact .inr rfl | (refine ⟨⟨rfl, .inl ⟨_, rfl, ?_⟩⟩, ?_⟩) | (refine ⟨⟨rfl, _, rfl, ?_⟩, ?_⟩) | (refine ⟨⟨rfl, .inr ⟨rfl, ?_⟩⟩, ?_⟩) | (refine ⟨rfl, ?_⟩) | (exact row_snoc rfl) | (simp; done) | (simp; rfl)))), by simp⟩
def fl (path : Int) (l : List Sent) : Nat := (l.map fun s => if s.state = 1 ∧ s.path = path then s.chunk.data.length else 0).sum
theorem fl_app (p : Int) (a b : List Sent) : fl p (a ++ b) = fl p a + fl p b := by simp [fl]
theorem fl_one (p : Int) (s : Sent) : fl p [s] = if s.state = 1 ∧ s.path = p then s.chunk.data.length else 0 := by simp [fl]
theorem fl_le (p : Int) : ∀ l : List Sent, fl p l ≤ total l
  | [] => by simp [fl, total]
  | s :: r => by
    have := fl_le p r
    simp only [fl, total, List.map_cons, List.sum_cons] at this ⊢
    split <;> omega
theorem spec_flight (l : List Sent) (path : Int) (hl : Sized l) : FunOK Try.prog 106 [sents l, i64 path] noHeap (i64 (fl path l)) noHeap := by
  obtain ⟨hl1, hl2⟩ := hl
  refine funOK_pure mixed Try.func106 (by decide) ?_
  conv => whnf
  refine ⟨{ x : List Sent × List Sent // l = x.1 ++ x.2 }, fun | ⟨(a, b), _⟩ => hs 31 [(1, i64 path), (5, i64 (fl path a)), (8, sents l), (9, i64 l.length), (10, i64 a.length)] [], fun x => x.1.2.length, ⟨([], l), rfl⟩, ?_, ?_⟩
  · exact (hle_Q [])
  rintro ⟨⟨a, b⟩, h⟩
  dsimp only at h
  cases b with
  | nil =>
    have hz := zip_nil h
    conv => whnf
    ((refine hif_F ?_; conv => whnf); try (refine hcut.go ?_; conv => whnf))
    rw [h, List.append_nil]
  | cons s b =>
    have hz := zip_cons h
    have hf := fl_le path a
    rw [h, total_app, total_cons] at hl2
    have e1 := fl_app path a [s]
    rw [fl_one] at e1
    conv => whnf
    ((refine hif_T ?_; conv => whnf); try (refine hcut.go ?_; conv => whnf))
    (try (refine hcut.go ?_; conv => whnf))
    refine hrow_mid h rfl ?_; conv => whnf
    refine hif_intro (fun c1 => ?_) (fun c1 => ?_)
    · conv => whnf
      refine hif_intro (fun c2 => ?_) (fun c2 => ?_)
      · conv => whnf
        rw [if_pos ⟨by simpa using c1, by simpa using c2⟩] at e1
        ((refine hwrap_F ?_; conv => whnf); try (refine hcut.go ?_; conv => whnf))
        ((refine hwrap_F ?_; conv => whnf); try (refine hcut.go ?_; conv => whnf))
        exact ⟨⟨(a ++ [s], b), zip_next h⟩, (hle_Q [] (by repeat' (first | exact trivial | exact rfl | (refine ⟨⟨rfl, ?_⟩, ?_⟩) | (refine ⟨rfl, ?_⟩) | (exact i64_eq (by rw [e1]; simp)) | (simp; done) | (simp; rfl))) (by repeat' (first | exact trivial | exact rfl | exact .inl rfl | exact .inr rfl | (refine ⟨⟨rfl, .inl ⟨_, rfl, ?_⟩⟩, ?_⟩) | (refine ⟨⟨rfl, _, rfl, ?_⟩, ?_⟩) | (refine ⟨⟨rfl, .inr ⟨rfl, ?_⟩⟩, ?_⟩) | (refine ⟨rfl, ?_⟩) | (exact i64_eq (by rw [e1]; simp)) | (simp; done) | (simp; rfl)))), by simp⟩
      · conv => whnf
        rw [if_neg (by rintro ⟨h1, h2⟩; simp [h2] at c2)] at e1
        ((refine hwrap_F ?_; conv => whnf); try (refine hcut.go ?_; conv => whnf))
        exact ⟨⟨(a ++ [s], b), zip_next h⟩, (hle_Q [] (by repeat' (first | exact trivial | exact rfl | (refine ⟨⟨rfl, ?_⟩, ?_⟩) | (refine ⟨rfl, ?_⟩) | (exact i64_eq (by rw [e1]; simp)) | (simp; done) | (simp; rfl))) (by repeat' (first | exact trivial | exact rfl | exact .inl rfl | exact .inr rfl | (refine ⟨⟨rfl, .inl ⟨_, rfl, ?_⟩⟩, ?_⟩) | (refine ⟨⟨rfl, _, rfl, ?_⟩, ?_⟩) | (refine ⟨⟨rfl, .inr ⟨rfl, ?_⟩⟩, ?_⟩) | (refine ⟨rfl, ?_⟩) | (exact i64_eq (by rw [e1]; simp)) | (simp; done) | (simp; rfl)))), by simp⟩
    · conv => whnf
      rw [if_neg (by rintro ⟨h1, h2⟩; simp [h1] at c1)] at e1
      ((refine hwrap_F ?_; conv => whnf); try (refine hcut.go ?_; conv => whnf))
      exact ⟨⟨(a ++ [s], b), zip_next h⟩, (hle_Q [] (by repeat' (first | exact trivial | exact rfl | (refine ⟨⟨rfl, ?_⟩, ?_⟩) | (refine ⟨rfl, ?_⟩) | (exact i64_eq (by rw [e1]; simp)) | (simp; done) | (simp; rfl))) (by repeat' (first | exact trivial | exact rfl | exact .inl rfl | exact .inr rfl | (refine ⟨⟨rfl, .inl ⟨_, rfl, ?_⟩⟩, ?_⟩) | (refine ⟨⟨rfl, _, rfl, ?_⟩, ?_⟩) | (refine ⟨⟨rfl, .inr ⟨rfl, ?_⟩⟩, ?_⟩) | (refine ⟨rfl, ?_⟩) | (exact i64_eq (by rw [e1]; simp)) | (simp; done) | (simp; rfl)))), by simp⟩
def give (id : Int) (s : Sent) : Sent := if s.id = id ∧ s.state ≠ 2 then { s with state := 4 } else s
def late (path : Int) (s : Sent) : Sent := if s.state = 1 ∧ s.path = path then { s with state := 3 } else s
theorem spec_give (l : List Sent) (id : Int) (hl : Sized l) : FunOK Try.prog 114 [sents l, i64 id] noHeap (.own 0) (lk .free [(0, sentB (l.map (give id)))]) := by
  have hl1 := hl.len
  refine funOK_of mixed Try.func114 (by decide) [] (fun _ => .inl rfl) ?_
  conv => whnf
  ((refine hcall_own [(0, 8)]  ?_; (conv => whnf); refine ⟨_, _,  spec_own l hl, ⟨⟨⟨rfl, rfl⟩, trivial⟩, rfl, rfl, rfl⟩, ?_⟩; conv => whnf); try (refine hcut.go ?_; conv => whnf))
  refine ⟨{ x : List Sent × List Sent // l = x.1 ++ x.2 }, fun | ⟨(a, b), _⟩ => hs 35 [(1, i64 id), (5, .own 900), (10, i64 l.length), (11, i64 a.length)] [(900, sentB (a.map (give id) ++ b))], fun x => x.1.2.length, ⟨([], l), rfl⟩, ?_, ?_⟩
  · exact (hle_Q [(900, some 8)])
  rintro ⟨⟨a, b⟩, h⟩
  dsimp only at h
  cases b with
  | nil =>
    have hz := zip_nil h
    conv => whnf
    ((refine hif_F ?_; conv => whnf); try (refine hcut.go ?_; conv => whnf))
    refine hfin_of [(0, some 900)] rfl rfl trivial rfl rfl ⟨⟨rfl, .inl ⟨900, rfl, ?_⟩⟩, trivial⟩
    show sentB (a.map (give id) ++ []) = sentB (l.map (give id))
    rw [h, List.append_nil, List.append_nil]
  | cons s b =>
    have hz := zip_cons h
    have hm : a.length = (a.map (give id)).length := by simp
    have e0 : (a ++ [s]).map (give id) ++ b = a.map (give id) ++ give id s :: b := by simp
    conv => whnf
    ((refine hif_T ?_; conv => whnf); try (refine hcut.go ?_; conv => whnf))
    (try (refine hcut.go ?_; conv => whnf))
    ((refine hobl_O ?_; conv => whnf); try (refine hcut.go ?_; conv => whnf))
    refine hrow_mid (a := a.map (give id)) (b := b) (s := s) rfl (by simp) ?_; conv => whnf
    refine hif_intro (fun c1 => ?_) (fun c1 => ?_)
    · conv => whnf
      ((refine hobl_O ?_; conv => whnf); try (refine hcut.go ?_; conv => whnf))
      refine hrow_mid (a := a.map (give id)) (b := b) (s := s) rfl (by simp) ?_; conv => whnf
      refine hif_intro (fun c2 => ?_) (fun c2 => ?_)
      · have e1 : give id s = { s with state := 4 } := if_pos ⟨by simpa using c1, by simpa using c2⟩
        conv => whnf
        ((refine hobl_O ?_; conv => whnf); try (refine hcut.go ?_; conv => whnf))
        refine hrow_mid (a := a.map (give id)) (b := b) (s := s) rfl (by simp) ?_; conv => whnf
        ((refine hwrap_F ?_; conv => whnf); try (refine hcut.go ?_; conv => whnf))
        exact ⟨⟨(a ++ [s], b), zip_next h⟩, (hle_Q [(900, some 900)] (by repeat' (first | exact trivial | exact rfl | (refine ⟨⟨rfl, ?_⟩, ?_⟩) | (refine ⟨rfl, ?_⟩) | ((rw [e0]; exact (row_set (by simp) (by rw [e1]; rfl)).symm)) | (simp; done) | (simp; rfl))) (by repeat' (first | exact trivial | exact rfl | exact .inl rfl | exact .inr rfl | (refine ⟨⟨rfl, .inl ⟨_, rfl, ?_⟩⟩, ?_⟩) | (refine ⟨⟨rfl, _, rfl, ?_⟩, ?_⟩) | (refine ⟨⟨rfl, .inr ⟨rfl, ?_⟩⟩, ?_⟩) | (refine ⟨rfl, ?_⟩) | ((rw [e0]; exact (row_set (by simp) (by rw [e1]; rfl)).symm)) | (simp; done) | (simp; rfl)))), by simp⟩
      · have e1 : give id s = s := if_neg (by rintro ⟨_, h2⟩; exact h2 (by simpa using c2))
        conv => whnf
        ((refine hwrap_F ?_; conv => whnf); try (refine hcut.go ?_; conv => whnf))
        exact ⟨⟨(a ++ [s], b), zip_next h⟩, (hle_Q [(900, some 900)] (by repeat' (first | exact trivial | exact rfl | (refine ⟨⟨rfl, ?_⟩, ?_⟩) | (refine ⟨rfl, ?_⟩) | ((rw [e0, e1]; rfl)) | (simp; done) | (simp; rfl))) (by repeat' (first | exact trivial | exact rfl | exact .inl rfl | exact .inr rfl | (refine ⟨⟨rfl, .inl ⟨_, rfl, ?_⟩⟩, ?_⟩) | (refine ⟨⟨rfl, _, rfl, ?_⟩, ?_⟩) | (refine ⟨⟨rfl, .inr ⟨rfl, ?_⟩⟩, ?_⟩) | (refine ⟨rfl, ?_⟩) | ((rw [e0, e1]; rfl)) | (simp; done) | (simp; rfl)))), by simp⟩
    · have e1 : give id s = s := if_neg (by rintro ⟨h2, _⟩; simp [h2] at c1)
      conv => whnf
      ((refine hwrap_F ?_; conv => whnf); try (refine hcut.go ?_; conv => whnf))
      exact ⟨⟨(a ++ [s], b), zip_next h⟩, (hle_Q [(900, some 900)] (by repeat' (first | exact trivial | exact rfl | (refine ⟨⟨rfl, ?_⟩, ?_⟩) | (refine ⟨rfl, ?_⟩) | ((rw [e0, e1]; rfl)) | (simp; done) | (simp; rfl))) (by repeat' (first | exact trivial | exact rfl | exact .inl rfl | exact .inr rfl | (refine ⟨⟨rfl, .inl ⟨_, rfl, ?_⟩⟩, ?_⟩) | (refine ⟨⟨rfl, _, rfl, ?_⟩, ?_⟩) | (refine ⟨⟨rfl, .inr ⟨rfl, ?_⟩⟩, ?_⟩) | (refine ⟨rfl, ?_⟩) | ((rw [e0, e1]; rfl)) | (simp; done) | (simp; rfl)))), by simp⟩
theorem spec_late (l : List Sent) (path : Int) (hl : Sized l) : FunOK Try.prog 56 [sents l, i64 path] noHeap (.own 0) (lk .free [(0, sentB (l.map (late path)))]) := by
  have hl1 := hl.len
  refine funOK_of mixed Try.func56 (by decide) [] (fun _ => .inl rfl) ?_
  conv => whnf
  ((refine hcall_own [(0, 8)]  ?_; (conv => whnf); refine ⟨_, _,  spec_own l hl, ⟨⟨⟨rfl, rfl⟩, trivial⟩, rfl, rfl, rfl⟩, ?_⟩; conv => whnf); try (refine hcut.go ?_; conv => whnf))
  refine ⟨{ x : List Sent × List Sent // l = x.1 ++ x.2 }, fun | ⟨(a, b), _⟩ => hs 35 [(1, i64 path), (5, .own 900), (10, i64 l.length), (11, i64 a.length)] [(900, sentB (a.map (late path) ++ b))], fun x => x.1.2.length, ⟨([], l), rfl⟩, ?_, ?_⟩
  · exact (hle_Q [(900, some 8)])
  rintro ⟨⟨a, b⟩, h⟩
  dsimp only at h
  cases b with
  | nil =>
    have hz := zip_nil h
    conv => whnf
    ((refine hif_F ?_; conv => whnf); try (refine hcut.go ?_; conv => whnf))
    refine hfin_of [(0, some 900)] rfl rfl trivial rfl rfl ⟨⟨rfl, .inl ⟨900, rfl, ?_⟩⟩, trivial⟩
    show sentB (a.map (late path) ++ []) = sentB (l.map (late path))
    rw [h, List.append_nil, List.append_nil]
  | cons s b =>
    have hz := zip_cons h
    have hm : a.length = (a.map (late path)).length := by simp
    have e0 : (a ++ [s]).map (late path) ++ b = a.map (late path) ++ late path s :: b := by simp
    conv => whnf
    ((refine hif_T ?_; conv => whnf); try (refine hcut.go ?_; conv => whnf))
    (try (refine hcut.go ?_; conv => whnf))
    ((refine hobl_O ?_; conv => whnf); try (refine hcut.go ?_; conv => whnf))
    refine hrow_mid (a := a.map (late path)) (b := b) (s := s) rfl (by simp) ?_; conv => whnf
    refine hif_intro (fun c1 => ?_) (fun c1 => ?_)
    · conv => whnf
      ((refine hobl_O ?_; conv => whnf); try (refine hcut.go ?_; conv => whnf))
      refine hrow_mid (a := a.map (late path)) (b := b) (s := s) rfl (by simp) ?_; conv => whnf
      refine hif_intro (fun c2 => ?_) (fun c2 => ?_)
      · have e1 : late path s = { s with state := 3 } := if_pos ⟨by simpa using c1, by simpa using c2⟩
        conv => whnf
        ((refine hobl_O ?_; conv => whnf); try (refine hcut.go ?_; conv => whnf))
        refine hrow_mid (a := a.map (late path)) (b := b) (s := s) rfl (by simp) ?_; conv => whnf
        ((refine hwrap_F ?_; conv => whnf); try (refine hcut.go ?_; conv => whnf))
        exact ⟨⟨(a ++ [s], b), zip_next h⟩, (hle_Q [(900, some 900)] (by repeat' (first | exact trivial | exact rfl | (refine ⟨⟨rfl, ?_⟩, ?_⟩) | (refine ⟨rfl, ?_⟩) | ((rw [e0]; exact (row_set (by simp) (by rw [e1]; rfl)).symm)) | (simp; done) | (simp; rfl))) (by repeat' (first | exact trivial | exact rfl | exact .inl rfl | exact .inr rfl | (refine ⟨⟨rfl, .inl ⟨_, rfl, ?_⟩⟩, ?_⟩) | (refine ⟨⟨rfl, _, rfl, ?_⟩, ?_⟩) | (refine ⟨⟨rfl, .inr ⟨rfl, ?_⟩⟩, ?_⟩) | (refine ⟨rfl, ?_⟩) | ((rw [e0]; exact (row_set (by simp) (by rw [e1]; rfl)).symm)) | (simp; done) | (simp; rfl)))), by simp⟩
      · have e1 : late path s = s := if_neg (by rintro ⟨_, h2⟩; simp [h2] at c2)
        conv => whnf
        ((refine hwrap_F ?_; conv => whnf); try (refine hcut.go ?_; conv => whnf))
        exact ⟨⟨(a ++ [s], b), zip_next h⟩, (hle_Q [(900, some 900)] (by repeat' (first | exact trivial | exact rfl | (refine ⟨⟨rfl, ?_⟩, ?_⟩) | (refine ⟨rfl, ?_⟩) | ((rw [e0, e1]; rfl)) | (simp; done) | (simp; rfl))) (by repeat' (first | exact trivial | exact rfl | exact .inl rfl | exact .inr rfl | (refine ⟨⟨rfl, .inl ⟨_, rfl, ?_⟩⟩, ?_⟩) | (refine ⟨⟨rfl, _, rfl, ?_⟩, ?_⟩) | (refine ⟨⟨rfl, .inr ⟨rfl, ?_⟩⟩, ?_⟩) | (refine ⟨rfl, ?_⟩) | ((rw [e0, e1]; rfl)) | (simp; done) | (simp; rfl)))), by simp⟩
    · have e1 : late path s = s := if_neg (by rintro ⟨h2, _⟩; simp [h2] at c1)
      conv => whnf
      ((refine hwrap_F ?_; conv => whnf); try (refine hcut.go ?_; conv => whnf))
      exact ⟨⟨(a ++ [s], b), zip_next h⟩, (hle_Q [(900, some 900)] (by repeat' (first | exact trivial | exact rfl | (refine ⟨⟨rfl, ?_⟩, ?_⟩) | (refine ⟨rfl, ?_⟩) | ((rw [e0, e1]; rfl)) | (simp; done) | (simp; rfl))) (by repeat' (first | exact trivial | exact rfl | exact .inl rfl | exact .inr rfl | (refine ⟨⟨rfl, .inl ⟨_, rfl, ?_⟩⟩, ?_⟩) | (refine ⟨⟨rfl, _, rfl, ?_⟩, ?_⟩) | (refine ⟨⟨rfl, .inr ⟨rfl, ?_⟩⟩, ?_⟩) | (refine ⟨rfl, ?_⟩) | ((rw [e0, e1]; rfl)) | (simp; done) | (simp; rfl)))), by simp⟩
def skMatch (c : Chunk) (s : Skip) : Bool := s.stream == c.stream && s.ordered == c.ordered && (c.ordered || s.mid == c.mid)
def skip (c : Chunk) : List Skip → List Skip
  | [] => [⟨c.stream, c.mid, c.ordered⟩]
  | s :: r => if skMatch c s then ⟨s.stream, c.mid, s.ordered⟩ :: r else s :: skip c r
theorem skip_none {c : Chunk} : ∀ {a : List Skip}, (∀ s ∈ a, skMatch c s = false) → ∀ b, skip c (a ++ b) = a ++ skip c b
  | [], _, b => rfl
  | s :: r, h, b => by
    rw [List.cons_append, skip, if_neg (by rw [h s (by simp)]; decide), skip_none fun x hx => h x (by simp [hx])]; rfl
theorem spec_skip (l : List Skip) (c : Chunk) (hl : l.length < 2 ^ 38) : FunOK Try.prog 83 [skips l, c.hv] noHeap (.own 0) (lk .free [(0, skipB (skip c l))]) := by
  refine funOK_of mixed Try.func83 (by decide) [] (fun _ => .inl rfl) ?_
  conv => whnf
  ((refine hcall_own [(0, 9)]  ?_; (conv => whnf); refine ⟨_, _,  clone_skips l (by omega), ⟨⟨⟨rfl, rfl⟩, trivial⟩, rfl, rfl, rfl⟩, ?_⟩; conv => whnf); try (refine hcut.go ?_; conv => whnf))
  refine ⟨{ x : List Skip × List Skip // l = x.1 ++ x.2 ∧ ∀ s ∈ x.1, skMatch c s = false }, fun | ⟨(a, b), _⟩ => hs 58 [(3, .ptr 3 0), (5, .own 900), (10, .own 900), (11, i64 l.length), (12, i64 a.length)] [(3, .live (.cells 29 c.cells)), (900, skipB l)], fun x => x.1.2.length, ⟨([], l), rfl, by simp⟩, ?_, ?_⟩
  · exact (hle_Q [(3, some 3), (900, some 9)])
  rintro ⟨⟨a, b⟩, h, hno⟩
  dsimp only at h hno
  cases b with
  | nil =>
    have hz := zip_nil h
    conv => whnf
    ((refine hif_F ?_; conv => whnf); try (refine hcut.go ?_; conv => whnf))
    refine hobl_intro (c := ((l.map Skip.row).length + 1) * 24 ≤ 140737488355328) (by (first | omega | (simp only [List.length_map, List.length_append, List.length_take, List.length_drop, List.length_cons, List.length_nil] <;> omega) | (simp <;> omega))) ?_; conv => whnf
    refine hfin_of [(0, some 57)] rfl rfl trivial rfl rfl ⟨⟨rfl, .inl ⟨57, rfl, ?_⟩⟩, trivial⟩
    have e1 := skip_none hno []
    rw [← h] at e1
    exact (row_snoc (f := Skip.row) (a := l) (x := ⟨c.stream, c.mid, c.ordered⟩) (by rw [e1, h, List.append_nil]; rfl)).symm
  | cons s b =>
    have hz := zip_cons h
    have yes : skMatch c s = true → skip c l = a ++ ⟨s.stream, c.mid, s.ordered⟩ :: b := by
      intro hm
      rw [h, skip_none hno, skip, if_pos hm]
    have nxt : skMatch c s = false → ∀ x ∈ a ++ [s], skMatch c x = false := by
      intro hm x hx
      rcases List.mem_append.1 hx with hx | hx
      · exact hno x hx
      · rw [List.mem_singleton.1 hx]; exact hm
    conv => whnf
    ((refine hif_T ?_; conv => whnf); try (refine hcut.go ?_; conv => whnf))
    ((refine hobl_O ?_; conv => whnf); try (refine hcut.go ?_; conv => whnf))
    refine hrow_mid h rfl ?_; conv => whnf
    have hy : skMatch c s = true → HSlot.live (HBlk.row 100 3 (((l.map Skip.row).set a.length [pi s.stream, pi c.mid, pb s.ordered]))) = skipB (skip c l) := by
      intro hm
      rw [yes hm, h]
      exact (row_set (f := Skip.row) (a := a) (b := b) (x := s) (y := ⟨s.stream, c.mid, s.ordered⟩) rfl rfl).symm
    simp only [skMatch] at hy nxt
    refine hif_intro (fun c1 => ?_) (fun c1 => ?_)
    · conv => whnf
      refine hif_intro (fun c2 => ?_) (fun c2 => ?_)
      · conv => whnf
        refine hif_intro (fun c3 => ?_) (fun c3 => ?_)
        · conv => whnf
          ((refine hobl_O ?_; conv => whnf); try (refine hcut.go ?_; conv => whnf))
          refine hrow_mid h rfl ?_; conv => whnf
          refine hfin_of [(0, some 900)] rfl rfl trivial rfl rfl ⟨⟨rfl, .inl ⟨900, rfl, ?_⟩⟩, trivial⟩
          exact hy (by rw [c1, c2, c3]; rfl)
        · conv => whnf
          refine hif_intro (fun c4 => ?_) (fun c4 => ?_)
          · conv => whnf
            ((refine hobl_O ?_; conv => whnf); try (refine hcut.go ?_; conv => whnf))
            refine hrow_mid h rfl ?_; conv => whnf
            refine hfin_of [(0, some 900)] rfl rfl trivial rfl rfl ⟨⟨rfl, .inl ⟨900, rfl, ?_⟩⟩, trivial⟩
            exact hy (by rw [c1, c2, c3, c4]; rfl)
          · conv => whnf
            ((refine hwrap_F ?_; conv => whnf); try (refine hcut.go ?_; conv => whnf))
            exact ⟨⟨(a ++ [s], b), zip_next h, nxt (by simp only [c3, c4]; simp)⟩, (hle_Q [(3, some 3), (900, some 900)]), by simp⟩
      · conv => whnf
        ((refine hwrap_F ?_; conv => whnf); try (refine hcut.go ?_; conv => whnf))
        exact ⟨⟨(a ++ [s], b), zip_next h, nxt (by simp only [c2]; simp)⟩, (hle_Q [(3, some 3), (900, some 900)]), by simp⟩
    · conv => whnf
      ((refine hwrap_F ?_; conv => whnf); try (refine hcut.go ?_; conv => whnf))
      exact ⟨⟨(a ++ [s], b), zip_next h, nxt (by simp only [c1]; simp)⟩, (hle_Q [(3, some 3), (900, some 900)]), by simp⟩
theorem skip_len (c : Chunk) : ∀ l : List Skip, (skip c l).length ≤ l.length + 1
  | [] => by simp [skip]
  | s :: r => by
    have := skip_len c r
    simp only [skip]; split <;> simp <;> omega
def pointFrom (cum : Int) (sk : List Skip) : List Sent → Int × List Skip
  | [] => (cum, sk)
  | s :: r => if s.number ≠ W (cum + 1) ∨ (s.state ≠ 4 ∧ s.state ≠ 2) then (cum, sk) else
    if s.state = 4 then (if (skip s.chunk sk).length > 8 then (cum, sk) else pointFrom s.number (skip s.chunk sk) r) else pointFrom s.number sk r
def point (l : List Sent) (cum : Int) : Int × List Skip := pointFrom cum [] l
end Sco
end Go.HL
