/- The sender: a part is on a path; a message's number in its stream. -/
import Derived.Test.YticmofoeecjnhaaSndC
namespace Go.HL
open Go.Proofs
namespace Snd
open Ser
set_option maxHeartbeats 4000000
set_option maxRecDepth 100000
set_option linter.unusedSimpArgs false
theorem hrow_q {α : Type} {f : α → List PV} {l : List α} {i : Nat} {x : α} {z : Int} {K : List PV → Prop} (hx : l[i]? = some x) (hz : z = i) (hk : K (f x)) : hrow (l.map f) z K :=
  ⟨_, by omega, by rw [hz, Int.toNat_natCast, List.getElem?_map, hx]; rfl, hk⟩
theorem set_row {α : Type} {t n : Nat} {f : α → List PV} {l : List α} {k : Nat} {y : α} {r : List PV} (hr : f y = r) : HSlot.live (.row t n ((l.map f).set k r)) = HSlot.live (.row t n ((l.set k y).map f)) := by
  rw [← hr, List.map_set]
theorem set_row4 {α : Type} {t n : Nat} {f : α → List PV} {l : List α} {k : Nat} {y : α} {r r1 r2 r3 : List PV} (hr : f y = r) : HSlot.live (.row t n (((((l.map f).set k r1).set k r2).set k r3).set k r)) = HSlot.live (.row t n ((l.set k y).map f)) := by
  rw [List.set_set, List.set_set, List.set_set]; exact set_row hr
theorem set_path {t : TypeId} {l : List Path} {k : Nat} {w : Path} {d : List UInt8} : HSlot.live (.row t 7 ((l.map Path.row).set k [pi w.window, pi w.slow, pi w.gathered, pi (W (w.flight + ((d.map bRow).length : Int))), pi w.errors, pi w.alarm, pi w.wait])) = HSlot.live (.row t 7 ((l.set k { w with flight := W (w.flight + d.length) }).map Path.row)) := by
  rw [List.length_map]; exact set_row rfl
def flyS (s : Sender) (i path : Nat) (x : Sent) (a : Path) : Sender := { s with out := s.out.set i (flyX x path), paths := s.paths.set path { a with flight := W (a.flight + x.chunk.data.length) } }
theorem fly_eq {s : Sender} {o : List (List Chunk)} {i path : Nat} {x : Sent} {a : Path} {l : List Chunk} (hx : s.out[i]? = some x) (ha : s.paths[path]? = some a) (hl : o[path]? = some l) :
    fly ⟨s, o⟩ i path = ⟨flyS s i path x a, o.set path (l ++ [x.chunk])⟩ := by
  simp only [fly, hx, setAt, ha, hl, flyS]
theorem spec_fly1_0 (s : Sender) (a : List Chunk) (i : Nat) (x : Sent) (w : Path) (hx : s.out[i]? = some x) (ha : s.paths[0]? = some w) (hb : a.length < 2 ^ 30) :
    FunOK Try.prog 89 [.ptr 1000000 0, .eptr 1000003 20 i 0, i64 0] (lk .free (pH1 s a)) (.tup []) (lk .free (snG1 (flyS s i 0 x w) (a ++ [x.chunk]) 1000001 1000002 1000003 1000004 1000005 1000006 1000007 0 [(1000008, .dead)])) := by
  refine funOK_of mixed Try.func89 (by decide) [1000000, 1000001, 1000002, 1000003, 1000004, 1000005, 1000006, 1000007, 1000008] lk_pins ?_
  have hi : i < s.out.length := (List.getElem?_eq_some_iff.1 hx).1
  have hp : 0 < s.paths.length := (List.getElem?_eq_some_iff.1 ha).1
  conv => whnf
  refine hrow_q hx rfl ?_; conv => whnf
  refine hrow_set rfl (by simp; omega) ?_; conv => whnf
  refine hrow_set rfl (by simp; omega) ?_; conv => whnf
  refine hrow_set rfl (by simp; omega) ?_; conv => whnf
  ((first | refine hwrap_W ?_ | refine hwrap_raw ?_); (conv => whnf); try (refine hcut.go ?_; conv => whnf))
  refine hrow_set rfl (by simp; omega) ?_; conv => whnf
  refine hobl_intro (by simp; omega) ?_; conv => whnf
  refine hrow_q ha rfl ?_; conv => whnf
  refine hrow_set rfl (by simp; omega) ?_; conv => whnf
  ((first | refine hwrap_W ?_ | refine hwrap_raw ?_); (conv => whnf); try (refine hcut.go ?_; conv => whnf))
  refine hobl_intro (by simp; omega) ?_; conv => whnf
  refine hrow_q ha rfl ?_; conv => whnf
  ((refine hdraw_intro ?_ ?_; (· kernel_rfl); conv => whnf); try (refine hcut.go ?_; conv => whnf))
  refine ⟨0, rfl, by decide, ?_⟩; conv => whnf
  refine hrow_set rfl (by simp; omega) ?_; conv => whnf
  refine hobl_intro (c := ((a.map Chunk.row).length + 1) * 128 ≤ 140737488355328) (by simp; omega) ?_; conv => whnf
  refine ⟨0, rfl, by decide, ?_⟩; conv => whnf
  ((refine hdraw_intro ?_ ?_; (· kernel_rfl); conv => whnf); try (refine hcut.go ?_; conv => whnf))
  (exact hfin_P [(1000000, some 1000000), (1000001, some 1000001), (1000002, some 1000002), (1000003, some 1000003), (1000004, some 1000004), (1000005, some 1000005), (1000006, some 1000006), (1000007, some 1000007), (1000008, some 1000008), (0, some 58)] (by first | rfl | ((exact set_row4 rfl)) | ((exact set_path)) | ((exact row_app (f := Chunk.row) rfl rfl)) ) (by repeat' (first | exact trivial | exact rfl | exact .inl rfl | exact .inr rfl | (refine ⟨⟨rfl, .inl ⟨_, rfl, ?_⟩⟩, ?_⟩) | (refine ⟨⟨rfl, _, rfl, ?_⟩, ?_⟩) | (refine ⟨⟨rfl, .inr ⟨rfl, ?_⟩⟩, ?_⟩) | (refine ⟨rfl, ?_⟩) | ((exact set_row4 rfl)) | ((exact set_path)) | ((exact row_app (f := Chunk.row) rfl rfl)) | (simp; done) | (simp; rfl))))
theorem spec_fly2_0 (s : Sender) (a b : List Chunk) (i : Nat) (x : Sent) (w : Path) (hx : s.out[i]? = some x) (ha : s.paths[0]? = some w) (hb : a.length < 2 ^ 30) :
    FunOK Try.prog 89 [.ptr 1000000 0, .eptr 1000003 20 i 0, i64 0] (lk .free (pH2 s a b)) (.tup []) (lk .free (snG2 (flyS s i 0 x w) (a ++ [x.chunk]) b 1000001 1000002 1000003 1000004 1000005 1000006 1000007 0 1000009 [(1000008, .dead)])) := by
  refine funOK_of mixed Try.func89 (by decide) [1000000, 1000001, 1000002, 1000003, 1000004, 1000005, 1000006, 1000007, 1000008, 1000009] lk_pins ?_
  have hi : i < s.out.length := (List.getElem?_eq_some_iff.1 hx).1
  have hp : 0 < s.paths.length := (List.getElem?_eq_some_iff.1 ha).1
  conv => whnf
  refine hrow_q hx rfl ?_; conv => whnf
  refine hrow_set rfl (by simp; omega) ?_; conv => whnf
  refine hrow_set rfl (by simp; omega) ?_; conv => whnf
  refine hrow_set rfl (by simp; omega) ?_; conv => whnf
  ((first | refine hwrap_W ?_ | refine hwrap_raw ?_); (conv => whnf); try (refine hcut.go ?_; conv => whnf))
  refine hrow_set rfl (by simp; omega) ?_; conv => whnf
  refine hobl_intro (by simp; omega) ?_; conv => whnf
  refine hrow_q ha rfl ?_; conv => whnf
  refine hrow_set rfl (by simp; omega) ?_; conv => whnf
  ((first | refine hwrap_W ?_ | refine hwrap_raw ?_); (conv => whnf); try (refine hcut.go ?_; conv => whnf))
  refine hobl_intro (by simp; omega) ?_; conv => whnf
  refine hrow_q ha rfl ?_; conv => whnf
  ((refine hdraw_intro ?_ ?_; (· kernel_rfl); conv => whnf); try (refine hcut.go ?_; conv => whnf))
  refine ⟨0, rfl, by decide, ?_⟩; conv => whnf
  refine hrow_set rfl (by simp; omega) ?_; conv => whnf
  refine hobl_intro (c := ((a.map Chunk.row).length + 1) * 128 ≤ 140737488355328) (by simp; omega) ?_; conv => whnf
  refine ⟨0, rfl, by decide, ?_⟩; conv => whnf
  ((refine hdraw_intro ?_ ?_; (· kernel_rfl); conv => whnf); try (refine hcut.go ?_; conv => whnf))
  (exact hfin_P [(1000000, some 1000000), (1000001, some 1000001), (1000002, some 1000002), (1000003, some 1000003), (1000004, some 1000004), (1000005, some 1000005), (1000006, some 1000006), (1000007, some 1000007), (1000008, some 1000008), (1000009, some 1000009), (0, some 58)] (by first | rfl | ((exact set_row4 rfl)) | ((exact set_path)) | ((exact row_app (f := Chunk.row) rfl rfl)) ) (by repeat' (first | exact trivial | exact rfl | exact .inl rfl | exact .inr rfl | (refine ⟨⟨rfl, .inl ⟨_, rfl, ?_⟩⟩, ?_⟩) | (refine ⟨⟨rfl, _, rfl, ?_⟩, ?_⟩) | (refine ⟨⟨rfl, .inr ⟨rfl, ?_⟩⟩, ?_⟩) | (refine ⟨rfl, ?_⟩) | ((exact set_row4 rfl)) | ((exact set_path)) | ((exact row_app (f := Chunk.row) rfl rfl)) | (simp; done) | (simp; rfl))))
theorem spec_fly2_1 (s : Sender) (a b : List Chunk) (i : Nat) (x : Sent) (w : Path) (hx : s.out[i]? = some x) (ha : s.paths[1]? = some w) (hb : b.length < 2 ^ 30) :
    FunOK Try.prog 89 [.ptr 1000000 0, .eptr 1000003 20 i 0, i64 1] (lk .free (pH2 s a b)) (.tup []) (lk .free (snG2 (flyS s i 1 x w) a (b ++ [x.chunk]) 1000001 1000002 1000003 1000004 1000005 1000006 1000007 1000008 0 [(1000009, .dead)])) := by
  refine funOK_of mixed Try.func89 (by decide) [1000000, 1000001, 1000002, 1000003, 1000004, 1000005, 1000006, 1000007, 1000008, 1000009] lk_pins ?_
  have hi : i < s.out.length := (List.getElem?_eq_some_iff.1 hx).1
  have hp : 1 < s.paths.length := (List.getElem?_eq_some_iff.1 ha).1
  conv => whnf
  refine hrow_q hx rfl ?_; conv => whnf
  refine hrow_set rfl (by simp; omega) ?_; conv => whnf
  refine hrow_set rfl (by simp; omega) ?_; conv => whnf
  refine hrow_set rfl (by simp; omega) ?_; conv => whnf
  ((first | refine hwrap_W ?_ | refine hwrap_raw ?_); (conv => whnf); try (refine hcut.go ?_; conv => whnf))
  refine hrow_set rfl (by simp; omega) ?_; conv => whnf
  refine hobl_intro (by simp; omega) ?_; conv => whnf
  refine hrow_q ha rfl ?_; conv => whnf
  refine hrow_set rfl (by simp; omega) ?_; conv => whnf
  ((first | refine hwrap_W ?_ | refine hwrap_raw ?_); (conv => whnf); try (refine hcut.go ?_; conv => whnf))
  refine hobl_intro (by simp; omega) ?_; conv => whnf
  refine hrow_q ha rfl ?_; conv => whnf
  ((refine hdraw_intro ?_ ?_; (· kernel_rfl); conv => whnf); try (refine hcut.go ?_; conv => whnf))
  refine ⟨1, rfl, by decide, ?_⟩; conv => whnf
  refine hrow_set rfl (by simp; omega) ?_; conv => whnf
  refine hobl_intro (c := ((b.map Chunk.row).length + 1) * 128 ≤ 140737488355328) (by simp; omega) ?_; conv => whnf
  refine ⟨1, rfl, by decide, ?_⟩; conv => whnf
  ((refine hdraw_intro ?_ ?_; (· kernel_rfl); conv => whnf); try (refine hcut.go ?_; conv => whnf))
  (exact hfin_P [(1000000, some 1000000), (1000001, some 1000001), (1000002, some 1000002), (1000003, some 1000003), (1000004, some 1000004), (1000005, some 1000005), (1000006, some 1000006), (1000007, some 1000007), (1000008, some 1000008), (1000009, some 1000009), (0, some 58)] (by first | rfl | ((exact set_row4 rfl)) | ((exact set_path)) | ((exact row_app (f := Chunk.row) rfl rfl)) ) (by repeat' (first | exact trivial | exact rfl | exact .inl rfl | exact .inr rfl | (refine ⟨⟨rfl, .inl ⟨_, rfl, ?_⟩⟩, ?_⟩) | (refine ⟨⟨rfl, _, rfl, ?_⟩, ?_⟩) | (refine ⟨⟨rfl, .inr ⟨rfl, ?_⟩⟩, ?_⟩) | (refine ⟨rfl, ?_⟩) | ((exact set_row4 rfl)) | ((exact set_path)) | ((exact row_app (f := Chunk.row) rfl rfl)) | (simp; done) | (simp; rfl))))
end Snd
end Go.HL
