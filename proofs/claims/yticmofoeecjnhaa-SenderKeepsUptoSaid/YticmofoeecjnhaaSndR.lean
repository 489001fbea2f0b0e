/- The sender: a new one. -/
import Derived.Test.YticmofoeecjnhaaSndQ
namespace Go.HL
open Go.Proofs
namespace Snd
open Ser
set_option maxHeartbeats 8000000
set_option maxRecDepth 100000
set_option linter.unusedSimpArgs false
def newP (c : Config) : Sender × Int := if wrgS c = 0 then (newS c, 0) else (noS, wrgS c)
theorem spec_newO (n : Int) (hb : n < 2 ^ 40) : FunOK Try.prog 54 [i64 n] noHeap (.agg [i64 (Sch.new n).last, i64 (Sch.new n).hand, .own 0]) (lk .free [(0, rowT (Sch.new n).had)]) := by
  refine funOK_of mixed Try.func54 (by decide) [] (fun _ => .inl rfl) ?_
  conv => whnf
  refine hwrap_raw ?_; conv => whnf
  refine hobl_intro (c := 0 ≤ (if 0 > n then 0 else n) ∧ (if 0 > n then 0 else n) = (if 0 > n then 0 else n) ∧ (if 0 > n then 0 else n) * 8 ≤ 140737488355328) (by omega) ?_
  conv => whnf
  refine hfin_of [(0, some 7)] rfl rfl trivial rfl rfl ⟨⟨rfl, .inl ⟨7, rfl, ?_⟩⟩, trivial⟩
  have e : (if 0 > n then 0 else n) = max n 0 := by omega
  refine row_eqs ?_
  rw [show (Sch.new n).had = List.replicate (max n 0).toNat 0 from rfl, List.map_replicate, ← e]; rfl
theorem spec_newo (c : Config) : FunOK Try.prog 27 [c.hv] noHeap (.tup [sndO (newP c).1 0 1 2 3 4 5, i64 (newP c).2]) (lk .free (sndB (newP c).1 0 1 2 3 4 5 [])) := by
  refine funOK_of mixed Try.func27 (by decide) [] (fun _ => .inl rfl) ?_
  conv => whnf
  ((refine hcall_pure ?_; (conv => whnf); refine ⟨_, spec_wrgS c, rfl, ?_⟩; conv => whnf); try (refine hcut.go ?_; conv => whnf))
  by_cases c0 : wrgS c = 0
  case neg =>
    rw [newP, if_neg c0]
    refine hif_true ?_ ?_
    · simpa using c0
    conv => whnf
    refine hfin_of [(0, none), (1, none), (2, none), (3, none), (4, none), (5, none)] rfl rfl trivial rfl rfl ⟨⟨rfl, .inr ⟨rfl, rfl⟩⟩, ⟨rfl, .inr ⟨rfl, rfl⟩⟩, ⟨rfl, .inr ⟨rfl, rfl⟩⟩, ⟨rfl, .inr ⟨rfl, rfl⟩⟩, ⟨rfl, .inr ⟨rfl, rfl⟩⟩, ⟨rfl, .inr ⟨rfl, rfl⟩⟩, trivial⟩
  case pos =>
    rw [newP, if_pos c0]
    refine hif_false ?_ ?_
    · simpa using c0
    conv => whnf
    repeat (refine hcut.go ?_; conv => whnf)
    have hb : 1 ≤ c.streams ∧ c.streams ≤ 4 ∧ 1 ≤ c.paths ∧ c.paths ≤ 2 ∧ 0 ≤ c.first ∧ c.first < 65536 := by
      unfold wrgS at c0
      split at c0
      · cases c0
      · omega
    obtain ⟨b1, b2, b3, b4, b5, b6⟩ := hb
    ((refine hcall_own [(0, 15)]  ?_; (conv => whnf); refine ⟨_, _,  spec_newO c.streams (by omega), ⟨⟨⟨rfl, rfl⟩, trivial⟩, rfl, rfl, rfl⟩, ?_⟩; conv => whnf); try (refine hcut.go ?_; conv => whnf))
    refine hwrap_fit (z := c.first - 1) (W_fit (by omega) (by omega)) ?_; conv => whnf
    refine hwrap_fit (z := 2 * c.streams) (W_fit (by omega) (by omega)) ?_; conv => whnf
    refine hobl_intro (c := 0 ≤ 2 * c.streams ∧ 2 * c.streams = 2 * c.streams ∧ 2 * c.streams * (8 : Nat) ≤ 140737488355328) ⟨by omega, rfl, by omega⟩ ?_; conv => whnf
    refine hwrap_fit (z := c.first - 1) (W_fit (by omega) (by omega)) ?_; conv => whnf
    ((refine hdraw_intro ?_ ?_; (· kernel_rfl); conv => whnf); try (refine hcut.go ?_; conv => whnf))
    have hnn : (2 * c.streams).toNat = (2 * c.streams).toNat := rfl
    refine ⟨{ i : Nat // (i : Int) ≤ c.paths }, fun | ⟨i, _⟩ => hs 43 [(1, .ptr 1 0), (2, .ptr 2 0), (3, i64 0), (5, .ptr 5 0), (30, i64 c.paths), (31, i64 i)] [(1, .live (.cells 23 [i64 c.streams, i64 c.part, i64 c.packet, i64 c.paths, i64 (c).turns, i64 c.waiting, i64 c.first])), (2, .live (.cells 62 zeroS)), (5, .live (.cells 62 (sndC (newS c) hnil (.own 901) hnil (.own 900) (.own 902) hnil))), (900, rowW (List.replicate i (Paths.new c.part))), (901, rowT (Sch.new c.streams).had), (902, rowT (List.replicate (2 * c.streams).toNat 0))], fun i => c.paths.toNat - i.1, ⟨0, by omega⟩, ?_, ?_⟩
    · exact (hle_Q [(1, some 1), (2, some 2), (5, some 5), (900, none), (901, some 15), (902, some 24)] (by repeat' (first | exact trivial | exact rfl | (refine ⟨⟨rfl, ?_⟩, ?_⟩) | (refine ⟨rfl, ?_⟩) | ((exact row_eqs (by rw [List.map_replicate]; rfl))) | (simp; done) | (simp; rfl))) (by repeat' (first | exact trivial | exact rfl | exact .inl rfl | exact .inr rfl | (refine ⟨⟨rfl, .inl ⟨_, rfl, ?_⟩⟩, ?_⟩) | (refine ⟨⟨rfl, _, rfl, ?_⟩, ?_⟩) | (refine ⟨⟨rfl, .inr ⟨rfl, ?_⟩⟩, ?_⟩) | (refine ⟨rfl, ?_⟩) | ((exact row_eqs (by rw [List.map_replicate]; rfl))) | (simp; done) | (simp; rfl))))
    rintro ⟨i, k1⟩
    conv => whnf
    by_cases hi : (i : Int) < c.paths
    case pos =>
      ((refine hif_T ?_; conv => whnf); try (refine hcut.go ?_; conv => whnf))
      ((refine hcall_lend ?_; (conv => whnf); refine ⟨_, Paths.spec_new c.part, rfl, ?_⟩; conv => whnf); try (refine hcut.go ?_; conv => whnf))
      refine hobl_intro (c := (((List.replicate i (Paths.new c.part)).map Path.row).length + 1) * 56 ≤ 140737488355328) (by simp; omega) ?_; conv => whnf
      ((refine hdraw_intro ?_ ?_; (· kernel_rfl); conv => whnf); try (refine hcut.go ?_; conv => whnf))
      ((refine hwrap_F ?_; conv => whnf); try (refine hcut.go ?_; conv => whnf))
      exact ⟨⟨i + 1, by omega⟩, (hle_Q [(1, some 1), (2, some 2), (5, some 5), (900, some 39), (901, some 901), (902, some 902)] (by repeat' (first | exact trivial | exact rfl | (refine ⟨⟨rfl, ?_⟩, ?_⟩) | (refine ⟨rfl, ?_⟩) | ((exact row_app (f := Path.row) List.replicate_succ' rfl)) | (simp; done) | (simp; rfl))) (by repeat' (first | exact trivial | exact rfl | exact .inl rfl | exact .inr rfl | (refine ⟨⟨rfl, .inl ⟨_, rfl, ?_⟩⟩, ?_⟩) | (refine ⟨⟨rfl, _, rfl, ?_⟩, ?_⟩) | (refine ⟨⟨rfl, .inr ⟨rfl, ?_⟩⟩, ?_⟩) | (refine ⟨rfl, ?_⟩) | ((exact row_app (f := Path.row) List.replicate_succ' rfl)) | (simp; done) | (simp; rfl)))), by dsimp only; omega⟩
    case neg =>
      ((refine hif_F ?_; conv => whnf); try (refine hcut.go ?_; conv => whnf))
      have hin : c.paths.toNat = i := by omega
      refine hfin_of [(0, none), (1, some 901), (2, none), (3, some 900), (4, some 902), (5, none)] rfl rfl trivial rfl rfl ⟨⟨rfl, .inr ⟨rfl, rfl⟩⟩, ⟨rfl, .inl ⟨901, rfl, rfl⟩⟩, ⟨rfl, .inr ⟨rfl, rfl⟩⟩, ⟨rfl, .inl ⟨900, rfl, ?_⟩⟩, ⟨rfl, .inl ⟨902, rfl, rfl⟩⟩, ⟨rfl, .inr ⟨rfl, rfl⟩⟩, trivial⟩
      exact row_eqs (by rw [newS, hin])
theorem spec_new (c : Config) : FunOK Try.prog 27 [c.hv] noHeap (.tup [(newP c).1.hv, i64 (newP c).2]) noHeap := by
  refine funOK_freeze Try.func27 (spec_newo c) ?_
  generalize newP c = d
  conv => whnf
  rfl
end Snd
end Go.HL
