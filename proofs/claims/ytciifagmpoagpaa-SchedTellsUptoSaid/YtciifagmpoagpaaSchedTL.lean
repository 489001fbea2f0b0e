/- The law SchedTells. -/
import Derived.Test.YtciifagmpoagpaaSchedT
namespace Go.HL
open Go.Proofs
namespace Sch
set_option maxHeartbeats 4000000
set_option maxRecDepth 100000
set_option linter.unusedSimpArgs false
theorem spec_sameNew (n : Nat) (x z : Int) (rows : List (List PV)) (hx : x = n) (hz : z = W ((n : Int) - 1)) (hrows : rows = List.replicate n [pi 0]) (hb : n < 2 ^ 60) : FunOK Try.prog 7 [(new x).hv, .agg [i64 z, i64 (-1), .p (.sl 1 rows)]] noHeap (hbool true) noHeap := by
  subst hx hz hrows
  have h := spec_sameSched (new n) (by simp [new]; omega)
  have e : (new n).had.map (fun n => [pi n]) = List.replicate n [pi 0] := by simp [new]
  have e2 : (new n).hv = .agg [i64 (W ((n : Int) - 1)), i64 (-1), .p (.sl 1 (List.replicate n [pi 0]))] := by rw [← e]; rfl
  rw [e2] at h ⊢
  exact h
theorem schedtells (turns : Int) (s : Sched) (q : List Queued) (m : Queued) (bytes : Int) (over : Bool) (h9 : s.had.length < 2 ^ 36) (hb : q.length < 2 ^ 60) : FunOK Try.prog 3 [i64 turns, s.hv, qs q, m.hv, i64 bytes, hbool over] noHeap (hbool true) noHeap := by
  have hhad : (had s m bytes over).had.length = s.had.length := by unfold had; dsimp only; split <;> simp
  have hb2 : q.length < 2 ^ 62 := by omega
  refine funOK_pure mixed Try.func3 (by decide) ?_
  have pn := spec_new (s.had.length : Int) (by omega)
  have ph := spec_had s m bytes over (by omega)
  have pr := spec_rhad s m bytes over (by omega)
  have ps := spec_sameSched (had s m bytes over) (by omega)
  have pnx := spec_next turns s q (by omega) hb2
  have prn := spec_rnext turns s q h9 hb
  generalize had s m bytes over = hd at ph pr ps
  generalize next turns s q = nx at pnx prn
  have main : (0 < s.had.length → 0 ≤ s.last ∧ s.last < s.had.length) → True := fun _ => trivial
  conv => whnf
  by_cases c1 : (s.had.length : Int) > 0
  case' pos =>
    refine hif_true (by simpa using c1) ?_; conv => whnf
    by_cases c2 : s.last < 0
    · refine hif_true (by simpa using c2) ?_; conv => whnf
      repeat (refine hcut.go ?_; conv => whnf)
      try rfl
    refine hif_false (by simpa using c2) ?_; conv => whnf
    by_cases c3 : s.last ≥ s.had.length
    · refine hif_true (by simpa using c3) ?_; conv => whnf
      repeat (refine hcut.go ?_; conv => whnf)
      try rfl
    refine hif_false (by simpa using c3) ?_; conv => whnf
    have prn := prn fun _ => ⟨by omega, by omega⟩
  case' neg =>
    refine hif_false (by simpa using c1) ?_; conv => whnf
    have prn := prn fun h => absurd h (by omega)
  all_goals (
    repeat (refine hcut.go ?_; conv => whnf)
    refine hwrap_fit (z := ((s.had.map fun n => [pi n]).length : Int) - 1) (W_fit (by rw [List.length_map]; omega) (by rw [List.length_map]; omega)) ?_; conv => whnf
    refine hobl_intro (c := (0 ≤ ((s.had.map fun n => [pi n]).length : Int) ∧ ((s.had.map fun n => [pi n]).length : Int) = ((s.had.map fun n => [pi n]).length : Int) ∧ ((s.had.map fun n => [pi n]).length : Int) * (8 : Nat) ≤ 140737488355328)) (by rw [List.length_map]; omega) ?_; conv => whnf
    ((refine hdraw_intro ?_ ?_; (· kernel_rfl); conv => whnf); try (refine hcut.go ?_; conv => whnf))
    ((refine hcall_lend ?_; (conv => whnf); refine ⟨_, pnx, rfl, ?_⟩; conv => whnf); try (refine hcut.go ?_; conv => whnf))
    ((refine hcall_lend ?_; (conv => whnf); refine ⟨_, prn, rfl, ?_⟩; conv => whnf); try (refine hcut.go ?_; conv => whnf))
    refine hif_true (by simp) ?_; conv => whnf
    ((refine hcall_pure ?_; (conv => whnf); refine ⟨_, ph, rfl, ?_⟩; conv => whnf); try (refine hcut.go ?_; conv => whnf))
    ((refine hcall_pure ?_; (conv => whnf); refine ⟨_, pr, rfl, ?_⟩; conv => whnf); try (refine hcut.go ?_; conv => whnf))
    ((refine hcall_lend ?_; (conv => whnf); refine ⟨_, ps, rfl, ?_⟩; conv => whnf); try (refine hcut.go ?_; conv => whnf))
    ((refine hcall_own [(0, 64)]  ?_; (conv => whnf); refine ⟨_, _,  spec_own s (by omega), ⟨⟨⟨rfl, rfl⟩, trivial⟩, rfl, rfl, rfl⟩, ?_⟩; conv => whnf); try (refine hcut.go ?_; conv => whnf))
    ((refine hcall_lend ?_; (conv => whnf); refine ⟨_, spec_sameSched s (by omega), rfl, ?_⟩; conv => whnf); try (refine hcut.go ?_; conv => whnf))
    ((refine hcall_pure ?_; (conv => whnf); refine ⟨_, spec_new _ (by rw [List.length_map]; omega), rfl, ?_⟩; conv => whnf); try (refine hcut.go ?_; conv => whnf))
    ((refine hcall_lend ?_; (conv => whnf); refine ⟨_, spec_sameNew s.had.length _ _ _ (by rw [List.length_map]) (by rw [List.length_map, W_fit (by omega) (by omega)]) (by simp; exact .inr rfl) (by omega), rfl, ?_⟩; conv => whnf); try (refine hcut.go ?_; conv => whnf))
    ((refine hdraw_intro ?_ ?_; (· kernel_rfl); conv => whnf); try (refine hcut.go ?_; conv => whnf))
    try rfl)
end Sch
end Go.HL
