/- The closed law Names: each constant has its value. -/
import Derived.Test.YtdedgpnkepljkaaKit
namespace Go.HL
open Go.Proofs
namespace Nam
set_option maxHeartbeats 2000000
set_option maxRecDepth 100000
def errs : List Int := [0, 1, 2, 3, 4, 5, 6, 7, 8]
def had : List Int := [1, 2, 3, 6, 8, 16, 1, 2, 3, 4, 5, 4, 2, 12, 60, 40, 120, 1, 2, 3, 4, 3, 24, 3, 1, 2, 3, 1, 2, 3, 4, 5, 65536, 60, 400, 40, 200]
theorem errs_at {k : Nat} (h : k < errs.length) : errs[k] = k := by
  have : ∀ k : Fin errs.length, errs[k.1]'k.2 = (k.1 : Int) := by decide
  exact this ⟨k, h⟩
theorem names : FunOK Try.prog 3 [] noHeap (hbool true) noHeap := by
  refine funOK_pure mixed Try.func3 (by decide) ?_
  obtain ⟨E, hE⟩ : ∃ E, E = errs := ⟨_, rfl⟩
  obtain ⟨L, hL⟩ : ∃ L, L = had := ⟨_, rfl⟩
  have el : E.length = 9 := by rw [hE]; rfl
  have hl : L.length = 37 := by rw [hL]; rfl
  conv => whnf
  refine ⟨{ k : Nat // k ≤ E.length }, fun | ⟨k, _⟩ => hs 36 [(8, .own 900), (9, i64 E.length), (10, i64 k)] [(900, .live (.row 22 1 (E.map fun n => [pi n])))], fun x => E.length - x.1, ⟨0, Nat.zero_le _⟩, ?_, ?_⟩
  · exact (hle_hs [(900, some 7)] rfl rfl rfl rfl (by repeat' (first | exact trivial | exact rfl | (refine ⟨⟨rfl, ?_⟩, ?_⟩) | (refine ⟨rfl, ?_⟩) | ((rw [hE]; rfl)) | (simp; done) | (simp; rfl))) (by repeat' (first | exact trivial | exact rfl | exact .inl rfl | exact .inr rfl | (refine ⟨⟨rfl, .inl ⟨_, rfl, ?_⟩⟩, ?_⟩) | (refine ⟨⟨rfl, _, rfl, ?_⟩, ?_⟩) | (refine ⟨⟨rfl, .inr ⟨rfl, ?_⟩⟩, ?_⟩) | ((rw [hE]; rfl)) | (simp; done) | (simp; rfl))))
  have ea : ∀ {k : Nat} (h : k < E.length), E[k] = k := by rw [hE]; exact errs_at
  rintro ⟨k, hk⟩
  conv => whnf
  refine hif_intro (fun c => ?_) (fun c => ?_)
  · have hlt : k < E.length := by simpa using c
    conv => whnf
    ((refine hobl_intro ?_ ?_; (· (first | omega | (simp only [List.length_map, List.length_append, List.length_take, List.length_drop, List.length_cons, List.length_nil] <;> omega) | (simp <;> omega))); conv => whnf); try (refine hcut.go ?_; conv => whnf))
    refine hrow_at k rfl hlt ?_
    rw [ea hlt]
    conv => whnf
    refine hif_false (by simp) ?_; conv => whnf
    (try (refine hcut.go ?_; conv => whnf))
    ((refine hwrap_fit (W_fit ?_ ?_) ?_; (· (first | omega | (simp only [List.length_map, List.length_append, List.length_take, List.length_drop, List.length_cons, List.length_nil] <;> omega) | (simp <;> omega))); (· (first | omega | (simp only [List.length_map, List.length_append, List.length_take, List.length_drop, List.length_cons, List.length_nil] <;> omega) | (simp <;> omega))); conv => whnf); try (refine hcut.go ?_; conv => whnf))
    exact ⟨⟨k + 1, hlt⟩, (hle_hs [(900, some 900)] rfl rfl rfl rfl (by repeat' (first | exact trivial | exact rfl | (refine ⟨⟨rfl, ?_⟩, ?_⟩) | (refine ⟨rfl, ?_⟩) | (simp; done) | (simp; rfl))) (by repeat' (first | exact trivial | exact rfl | exact .inl rfl | exact .inr rfl | (refine ⟨⟨rfl, .inl ⟨_, rfl, ?_⟩⟩, ?_⟩) | (refine ⟨⟨rfl, _, rfl, ?_⟩, ?_⟩) | (refine ⟨⟨rfl, .inr ⟨rfl, ?_⟩⟩, ?_⟩) | (simp; done) | (simp; rfl)))), by dsimp only; omega⟩
  · conv => whnf
    refine ⟨{ k : Nat // k ≤ L.length }, fun | ⟨k, _⟩ => hs 36 [(4, .own 901), (5, .own 902), (21, .own 902), (22, i64 L.length), (23, i64 k)] [(901, .live (.row 3 1 (L.map fun n => [pi n]))), (902, .live (.row 3 1 (L.map fun n => [pi n])))], fun x => L.length - x.1, ⟨0, Nat.zero_le _⟩, ?_, ?_⟩
    · exact (hle_hs [(901, some 19), (902, some 20)] rfl rfl rfl rfl (by repeat' (first | exact trivial | exact rfl | (refine ⟨⟨rfl, ?_⟩, ?_⟩) | (refine ⟨rfl, ?_⟩) | ((rw [hL]; rfl)) | (simp; done) | (simp; rfl))) (by repeat' (first | exact trivial | exact rfl | exact .inl rfl | exact .inr rfl | (refine ⟨⟨rfl, .inl ⟨_, rfl, ?_⟩⟩, ?_⟩) | (refine ⟨⟨rfl, _, rfl, ?_⟩, ?_⟩) | (refine ⟨⟨rfl, .inr ⟨rfl, ?_⟩⟩, ?_⟩) | ((rw [hL]; rfl)) | (simp; done) | (simp; rfl))))
    rintro ⟨k, hk⟩
    conv => whnf
    refine hif_intro (fun c => ?_) (fun c => ?_)
    · have hlt : k < L.length := by simpa using c
      conv => whnf
      ((refine hobl_intro ?_ ?_; (· (first | omega | (simp only [List.length_map, List.length_append, List.length_take, List.length_drop, List.length_cons, List.length_nil] <;> omega) | (simp <;> omega))); conv => whnf); try (refine hcut.go ?_; conv => whnf))
      refine hrow_at k rfl hlt ?_; conv => whnf
      ((refine hobl_intro ?_ ?_; (· (first | omega | (simp only [List.length_map, List.length_append, List.length_take, List.length_drop, List.length_cons, List.length_nil] <;> omega) | (simp <;> omega))); conv => whnf); try (refine hcut.go ?_; conv => whnf))
      refine hrow_at k rfl hlt ?_; conv => whnf
      ((refine hdraw_intro ?_ ?_; (· kernel_rfl); conv => whnf); try (refine hcut.go ?_; conv => whnf))
      refine hif_false (by simp) ?_; conv => whnf
      (try (refine hcut.go ?_; conv => whnf))
      ((refine hwrap_fit (W_fit ?_ ?_) ?_; (· (first | omega | (simp only [List.length_map, List.length_append, List.length_take, List.length_drop, List.length_cons, List.length_nil] <;> omega) | (simp <;> omega))); (· (first | omega | (simp only [List.length_map, List.length_append, List.length_take, List.length_drop, List.length_cons, List.length_nil] <;> omega) | (simp <;> omega))); conv => whnf); try (refine hcut.go ?_; conv => whnf))
      exact ⟨⟨k + 1, hlt⟩, (hle_hs [(901, some 901), (902, some 902)] rfl rfl rfl rfl (by repeat' (first | exact trivial | exact rfl | (refine ⟨⟨rfl, ?_⟩, ?_⟩) | (refine ⟨rfl, ?_⟩) | (simp; done) | (simp; rfl))) (by repeat' (first | exact trivial | exact rfl | exact .inl rfl | exact .inr rfl | (refine ⟨⟨rfl, .inl ⟨_, rfl, ?_⟩⟩, ?_⟩) | (refine ⟨⟨rfl, _, rfl, ?_⟩, ?_⟩) | (refine ⟨⟨rfl, .inr ⟨rfl, ?_⟩⟩, ?_⟩) | (simp; done) | (simp; rfl)))), by dsimp only; omega⟩
    · conv => whnf
end Nam
end Go.HL
