/- The sender: bounds of what is handed on (plain). -/
import Derived.Test.YticmofoeecjnhaaSndK
namespace Go.HL
open Go.Proofs
namespace Snd
open Ser
set_option maxHeartbeats 4000000
set_option maxRecDepth 100000
set_option linter.unusedSimpArgs false
structure PO (g : Config) (j n k : Nat) (p : Pump) : Prop where
  pf : PF j p.s
  paths : p.s.paths.length = n
  outs : p.out.length = n
  config : p.s.config = g
  most : ∀ l ∈ p.out, l.length ≤ k ∧ ∀ c ∈ l, Okc c
theorem PO.mono {g : Config} {j n k k' : Nat} {p : Pump} (h : PO g j n k p) (hk : k ≤ k') : PO g j n k' p := ⟨h.pf, h.paths, h.outs, h.config, fun l hl => ⟨Nat.le_trans (h.most l hl).1 hk, (h.most l hl).2⟩⟩
theorem push_most {o : List (List Chunk)} {k c : Nat} {l : List Chunk} {x : Chunk} (h : ∀ l ∈ o, l.length ≤ k ∧ ∀ c ∈ l, Okc c) (hl : o[c]? = some l) (hx : Okc x) : ∀ m ∈ o.set c (l ++ [x]), m.length ≤ k + 1 ∧ ∀ c ∈ m, Okc c := fun m hm => by
  rcases List.mem_or_eq_of_mem_set hm with hm | rfl
  · obtain ⟨h1, h2⟩ := h m hm; exact ⟨by omega, h2⟩
  · obtain ⟨h1, h2⟩ := h l (List.mem_of_getElem? hl)
    refine ⟨by simp; omega, fun c hc => ?_⟩
    rcases List.mem_append.1 hc with hc | hc
    · exact h2 c hc
    · rw [List.mem_singleton] at hc; subst hc; exact hx
theorem again1_po {g : Config} {j n k c : Nat} {p : Pump} (h : PO g j n k p) (hc : c < n) (i : Nat) : PO g j n (k + 1) (again1 c p i) := by
  obtain ⟨s, o⟩ := p
  obtain ⟨w, hw⟩ : ∃ w, s.paths[c]? = some w := ⟨_, List.getElem?_eq_getElem (by have := h.paths; dsimp only at this; omega)⟩
  obtain ⟨l, hl⟩ : ∃ l, o[c]? = some l := ⟨_, List.getElem?_eq_getElem (by have := h.outs; dsimp only at this; omega)⟩
  cases hx : s.out[i]? with
  | none => simp only [again1, hx]; exact h.mono (by omega)
  | some x =>
    by_cases d : x.state = 3 ∧ w.flight < w.window
    · rw [again_yes hx hw hl d]
      exact ⟨fly_pf h.pf hx, by show (s.paths.set c _).length = _; rw [List.length_set]; exact h.paths, by show (o.set c _).length = _; rw [List.length_set]; exact h.outs, h.config, push_most h.most hl (h.pf.chunk x (List.mem_of_getElem? hx))⟩
    · rw [again_no hx hw d]; exact h.mono (by omega)
theorem agains_po {g : Config} {j n c : Nat} (hc : c < n) : ∀ (L : List Nat) {k : Nat} {p : Pump}, PO g j n k p → PO g j n (k + L.length) (L.foldl (again1 c) p)
  | [], _, _, h => h
  | i :: L, k, p, h => (agains_po hc L (again1_po h hc i)).mono (by simp; omega)
theorem again_po {g : Config} {j n k : Nat} {p : Pump} (h : PO g j n k p) : PO g j n (k + p.s.out.length) (again p) := by
  obtain ⟨-, hc2⟩ := choose_is h.pf.some
  have := agains_po (show choose p.s < n by rw [← h.paths]; exact hc2) (List.range p.s.out.length) h
  rw [List.length_range] at this
  exact this
theorem forward_po {g : Config} {j n k : Nat} {p : Pump} (h : PO g j n k p) : PO g j n (k + 1) (forward p) := by
  obtain ⟨s, o⟩ := p
  obtain ⟨-, hc2⟩ := choose_is h.pf.some
  dsimp only at hc2
  obtain ⟨l, hl⟩ : ∃ l, o[choose s]? = some l := ⟨_, List.getElem?_eq_getElem (by have := h.outs; have := h.paths; dsimp only at *; omega)⟩
  obtain ⟨w, hw⟩ : ∃ w, s.paths[choose s]? = some w := ⟨_, List.getElem?_eq_getElem hc2⟩
  unfold forward
  split
  · exact h.mono (by omega)
  · simp only [setAt, hl, hw]
    exact ⟨fwd_pf h.pf (k := choose s) (w := w), by show (s.paths.set _ _).length = _; rw [List.length_set]; exact h.paths, by show (o.set _ _).length = _; rw [List.length_set]; exact h.outs, h.config, push_most h.most hl (fwdC_ok s)⟩
theorem expire_po {j : Nat} {s : Sender} (h : PF j s) : PO s.config j s.paths.length 0 ⟨expire s, List.replicate s.paths.length []⟩ := by
  obtain ⟨h1, r⟩ := expire_pf h
  exact ⟨h1, by rw [show (Pump.mk (expire s) _).s = expire s from rfl, r.paths], by simp, r.config, fun l hl => by rw [List.eq_of_mem_replicate hl]; simp⟩
theorem next_po {g : Config} {j n k : Nat} {p : Pump} (h : PO g (j + 1) n k p) : (nx p.s p.out = (p, false) ∧ next p = none) ∨ ∃ q, nx p.s p.out = (q, true) ∧ next p = some q ∧ p.s.out.length < 60 ∧ q.s.out.length = p.s.out.length + 1 ∧ PO g j n (k + 1) q := by
  obtain ⟨s, o⟩ := p
  obtain ⟨-, hc2⟩ := choose_is h.pf.some
  have hp := h.paths
  have ho := h.outs
  dsimp only at hp ho hc2
  rcases nx_cases h.pf (show choose s < o.length by omega) with h1 | ⟨i, m, w, l, h1, h2, h3, h4, h5⟩
  · exact .inl h1
  · refine .inr ⟨_, h4, h5, h2, by simp [nxS, flyS, s2], next_pf h.pf h1 h2, by show (s.paths.set _ _).length = _; rw [List.length_set]; exact hp, by show (o.set _ _).length = _; rw [List.length_set]; exact ho, h.config, push_most h.most h3 ⟨by simp [x0], by simp [x0]⟩⟩
theorem nexts_none {p : Pump} (h : next p = none) (j : Nat) : nexts j p = p := by cases j <;> simp [nexts, h]
end Snd
end Go.HL
