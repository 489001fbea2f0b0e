/- Stable sorting of a list by a key, and merging: plain facts. -/
import Derived.Test.YticmofoeecjnhaaKit
namespace Go.HL
namespace Srt
section
variable {α : Type} (key : α → Int)
def ins (x : α) : List α → List α
  | [] => [x]
  | y :: r => if key x ≤ key y then x :: y :: r else y :: ins x r
def srt : List α → List α
  | [] => []
  | x :: r => ins key x (srt r)
def mrg : List α → List α → List α
  | [], v => v
  | x :: u, [] => x :: u
  | x :: u, y :: v => if key x ≤ key y then x :: mrg u (y :: v) else y :: mrg (x :: u) v
termination_by u v => u.length + v.length
def Sd : List α → Prop
  | [] => True
  | x :: r => (∀ y ∈ r, key x ≤ key y) ∧ Sd r
variable {key}
theorem ins_mem {x z : α} : ∀ {l : List α}, z ∈ ins key x l ↔ z = x ∨ z ∈ l
  | [] => by simp [ins]
  | y :: r => by
    rw [ins]; split
    · simp
    · simp only [List.mem_cons, ins_mem (l := r)]
      constructor
      · rintro (h | h | h)
        · exact .inr (.inl h)
        · exact .inl h
        · exact .inr (.inr h)
      · rintro (h | h | h)
        · exact .inr (.inl h)
        · exact .inl h
        · exact .inr (.inr h)
theorem ins_perm {x : α} : ∀ {l : List α}, (ins key x l).Perm (x :: l)
  | [] => List.Perm.refl _
  | y :: r => by
    rw [ins]; split
    · exact List.Perm.refl _
    · exact ((ins_perm (l := r)).cons y).trans (List.Perm.swap x y r)
theorem srt_perm : ∀ {l : List α}, (srt key l).Perm l
  | [] => List.Perm.refl _
  | x :: r => ins_perm.trans ((srt_perm (l := r)).cons x)
theorem srt_length (l : List α) : (srt key l).length = l.length := srt_perm.length_eq
theorem ins_sd {x : α} : ∀ {l : List α}, Sd key l → Sd key (ins key x l)
  | [], _ => by simp [ins, Sd]
  | y :: r, h => by
    rw [ins]; split
    · rename_i c
      refine ⟨fun z hz => ?_, h⟩
      rcases List.mem_cons.1 hz with rfl | hz
      · exact c
      · exact Int.le_trans c (h.1 z hz)
    · rename_i c
      refine ⟨fun z hz => ?_, ins_sd h.2⟩
      rcases ins_mem.1 hz with rfl | hz
      · omega
      · exact h.1 z hz
theorem srt_sd : ∀ {l : List α}, Sd key (srt key l)
  | [] => trivial
  | x :: r => ins_sd (srt_sd (l := r))
theorem mrg_nil : ∀ (u : List α), mrg key u [] = u
  | [] => by rw [mrg]
  | x :: u => by rw [mrg]
theorem mrg_one (x : α) : ∀ (v : List α), mrg key [x] v = ins key x v
  | [] => by rw [mrg, ins]
  | y :: v => by
    rw [mrg, ins]; split
    · rw [mrg]
    · rw [mrg_one x v]
theorem ins_first {x : α} {l : List α} (h : ∀ y ∈ l, key x ≤ key y) : ins key x l = x :: l := by
  cases l with
  | nil => rfl
  | cons y r => rw [ins, if_pos (h y (by simp))]
theorem mrg_mem {z : α} (u v : List α) : z ∈ mrg key u v ↔ z ∈ u ∨ z ∈ v := by
  fun_induction mrg key u v with
  | case1 v => simp
  | case2 x u => simp
  | case3 x u y v h ih =>
    have e : z ∈ x :: mrg key u (y :: v) ↔ z = x ∨ z ∈ u ∨ z = y ∨ z ∈ v := by rw [List.mem_cons, ih, List.mem_cons]
    rw [e, List.mem_cons, List.mem_cons, or_assoc]
  | case4 x u y v h ih =>
    have e : z ∈ y :: mrg key (x :: u) v ↔ z = y ∨ (z = x ∨ z ∈ u) ∨ z ∈ v := by rw [List.mem_cons, ih, List.mem_cons]
    rw [e, List.mem_cons, List.mem_cons, or_left_comm]
theorem mrg_ins (x : α) (u v : List α) (hu : Sd key u) (hv : Sd key v) : mrg key (ins key x u) v = ins key x (mrg key u v) := by
  fun_induction mrg key u v with
  | case1 v => rw [ins, mrg_one]
  | case2 y u => rw [mrg_nil]
  | case3 y u z v h ih =>
    by_cases c : key x ≤ key y
    · rw [ins, if_pos c, mrg, if_pos (by omega), mrg, if_pos h, ins, if_pos c]
    · rw [ins, if_neg c, mrg, if_pos h, ih hu.2 hv, ins, if_neg c]
  | case4 y u z v h ih =>
    by_cases c : key x ≤ key z
    · have c2 : key x ≤ key y := by omega
      rw [ins, if_pos c2, mrg, if_pos c, mrg, if_neg h, ins, if_pos c]
    · have hi := ih hu hv.2
      rw [show ins key x (z :: mrg key (y :: u) v) = z :: ins key x (mrg key (y :: u) v) by rw [ins, if_neg c], ← hi]
      by_cases c2 : key x ≤ key y
      · rw [show ins key x (y :: u) = x :: y :: u by rw [ins, if_pos c2], mrg, if_neg c]
      · rw [show ins key x (y :: u) = y :: ins key x u by rw [ins, if_neg c2], mrg, if_neg h]
theorem mrg_sd (u v : List α) (hu : Sd key u) (hv : Sd key v) : Sd key (mrg key u v) := by
  fun_induction mrg key u v with
  | case1 v => exact hv
  | case2 y u => exact hu
  | case3 y u z v h ih =>
    refine ⟨fun a ha => ?_, ih hu.2 hv⟩
    rcases (mrg_mem u (z :: v)).1 ha with ha | ha
    · exact hu.1 a ha
    · rcases List.mem_cons.1 ha with rfl | ha
      · exact h
      · have := hv.1 a ha; omega
  | case4 y u z v h ih =>
    refine ⟨fun a ha => ?_, ih hu hv.2⟩
    rcases (mrg_mem (y :: u) v).1 ha with ha | ha
    · rcases List.mem_cons.1 ha with rfl | ha
      · omega
      · have := hu.1 a ha; omega
    · exact hv.1 a ha
theorem mrg_srt (v : List α) : ∀ (u : List α), mrg key (srt key u) (srt key v) = srt key (u ++ v)
  | [] => by rw [srt, mrg]; rfl
  | x :: u => by rw [srt, mrg_ins x _ _ srt_sd srt_sd, mrg_srt v u]; rfl
/-- two lists that part at a point that fits: they are merged part by part -/
theorem mrg_split {u2 v2 : List α} (u1 v1 : List α) (h1 : ∀ a ∈ u1, ∀ b ∈ v2, key a ≤ key b) (h2 : ∀ b ∈ v1, ∀ a ∈ u2, key b < key a) :
    mrg key (u1 ++ u2) (v1 ++ v2) = mrg key u1 v1 ++ mrg key u2 v2 := by
  fun_induction mrg key u1 v1 with
  | case1 v =>
    clear h1
    induction v with
    | nil => rfl
    | cons y v ih =>
      have ih := ih (fun b hb => h2 b (by simp [hb]))
      cases u2 with
      | nil => simp [mrg]
      | cons a u =>
        have := h2 y (by simp) a (by simp)
        rw [List.nil_append, List.cons_append, mrg, if_neg (by omega)]
        rw [List.nil_append] at ih
        rw [ih]; rfl
  | case2 x u =>
    have hh : ∀ u : List α, (∀ a ∈ u, ∀ b ∈ v2, key a ≤ key b) → mrg key (u ++ u2) v2 = u ++ mrg key u2 v2 := by
      intro u h
      induction u with
      | nil => rfl
      | cons x u ih =>
        cases v2 with
        | nil => rw [mrg_nil, mrg_nil]
        | cons b v =>
          rw [List.cons_append, mrg, if_pos (h x (by simp) b (by simp)), ih (fun a ha => h a (by simp [ha]))]; rfl
    exact hh (x :: u) h1
  | case3 x u y v h ih =>
    rw [List.cons_append, List.cons_append, mrg, if_pos h, List.cons_append]
    rw [← List.cons_append, ih (fun a ha => h1 a (by simp [ha])) h2]
  | case4 x u y v h ih =>
    rw [List.cons_append, List.cons_append, mrg, if_neg h, List.cons_append]
    rw [← List.cons_append, ih h1 (fun b hb => h2 b (by simp [hb]))]
theorem mrg_right {a b : List α} {y : α} (h1 : ∀ x ∈ a, key x ≤ key y) (h2 : ∀ x ∈ b, key y < key x) : mrg key (a ++ b) [y] = a ++ y :: b := by
  have e1 := mrg_split (key := key) (u2 := b) (v2 := []) a [y] (by simp) (by simpa using h2)
  have e2 := mrg_split (key := key) (u2 := []) (v2 := [y]) a [] (by simpa using h1) (by simp)
  rw [List.append_nil, List.nil_append, mrg_nil, mrg] at e2
  rw [List.append_nil, mrg_nil, e2] at e1
  simpa using e1
theorem mrg_left {a b : List α} {y : α} (h1 : ∀ x ∈ a, key x < key y) (h2 : ∀ x ∈ b, key y ≤ key x) : mrg key [y] (a ++ b) = a ++ y :: b := by
  have e1 := mrg_split (key := key) (u2 := [y]) (v2 := b) [] a (by simp) (by simpa using h1)
  have e2 := mrg_split (key := key) (u2 := []) (v2 := b) [y] [] (by simpa using h2) (by simp)
  rw [List.nil_append, mrg] at e1
  rw [List.append_nil, List.nil_append, mrg_nil, mrg] at e2
  rw [e1, e2]; rfl
theorem sd_app : ∀ {a b : List α}, Sd key (a ++ b) ↔ Sd key a ∧ Sd key b ∧ ∀ x ∈ a, ∀ y ∈ b, key x ≤ key y
  | [], b => by simp [Sd]
  | s :: a, b => by
    simp only [List.cons_append, Sd, sd_app (a := a) (b := b), List.mem_append, List.mem_cons]
    constructor
    · rintro ⟨h1, h2, h3, h4⟩
      exact ⟨⟨fun y hy => h1 y (.inl hy), h2⟩, h3, fun x hx y hy => by rcases hx with rfl | hx; exact h1 y (.inr hy); exact h4 x hx y hy⟩
    · rintro ⟨⟨h1, h2⟩, h3, h4⟩
      exact ⟨fun y hy => by rcases hy with hy | hy; exact h1 y hy; exact h4 s (.inl rfl) y hy, h2, h3, fun x hx => h4 x (.inr hx)⟩
theorem sd_get {l : List α} (h : Sd key l) {i j : Nat} (hj : j < l.length) (hij : i ≤ j) : key (l[i]'(by omega)) ≤ key l[j] := by
  induction l generalizing i j with
  | nil => simp at hj
  | cons _ r ih =>
    cases j with
    | zero => obtain rfl : i = 0 := by omega
              exact Int.le_refl _
    | succ j =>
      cases i with
      | zero => simpa using h.1 _ (List.getElem_mem (by simpa using hj))
      | succ i => simpa using ih h.2 (by simpa using hj) (by omega)
theorem srt_of_sd : ∀ {l : List α}, Sd key l → srt key l = l
  | [], _ => rfl
  | x :: r, h => by rw [srt, srt_of_sd h.2, ins_first h.1]
theorem srt_snoc (u : List α) (x : α) : srt key (u ++ [x]) = mrg key (srt key u) [x] := by rw [← mrg_srt]; rfl
end
end Srt
end Go.HL
