/- What a sack comes to: the program's Sack. -/
import Derived.Test.YticmofoeecjnhaaScore
namespace Go.HL
open Go.Proofs
namespace Sco
open Ser
set_option maxHeartbeats 2000000
set_option maxRecDepth 100000
set_option linter.unusedSimpArgs false
def here (c : Chunk) (n : Int) (s : Sent) : Bool := decide (s.number ≤ n) || has c.spans (W (s.number - n))
def comes (c : Chunk) (n : Int) (s : Sent) : Bool := here c n s && (s.state == 1 || s.state == 3)
def turn (c : Chunk) (n : Int) (s : Sent) : Sent := if comes c n s then { s with state := 2 } else s
def left (c : Chunk) (n : Int) (l : List Sent) : List Sent := (l.filter fun s => decide (s.number > n)).map (turn c n)
def addAt (come : List Int) (p x : Int) : List Int := come.set p.toNat (W (come[p.toNat]?.getD 0 + x))
def come1 (c : Chunk) (n : Int) (come : List Int) (s : Sent) : List Int := if comes c n s then addAt come s.path s.chunk.data.length else come
def comeOf (c : Chunk) (n : Int) (paths : Nat) (l : List Sent) : List Int := l.foldl (come1 c n) (List.replicate paths 0)
def high1 (c : Chunk) (n : Int) (h : Int) (s : Sent) : Int := if comes c n s then s.number else h
def highOf (c : Chunk) (n : Int) (l : List Sent) : Int := l.foldl (high1 c n) 0
def age (h : Int) (s : Sent) : Sent := if s.state = 1 ∧ s.number < h then (if W (s.missed + 1) ≥ 3 then { s with missed := W (s.missed + 1), state := 3 } else { s with missed := W (s.missed + 1) }) else s
def lost (h : Int) (l : List Sent) : List Int := (l.filter fun s => decide (s.state = 1 ∧ s.number < h ∧ W (s.missed + 1) ≥ 3)).map Sent.number
def sack (l : List Sent) (cum : Int) (c : Chunk) (paths : Int) : List Sent × Int × List Int × List Int :=
  if near cum c.tag < cum ∨ near cum c.tag > cum + l.length then (l, cum, List.replicate paths.toNat 0, []) else
    ((left c (near cum c.tag) l).map (age (highOf c (near cum c.tag) l)), near cum c.tag, comeOf c (near cum c.tag) paths.toNat l, lost (highOf c (near cum c.tag) l) (left c (near cum c.tag) l))
structure Right (l : List Sent) (cum paths : Int) : Prop where
  path : ∀ s ∈ l, 0 ≤ s.path ∧ s.path < paths
  p0 : 1 ≤ paths
  p1 : paths ≤ 2
  c0 : -1 ≤ cum
  c1 : cum < 2 ^ 39
  rise : ∀ (i : Nat) s, l[i]? = some s → s.number = cum + 1 + i
theorem Right.at {l : List Sent} {cum paths : Int} (h : Right l cum paths) {a b : List Sent} {s : Sent} (e : l = a ++ s :: b) : s.number = cum + 1 + a.length ∧ 0 ≤ s.path ∧ s.path < paths :=
  ⟨h.rise a.length s (by rw [e]; simp), h.path s (zip_mem e)⟩
theorem addAt_len (come : List Int) (p x : Int) : (addAt come p x).length = come.length := by simp [addAt]
theorem comeOf_len (c : Chunk) (n : Int) (paths : Nat) (l : List Sent) : (comeOf c n paths l).length = paths := by
  have gen : ∀ (l : List Sent) (z : List Int), (l.foldl (come1 c n) z).length = z.length := by
    intro l
    induction l with
    | nil => intro z; rfl
    | cons s r ih => intro z; rw [List.foldl_cons, ih, come1]; split; exact addAt_len _ _ _; rfl
  rw [comeOf, gen]; simp
structure SI (l : List Sent) (c : Chunk) (n : Int) (paths : Nat) (cum : Int) (x : List Sent × List Sent × List Sent × List Int × Int) : Prop where
  split : l = x.1 ++ x.2.1
  out : x.2.2.1 = left c n x.1
  come : x.2.2.2.1 = comeOf c n paths x.1
  high : x.2.2.2.2 = highOf c n x.1
  h0 : 0 ≤ x.2.2.2.2
  h1 : x.2.2.2.2 ≤ cum + 1 + x.1.length
theorem left_snoc (c : Chunk) (n : Int) (a : List Sent) (s : Sent) : left c n (a ++ [s]) = left c n a ++ if s.number > n then [turn c n s] else [] := by
  simp only [left, List.filter_append, List.map_append]
  congr 1
  by_cases h : s.number > n <;> simp [h]
theorem comeOf_snoc (c : Chunk) (n : Int) (p : Nat) (a : List Sent) (s : Sent) : comeOf c n p (a ++ [s]) = come1 c n (comeOf c n p a) s := by simp [comeOf]
theorem highOf_snoc (c : Chunk) (n : Int) (a : List Sent) (s : Sent) : highOf c n (a ++ [s]) = high1 c n (highOf c n a) s := by simp [highOf]
section
variable {l a b out : List Sent} {c : Chunk} {n cum high : Int} {paths : Nat} {come : List Int} {s : Sent}
theorem SI.next (h : SI l c n paths cum (a, s :: b, out, come, high)) (hs : s.number = cum + 1 + a.length) (hc : -1 ≤ cum) :
    SI l c n paths cum (a ++ [s], b, out ++ (if s.number > n then [turn c n s] else []), come1 c n come s, high1 c n high s) := by
  obtain ⟨h1, h2, h3, h4, h5, h6⟩ := h
  dsimp only at h1 h2 h3 h4 h5 h6
  refine ⟨zip_next h1, ?_, ?_, ?_, ?_, ?_⟩ <;> dsimp only
  · rw [left_snoc, h2]
  · rw [comeOf_snoc, h3]
  · rw [highOf_snoc, h4]
  · rw [high1]; split <;> omega
  · rw [high1]; simp only [List.length_append, List.length_cons, List.length_nil]; split <;> push_cast <;> omega
end
end Sco
end Go.HL
