/- The library's stable sort, of pieces by their parts' numbers. -/
import Derived.Test.YticmofoeecjnhaaSortP
namespace Go.HL
open Go.Proofs
namespace Srt
set_option maxHeartbeats 2000000
set_option maxRecDepth 100000
set_option linter.unusedSimpArgs false
theorem set_mid {α : Type} {A B : List α} {x y : α} {i : Nat} (h : i = A.length) : (A ++ x :: B).set i y = A ++ y :: B := by
  subst h
  induction A with
  | nil => rfl
  | cons a A ih => simp only [List.cons_append, List.length_cons, List.set_cons_succ, ih]
abbrev ck (p : Piece) : Int := p.chunk.part
abbrev H1 (l : List Piece) : List (Nat × HSlot) := [(1000000, .live (.row 80 12 (l.map Piece.row)))]
end Srt
end Go.HL
