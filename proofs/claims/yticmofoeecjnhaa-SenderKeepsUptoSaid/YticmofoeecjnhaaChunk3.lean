/- Parse, of the program and of the document. -/
import Derived.Test.YticmofoeecjnhaaChunk2
namespace Go.HL
open Go.Proofs
namespace Chk
set_option maxHeartbeats 1000000
set_option maxRecDepth 100000
set_option linter.unusedSimpArgs false
theorem hsub_eq {rows : List (List PV)} {o n o' n' : Nat} {K : List (List PV) → Prop} (ho : o = o') (hn : n = n') (h : hsub rows o' n' K) : hsub rows o n K := by subst ho; subst hn; exact h
def one (l : List UInt8) (ok : Bool) : Int × List UInt8 × Bool := match l with
  | [] => (0, [], false)
  | x :: r => (x.toNat, r, ok)
def two (l : List UInt8) (ok : Bool) : Int × List UInt8 × Bool := match l with
  | x :: y :: r => (dec16 x y, r, ok)
  | [x] => (x.toNat * 256, [], false)
  | [] => (0, [], false)
end Chk
end Go.HL
