/- The library's merging of two sorted runs in place. -/
import Derived.Test.YticmofoeecjnhaaSortA
import Derived.Test.YticmofoeecjnhaaSortB
namespace Go.HL
open Go.Proofs
namespace Srt
set_option maxHeartbeats 2000000
set_option maxRecDepth 100000
set_option linter.unusedSimpArgs false
structure Part (U V : List Piece) (h s : Nat) : Prop where
  hs : s ≤ h
  hv : h - s ≤ V.length
  hu : s ≤ U.length
  lo : ∀ x ∈ U.take s, ∀ z ∈ V.drop (h - s), ck x ≤ ck z
  hi : ∀ z ∈ V.take (h - s), ∀ x ∈ U.drop s, ck z < ck x
end Srt
end Go.HL
