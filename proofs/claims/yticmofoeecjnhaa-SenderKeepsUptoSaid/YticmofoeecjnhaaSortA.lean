/- The library's merging of two sorted runs in place, where the first one is of one element. -/
import Derived.Test.YticmofoeecjnhaaSort
namespace Go.HL
open Go.Proofs
namespace Srt
set_option maxHeartbeats 2000000
set_option maxRecDepth 100000
set_option linter.unusedSimpArgs false
end Srt
end Go.HL
