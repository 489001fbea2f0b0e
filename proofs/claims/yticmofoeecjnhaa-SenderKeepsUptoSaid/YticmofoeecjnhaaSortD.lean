/- The library's stable sort. -/
import Derived.Test.YticmofoeecjnhaaSortC
namespace Go.HL
open Go.Proofs
namespace Srt
set_option maxHeartbeats 2000000
set_option maxRecDepth 100000
set_option linter.unusedSimpArgs false
end Srt
end Go.HL
