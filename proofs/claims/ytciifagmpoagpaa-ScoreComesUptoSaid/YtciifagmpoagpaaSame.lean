/- SameChunk of equal chunks. -/
import Derived.Test.YtciifagmpoagpaaSer
namespace Go.HL
open Go.Proofs
set_option maxHeartbeats 1000000
set_option maxRecDepth 100000
set_option linter.unusedSimpArgs false
end Go.HL
