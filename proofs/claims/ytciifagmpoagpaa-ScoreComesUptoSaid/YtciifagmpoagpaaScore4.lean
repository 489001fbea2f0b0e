/- The document's Flight, Sack and Point. -/
import Derived.Test.YtciifagmpoagpaaScore3
namespace Go.HL
open Go.Proofs
namespace Sco
open Ser
set_option maxHeartbeats 4000000
set_option maxRecDepth 100000
set_option linter.unusedSimpArgs false
end Sco
end Go.HL
