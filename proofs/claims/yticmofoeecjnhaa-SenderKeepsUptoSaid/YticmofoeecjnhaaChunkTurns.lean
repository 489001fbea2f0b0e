/- ChunkTurns: what is sent is read. -/
import Derived.Test.YticmofoeecjnhaaChunk5
namespace Go.HL
open Go.Proofs
namespace Chk
set_option maxHeartbeats 2000000
set_option maxRecDepth 100000
set_option linter.unusedSimpArgs false
end Chk
end Go.HL
