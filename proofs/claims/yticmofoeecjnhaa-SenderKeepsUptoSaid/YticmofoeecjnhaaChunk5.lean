/- SameChunk of equal chunks; ChunkTells. -/
import Derived.Test.YticmofoeecjnhaaChunk4
namespace Go.HL
open Go.Proofs
namespace Chk
set_option maxHeartbeats 1000000
set_option maxRecDepth 100000
set_option linter.unusedSimpArgs false
end Chk
end Go.HL
