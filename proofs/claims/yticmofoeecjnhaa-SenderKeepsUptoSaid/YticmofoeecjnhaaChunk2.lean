/- Bytes read as chunks: the program's functions as what they compute. -/
import Derived.Test.YticmofoeecjnhaaChunk
namespace Go.HL
open Go.Proofs
namespace Chk
set_option maxHeartbeats 1000000
set_option maxRecDepth 100000
set_option linter.unusedSimpArgs false
def at16 (b : List UInt8) (i : Nat) : Int := dec16 (b[i]?.getD 0) (b[i + 1]?.getD 0)
def no : Chunk := ⟨0, 0, 0, 0, 0, false, false, [], [], 0, []⟩
def spansOf : List UInt8 → List Span
  | a :: b :: c :: d :: r => ⟨dec16 a b, dec16 c d⟩ :: spansOf r
  | _ => []
def skipsRun : List UInt8 → List Skip × Bool
  | s :: f :: m :: n :: r => if f.toNat > 1 then ([], false) else (⟨s.toNat, dec16 m n, f.toNat == 1⟩ :: (skipsRun r).1, (skipsRun r).2)
  | _ => ([], true)
def bodyOf (kind : Int) (b : List UInt8) : Chunk × Bool :=
  if b.length < 2 then ({ no with kind := kind }, false) else
  if kind = 1 then
    if b.length < 7 ∨ (b[3]?.getD 0).toNat > 3 then ({ no with kind := kind, tag := at16 b 0 }, false)
    else ({ no with kind := kind, tag := at16 b 0, stream := (b[2]?.getD 0).toNat, last := (b[3]?.getD 0).toNat % 2 != 0, ordered := (b[3]?.getD 0).toNat / 2 * 2 != 0, mid := at16 b 4, part := (b[6]?.getD 0).toNat, data := b.drop 7 }, true)
  else if kind = 2 then
    if b.length < 4 ∨ b.length % 4 ≠ 0 then ({ no with kind := kind, tag := at16 b 0 }, false)
    else ({ no with kind := kind, tag := at16 b 0, room := at16 b 2, spans := spansOf (b.drop 4) }, true)
  else if b.length % 4 ≠ 2 then ({ no with kind := kind, tag := at16 b 0 }, false)
    else ({ no with kind := kind, tag := at16 b 0, skips := (skipsRun (b.drop 2)).1 }, (skipsRun (b.drop 2)).2)
end Chk
end Go.HL
