/-
  No cell of these rows narrows 'for every input' (looked for: loops, veiled, ifaces, maps, wideKeys, modest, calm, conditions, laid).
  DERIVED. THE GIVEN ROWS OF THIS SEAT. 5 by the template 'for every input the law returns true; each argument reads behind the call as it read before'; 0 by the template 'total and deterministic' (their statements: YtgigdnakgoefcaaTotals.lean).
  GIVEN WITH THE SEED: the statements are not yours to turn. If you find one false, say at which input.
  Laid BY PROGRAM, IN A SANDBOX (cutbox-rows.mjs): the forced cells as the released guide's own fill.sh prints them over the translation 96efe68600462e92… (all of the seat's roots in one cut). By AI agents, Wed Nov 11 2026. No macro, syntax, notation, axiom, sorry.
-/
import Derived.Test.YtgigdnakgoefcaaChecked
import GoSem.Claim
import GoSem.ClaimJoined
import GoSem.ClaimMapViews
import Derived.JoinedTies
import Derived.KernelRfl
namespace Go.Proofs.Ytgigdnakgoefcaa
/- THE CELL 'sum', in the pinned program and in every row, IS THE sha256 OF THE DUMP (.gsa) THAT YtgigdnakgoefcaaProg.lean LOADS. Nothing in Lean hashes anything: it is a label: what it is worth is what the hold of that sum in a sandbox is worth. -/
noncomputable def Try.pinned : Pinned := { name := "ytgigdnakgoefcaa", sum := "96efe68600462e922f05423cec5d8a852473982c55d99c415d6d6cf8440179c0", checked := Try.checked }
namespace Rows
def none {H : Type} : Left H := { results := [], args := [] }

/-- 'bllaw2.ChunkTells': WHATEVER THE INPUT: true; the input reads as it did. -/
def chunkTellsSpec : ChangeSpec := { name := "chunkTells", fn := fun _ => fun
  | [d1, d2] => { results := [.lit (.bool true)], args := [d1, d2] }
  | _ => none }
def chunkTellsRow : OpenClaim := { program := "ytgigdnakgoefcaa", sum := "96efe68600462e922f05423cec5d8a852473982c55d99c415d6d6cf8440179c0", func := "braidline/bllaw2.ChunkTells", spec := "chunkTells", unfollowed := true, recurses := true, apart := false }
def ChunkTellsSaid : Prop := chunkTellsRow.holds Try.pinned (OpenSpec.ofChange chunkTellsSpec)

/-- ITS FALSE NEIGHBOUR: 'it returns false'. Refute it at one input. -/
def chunkTellsWrong : ChangeSpec := { name := "chunkTells", fn := fun _ => fun
  | [d1, d2] => { results := [.lit (.bool false)], args := [d1, d2] }
  | _ => none }
def ChunkTellsWrongFalsely : Prop := chunkTellsRow.holds Try.pinned (OpenSpec.ofChange chunkTellsWrong)

/-- 'bllaw2.ChunkTurns': WHATEVER THE INPUT: true; the input reads as it did. -/
def chunkTurnsSpec : ChangeSpec := { name := "chunkTurns", fn := fun _ => fun
  | [d1, d2] => { results := [.lit (.bool true)], args := [d1, d2] }
  | _ => none }
def chunkTurnsRow : OpenClaim := { program := "ytgigdnakgoefcaa", sum := "96efe68600462e922f05423cec5d8a852473982c55d99c415d6d6cf8440179c0", func := "braidline/bllaw2.ChunkTurns", spec := "chunkTurns", unfollowed := true, recurses := true, apart := false }
def ChunkTurnsSaid : Prop := chunkTurnsRow.holds Try.pinned (OpenSpec.ofChange chunkTurnsSpec)

/-- ITS FALSE NEIGHBOUR: 'it returns false'. Refute it at one input. -/
def chunkTurnsWrong : ChangeSpec := { name := "chunkTurns", fn := fun _ => fun
  | [d1, d2] => { results := [.lit (.bool false)], args := [d1, d2] }
  | _ => none }
def ChunkTurnsWrongFalsely : Prop := chunkTurnsRow.holds Try.pinned (OpenSpec.ofChange chunkTurnsWrong)

/-- 'bllaw3.PacketTells': WHATEVER THE INPUT: true; the input reads as it did. -/
def packetTellsSpec : ChangeSpec := { name := "packetTells", fn := fun _ => fun
  | [d1, d2, d3] => { results := [.lit (.bool true)], args := [d1, d2, d3] }
  | _ => none }
def packetTellsRow : OpenClaim := { program := "ytgigdnakgoefcaa", sum := "96efe68600462e922f05423cec5d8a852473982c55d99c415d6d6cf8440179c0", func := "braidline/bllaw3.PacketTells", spec := "packetTells", unfollowed := true, recurses := true, apart := false }
def PacketTellsSaid : Prop := packetTellsRow.holds Try.pinned (OpenSpec.ofChange packetTellsSpec)

/-- ITS FALSE NEIGHBOUR: 'it returns false'. Refute it at one input. -/
def packetTellsWrong : ChangeSpec := { name := "packetTells", fn := fun _ => fun
  | [d1, d2, d3] => { results := [.lit (.bool false)], args := [d1, d2, d3] }
  | _ => none }
def PacketTellsWrongFalsely : Prop := packetTellsRow.holds Try.pinned (OpenSpec.ofChange packetTellsWrong)

/-- 'bllaw3.PacketTurns': WHATEVER THE INPUT: true; the input reads as it did. -/
def packetTurnsSpec : ChangeSpec := { name := "packetTurns", fn := fun _ => fun
  | [d1, d2] => { results := [.lit (.bool true)], args := [d1, d2] }
  | _ => none }
def packetTurnsRow : OpenClaim := { program := "ytgigdnakgoefcaa", sum := "96efe68600462e922f05423cec5d8a852473982c55d99c415d6d6cf8440179c0", func := "braidline/bllaw3.PacketTurns", spec := "packetTurns", unfollowed := true, recurses := true, apart := false }
def PacketTurnsSaid : Prop := packetTurnsRow.holds Try.pinned (OpenSpec.ofChange packetTurnsSpec)

/-- ITS FALSE NEIGHBOUR: 'it returns false'. Refute it at one input. -/
def packetTurnsWrong : ChangeSpec := { name := "packetTurns", fn := fun _ => fun
  | [d1, d2] => { results := [.lit (.bool false)], args := [d1, d2] }
  | _ => none }
def PacketTurnsWrongFalsely : Prop := packetTurnsRow.holds Try.pinned (OpenSpec.ofChange packetTurnsWrong)

/-- 'bllaw3.PacketFit': WHATEVER THE INPUT: true; the input reads as it did. -/
def packetFitSpec : ChangeSpec := { name := "packetFit", fn := fun _ => fun
  | [d1, d2] => { results := [.lit (.bool true)], args := [d1, d2] }
  | _ => none }
def packetFitRow : OpenClaim := { program := "ytgigdnakgoefcaa", sum := "96efe68600462e922f05423cec5d8a852473982c55d99c415d6d6cf8440179c0", func := "braidline/bllaw3.PacketFit", spec := "packetFit", unfollowed := true, recurses := true, apart := false }
def PacketFitSaid : Prop := packetFitRow.holds Try.pinned (OpenSpec.ofChange packetFitSpec)

/-- ITS FALSE NEIGHBOUR: 'it returns false'. Refute it at one input. -/
def packetFitWrong : ChangeSpec := { name := "packetFit", fn := fun _ => fun
  | [d1, d2] => { results := [.lit (.bool false)], args := [d1, d2] }
  | _ => none }
def PacketFitWrongFalsely : Prop := packetFitRow.holds Try.pinned (OpenSpec.ofChange packetFitWrong)

/- THE SECOND FORM. 'bulk': how many values and letters a reading holds, each counted each time it is reached (what is shared counts as often as it is met; a slice's spare places count too). A statement '..UptoSaid' is the law's where the arguments, and the package variables that the reading takes, are together of bulk at most 1048576: NARROWER than '..Said'. Prove '..Said' where nothing that the law and all that it calls make is longer than what came in: it says more and counts as full. Else prove '..UptoSaid'. A law counts once. -/
mutual
def uptoBulk {H : Type} : DataW H → Nat
  | .lit (.string bytes) => bytes.length + 1
  | .lit _ => 1
  | .nil => 1
  | .ptr d => uptoBulk d + 1
  | .slice elems spare => uptoBulkAll elems + uptoBulkAll spare + 1
  | .agg parts => uptoBulkAll parts + 1
  | .iface _ d => uptoBulk d + 1
  | .map entries => uptoBulkEntries entries + 1
  | .held _ => 1
def uptoBulkAll {H : Type} : List (DataW H) → Nat
  | [] => 0
  | d :: r => uptoBulk d + uptoBulkAll r
def uptoBulkEntries {H : Type} : List (Lit × DataW H) → Nat
  | [] => 0
  | x :: r => uptoBulkEntry x + uptoBulkEntries r
def uptoBulkEntry {H : Type} : Lit × DataW H → Nat
  | (.string bytes, d) => bytes.length + uptoBulk d + 1
  | (_, d) => uptoBulk d + 1
 end
def uptoSmall : (H : Type) → List (DataW H) → Bool := fun _ ds => decide (uptoBulkAll ds ≤ 1048576)
def OpenSpec.upto (s : _root_.Go.ChangeSpec) : _root_.Go.OpenSpec := { _root_.Go.OpenSpec.ofChange s with cond := some uptoSmall }

/-- 'bllaw2.ChunkTells', WHERE WHAT IT READS IS OF BULK AT MOST 1048576: true; the input reads as it did. -/
def chunkTellsUptoRow : OpenClaim := { program := "ytgigdnakgoefcaa", sum := "96efe68600462e922f05423cec5d8a852473982c55d99c415d6d6cf8440179c0", func := "braidline/bllaw2.ChunkTells", spec := "chunkTells", unfollowed := true, recurses := true, apart := false, narrowed := true }
def ChunkTellsUptoSaid : Prop := chunkTellsUptoRow.holds Try.pinned (OpenSpec.upto chunkTellsSpec)

/-- 'bllaw2.ChunkTurns', WHERE WHAT IT READS IS OF BULK AT MOST 1048576: true; the input reads as it did. -/
def chunkTurnsUptoRow : OpenClaim := { program := "ytgigdnakgoefcaa", sum := "96efe68600462e922f05423cec5d8a852473982c55d99c415d6d6cf8440179c0", func := "braidline/bllaw2.ChunkTurns", spec := "chunkTurns", unfollowed := true, recurses := true, apart := false, narrowed := true }
def ChunkTurnsUptoSaid : Prop := chunkTurnsUptoRow.holds Try.pinned (OpenSpec.upto chunkTurnsSpec)

/-- 'bllaw3.PacketTells', WHERE WHAT IT READS IS OF BULK AT MOST 1048576: true; the input reads as it did. -/
def packetTellsUptoRow : OpenClaim := { program := "ytgigdnakgoefcaa", sum := "96efe68600462e922f05423cec5d8a852473982c55d99c415d6d6cf8440179c0", func := "braidline/bllaw3.PacketTells", spec := "packetTells", unfollowed := true, recurses := true, apart := false, narrowed := true }
def PacketTellsUptoSaid : Prop := packetTellsUptoRow.holds Try.pinned (OpenSpec.upto packetTellsSpec)

/-- 'bllaw3.PacketTurns', WHERE WHAT IT READS IS OF BULK AT MOST 1048576: true; the input reads as it did. -/
def packetTurnsUptoRow : OpenClaim := { program := "ytgigdnakgoefcaa", sum := "96efe68600462e922f05423cec5d8a852473982c55d99c415d6d6cf8440179c0", func := "braidline/bllaw3.PacketTurns", spec := "packetTurns", unfollowed := true, recurses := true, apart := false, narrowed := true }
def PacketTurnsUptoSaid : Prop := packetTurnsUptoRow.holds Try.pinned (OpenSpec.upto packetTurnsSpec)

/-- 'bllaw3.PacketFit', WHERE WHAT IT READS IS OF BULK AT MOST 1048576: true; the input reads as it did. -/
def packetFitUptoRow : OpenClaim := { program := "ytgigdnakgoefcaa", sum := "96efe68600462e922f05423cec5d8a852473982c55d99c415d6d6cf8440179c0", func := "braidline/bllaw3.PacketFit", spec := "packetFit", unfollowed := true, recurses := true, apart := false, narrowed := true }
def PacketFitUptoSaid : Prop := packetFitUptoRow.holds Try.pinned (OpenSpec.upto packetFitSpec)

end Rows
end Go.Proofs.Ytgigdnakgoefcaa
