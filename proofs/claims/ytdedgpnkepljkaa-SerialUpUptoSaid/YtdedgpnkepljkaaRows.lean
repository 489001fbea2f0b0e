/-
  No cell of these rows narrows 'for every input' (looked for: loops, veiled, ifaces, maps, wideKeys, modest, calm, conditions, laid).
  DERIVED. THE GIVEN ROWS OF THIS SEAT. 7 by the template 'for every input the law returns true; each argument reads behind the call as it read before'; 0 by the template 'total and deterministic' (their statements: YtdedgpnkepljkaaTotals.lean).
  GIVEN WITH THE SEED: the statements are not yours to turn. If you find one false, say at which input.
  Laid BY PROGRAM, IN A SANDBOX (cutbox-rows.mjs): the forced cells as the released guide's own fill.sh prints them over the translation a6e935ba6f197fbc… (all of the seat's roots in one cut). By AI agents, Wed Nov 11 2026. No macro, syntax, notation, axiom, sorry.
-/
import Derived.Test.YtdedgpnkepljkaaChecked
import GoSem.Claim
import GoSem.ClaimJoined
import GoSem.ClaimMapViews
import Derived.JoinedTies
import Derived.KernelRfl
namespace Go.Proofs.Ytdedgpnkepljkaa
/- THE CELL 'sum', in the pinned program and in every row, IS THE sha256 OF THE DUMP (.gsa) THAT YtdedgpnkepljkaaProg.lean LOADS. Nothing in Lean hashes anything: it is a label: what it is worth is what the hold of that sum in a sandbox is worth. -/
noncomputable def Try.pinned : Pinned := { name := "ytdedgpnkepljkaa", sum := "a6e935ba6f197fbc4932a11178db496aa0bc4aae17f7aa1f40160c1c62b8869f", checked := Try.checked }
namespace Rows
def none {H : Type} : Left H := { results := [], args := [] }

/-- 'bltop.Names': WHATEVER THE INPUT: true; the input reads as it did. -/
def namesSpec : ChangeSpec := { name := "names", fn := fun _ => fun
  | [] => { results := [.lit (.bool true)], args := [] }
  | _ => none }
def namesRow : OpenClaim := { program := "ytdedgpnkepljkaa", sum := "a6e935ba6f197fbc4932a11178db496aa0bc4aae17f7aa1f40160c1c62b8869f", func := "braidline/bltop.Names", spec := "names", apart := false }
def NamesSaid : Prop := namesRow.holds Try.pinned (OpenSpec.ofChange namesSpec)

/-- ITS FALSE NEIGHBOUR: 'it returns false'. Refute it at one input. -/
def namesWrong : ChangeSpec := { name := "names", fn := fun _ => fun
  | [] => { results := [.lit (.bool false)], args := [] }
  | _ => none }
def NamesWrongFalsely : Prop := namesRow.holds Try.pinned (OpenSpec.ofChange namesWrong)

/-- 'bllaw1.SerialTells': WHATEVER THE INPUT: true; the input reads as it did. -/
def serialTellsSpec : ChangeSpec := { name := "serialTells", fn := fun _ => fun
  | [d1, d2, d3, d4] => { results := [.lit (.bool true)], args := [d1, d2, d3, d4] }
  | _ => none }
def serialTellsRow : OpenClaim := { program := "ytdedgpnkepljkaa", sum := "a6e935ba6f197fbc4932a11178db496aa0bc4aae17f7aa1f40160c1c62b8869f", func := "braidline/bllaw1.SerialTells", spec := "serialTells", inPlace := ["slices.overlaps[braidline/api.Span]"], unfollowed := true, recurses := true, apart := false }
def SerialTellsSaid : Prop := serialTellsRow.holds Try.pinned (OpenSpec.ofChange serialTellsSpec)

/-- ITS FALSE NEIGHBOUR: 'it returns false'. Refute it at one input. -/
def serialTellsWrong : ChangeSpec := { name := "serialTells", fn := fun _ => fun
  | [d1, d2, d3, d4] => { results := [.lit (.bool false)], args := [d1, d2, d3, d4] }
  | _ => none }
def SerialTellsWrongFalsely : Prop := serialTellsRow.holds Try.pinned (OpenSpec.ofChange serialTellsWrong)

/-- 'bllaw1.SerialNear': WHATEVER THE INPUT: true; the input reads as it did. -/
def serialNearSpec : ChangeSpec := { name := "serialNear", fn := fun _ => fun
  | [d1, d2] => { results := [.lit (.bool true)], args := [d1, d2] }
  | _ => none }
def serialNearRow : OpenClaim := { program := "ytdedgpnkepljkaa", sum := "a6e935ba6f197fbc4932a11178db496aa0bc4aae17f7aa1f40160c1c62b8869f", func := "braidline/bllaw1.SerialNear", spec := "serialNear", inPlace := ["slices.overlaps[braidline/api.Span]"], unfollowed := true, recurses := true, apart := false }
def SerialNearSaid : Prop := serialNearRow.holds Try.pinned (OpenSpec.ofChange serialNearSpec)

/-- ITS FALSE NEIGHBOUR: 'it returns false'. Refute it at one input. -/
def serialNearWrong : ChangeSpec := { name := "serialNear", fn := fun _ => fun
  | [d1, d2] => { results := [.lit (.bool false)], args := [d1, d2] }
  | _ => none }
def SerialNearWrongFalsely : Prop := serialNearRow.holds Try.pinned (OpenSpec.ofChange serialNearWrong)

/-- 'bllaw1.SerialSpans': WHATEVER THE INPUT: true; the input reads as it did. -/
def serialSpansSpec : ChangeSpec := { name := "serialSpans", fn := fun _ => fun
  | [d1, d2] => { results := [.lit (.bool true)], args := [d1, d2] }
  | _ => none }
def serialSpansRow : OpenClaim := { program := "ytdedgpnkepljkaa", sum := "a6e935ba6f197fbc4932a11178db496aa0bc4aae17f7aa1f40160c1c62b8869f", func := "braidline/bllaw1.SerialSpans", spec := "serialSpans", inPlace := ["slices.overlaps[braidline/api.Span]"], unfollowed := true, recurses := true, apart := false }
def SerialSpansSaid : Prop := serialSpansRow.holds Try.pinned (OpenSpec.ofChange serialSpansSpec)

/-- ITS FALSE NEIGHBOUR: 'it returns false'. Refute it at one input. -/
def serialSpansWrong : ChangeSpec := { name := "serialSpans", fn := fun _ => fun
  | [d1, d2] => { results := [.lit (.bool false)], args := [d1, d2] }
  | _ => none }
def SerialSpansWrongFalsely : Prop := serialSpansRow.holds Try.pinned (OpenSpec.ofChange serialSpansWrong)

/-- 'bllaw1.SerialUp': WHATEVER THE INPUT: true; the input reads as it did. -/
def serialUpSpec : ChangeSpec := { name := "serialUp", fn := fun _ => fun
  | [d1, d2] => { results := [.lit (.bool true)], args := [d1, d2] }
  | _ => none }
def serialUpRow : OpenClaim := { program := "ytdedgpnkepljkaa", sum := "a6e935ba6f197fbc4932a11178db496aa0bc4aae17f7aa1f40160c1c62b8869f", func := "braidline/bllaw1.SerialUp", spec := "serialUp", inPlace := ["slices.overlaps[braidline/api.Span]"], unfollowed := true, recurses := true, apart := false }
def SerialUpSaid : Prop := serialUpRow.holds Try.pinned (OpenSpec.ofChange serialUpSpec)

/-- ITS FALSE NEIGHBOUR: 'it returns false'. Refute it at one input. -/
def serialUpWrong : ChangeSpec := { name := "serialUp", fn := fun _ => fun
  | [d1, d2] => { results := [.lit (.bool false)], args := [d1, d2] }
  | _ => none }
def SerialUpWrongFalsely : Prop := serialUpRow.holds Try.pinned (OpenSpec.ofChange serialUpWrong)

/-- 'bllaw4.PartsTells': WHATEVER THE INPUT: true; the input reads as it did. -/
def partsTellsSpec : ChangeSpec := { name := "partsTells", fn := fun _ => fun
  | [d1, d2, d3] => { results := [.lit (.bool true)], args := [d1, d2, d3] }
  | _ => none }
def partsTellsRow : OpenClaim := { program := "ytdedgpnkepljkaa", sum := "a6e935ba6f197fbc4932a11178db496aa0bc4aae17f7aa1f40160c1c62b8869f", func := "braidline/bllaw4.PartsTells", spec := "partsTells", unfollowed := true, recurses := true, apart := false }
def PartsTellsSaid : Prop := partsTellsRow.holds Try.pinned (OpenSpec.ofChange partsTellsSpec)

/-- ITS FALSE NEIGHBOUR: 'it returns false'. Refute it at one input. -/
def partsTellsWrong : ChangeSpec := { name := "partsTells", fn := fun _ => fun
  | [d1, d2, d3] => { results := [.lit (.bool false)], args := [d1, d2, d3] }
  | _ => none }
def PartsTellsWrongFalsely : Prop := partsTellsRow.holds Try.pinned (OpenSpec.ofChange partsTellsWrong)

/-- 'bllaw4.PartsTurn': WHATEVER THE INPUT: true; the input reads as it did. -/
def partsTurnSpec : ChangeSpec := { name := "partsTurn", fn := fun _ => fun
  | [d1, d2, d3, d4] => { results := [.lit (.bool true)], args := [d1, d2, d3, d4] }
  | _ => none }
def partsTurnRow : OpenClaim := { program := "ytdedgpnkepljkaa", sum := "a6e935ba6f197fbc4932a11178db496aa0bc4aae17f7aa1f40160c1c62b8869f", func := "braidline/bllaw4.PartsTurn", spec := "partsTurn", unfollowed := true, recurses := true, apart := false }
def PartsTurnSaid : Prop := partsTurnRow.holds Try.pinned (OpenSpec.ofChange partsTurnSpec)

/-- ITS FALSE NEIGHBOUR: 'it returns false'. Refute it at one input. -/
def partsTurnWrong : ChangeSpec := { name := "partsTurn", fn := fun _ => fun
  | [d1, d2, d3, d4] => { results := [.lit (.bool false)], args := [d1, d2, d3, d4] }
  | _ => none }
def PartsTurnWrongFalsely : Prop := partsTurnRow.holds Try.pinned (OpenSpec.ofChange partsTurnWrong)

/- THE SECOND FORM. 'bulk': how many values and letters a reading holds, each counted each time it is reached (what is shared counts as often as it is met; a slice's spare places count too). A statement '..UptoSaid' is the law's where the arguments, and the package variables that the reading takes, are together of bulk at most 1048576: NARROWER than '..Said'. Prove '..Said' where nothing that the law and all that it calls make is longer than what came in: it says more and counts as full. Else prove '..UptoSaid'. A law counts once. -/
mutual
def uptoBulk {H : Type} : DataW H → Nat
  | .lit (.string bytes) => bytes.length + 1
  | .lit _ => 1
  | .nil => 1
  | .ptr d => uptoBulk d + 1
  | .slice elems spare => uptoBulkAll elems + uptoBulkAll spare + 1
  | .agg parts => uptoBulkAll parts + 1
  | .iface _ d => uptoBulk d + 1
  | .map entries => uptoBulkEntries entries + 1
  | .held _ => 1
def uptoBulkAll {H : Type} : List (DataW H) → Nat
  | [] => 0
  | d :: r => uptoBulk d + uptoBulkAll r
def uptoBulkEntries {H : Type} : List (Lit × DataW H) → Nat
  | [] => 0
  | x :: r => uptoBulkEntry x + uptoBulkEntries r
def uptoBulkEntry {H : Type} : Lit × DataW H → Nat
  | (.string bytes, d) => bytes.length + uptoBulk d + 1
  | (_, d) => uptoBulk d + 1
 end
def uptoSmall : (H : Type) → List (DataW H) → Bool := fun _ ds => decide (uptoBulkAll ds ≤ 1048576)
def OpenSpec.upto (s : _root_.Go.ChangeSpec) : _root_.Go.OpenSpec := { _root_.Go.OpenSpec.ofChange s with cond := some uptoSmall }

/-- 'bltop.Names', WHERE WHAT IT READS IS OF BULK AT MOST 1048576: true; the input reads as it did. -/
def namesUptoRow : OpenClaim := { program := "ytdedgpnkepljkaa", sum := "a6e935ba6f197fbc4932a11178db496aa0bc4aae17f7aa1f40160c1c62b8869f", func := "braidline/bltop.Names", spec := "names", apart := false, narrowed := true }
def NamesUptoSaid : Prop := namesUptoRow.holds Try.pinned (OpenSpec.upto namesSpec)

/-- 'bllaw1.SerialTells', WHERE WHAT IT READS IS OF BULK AT MOST 1048576: true; the input reads as it did. -/
def serialTellsUptoRow : OpenClaim := { program := "ytdedgpnkepljkaa", sum := "a6e935ba6f197fbc4932a11178db496aa0bc4aae17f7aa1f40160c1c62b8869f", func := "braidline/bllaw1.SerialTells", spec := "serialTells", inPlace := ["slices.overlaps[braidline/api.Span]"], unfollowed := true, recurses := true, apart := false, narrowed := true }
def SerialTellsUptoSaid : Prop := serialTellsUptoRow.holds Try.pinned (OpenSpec.upto serialTellsSpec)

/-- 'bllaw1.SerialNear', WHERE WHAT IT READS IS OF BULK AT MOST 1048576: true; the input reads as it did. -/
def serialNearUptoRow : OpenClaim := { program := "ytdedgpnkepljkaa", sum := "a6e935ba6f197fbc4932a11178db496aa0bc4aae17f7aa1f40160c1c62b8869f", func := "braidline/bllaw1.SerialNear", spec := "serialNear", inPlace := ["slices.overlaps[braidline/api.Span]"], unfollowed := true, recurses := true, apart := false, narrowed := true }
def SerialNearUptoSaid : Prop := serialNearUptoRow.holds Try.pinned (OpenSpec.upto serialNearSpec)

/-- 'bllaw1.SerialSpans', WHERE WHAT IT READS IS OF BULK AT MOST 1048576: true; the input reads as it did. -/
def serialSpansUptoRow : OpenClaim := { program := "ytdedgpnkepljkaa", sum := "a6e935ba6f197fbc4932a11178db496aa0bc4aae17f7aa1f40160c1c62b8869f", func := "braidline/bllaw1.SerialSpans", spec := "serialSpans", inPlace := ["slices.overlaps[braidline/api.Span]"], unfollowed := true, recurses := true, apart := false, narrowed := true }
def SerialSpansUptoSaid : Prop := serialSpansUptoRow.holds Try.pinned (OpenSpec.upto serialSpansSpec)

/-- 'bllaw1.SerialUp', WHERE WHAT IT READS IS OF BULK AT MOST 1048576: true; the input reads as it did. -/
def serialUpUptoRow : OpenClaim := { program := "ytdedgpnkepljkaa", sum := "a6e935ba6f197fbc4932a11178db496aa0bc4aae17f7aa1f40160c1c62b8869f", func := "braidline/bllaw1.SerialUp", spec := "serialUp", inPlace := ["slices.overlaps[braidline/api.Span]"], unfollowed := true, recurses := true, apart := false, narrowed := true }
def SerialUpUptoSaid : Prop := serialUpUptoRow.holds Try.pinned (OpenSpec.upto serialUpSpec)

/-- 'bllaw4.PartsTells', WHERE WHAT IT READS IS OF BULK AT MOST 1048576: true; the input reads as it did. -/
def partsTellsUptoRow : OpenClaim := { program := "ytdedgpnkepljkaa", sum := "a6e935ba6f197fbc4932a11178db496aa0bc4aae17f7aa1f40160c1c62b8869f", func := "braidline/bllaw4.PartsTells", spec := "partsTells", unfollowed := true, recurses := true, apart := false, narrowed := true }
def PartsTellsUptoSaid : Prop := partsTellsUptoRow.holds Try.pinned (OpenSpec.upto partsTellsSpec)

/-- 'bllaw4.PartsTurn', WHERE WHAT IT READS IS OF BULK AT MOST 1048576: true; the input reads as it did. -/
def partsTurnUptoRow : OpenClaim := { program := "ytdedgpnkepljkaa", sum := "a6e935ba6f197fbc4932a11178db496aa0bc4aae17f7aa1f40160c1c62b8869f", func := "braidline/bllaw4.PartsTurn", spec := "partsTurn", unfollowed := true, recurses := true, apart := false, narrowed := true }
def PartsTurnUptoSaid : Prop := partsTurnUptoRow.holds Try.pinned (OpenSpec.upto partsTurnSpec)

end Rows
end Go.Proofs.Ytdedgpnkepljkaa
