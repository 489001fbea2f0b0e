/-
  No cell of these rows narrows 'for every input' (looked for: loops, veiled, ifaces, maps, wideKeys, modest, calm, conditions, laid).
  DERIVED. THE GIVEN ROWS OF THIS SEAT. 6 by the template 'for every input the law returns true; each argument reads behind the call as it read before'; 0 by the template 'total and deterministic' (their statements: YtkadjamdjfefeaaTotals.lean).
  GIVEN WITH THE SEED: the statements are not yours to turn. If you find one false, say at which input.
  Laid BY PROGRAM, IN A SANDBOX (cutbox-rows.mjs): the forced cells as the released guide's own fill.sh prints them over the translation 072560c563f09480… (all of the seat's roots in one cut). By AI agents, Wed Nov 11 2026. No macro, syntax, notation, axiom, sorry.
-/
import Derived.Test.YtkadjamdjfefeaaChecked
import GoSem.Claim
import GoSem.ClaimJoined
import GoSem.ClaimMapViews
import Derived.JoinedTies
import Derived.KernelRfl
namespace Go.Proofs.Ytkadjamdjfefeaa
/- THE CELL 'sum', in the pinned program and in every row, IS THE sha256 OF THE DUMP (.gsa) THAT YtkadjamdjfefeaaProg.lean LOADS. Nothing in Lean hashes anything: it is a label: what it is worth is what the hold of that sum in a sandbox is worth. -/
noncomputable def Try.pinned : Pinned := { name := "ytkadjamdjfefeaa", sum := "072560c563f094804c8ace1ad70a349416704cc4bdc1b542fb4374093f5485b9", checked := Try.checked }
namespace Rows
def none {H : Type} : Left H := { results := [], args := [] }

/-- 'bllaw7.PathsTells': WHATEVER THE INPUT: true; the input reads as it did. -/
def pathsTellsSpec : ChangeSpec := { name := "pathsTells", fn := fun _ => fun
  | [d1, d2, d3, d4, d5] => { results := [.lit (.bool true)], args := [d1, d2, d3, d4, d5] }
  | _ => none }
def pathsTellsRow : OpenClaim := { program := "ytkadjamdjfefeaa", sum := "072560c563f094804c8ace1ad70a349416704cc4bdc1b542fb4374093f5485b9", func := "braidline/bllaw7.PathsTells", spec := "pathsTells", apart := false }
def PathsTellsSaid : Prop := pathsTellsRow.holds Try.pinned (OpenSpec.ofChange pathsTellsSpec)

/-- ITS FALSE NEIGHBOUR: 'it returns false'. Refute it at one input. -/
def pathsTellsWrong : ChangeSpec := { name := "pathsTells", fn := fun _ => fun
  | [d1, d2, d3, d4, d5] => { results := [.lit (.bool false)], args := [d1, d2, d3, d4, d5] }
  | _ => none }
def PathsTellsWrongFalsely : Prop := pathsTellsRow.holds Try.pinned (OpenSpec.ofChange pathsTellsWrong)

/-- 'bllaw7.PathsGrow': WHATEVER THE INPUT: true; the input reads as it did. -/
def pathsGrowSpec : ChangeSpec := { name := "pathsGrow", fn := fun _ => fun
  | [d1, d2] => { results := [.lit (.bool true)], args := [d1, d2] }
  | _ => none }
def pathsGrowRow : OpenClaim := { program := "ytkadjamdjfefeaa", sum := "072560c563f094804c8ace1ad70a349416704cc4bdc1b542fb4374093f5485b9", func := "braidline/bllaw7.PathsGrow", spec := "pathsGrow", apart := false }
def PathsGrowSaid : Prop := pathsGrowRow.holds Try.pinned (OpenSpec.ofChange pathsGrowSpec)

/-- ITS FALSE NEIGHBOUR: 'it returns false'. Refute it at one input. -/
def pathsGrowWrong : ChangeSpec := { name := "pathsGrow", fn := fun _ => fun
  | [d1, d2] => { results := [.lit (.bool false)], args := [d1, d2] }
  | _ => none }
def PathsGrowWrongFalsely : Prop := pathsGrowRow.holds Try.pinned (OpenSpec.ofChange pathsGrowWrong)

/-- 'bllaw7.PathsWait': WHATEVER THE INPUT: true; the input reads as it did. -/
def pathsWaitSpec : ChangeSpec := { name := "pathsWait", fn := fun _ => fun
  | [d1, d2] => { results := [.lit (.bool true)], args := [d1, d2] }
  | _ => none }
def pathsWaitRow : OpenClaim := { program := "ytkadjamdjfefeaa", sum := "072560c563f094804c8ace1ad70a349416704cc4bdc1b542fb4374093f5485b9", func := "braidline/bllaw7.PathsWait", spec := "pathsWait", apart := false }
def PathsWaitSaid : Prop := pathsWaitRow.holds Try.pinned (OpenSpec.ofChange pathsWaitSpec)

/-- ITS FALSE NEIGHBOUR: 'it returns false'. Refute it at one input. -/
def pathsWaitWrong : ChangeSpec := { name := "pathsWait", fn := fun _ => fun
  | [d1, d2] => { results := [.lit (.bool false)], args := [d1, d2] }
  | _ => none }
def PathsWaitWrongFalsely : Prop := pathsWaitRow.holds Try.pinned (OpenSpec.ofChange pathsWaitWrong)

/-- 'bllaw5.SchedFair': WHATEVER THE INPUT: true; the input reads as it did. -/
def schedFairSpec : ChangeSpec := { name := "schedFair", fn := fun _ => fun
  | [d1, d2, d3, d4] => { results := [.lit (.bool true)], args := [d1, d2, d3, d4] }
  | _ => none }
def schedFairRow : OpenClaim := { program := "ytkadjamdjfefeaa", sum := "072560c563f094804c8ace1ad70a349416704cc4bdc1b542fb4374093f5485b9", func := "braidline/bllaw5.SchedFair", spec := "schedFair", unfollowed := true, recurses := true, apart := false }
def SchedFairSaid : Prop := schedFairRow.holds Try.pinned (OpenSpec.ofChange schedFairSpec)

/-- ITS FALSE NEIGHBOUR: 'it returns false'. Refute it at one input. -/
def schedFairWrong : ChangeSpec := { name := "schedFair", fn := fun _ => fun
  | [d1, d2, d3, d4] => { results := [.lit (.bool false)], args := [d1, d2, d3, d4] }
  | _ => none }
def SchedFairWrongFalsely : Prop := schedFairRow.holds Try.pinned (OpenSpec.ofChange schedFairWrong)

/-- 'bltop.Names': WHATEVER THE INPUT: true; the input reads as it did. -/
def namesSpec : ChangeSpec := { name := "names", fn := fun _ => fun
  | [] => { results := [.lit (.bool true)], args := [] }
  | _ => none }
def namesRow : OpenClaim := { program := "ytkadjamdjfefeaa", sum := "072560c563f094804c8ace1ad70a349416704cc4bdc1b542fb4374093f5485b9", func := "braidline/bltop.Names", spec := "names", apart := false }
def NamesSaid : Prop := namesRow.holds Try.pinned (OpenSpec.ofChange namesSpec)

/-- ITS FALSE NEIGHBOUR: 'it returns false'. Refute it at one input. -/
def namesWrong : ChangeSpec := { name := "names", fn := fun _ => fun
  | [] => { results := [.lit (.bool false)], args := [] }
  | _ => none }
def NamesWrongFalsely : Prop := namesRow.holds Try.pinned (OpenSpec.ofChange namesWrong)

/-- 'bllaw1.SerialNear': WHATEVER THE INPUT: true; the input reads as it did. -/
def serialNearSpec : ChangeSpec := { name := "serialNear", fn := fun _ => fun
  | [d1, d2] => { results := [.lit (.bool true)], args := [d1, d2] }
  | _ => none }
def serialNearRow : OpenClaim := { program := "ytkadjamdjfefeaa", sum := "072560c563f094804c8ace1ad70a349416704cc4bdc1b542fb4374093f5485b9", func := "braidline/bllaw1.SerialNear", spec := "serialNear", inPlace := ["slices.overlaps[braidline/api.Span]"], unfollowed := true, recurses := true, apart := false }
def SerialNearSaid : Prop := serialNearRow.holds Try.pinned (OpenSpec.ofChange serialNearSpec)

/-- ITS FALSE NEIGHBOUR: 'it returns false'. Refute it at one input. -/
def serialNearWrong : ChangeSpec := { name := "serialNear", fn := fun _ => fun
  | [d1, d2] => { results := [.lit (.bool false)], args := [d1, d2] }
  | _ => none }
def SerialNearWrongFalsely : Prop := serialNearRow.holds Try.pinned (OpenSpec.ofChange serialNearWrong)

/- THE SECOND FORM. 'bulk': how many values and letters a reading holds, each counted each time it is reached (what is shared counts as often as it is met; a slice's spare places count too). A statement '..UptoSaid' is the law's where the arguments, and the package variables that the reading takes, are together of bulk at most 1048576: NARROWER than '..Said'. Prove '..Said' where nothing that the law and all that it calls make is longer than what came in: it says more and counts as full. Else prove '..UptoSaid'. A law counts once. -/
mutual
def uptoBulk {H : Type} : DataW H → Nat
  | .lit (.string bytes) => bytes.length + 1
  | .lit _ => 1
  | .nil => 1
  | .ptr d => uptoBulk d + 1
  | .slice elems spare => uptoBulkAll elems + uptoBulkAll spare + 1
  | .agg parts => uptoBulkAll parts + 1
  | .iface _ d => uptoBulk d + 1
  | .map entries => uptoBulkEntries entries + 1
  | .held _ => 1
def uptoBulkAll {H : Type} : List (DataW H) → Nat
  | [] => 0
  | d :: r => uptoBulk d + uptoBulkAll r
def uptoBulkEntries {H : Type} : List (Lit × DataW H) → Nat
  | [] => 0
  | x :: r => uptoBulkEntry x + uptoBulkEntries r
def uptoBulkEntry {H : Type} : Lit × DataW H → Nat
  | (.string bytes, d) => bytes.length + uptoBulk d + 1
  | (_, d) => uptoBulk d + 1
 end
def uptoSmall : (H : Type) → List (DataW H) → Bool := fun _ ds => decide (uptoBulkAll ds ≤ 1048576)
def OpenSpec.upto (s : _root_.Go.ChangeSpec) : _root_.Go.OpenSpec := { _root_.Go.OpenSpec.ofChange s with cond := some uptoSmall }

/-- 'bllaw7.PathsTells', WHERE WHAT IT READS IS OF BULK AT MOST 1048576: true; the input reads as it did. -/
def pathsTellsUptoRow : OpenClaim := { program := "ytkadjamdjfefeaa", sum := "072560c563f094804c8ace1ad70a349416704cc4bdc1b542fb4374093f5485b9", func := "braidline/bllaw7.PathsTells", spec := "pathsTells", apart := false, narrowed := true }
def PathsTellsUptoSaid : Prop := pathsTellsUptoRow.holds Try.pinned (OpenSpec.upto pathsTellsSpec)

/-- 'bllaw7.PathsGrow', WHERE WHAT IT READS IS OF BULK AT MOST 1048576: true; the input reads as it did. -/
def pathsGrowUptoRow : OpenClaim := { program := "ytkadjamdjfefeaa", sum := "072560c563f094804c8ace1ad70a349416704cc4bdc1b542fb4374093f5485b9", func := "braidline/bllaw7.PathsGrow", spec := "pathsGrow", apart := false, narrowed := true }
def PathsGrowUptoSaid : Prop := pathsGrowUptoRow.holds Try.pinned (OpenSpec.upto pathsGrowSpec)

/-- 'bllaw7.PathsWait', WHERE WHAT IT READS IS OF BULK AT MOST 1048576: true; the input reads as it did. -/
def pathsWaitUptoRow : OpenClaim := { program := "ytkadjamdjfefeaa", sum := "072560c563f094804c8ace1ad70a349416704cc4bdc1b542fb4374093f5485b9", func := "braidline/bllaw7.PathsWait", spec := "pathsWait", apart := false, narrowed := true }
def PathsWaitUptoSaid : Prop := pathsWaitUptoRow.holds Try.pinned (OpenSpec.upto pathsWaitSpec)

/-- 'bllaw5.SchedFair', WHERE WHAT IT READS IS OF BULK AT MOST 1048576: true; the input reads as it did. -/
def schedFairUptoRow : OpenClaim := { program := "ytkadjamdjfefeaa", sum := "072560c563f094804c8ace1ad70a349416704cc4bdc1b542fb4374093f5485b9", func := "braidline/bllaw5.SchedFair", spec := "schedFair", unfollowed := true, recurses := true, apart := false, narrowed := true }
def SchedFairUptoSaid : Prop := schedFairUptoRow.holds Try.pinned (OpenSpec.upto schedFairSpec)

/-- 'bltop.Names', WHERE WHAT IT READS IS OF BULK AT MOST 1048576: true; the input reads as it did. -/
def namesUptoRow : OpenClaim := { program := "ytkadjamdjfefeaa", sum := "072560c563f094804c8ace1ad70a349416704cc4bdc1b542fb4374093f5485b9", func := "braidline/bltop.Names", spec := "names", apart := false, narrowed := true }
def NamesUptoSaid : Prop := namesUptoRow.holds Try.pinned (OpenSpec.upto namesSpec)

/-- 'bllaw1.SerialNear', WHERE WHAT IT READS IS OF BULK AT MOST 1048576: true; the input reads as it did. -/
def serialNearUptoRow : OpenClaim := { program := "ytkadjamdjfefeaa", sum := "072560c563f094804c8ace1ad70a349416704cc4bdc1b542fb4374093f5485b9", func := "braidline/bllaw1.SerialNear", spec := "serialNear", inPlace := ["slices.overlaps[braidline/api.Span]"], unfollowed := true, recurses := true, apart := false, narrowed := true }
def SerialNearUptoSaid : Prop := serialNearUptoRow.holds Try.pinned (OpenSpec.upto serialNearSpec)

end Rows
end Go.Proofs.Ytkadjamdjfefeaa
