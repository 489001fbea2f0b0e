/-
  No cell of these rows narrows 'for every input' (looked for: loops, veiled, ifaces, maps, wideKeys, modest, calm, conditions, laid).
  DERIVED. THE GIVEN ROWS OF THIS SEAT. 4 by the template 'for every input the law returns true; each argument reads behind the call as it read before'; 0 by the template 'total and deterministic' (their statements: YtmdhpdeelnlhkaaTotals.lean).
  GIVEN WITH THE SEED: the statements are not yours to turn. If you find one false, say at which input.
  Laid BY PROGRAM, IN A SANDBOX (cutbox-rows.mjs): the forced cells as the released guide's own fill.sh prints them over the translation fcb548c4ac2e52dc… (all of the seat's roots in one cut). By AI agents, Wed Nov 11 2026. No macro, syntax, notation, axiom, sorry.
-/
import Derived.Test.YtmdhpdeelnlhkaaChecked
import GoSem.Claim
import GoSem.ClaimJoined
import GoSem.ClaimMapViews
import Derived.JoinedTies
import Derived.KernelRfl
namespace Go.Proofs.Ytmdhpdeelnlhkaa
/- THE CELL 'sum', in the pinned program and in every row, IS THE sha256 OF THE DUMP (.gsa) THAT YtmdhpdeelnlhkaaProg.lean LOADS. Nothing in Lean hashes anything: it is a label: what it is worth is what the hold of that sum in a sandbox is worth. -/
noncomputable def Try.pinned : Pinned := { name := "ytmdhpdeelnlhkaa", sum := "fcb548c4ac2e52dc930861a24a79cde01956e38ffe9fbe74c614da2ea7f11f66", checked := Try.checked }
namespace Rows
def none {H : Type} : Left H := { results := [], args := [] }

/-- 'bllaw6.ScoreTells': WHATEVER THE INPUT: true; the input reads as it did. -/
def scoreTellsSpec : ChangeSpec := { name := "scoreTells", fn := fun _ => fun
  | [d1, d2, d3, d4, d5, d6] => { results := [.lit (.bool true)], args := [d1, d2, d3, d4, d5, d6] }
  | _ => none }
def scoreTellsRow : OpenClaim := { program := "ytmdhpdeelnlhkaa", sum := "fcb548c4ac2e52dc930861a24a79cde01956e38ffe9fbe74c614da2ea7f11f66", func := "braidline/bllaw6.ScoreTells", spec := "scoreTells", unfollowed := true, recurses := true, apart := false }
def ScoreTellsSaid : Prop := scoreTellsRow.holds Try.pinned (OpenSpec.ofChange scoreTellsSpec)

/-- ITS FALSE NEIGHBOUR: 'it returns false'. Refute it at one input. -/
def scoreTellsWrong : ChangeSpec := { name := "scoreTells", fn := fun _ => fun
  | [d1, d2, d3, d4, d5, d6] => { results := [.lit (.bool false)], args := [d1, d2, d3, d4, d5, d6] }
  | _ => none }
def ScoreTellsWrongFalsely : Prop := scoreTellsRow.holds Try.pinned (OpenSpec.ofChange scoreTellsWrong)

/-- 'bllaw6.ScoreComes': WHATEVER THE INPUT: true; the input reads as it did. -/
def scoreComesSpec : ChangeSpec := { name := "scoreComes", fn := fun _ => fun
  | [d1, d2, d3, d4] => { results := [.lit (.bool true)], args := [d1, d2, d3, d4] }
  | _ => none }
def scoreComesRow : OpenClaim := { program := "ytmdhpdeelnlhkaa", sum := "fcb548c4ac2e52dc930861a24a79cde01956e38ffe9fbe74c614da2ea7f11f66", func := "braidline/bllaw6.ScoreComes", spec := "scoreComes", unfollowed := true, recurses := true, apart := false }
def ScoreComesSaid : Prop := scoreComesRow.holds Try.pinned (OpenSpec.ofChange scoreComesSpec)

/-- ITS FALSE NEIGHBOUR: 'it returns false'. Refute it at one input. -/
def scoreComesWrong : ChangeSpec := { name := "scoreComes", fn := fun _ => fun
  | [d1, d2, d3, d4] => { results := [.lit (.bool false)], args := [d1, d2, d3, d4] }
  | _ => none }
def ScoreComesWrongFalsely : Prop := scoreComesRow.holds Try.pinned (OpenSpec.ofChange scoreComesWrong)

/-- 'bllaw6.ScoreTwice': WHATEVER THE INPUT: true; the input reads as it did. -/
def scoreTwiceSpec : ChangeSpec := { name := "scoreTwice", fn := fun _ => fun
  | [d1, d2, d3, d4] => { results := [.lit (.bool true)], args := [d1, d2, d3, d4] }
  | _ => none }
def scoreTwiceRow : OpenClaim := { program := "ytmdhpdeelnlhkaa", sum := "fcb548c4ac2e52dc930861a24a79cde01956e38ffe9fbe74c614da2ea7f11f66", func := "braidline/bllaw6.ScoreTwice", spec := "scoreTwice", unfollowed := true, recurses := true, apart := false }
def ScoreTwiceSaid : Prop := scoreTwiceRow.holds Try.pinned (OpenSpec.ofChange scoreTwiceSpec)

/-- ITS FALSE NEIGHBOUR: 'it returns false'. Refute it at one input. -/
def scoreTwiceWrong : ChangeSpec := { name := "scoreTwice", fn := fun _ => fun
  | [d1, d2, d3, d4] => { results := [.lit (.bool false)], args := [d1, d2, d3, d4] }
  | _ => none }
def ScoreTwiceWrongFalsely : Prop := scoreTwiceRow.holds Try.pinned (OpenSpec.ofChange scoreTwiceWrong)

/-- 'bllaw6.ScorePoint': WHATEVER THE INPUT: true; the input reads as it did. -/
def scorePointSpec : ChangeSpec := { name := "scorePoint", fn := fun _ => fun
  | [d1, d2] => { results := [.lit (.bool true)], args := [d1, d2] }
  | _ => none }
def scorePointRow : OpenClaim := { program := "ytmdhpdeelnlhkaa", sum := "fcb548c4ac2e52dc930861a24a79cde01956e38ffe9fbe74c614da2ea7f11f66", func := "braidline/bllaw6.ScorePoint", spec := "scorePoint", unfollowed := true, recurses := true, apart := false }
def ScorePointSaid : Prop := scorePointRow.holds Try.pinned (OpenSpec.ofChange scorePointSpec)

/-- ITS FALSE NEIGHBOUR: 'it returns false'. Refute it at one input. -/
def scorePointWrong : ChangeSpec := { name := "scorePoint", fn := fun _ => fun
  | [d1, d2] => { results := [.lit (.bool false)], args := [d1, d2] }
  | _ => none }
def ScorePointWrongFalsely : Prop := scorePointRow.holds Try.pinned (OpenSpec.ofChange scorePointWrong)

/- THE SECOND FORM. 'bulk': how many values and letters a reading holds, each counted each time it is reached (what is shared counts as often as it is met; a slice's spare places count too). A statement '..UptoSaid' is the law's where the arguments, and the package variables that the reading takes, are together of bulk at most 1048576: NARROWER than '..Said'. Prove '..Said' where nothing that the law and all that it calls make is longer than what came in: it says more and counts as full. Else prove '..UptoSaid'. A law counts once. -/
mutual
def uptoBulk {H : Type} : DataW H → Nat
  | .lit (.string bytes) => bytes.length + 1
  | .lit _ => 1
  | .nil => 1
  | .ptr d => uptoBulk d + 1
  | .slice elems spare => uptoBulkAll elems + uptoBulkAll spare + 1
  | .agg parts => uptoBulkAll parts + 1
  | .iface _ d => uptoBulk d + 1
  | .map entries => uptoBulkEntries entries + 1
  | .held _ => 1
def uptoBulkAll {H : Type} : List (DataW H) → Nat
  | [] => 0
  | d :: r => uptoBulk d + uptoBulkAll r
def uptoBulkEntries {H : Type} : List (Lit × DataW H) → Nat
  | [] => 0
  | x :: r => uptoBulkEntry x + uptoBulkEntries r
def uptoBulkEntry {H : Type} : Lit × DataW H → Nat
  | (.string bytes, d) => bytes.length + uptoBulk d + 1
  | (_, d) => uptoBulk d + 1
 end
def uptoSmall : (H : Type) → List (DataW H) → Bool := fun _ ds => decide (uptoBulkAll ds ≤ 1048576)
def OpenSpec.upto (s : _root_.Go.ChangeSpec) : _root_.Go.OpenSpec := { _root_.Go.OpenSpec.ofChange s with cond := some uptoSmall }

/-- 'bllaw6.ScoreTells', WHERE WHAT IT READS IS OF BULK AT MOST 1048576: true; the input reads as it did. -/
def scoreTellsUptoRow : OpenClaim := { program := "ytmdhpdeelnlhkaa", sum := "fcb548c4ac2e52dc930861a24a79cde01956e38ffe9fbe74c614da2ea7f11f66", func := "braidline/bllaw6.ScoreTells", spec := "scoreTells", unfollowed := true, recurses := true, apart := false, narrowed := true }
def ScoreTellsUptoSaid : Prop := scoreTellsUptoRow.holds Try.pinned (OpenSpec.upto scoreTellsSpec)

/-- 'bllaw6.ScoreComes', WHERE WHAT IT READS IS OF BULK AT MOST 1048576: true; the input reads as it did. -/
def scoreComesUptoRow : OpenClaim := { program := "ytmdhpdeelnlhkaa", sum := "fcb548c4ac2e52dc930861a24a79cde01956e38ffe9fbe74c614da2ea7f11f66", func := "braidline/bllaw6.ScoreComes", spec := "scoreComes", unfollowed := true, recurses := true, apart := false, narrowed := true }
def ScoreComesUptoSaid : Prop := scoreComesUptoRow.holds Try.pinned (OpenSpec.upto scoreComesSpec)

/-- 'bllaw6.ScoreTwice', WHERE WHAT IT READS IS OF BULK AT MOST 1048576: true; the input reads as it did. -/
def scoreTwiceUptoRow : OpenClaim := { program := "ytmdhpdeelnlhkaa", sum := "fcb548c4ac2e52dc930861a24a79cde01956e38ffe9fbe74c614da2ea7f11f66", func := "braidline/bllaw6.ScoreTwice", spec := "scoreTwice", unfollowed := true, recurses := true, apart := false, narrowed := true }
def ScoreTwiceUptoSaid : Prop := scoreTwiceUptoRow.holds Try.pinned (OpenSpec.upto scoreTwiceSpec)

/-- 'bllaw6.ScorePoint', WHERE WHAT IT READS IS OF BULK AT MOST 1048576: true; the input reads as it did. -/
def scorePointUptoRow : OpenClaim := { program := "ytmdhpdeelnlhkaa", sum := "fcb548c4ac2e52dc930861a24a79cde01956e38ffe9fbe74c614da2ea7f11f66", func := "braidline/bllaw6.ScorePoint", spec := "scorePoint", unfollowed := true, recurses := true, apart := false, narrowed := true }
def ScorePointUptoSaid : Prop := scorePointUptoRow.holds Try.pinned (OpenSpec.upto scorePointSpec)

end Rows
end Go.Proofs.Ytmdhpdeelnlhkaa
