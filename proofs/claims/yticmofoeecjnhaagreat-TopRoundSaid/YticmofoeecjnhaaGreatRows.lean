/-
  No cell of these rows narrows 'for every input' (looked for: loops, veiled, ifaces, maps, wideKeys, modest, calm, conditions, laid).
  DERIVED. THE GIVEN ROWS OF THIS SEAT. 17 by the template 'for every input the law returns true; each argument reads behind the call as it read before'; 0 by the template 'total and deterministic' (their statements: YticmofoeecjnhaaGreatTotals.lean).
  GIVEN WITH THE SEED: the statements are not yours to turn. If you find one false, say at which input.
  Laid BY PROGRAM, IN A SANDBOX (cutbox-rows.mjs): the forced cells as the released guide's own fill.sh prints them over the translation 760b6b1da2a4fb4e… (all of the seat's roots in one cut). By AI agents, Wed Nov 11 2026. No macro, syntax, notation, axiom, sorry.
-/
import Derived.Test.YticmofoeecjnhaaGreatChecked
import GoSem.Claim
import GoSem.ClaimJoined
import GoSem.ClaimMapViews
import Derived.JoinedTies
import Derived.KernelRfl
namespace Go.Proofs.YticmofoeecjnhaaGreat
/- THE CELL 'sum', in the pinned program and in every row, IS THE sha256 OF THE DUMP (.gsa) THAT YticmofoeecjnhaaGreatProg.lean LOADS. Nothing in Lean hashes anything: it is a label: what it is worth is what the hold of that sum in a sandbox is worth. -/
noncomputable def Tryz.pinned : Pinned := { name := "yticmofoeecjnhaagreat", sum := "760b6b1da2a4fb4e496bfbade0355b21d517575b78707825dc5a446702d225e2", checked := Tryz.checked }
namespace Rows
def none {H : Type} : Left H := { results := [], args := [] }

/-- 'bltop.TopRank': WHATEVER THE INPUT: true; the input reads as it did. -/
def topRankSpec : ChangeSpec := { name := "topRank", fn := fun _ => fun
  | [d1, d2] => { results := [.lit (.bool true)], args := [d1, d2] }
  | _ => none }
def topRankRow : OpenClaim := { program := "yticmofoeecjnhaagreat", sum := "760b6b1da2a4fb4e496bfbade0355b21d517575b78707825dc5a446702d225e2", func := "braidline/bltop.TopRank", spec := "topRank", inPlace := ["slices.overlaps[braidline/api.Span]"], unfollowed := true, recurses := true, apart := false }
def TopRankSaid : Prop := topRankRow.holds Tryz.pinned (OpenSpec.ofChange topRankSpec)

/-- ITS FALSE NEIGHBOUR: 'it returns false'. Refute it at one input. -/
def topRankWrong : ChangeSpec := { name := "topRank", fn := fun _ => fun
  | [d1, d2] => { results := [.lit (.bool false)], args := [d1, d2] }
  | _ => none }
def TopRankWrongFalsely : Prop := topRankRow.holds Tryz.pinned (OpenSpec.ofChange topRankWrong)

/-- 'bltop.TopFirst': WHATEVER THE INPUT: true; the input reads as it did. -/
def topFirstSpec : ChangeSpec := { name := "topFirst", fn := fun _ => fun
  | [d1, d2] => { results := [.lit (.bool true)], args := [d1, d2] }
  | _ => none }
def topFirstRow : OpenClaim := { program := "yticmofoeecjnhaagreat", sum := "760b6b1da2a4fb4e496bfbade0355b21d517575b78707825dc5a446702d225e2", func := "braidline/bltop.TopFirst", spec := "topFirst", inPlace := ["slices.overlaps[braidline/api.Span]"], unfollowed := true, recurses := true, apart := false }
def TopFirstSaid : Prop := topFirstRow.holds Tryz.pinned (OpenSpec.ofChange topFirstSpec)

/-- ITS FALSE NEIGHBOUR: 'it returns false'. Refute it at one input. -/
def topFirstWrong : ChangeSpec := { name := "topFirst", fn := fun _ => fun
  | [d1, d2] => { results := [.lit (.bool false)], args := [d1, d2] }
  | _ => none }
def TopFirstWrongFalsely : Prop := topFirstRow.holds Tryz.pinned (OpenSpec.ofChange topFirstWrong)

/-- 'bllaw9.SenderTells': WHATEVER THE INPUT: true; the input reads as it did. -/
def senderTellsSpec : ChangeSpec := { name := "senderTells", fn := fun _ => fun
  | [d1, d2, d3, d4] => { results := [.lit (.bool true)], args := [d1, d2, d3, d4] }
  | _ => none }
def senderTellsRow : OpenClaim := { program := "yticmofoeecjnhaagreat", sum := "760b6b1da2a4fb4e496bfbade0355b21d517575b78707825dc5a446702d225e2", func := "braidline/bllaw9.SenderTells", spec := "senderTells", unfollowed := true, recurses := true, apart := false }
def SenderTellsSaid : Prop := senderTellsRow.holds Tryz.pinned (OpenSpec.ofChange senderTellsSpec)

/-- ITS FALSE NEIGHBOUR: 'it returns false'. Refute it at one input. -/
def senderTellsWrong : ChangeSpec := { name := "senderTells", fn := fun _ => fun
  | [d1, d2, d3, d4] => { results := [.lit (.bool false)], args := [d1, d2, d3, d4] }
  | _ => none }
def SenderTellsWrongFalsely : Prop := senderTellsRow.holds Tryz.pinned (OpenSpec.ofChange senderTellsWrong)

/-- 'bllaw9.SenderFlight': WHATEVER THE INPUT: true; the input reads as it did. -/
def senderFlightSpec : ChangeSpec := { name := "senderFlight", fn := fun _ => fun
  | [d1, d2] => { results := [.lit (.bool true)], args := [d1, d2] }
  | _ => none }
def senderFlightRow : OpenClaim := { program := "yticmofoeecjnhaagreat", sum := "760b6b1da2a4fb4e496bfbade0355b21d517575b78707825dc5a446702d225e2", func := "braidline/bllaw9.SenderFlight", spec := "senderFlight", unfollowed := true, recurses := true, apart := false }
def SenderFlightSaid : Prop := senderFlightRow.holds Tryz.pinned (OpenSpec.ofChange senderFlightSpec)

/-- ITS FALSE NEIGHBOUR: 'it returns false'. Refute it at one input. -/
def senderFlightWrong : ChangeSpec := { name := "senderFlight", fn := fun _ => fun
  | [d1, d2] => { results := [.lit (.bool false)], args := [d1, d2] }
  | _ => none }
def SenderFlightWrongFalsely : Prop := senderFlightRow.holds Tryz.pinned (OpenSpec.ofChange senderFlightWrong)

/-- 'bllaw11.FairTells': WHATEVER THE INPUT: true; the input reads as it did. -/
def fairTellsSpec : ChangeSpec := { name := "fairTells", fn := fun _ => fun
  | [d1, d2] => { results := [.lit (.bool true)], args := [d1, d2] }
  | _ => none }
def fairTellsRow : OpenClaim := { program := "yticmofoeecjnhaagreat", sum := "760b6b1da2a4fb4e496bfbade0355b21d517575b78707825dc5a446702d225e2", func := "braidline/bllaw11.FairTells", spec := "fairTells", inPlace := ["slices.overlaps[braidline/api.Span]"], unfollowed := true, recurses := true, apart := false }
def FairTellsSaid : Prop := fairTellsRow.holds Tryz.pinned (OpenSpec.ofChange fairTellsSpec)

/-- ITS FALSE NEIGHBOUR: 'it returns false'. Refute it at one input. -/
def fairTellsWrong : ChangeSpec := { name := "fairTells", fn := fun _ => fun
  | [d1, d2] => { results := [.lit (.bool false)], args := [d1, d2] }
  | _ => none }
def FairTellsWrongFalsely : Prop := fairTellsRow.holds Tryz.pinned (OpenSpec.ofChange fairTellsWrong)

/-- 'bllaw11.FairEnds': WHATEVER THE INPUT: true; the input reads as it did. -/
def fairEndsSpec : ChangeSpec := { name := "fairEnds", fn := fun _ => fun
  | [d1, d2] => { results := [.lit (.bool true)], args := [d1, d2] }
  | _ => none }
def fairEndsRow : OpenClaim := { program := "yticmofoeecjnhaagreat", sum := "760b6b1da2a4fb4e496bfbade0355b21d517575b78707825dc5a446702d225e2", func := "braidline/bllaw11.FairEnds", spec := "fairEnds", inPlace := ["slices.overlaps[braidline/api.Span]"], unfollowed := true, recurses := true, apart := false }
def FairEndsSaid : Prop := fairEndsRow.holds Tryz.pinned (OpenSpec.ofChange fairEndsSpec)

/-- ITS FALSE NEIGHBOUR: 'it returns false'. Refute it at one input. -/
def fairEndsWrong : ChangeSpec := { name := "fairEnds", fn := fun _ => fun
  | [d1, d2] => { results := [.lit (.bool false)], args := [d1, d2] }
  | _ => none }
def FairEndsWrongFalsely : Prop := fairEndsRow.holds Tryz.pinned (OpenSpec.ofChange fairEndsWrong)

/-- 'bllaw11.FairAll': WHATEVER THE INPUT: true; the input reads as it did. -/
def fairAllSpec : ChangeSpec := { name := "fairAll", fn := fun _ => fun
  | [d1, d2] => { results := [.lit (.bool true)], args := [d1, d2] }
  | _ => none }
def fairAllRow : OpenClaim := { program := "yticmofoeecjnhaagreat", sum := "760b6b1da2a4fb4e496bfbade0355b21d517575b78707825dc5a446702d225e2", func := "braidline/bllaw11.FairAll", spec := "fairAll", inPlace := ["slices.overlaps[braidline/api.Span]"], unfollowed := true, recurses := true, apart := false }
def FairAllSaid : Prop := fairAllRow.holds Tryz.pinned (OpenSpec.ofChange fairAllSpec)

/-- ITS FALSE NEIGHBOUR: 'it returns false'. Refute it at one input. -/
def fairAllWrong : ChangeSpec := { name := "fairAll", fn := fun _ => fun
  | [d1, d2] => { results := [.lit (.bool false)], args := [d1, d2] }
  | _ => none }
def FairAllWrongFalsely : Prop := fairAllRow.holds Tryz.pinned (OpenSpec.ofChange fairAllWrong)

/-- 'bllaw10.LineTells': WHATEVER THE INPUT: true; the input reads as it did. -/
def lineTellsSpec : ChangeSpec := { name := "lineTells", fn := fun _ => fun
  | [d1, d2] => { results := [.lit (.bool true)], args := [d1, d2] }
  | _ => none }
def lineTellsRow : OpenClaim := { program := "yticmofoeecjnhaagreat", sum := "760b6b1da2a4fb4e496bfbade0355b21d517575b78707825dc5a446702d225e2", func := "braidline/bllaw10.LineTells", spec := "lineTells", inPlace := ["slices.overlaps[braidline/api.Span]"], unfollowed := true, recurses := true, apart := false }
def LineTellsSaid : Prop := lineTellsRow.holds Tryz.pinned (OpenSpec.ofChange lineTellsSpec)

/-- ITS FALSE NEIGHBOUR: 'it returns false'. Refute it at one input. -/
def lineTellsWrong : ChangeSpec := { name := "lineTells", fn := fun _ => fun
  | [d1, d2] => { results := [.lit (.bool false)], args := [d1, d2] }
  | _ => none }
def LineTellsWrongFalsely : Prop := lineTellsRow.holds Tryz.pinned (OpenSpec.ofChange lineTellsWrong)

/-- 'bllaw10.LineOnce': WHATEVER THE INPUT: true; the input reads as it did. -/
def lineOnceSpec : ChangeSpec := { name := "lineOnce", fn := fun _ => fun
  | [d1, d2] => { results := [.lit (.bool true)], args := [d1, d2] }
  | _ => none }
def lineOnceRow : OpenClaim := { program := "yticmofoeecjnhaagreat", sum := "760b6b1da2a4fb4e496bfbade0355b21d517575b78707825dc5a446702d225e2", func := "braidline/bllaw10.LineOnce", spec := "lineOnce", inPlace := ["slices.overlaps[braidline/api.Span]"], unfollowed := true, recurses := true, apart := false }
def LineOnceSaid : Prop := lineOnceRow.holds Tryz.pinned (OpenSpec.ofChange lineOnceSpec)

/-- ITS FALSE NEIGHBOUR: 'it returns false'. Refute it at one input. -/
def lineOnceWrong : ChangeSpec := { name := "lineOnce", fn := fun _ => fun
  | [d1, d2] => { results := [.lit (.bool false)], args := [d1, d2] }
  | _ => none }
def LineOnceWrongFalsely : Prop := lineOnceRow.holds Tryz.pinned (OpenSpec.ofChange lineOnceWrong)

/-- 'bllaw10.LineFates': WHATEVER THE INPUT: true; the input reads as it did. -/
def lineFatesSpec : ChangeSpec := { name := "lineFates", fn := fun _ => fun
  | [d1, d2] => { results := [.lit (.bool true)], args := [d1, d2] }
  | _ => none }
def lineFatesRow : OpenClaim := { program := "yticmofoeecjnhaagreat", sum := "760b6b1da2a4fb4e496bfbade0355b21d517575b78707825dc5a446702d225e2", func := "braidline/bllaw10.LineFates", spec := "lineFates", inPlace := ["slices.overlaps[braidline/api.Span]"], unfollowed := true, recurses := true, apart := false }
def LineFatesSaid : Prop := lineFatesRow.holds Tryz.pinned (OpenSpec.ofChange lineFatesSpec)

/-- ITS FALSE NEIGHBOUR: 'it returns false'. Refute it at one input. -/
def lineFatesWrong : ChangeSpec := { name := "lineFates", fn := fun _ => fun
  | [d1, d2] => { results := [.lit (.bool false)], args := [d1, d2] }
  | _ => none }
def LineFatesWrongFalsely : Prop := lineFatesRow.holds Tryz.pinned (OpenSpec.ofChange lineFatesWrong)

/-- 'bllaw10.LineParts': WHATEVER THE INPUT: true; the input reads as it did. -/
def linePartsSpec : ChangeSpec := { name := "lineParts", fn := fun _ => fun
  | [d1, d2, d3] => { results := [.lit (.bool true)], args := [d1, d2, d3] }
  | _ => none }
def linePartsRow : OpenClaim := { program := "yticmofoeecjnhaagreat", sum := "760b6b1da2a4fb4e496bfbade0355b21d517575b78707825dc5a446702d225e2", func := "braidline/bllaw10.LineParts", spec := "lineParts", inPlace := ["slices.overlaps[braidline/api.Span]"], unfollowed := true, recurses := true, apart := false }
def LinePartsSaid : Prop := linePartsRow.holds Tryz.pinned (OpenSpec.ofChange linePartsSpec)

/-- ITS FALSE NEIGHBOUR: 'it returns false'. Refute it at one input. -/
def linePartsWrong : ChangeSpec := { name := "lineParts", fn := fun _ => fun
  | [d1, d2, d3] => { results := [.lit (.bool false)], args := [d1, d2, d3] }
  | _ => none }
def LinePartsWrongFalsely : Prop := linePartsRow.holds Tryz.pinned (OpenSpec.ofChange linePartsWrong)

/-- 'bllaw12.LedgerTells': WHATEVER THE INPUT: true; the input reads as it did. -/
def ledgerTellsSpec : ChangeSpec := { name := "ledgerTells", fn := fun _ => fun
  | [d1, d2, d3, d4] => { results := [.lit (.bool true)], args := [d1, d2, d3, d4] }
  | _ => none }
def ledgerTellsRow : OpenClaim := { program := "yticmofoeecjnhaagreat", sum := "760b6b1da2a4fb4e496bfbade0355b21d517575b78707825dc5a446702d225e2", func := "braidline/bllaw12.LedgerTells", spec := "ledgerTells", inPlace := ["slices.overlaps[braidline/api.Span]"], unfollowed := true, recurses := true, apart := false }
def LedgerTellsSaid : Prop := ledgerTellsRow.holds Tryz.pinned (OpenSpec.ofChange ledgerTellsSpec)

/-- ITS FALSE NEIGHBOUR: 'it returns false'. Refute it at one input. -/
def ledgerTellsWrong : ChangeSpec := { name := "ledgerTells", fn := fun _ => fun
  | [d1, d2, d3, d4] => { results := [.lit (.bool false)], args := [d1, d2, d3, d4] }
  | _ => none }
def LedgerTellsWrongFalsely : Prop := ledgerTellsRow.holds Tryz.pinned (OpenSpec.ofChange ledgerTellsWrong)

/-- 'bllaw12.LedgerRight': WHATEVER THE INPUT: true; the input reads as it did. -/
def ledgerRightSpec : ChangeSpec := { name := "ledgerRight", fn := fun _ => fun
  | [d1, d2] => { results := [.lit (.bool true)], args := [d1, d2] }
  | _ => none }
def ledgerRightRow : OpenClaim := { program := "yticmofoeecjnhaagreat", sum := "760b6b1da2a4fb4e496bfbade0355b21d517575b78707825dc5a446702d225e2", func := "braidline/bllaw12.LedgerRight", spec := "ledgerRight", inPlace := ["slices.overlaps[braidline/api.Span]"], unfollowed := true, recurses := true, apart := false }
def LedgerRightSaid : Prop := ledgerRightRow.holds Tryz.pinned (OpenSpec.ofChange ledgerRightSpec)

/-- ITS FALSE NEIGHBOUR: 'it returns false'. Refute it at one input. -/
def ledgerRightWrong : ChangeSpec := { name := "ledgerRight", fn := fun _ => fun
  | [d1, d2] => { results := [.lit (.bool false)], args := [d1, d2] }
  | _ => none }
def LedgerRightWrongFalsely : Prop := ledgerRightRow.holds Tryz.pinned (OpenSpec.ofChange ledgerRightWrong)

/-- 'bllaw12.LedgerBent': WHATEVER THE INPUT: true; the input reads as it did. -/
def ledgerBentSpec : ChangeSpec := { name := "ledgerBent", fn := fun _ => fun
  | [d1, d2, d3, d4] => { results := [.lit (.bool true)], args := [d1, d2, d3, d4] }
  | _ => none }
def ledgerBentRow : OpenClaim := { program := "yticmofoeecjnhaagreat", sum := "760b6b1da2a4fb4e496bfbade0355b21d517575b78707825dc5a446702d225e2", func := "braidline/bllaw12.LedgerBent", spec := "ledgerBent", inPlace := ["slices.overlaps[braidline/api.Span]"], unfollowed := true, recurses := true, apart := false }
def LedgerBentSaid : Prop := ledgerBentRow.holds Tryz.pinned (OpenSpec.ofChange ledgerBentSpec)

/-- ITS FALSE NEIGHBOUR: 'it returns false'. Refute it at one input. -/
def ledgerBentWrong : ChangeSpec := { name := "ledgerBent", fn := fun _ => fun
  | [d1, d2, d3, d4] => { results := [.lit (.bool false)], args := [d1, d2, d3, d4] }
  | _ => none }
def LedgerBentWrongFalsely : Prop := ledgerBentRow.holds Tryz.pinned (OpenSpec.ofChange ledgerBentWrong)

/-- 'bltop.TopLate': WHATEVER THE INPUT: true; the input reads as it did. -/
def topLateSpec : ChangeSpec := { name := "topLate", fn := fun _ => fun
  | [d1, d2, d3] => { results := [.lit (.bool true)], args := [d1, d2, d3] }
  | _ => none }
def topLateRow : OpenClaim := { program := "yticmofoeecjnhaagreat", sum := "760b6b1da2a4fb4e496bfbade0355b21d517575b78707825dc5a446702d225e2", func := "braidline/bltop.TopLate", spec := "topLate", inPlace := ["slices.overlaps[braidline/api.Span]"], unfollowed := true, recurses := true, apart := false }
def TopLateSaid : Prop := topLateRow.holds Tryz.pinned (OpenSpec.ofChange topLateSpec)

/-- ITS FALSE NEIGHBOUR: 'it returns false'. Refute it at one input. -/
def topLateWrong : ChangeSpec := { name := "topLate", fn := fun _ => fun
  | [d1, d2, d3] => { results := [.lit (.bool false)], args := [d1, d2, d3] }
  | _ => none }
def TopLateWrongFalsely : Prop := topLateRow.holds Tryz.pinned (OpenSpec.ofChange topLateWrong)

/-- 'bltop.TopPaths': WHATEVER THE INPUT: true; the input reads as it did. -/
def topPathsSpec : ChangeSpec := { name := "topPaths", fn := fun _ => fun
  | [d] => { results := [.lit (.bool true)], args := [d] }
  | _ => none }
def topPathsRow : OpenClaim := { program := "yticmofoeecjnhaagreat", sum := "760b6b1da2a4fb4e496bfbade0355b21d517575b78707825dc5a446702d225e2", func := "braidline/bltop.TopPaths", spec := "topPaths", inPlace := ["slices.overlaps[braidline/api.Span]"], unfollowed := true, recurses := true, apart := false }
def TopPathsSaid : Prop := topPathsRow.holds Tryz.pinned (OpenSpec.ofChange topPathsSpec)

/-- ITS FALSE NEIGHBOUR: 'it returns false'. Refute it at one input. -/
def topPathsWrong : ChangeSpec := { name := "topPaths", fn := fun _ => fun
  | [d] => { results := [.lit (.bool false)], args := [d] }
  | _ => none }
def TopPathsWrongFalsely : Prop := topPathsRow.holds Tryz.pinned (OpenSpec.ofChange topPathsWrong)

/-- 'bltop.TopRound': WHATEVER THE INPUT: true; the input reads as it did. -/
def topRoundSpec : ChangeSpec := { name := "topRound", fn := fun _ => fun
  | [d1, d2, d3] => { results := [.lit (.bool true)], args := [d1, d2, d3] }
  | _ => none }
def topRoundRow : OpenClaim := { program := "yticmofoeecjnhaagreat", sum := "760b6b1da2a4fb4e496bfbade0355b21d517575b78707825dc5a446702d225e2", func := "braidline/bltop.TopRound", spec := "topRound", inPlace := ["slices.overlaps[braidline/api.Span]"], unfollowed := true, recurses := true, apart := false }
def TopRoundSaid : Prop := topRoundRow.holds Tryz.pinned (OpenSpec.ofChange topRoundSpec)

/-- ITS FALSE NEIGHBOUR: 'it returns false'. Refute it at one input. -/
def topRoundWrong : ChangeSpec := { name := "topRound", fn := fun _ => fun
  | [d1, d2, d3] => { results := [.lit (.bool false)], args := [d1, d2, d3] }
  | _ => none }
def TopRoundWrongFalsely : Prop := topRoundRow.holds Tryz.pinned (OpenSpec.ofChange topRoundWrong)

/- THE SECOND FORM. 'bulk': how many values and letters a reading holds, each counted each time it is reached (what is shared counts as often as it is met; a slice's spare places count too). A statement '..UptoSaid' is the law's where the arguments, and the package variables that the reading takes, are together of bulk at most 1048576: NARROWER than '..Said'. Prove '..Said' where nothing that the law and all that it calls make is longer than what came in: it says more and counts as full. Else prove '..UptoSaid'. A law counts once. -/
mutual
def uptoBulk {H : Type} : DataW H → Nat
  | .lit (.string bytes) => bytes.length + 1
  | .lit _ => 1
  | .nil => 1
  | .ptr d => uptoBulk d + 1
  | .slice elems spare => uptoBulkAll elems + uptoBulkAll spare + 1
  | .agg parts => uptoBulkAll parts + 1
  | .iface _ d => uptoBulk d + 1
  | .map entries => uptoBulkEntries entries + 1
  | .held _ => 1
def uptoBulkAll {H : Type} : List (DataW H) → Nat
  | [] => 0
  | d :: r => uptoBulk d + uptoBulkAll r
def uptoBulkEntries {H : Type} : List (Lit × DataW H) → Nat
  | [] => 0
  | x :: r => uptoBulkEntry x + uptoBulkEntries r
def uptoBulkEntry {H : Type} : Lit × DataW H → Nat
  | (.string bytes, d) => bytes.length + uptoBulk d + 1
  | (_, d) => uptoBulk d + 1
 end
def uptoSmall : (H : Type) → List (DataW H) → Bool := fun _ ds => decide (uptoBulkAll ds ≤ 1048576)
def OpenSpec.upto (s : _root_.Go.ChangeSpec) : _root_.Go.OpenSpec := { _root_.Go.OpenSpec.ofChange s with cond := some uptoSmall }

/-- 'bltop.TopRank', WHERE WHAT IT READS IS OF BULK AT MOST 1048576: true; the input reads as it did. -/
def topRankUptoRow : OpenClaim := { program := "yticmofoeecjnhaagreat", sum := "760b6b1da2a4fb4e496bfbade0355b21d517575b78707825dc5a446702d225e2", func := "braidline/bltop.TopRank", spec := "topRank", inPlace := ["slices.overlaps[braidline/api.Span]"], unfollowed := true, recurses := true, apart := false, narrowed := true }
def TopRankUptoSaid : Prop := topRankUptoRow.holds Tryz.pinned (OpenSpec.upto topRankSpec)

/-- 'bltop.TopFirst', WHERE WHAT IT READS IS OF BULK AT MOST 1048576: true; the input reads as it did. -/
def topFirstUptoRow : OpenClaim := { program := "yticmofoeecjnhaagreat", sum := "760b6b1da2a4fb4e496bfbade0355b21d517575b78707825dc5a446702d225e2", func := "braidline/bltop.TopFirst", spec := "topFirst", inPlace := ["slices.overlaps[braidline/api.Span]"], unfollowed := true, recurses := true, apart := false, narrowed := true }
def TopFirstUptoSaid : Prop := topFirstUptoRow.holds Tryz.pinned (OpenSpec.upto topFirstSpec)

/-- 'bllaw9.SenderTells', WHERE WHAT IT READS IS OF BULK AT MOST 1048576: true; the input reads as it did. -/
def senderTellsUptoRow : OpenClaim := { program := "yticmofoeecjnhaagreat", sum := "760b6b1da2a4fb4e496bfbade0355b21d517575b78707825dc5a446702d225e2", func := "braidline/bllaw9.SenderTells", spec := "senderTells", unfollowed := true, recurses := true, apart := false, narrowed := true }
def SenderTellsUptoSaid : Prop := senderTellsUptoRow.holds Tryz.pinned (OpenSpec.upto senderTellsSpec)

/-- 'bllaw9.SenderFlight', WHERE WHAT IT READS IS OF BULK AT MOST 1048576: true; the input reads as it did. -/
def senderFlightUptoRow : OpenClaim := { program := "yticmofoeecjnhaagreat", sum := "760b6b1da2a4fb4e496bfbade0355b21d517575b78707825dc5a446702d225e2", func := "braidline/bllaw9.SenderFlight", spec := "senderFlight", unfollowed := true, recurses := true, apart := false, narrowed := true }
def SenderFlightUptoSaid : Prop := senderFlightUptoRow.holds Tryz.pinned (OpenSpec.upto senderFlightSpec)

/-- 'bllaw11.FairTells', WHERE WHAT IT READS IS OF BULK AT MOST 1048576: true; the input reads as it did. -/
def fairTellsUptoRow : OpenClaim := { program := "yticmofoeecjnhaagreat", sum := "760b6b1da2a4fb4e496bfbade0355b21d517575b78707825dc5a446702d225e2", func := "braidline/bllaw11.FairTells", spec := "fairTells", inPlace := ["slices.overlaps[braidline/api.Span]"], unfollowed := true, recurses := true, apart := false, narrowed := true }
def FairTellsUptoSaid : Prop := fairTellsUptoRow.holds Tryz.pinned (OpenSpec.upto fairTellsSpec)

/-- 'bllaw11.FairEnds', WHERE WHAT IT READS IS OF BULK AT MOST 1048576: true; the input reads as it did. -/
def fairEndsUptoRow : OpenClaim := { program := "yticmofoeecjnhaagreat", sum := "760b6b1da2a4fb4e496bfbade0355b21d517575b78707825dc5a446702d225e2", func := "braidline/bllaw11.FairEnds", spec := "fairEnds", inPlace := ["slices.overlaps[braidline/api.Span]"], unfollowed := true, recurses := true, apart := false, narrowed := true }
def FairEndsUptoSaid : Prop := fairEndsUptoRow.holds Tryz.pinned (OpenSpec.upto fairEndsSpec)

/-- 'bllaw11.FairAll', WHERE WHAT IT READS IS OF BULK AT MOST 1048576: true; the input reads as it did. -/
def fairAllUptoRow : OpenClaim := { program := "yticmofoeecjnhaagreat", sum := "760b6b1da2a4fb4e496bfbade0355b21d517575b78707825dc5a446702d225e2", func := "braidline/bllaw11.FairAll", spec := "fairAll", inPlace := ["slices.overlaps[braidline/api.Span]"], unfollowed := true, recurses := true, apart := false, narrowed := true }
def FairAllUptoSaid : Prop := fairAllUptoRow.holds Tryz.pinned (OpenSpec.upto fairAllSpec)

/-- 'bllaw10.LineTells', WHERE WHAT IT READS IS OF BULK AT MOST 1048576: true; the input reads as it did. -/
def lineTellsUptoRow : OpenClaim := { program := "yticmofoeecjnhaagreat", sum := "760b6b1da2a4fb4e496bfbade0355b21d517575b78707825dc5a446702d225e2", func := "braidline/bllaw10.LineTells", spec := "lineTells", inPlace := ["slices.overlaps[braidline/api.Span]"], unfollowed := true, recurses := true, apart := false, narrowed := true }
def LineTellsUptoSaid : Prop := lineTellsUptoRow.holds Tryz.pinned (OpenSpec.upto lineTellsSpec)

/-- 'bllaw10.LineOnce', WHERE WHAT IT READS IS OF BULK AT MOST 1048576: true; the input reads as it did. -/
def lineOnceUptoRow : OpenClaim := { program := "yticmofoeecjnhaagreat", sum := "760b6b1da2a4fb4e496bfbade0355b21d517575b78707825dc5a446702d225e2", func := "braidline/bllaw10.LineOnce", spec := "lineOnce", inPlace := ["slices.overlaps[braidline/api.Span]"], unfollowed := true, recurses := true, apart := false, narrowed := true }
def LineOnceUptoSaid : Prop := lineOnceUptoRow.holds Tryz.pinned (OpenSpec.upto lineOnceSpec)

/-- 'bllaw10.LineFates', WHERE WHAT IT READS IS OF BULK AT MOST 1048576: true; the input reads as it did. -/
def lineFatesUptoRow : OpenClaim := { program := "yticmofoeecjnhaagreat", sum := "760b6b1da2a4fb4e496bfbade0355b21d517575b78707825dc5a446702d225e2", func := "braidline/bllaw10.LineFates", spec := "lineFates", inPlace := ["slices.overlaps[braidline/api.Span]"], unfollowed := true, recurses := true, apart := false, narrowed := true }
def LineFatesUptoSaid : Prop := lineFatesUptoRow.holds Tryz.pinned (OpenSpec.upto lineFatesSpec)

/-- 'bllaw10.LineParts', WHERE WHAT IT READS IS OF BULK AT MOST 1048576: true; the input reads as it did. -/
def linePartsUptoRow : OpenClaim := { program := "yticmofoeecjnhaagreat", sum := "760b6b1da2a4fb4e496bfbade0355b21d517575b78707825dc5a446702d225e2", func := "braidline/bllaw10.LineParts", spec := "lineParts", inPlace := ["slices.overlaps[braidline/api.Span]"], unfollowed := true, recurses := true, apart := false, narrowed := true }
def LinePartsUptoSaid : Prop := linePartsUptoRow.holds Tryz.pinned (OpenSpec.upto linePartsSpec)

/-- 'bllaw12.LedgerTells', WHERE WHAT IT READS IS OF BULK AT MOST 1048576: true; the input reads as it did. -/
def ledgerTellsUptoRow : OpenClaim := { program := "yticmofoeecjnhaagreat", sum := "760b6b1da2a4fb4e496bfbade0355b21d517575b78707825dc5a446702d225e2", func := "braidline/bllaw12.LedgerTells", spec := "ledgerTells", inPlace := ["slices.overlaps[braidline/api.Span]"], unfollowed := true, recurses := true, apart := false, narrowed := true }
def LedgerTellsUptoSaid : Prop := ledgerTellsUptoRow.holds Tryz.pinned (OpenSpec.upto ledgerTellsSpec)

/-- 'bllaw12.LedgerRight', WHERE WHAT IT READS IS OF BULK AT MOST 1048576: true; the input reads as it did. -/
def ledgerRightUptoRow : OpenClaim := { program := "yticmofoeecjnhaagreat", sum := "760b6b1da2a4fb4e496bfbade0355b21d517575b78707825dc5a446702d225e2", func := "braidline/bllaw12.LedgerRight", spec := "ledgerRight", inPlace := ["slices.overlaps[braidline/api.Span]"], unfollowed := true, recurses := true, apart := false, narrowed := true }
def LedgerRightUptoSaid : Prop := ledgerRightUptoRow.holds Tryz.pinned (OpenSpec.upto ledgerRightSpec)

/-- 'bllaw12.LedgerBent', WHERE WHAT IT READS IS OF BULK AT MOST 1048576: true; the input reads as it did. -/
def ledgerBentUptoRow : OpenClaim := { program := "yticmofoeecjnhaagreat", sum := "760b6b1da2a4fb4e496bfbade0355b21d517575b78707825dc5a446702d225e2", func := "braidline/bllaw12.LedgerBent", spec := "ledgerBent", inPlace := ["slices.overlaps[braidline/api.Span]"], unfollowed := true, recurses := true, apart := false, narrowed := true }
def LedgerBentUptoSaid : Prop := ledgerBentUptoRow.holds Tryz.pinned (OpenSpec.upto ledgerBentSpec)

/-- 'bltop.TopLate', WHERE WHAT IT READS IS OF BULK AT MOST 1048576: true; the input reads as it did. -/
def topLateUptoRow : OpenClaim := { program := "yticmofoeecjnhaagreat", sum := "760b6b1da2a4fb4e496bfbade0355b21d517575b78707825dc5a446702d225e2", func := "braidline/bltop.TopLate", spec := "topLate", inPlace := ["slices.overlaps[braidline/api.Span]"], unfollowed := true, recurses := true, apart := false, narrowed := true }
def TopLateUptoSaid : Prop := topLateUptoRow.holds Tryz.pinned (OpenSpec.upto topLateSpec)

/-- 'bltop.TopPaths', WHERE WHAT IT READS IS OF BULK AT MOST 1048576: true; the input reads as it did. -/
def topPathsUptoRow : OpenClaim := { program := "yticmofoeecjnhaagreat", sum := "760b6b1da2a4fb4e496bfbade0355b21d517575b78707825dc5a446702d225e2", func := "braidline/bltop.TopPaths", spec := "topPaths", inPlace := ["slices.overlaps[braidline/api.Span]"], unfollowed := true, recurses := true, apart := false, narrowed := true }
def TopPathsUptoSaid : Prop := topPathsUptoRow.holds Tryz.pinned (OpenSpec.upto topPathsSpec)

/-- 'bltop.TopRound', WHERE WHAT IT READS IS OF BULK AT MOST 1048576: true; the input reads as it did. -/
def topRoundUptoRow : OpenClaim := { program := "yticmofoeecjnhaagreat", sum := "760b6b1da2a4fb4e496bfbade0355b21d517575b78707825dc5a446702d225e2", func := "braidline/bltop.TopRound", spec := "topRound", inPlace := ["slices.overlaps[braidline/api.Span]"], unfollowed := true, recurses := true, apart := false, narrowed := true }
def TopRoundUptoSaid : Prop := topRoundUptoRow.holds Tryz.pinned (OpenSpec.upto topRoundSpec)

end Rows
end Go.Proofs.YticmofoeecjnhaaGreat
