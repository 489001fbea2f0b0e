/-
  No cell of these rows narrows 'for every input' (looked for: loops, veiled, ifaces, maps, wideKeys, modest, calm, conditions, laid).
  DERIVED. THE GIVEN ROWS OF THIS SEAT. 4 by the template 'for every input the law returns true; each argument reads behind the call as it read before'; 0 by the template 'total and deterministic' (their statements: YticmofoeecjnhaaTotals.lean).
  GIVEN WITH THE SEED: the statements are not yours to turn. If you find one false, say at which input.
  Laid BY PROGRAM, IN A SANDBOX (cutbox-rows.mjs): the forced cells as the released guide's own fill.sh prints them over the translation a0124eeb92fdcdd6… (all of the seat's roots in one cut). By AI agents, Wed Nov 11 2026. No macro, syntax, notation, axiom, sorry.
-/
import Derived.Test.YticmofoeecjnhaaChecked
import GoSem.Claim
import GoSem.ClaimJoined
import GoSem.ClaimMapViews
import Derived.JoinedTies
import Derived.KernelRfl
namespace Go.Proofs.Yticmofoeecjnhaa
/- THE CELL 'sum', in the pinned program and in every row, IS THE sha256 OF THE DUMP (.gsa) THAT YticmofoeecjnhaaProg.lean LOADS. Nothing in Lean hashes anything: it is a label: what it is worth is what the hold of that sum in a sandbox is worth. -/
noncomputable def Try.pinned : Pinned := { name := "yticmofoeecjnhaa", sum := "a0124eeb92fdcdd612c5d261d4b3e578d0e8772b49bbd55590a6ddd5554b8fc2", checked := Try.checked }
namespace Rows
def none {H : Type} : Left H := { results := [], args := [] }

/-- 'bllaw8.ReceiveTells': WHATEVER THE INPUT: true; the input reads as it did. -/
def receiveTellsSpec : ChangeSpec := { name := "receiveTells", fn := fun _ => fun
  | [d1, d2, d3] => { results := [.lit (.bool true)], args := [d1, d2, d3] }
  | _ => none }
def receiveTellsRow : OpenClaim := { program := "yticmofoeecjnhaa", sum := "a0124eeb92fdcdd612c5d261d4b3e578d0e8772b49bbd55590a6ddd5554b8fc2", func := "braidline/bllaw8.ReceiveTells", spec := "receiveTells", inPlace := ["slices.overlaps[braidline/api.Span]"], unfollowed := true, recurses := true, apart := false }
def ReceiveTellsSaid : Prop := receiveTellsRow.holds Try.pinned (OpenSpec.ofChange receiveTellsSpec)

/-- ITS FALSE NEIGHBOUR: 'it returns false'. Refute it at one input. -/
def receiveTellsWrong : ChangeSpec := { name := "receiveTells", fn := fun _ => fun
  | [d1, d2, d3] => { results := [.lit (.bool false)], args := [d1, d2, d3] }
  | _ => none }
def ReceiveTellsWrongFalsely : Prop := receiveTellsRow.holds Try.pinned (OpenSpec.ofChange receiveTellsWrong)

/-- 'bllaw8.ReceiveTwice': WHATEVER THE INPUT: true; the input reads as it did. -/
def receiveTwiceSpec : ChangeSpec := { name := "receiveTwice", fn := fun _ => fun
  | [d1, d2] => { results := [.lit (.bool true)], args := [d1, d2] }
  | _ => none }
def receiveTwiceRow : OpenClaim := { program := "yticmofoeecjnhaa", sum := "a0124eeb92fdcdd612c5d261d4b3e578d0e8772b49bbd55590a6ddd5554b8fc2", func := "braidline/bllaw8.ReceiveTwice", spec := "receiveTwice", inPlace := ["slices.overlaps[braidline/api.Span]"], unfollowed := true, recurses := true, apart := false }
def ReceiveTwiceSaid : Prop := receiveTwiceRow.holds Try.pinned (OpenSpec.ofChange receiveTwiceSpec)

/-- ITS FALSE NEIGHBOUR: 'it returns false'. Refute it at one input. -/
def receiveTwiceWrong : ChangeSpec := { name := "receiveTwice", fn := fun _ => fun
  | [d1, d2] => { results := [.lit (.bool false)], args := [d1, d2] }
  | _ => none }
def ReceiveTwiceWrongFalsely : Prop := receiveTwiceRow.holds Try.pinned (OpenSpec.ofChange receiveTwiceWrong)

/-- 'bllaw8.ReceiveOrder': WHATEVER THE INPUT: true; the input reads as it did. -/
def receiveOrderSpec : ChangeSpec := { name := "receiveOrder", fn := fun _ => fun
  | [d1, d2, d3] => { results := [.lit (.bool true)], args := [d1, d2, d3] }
  | _ => none }
def receiveOrderRow : OpenClaim := { program := "yticmofoeecjnhaa", sum := "a0124eeb92fdcdd612c5d261d4b3e578d0e8772b49bbd55590a6ddd5554b8fc2", func := "braidline/bllaw8.ReceiveOrder", spec := "receiveOrder", inPlace := ["slices.overlaps[braidline/api.Span]"], unfollowed := true, recurses := true, apart := false }
def ReceiveOrderSaid : Prop := receiveOrderRow.holds Try.pinned (OpenSpec.ofChange receiveOrderSpec)

/-- ITS FALSE NEIGHBOUR: 'it returns false'. Refute it at one input. -/
def receiveOrderWrong : ChangeSpec := { name := "receiveOrder", fn := fun _ => fun
  | [d1, d2, d3] => { results := [.lit (.bool false)], args := [d1, d2, d3] }
  | _ => none }
def ReceiveOrderWrongFalsely : Prop := receiveOrderRow.holds Try.pinned (OpenSpec.ofChange receiveOrderWrong)

/-- 'bllaw9.SenderKeeps': WHATEVER THE INPUT: true; the input reads as it did. -/
def senderKeepsSpec : ChangeSpec := { name := "senderKeeps", fn := fun _ => fun
  | [d1, d2] => { results := [.lit (.bool true)], args := [d1, d2] }
  | _ => none }
def senderKeepsRow : OpenClaim := { program := "yticmofoeecjnhaa", sum := "a0124eeb92fdcdd612c5d261d4b3e578d0e8772b49bbd55590a6ddd5554b8fc2", func := "braidline/bllaw9.SenderKeeps", spec := "senderKeeps", unfollowed := true, recurses := true, apart := false }
def SenderKeepsSaid : Prop := senderKeepsRow.holds Try.pinned (OpenSpec.ofChange senderKeepsSpec)

/-- ITS FALSE NEIGHBOUR: 'it returns false'. Refute it at one input. -/
def senderKeepsWrong : ChangeSpec := { name := "senderKeeps", fn := fun _ => fun
  | [d1, d2] => { results := [.lit (.bool false)], args := [d1, d2] }
  | _ => none }
def SenderKeepsWrongFalsely : Prop := senderKeepsRow.holds Try.pinned (OpenSpec.ofChange senderKeepsWrong)

/- THE SECOND FORM. 'bulk': how many values and letters a reading holds, each counted each time it is reached (what is shared counts as often as it is met; a slice's spare places count too). A statement '..UptoSaid' is the law's where the arguments, and the package variables that the reading takes, are together of bulk at most 1048576: NARROWER than '..Said'. Prove '..Said' where nothing that the law and all that it calls make is longer than what came in: it says more and counts as full. Else prove '..UptoSaid'. A law counts once. -/
mutual
def uptoBulk {H : Type} : DataW H → Nat
  | .lit (.string bytes) => bytes.length + 1
  | .lit _ => 1
  | .nil => 1
  | .ptr d => uptoBulk d + 1
  | .slice elems spare => uptoBulkAll elems + uptoBulkAll spare + 1
  | .agg parts => uptoBulkAll parts + 1
  | .iface _ d => uptoBulk d + 1
  | .map entries => uptoBulkEntries entries + 1
  | .held _ => 1
def uptoBulkAll {H : Type} : List (DataW H) → Nat
  | [] => 0
  | d :: r => uptoBulk d + uptoBulkAll r
def uptoBulkEntries {H : Type} : List (Lit × DataW H) → Nat
  | [] => 0
  | x :: r => uptoBulkEntry x + uptoBulkEntries r
def uptoBulkEntry {H : Type} : Lit × DataW H → Nat
  | (.string bytes, d) => bytes.length + uptoBulk d + 1
  | (_, d) => uptoBulk d + 1
 end
def uptoSmall : (H : Type) → List (DataW H) → Bool := fun _ ds => decide (uptoBulkAll ds ≤ 1048576)
def OpenSpec.upto (s : _root_.Go.ChangeSpec) : _root_.Go.OpenSpec := { _root_.Go.OpenSpec.ofChange s with cond := some uptoSmall }

/-- 'bllaw8.ReceiveTells', WHERE WHAT IT READS IS OF BULK AT MOST 1048576: true; the input reads as it did. -/
def receiveTellsUptoRow : OpenClaim := { program := "yticmofoeecjnhaa", sum := "a0124eeb92fdcdd612c5d261d4b3e578d0e8772b49bbd55590a6ddd5554b8fc2", func := "braidline/bllaw8.ReceiveTells", spec := "receiveTells", inPlace := ["slices.overlaps[braidline/api.Span]"], unfollowed := true, recurses := true, apart := false, narrowed := true }
def ReceiveTellsUptoSaid : Prop := receiveTellsUptoRow.holds Try.pinned (OpenSpec.upto receiveTellsSpec)

/-- 'bllaw8.ReceiveTwice', WHERE WHAT IT READS IS OF BULK AT MOST 1048576: true; the input reads as it did. -/
def receiveTwiceUptoRow : OpenClaim := { program := "yticmofoeecjnhaa", sum := "a0124eeb92fdcdd612c5d261d4b3e578d0e8772b49bbd55590a6ddd5554b8fc2", func := "braidline/bllaw8.ReceiveTwice", spec := "receiveTwice", inPlace := ["slices.overlaps[braidline/api.Span]"], unfollowed := true, recurses := true, apart := false, narrowed := true }
def ReceiveTwiceUptoSaid : Prop := receiveTwiceUptoRow.holds Try.pinned (OpenSpec.upto receiveTwiceSpec)

/-- 'bllaw8.ReceiveOrder', WHERE WHAT IT READS IS OF BULK AT MOST 1048576: true; the input reads as it did. -/
def receiveOrderUptoRow : OpenClaim := { program := "yticmofoeecjnhaa", sum := "a0124eeb92fdcdd612c5d261d4b3e578d0e8772b49bbd55590a6ddd5554b8fc2", func := "braidline/bllaw8.ReceiveOrder", spec := "receiveOrder", inPlace := ["slices.overlaps[braidline/api.Span]"], unfollowed := true, recurses := true, apart := false, narrowed := true }
def ReceiveOrderUptoSaid : Prop := receiveOrderUptoRow.holds Try.pinned (OpenSpec.upto receiveOrderSpec)

/-- 'bllaw9.SenderKeeps', WHERE WHAT IT READS IS OF BULK AT MOST 1048576: true; the input reads as it did. -/
def senderKeepsUptoRow : OpenClaim := { program := "yticmofoeecjnhaa", sum := "a0124eeb92fdcdd612c5d261d4b3e578d0e8772b49bbd55590a6ddd5554b8fc2", func := "braidline/bllaw9.SenderKeeps", spec := "senderKeeps", unfollowed := true, recurses := true, apart := false, narrowed := true }
def SenderKeepsUptoSaid : Prop := senderKeepsUptoRow.holds Try.pinned (OpenSpec.upto senderKeepsSpec)

end Rows
end Go.Proofs.Yticmofoeecjnhaa
