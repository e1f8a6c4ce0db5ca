/-
  No cell of these rows narrows 'for every input' (looked for: loops, veiled, ifaces, maps, wideKeys, modest, calm, conditions, laid).
  DERIVED. THE GIVEN ROWS OF THIS SEAT. 6 by the template 'for every input the law returns true; each argument reads behind the call as it read before'; 0 by the template 'total and deterministic' (their statements: YtnbehgmfdigknaaTotals.lean).
  GIVEN WITH THE SEED: the statements are not yours to turn. If you find one false, say at which input.
  Laid BY PROGRAM, IN A SANDBOX (cutbox-rows.mjs): the forced cells as the released guide's own fill.sh prints them over the translation b4015142cc7a1c74… (all of the seat's roots in one cut). By AI agents, Wed Nov 11 2026. No macro, syntax, notation, axiom, sorry.
-/
import Derived.Test.YtnbehgmfdigknaaChecked
import GoSem.Claim
import GoSem.ClaimJoined
import GoSem.ClaimMapViews
import Derived.JoinedTies
import Derived.KernelRfl
namespace Go.Proofs.Ytnbehgmfdigknaa
/- THE CELL 'sum', in the pinned program and in every row, IS THE sha256 OF THE DUMP (.gsa) THAT YtnbehgmfdigknaaProg.lean LOADS. Nothing in Lean hashes anything: it is a label: what it is worth is what the hold of that sum in a sandbox is worth. -/
noncomputable def Try.pinned : Pinned := { name := "ytnbehgmfdigknaa", sum := "b4015142cc7a1c74cfe5814fadd3b4312e829e14f67ba4152a6832313fd0d077", checked := Try.checked }
namespace Rows
def none {H : Type} : Left H := { results := [], args := [] }

/-- 'laws.FnExactRotationsIn': WHATEVER THE INPUT: true; the input reads as it did. -/
def fnExactRotationsInSpec : ChangeSpec := { name := "fnExactRotationsIn", fn := fun _ => fun
  | [d1, d2] => { results := [.lit (.bool true)], args := [d1, d2] }
  | _ => none }
def fnExactRotationsInRow : OpenClaim := { program := "ytnbehgmfdigknaa", sum := "b4015142cc7a1c74cfe5814fadd3b4312e829e14f67ba4152a6832313fd0d077", func := "loop.example/g03202/laws.FnExactRotationsIn", spec := "fnExactRotationsIn", unfollowed := true, recurses := true, apart := false }
def FnExactRotationsInSaid : Prop := fnExactRotationsInRow.holds Try.pinned (OpenSpec.ofChange fnExactRotationsInSpec)

/-- ITS FALSE NEIGHBOUR: 'it returns false'. Refute it at one input. -/
def fnExactRotationsInWrong : ChangeSpec := { name := "fnExactRotationsIn", fn := fun _ => fun
  | [d1, d2] => { results := [.lit (.bool false)], args := [d1, d2] }
  | _ => none }
def FnExactRotationsInWrongFalsely : Prop := fnExactRotationsInRow.holds Try.pinned (OpenSpec.ofChange fnExactRotationsInWrong)

/-- 'laws.FnExactPartnersOf': WHATEVER THE INPUT: true; the input reads as it did. -/
def fnExactPartnersOfSpec : ChangeSpec := { name := "fnExactPartnersOf", fn := fun _ => fun
  | [d1, d2] => { results := [.lit (.bool true)], args := [d1, d2] }
  | _ => none }
def fnExactPartnersOfRow : OpenClaim := { program := "ytnbehgmfdigknaa", sum := "b4015142cc7a1c74cfe5814fadd3b4312e829e14f67ba4152a6832313fd0d077", func := "loop.example/g03202/laws.FnExactPartnersOf", spec := "fnExactPartnersOf", unfollowed := true, recurses := true, apart := false }
def FnExactPartnersOfSaid : Prop := fnExactPartnersOfRow.holds Try.pinned (OpenSpec.ofChange fnExactPartnersOfSpec)

/-- ITS FALSE NEIGHBOUR: 'it returns false'. Refute it at one input. -/
def fnExactPartnersOfWrong : ChangeSpec := { name := "fnExactPartnersOf", fn := fun _ => fun
  | [d1, d2] => { results := [.lit (.bool false)], args := [d1, d2] }
  | _ => none }
def FnExactPartnersOfWrongFalsely : Prop := fnExactPartnersOfRow.holds Try.pinned (OpenSpec.ofChange fnExactPartnersOfWrong)

/-- 'laws.FnExactTurnRotation': WHATEVER THE INPUT: true; the input reads as it did. -/
def fnExactTurnRotationSpec : ChangeSpec := { name := "fnExactTurnRotation", fn := fun _ => fun
  | [d1, d2, d3] => { results := [.lit (.bool true)], args := [d1, d2, d3] }
  | _ => none }
def fnExactTurnRotationRow : OpenClaim := { program := "ytnbehgmfdigknaa", sum := "b4015142cc7a1c74cfe5814fadd3b4312e829e14f67ba4152a6832313fd0d077", func := "loop.example/g03202/laws.FnExactTurnRotation", spec := "fnExactTurnRotation", unfollowed := true, recurses := true, apart := false }
def FnExactTurnRotationSaid : Prop := fnExactTurnRotationRow.holds Try.pinned (OpenSpec.ofChange fnExactTurnRotationSpec)

/-- ITS FALSE NEIGHBOUR: 'it returns false'. Refute it at one input. -/
def fnExactTurnRotationWrong : ChangeSpec := { name := "fnExactTurnRotation", fn := fun _ => fun
  | [d1, d2, d3] => { results := [.lit (.bool false)], args := [d1, d2, d3] }
  | _ => none }
def FnExactTurnRotationWrongFalsely : Prop := fnExactTurnRotationRow.holds Try.pinned (OpenSpec.ofChange fnExactTurnRotationWrong)

/-- 'laws.FnExactCalmMatching': WHATEVER THE INPUT: true; the input reads as it did. -/
def fnExactCalmMatchingSpec : ChangeSpec := { name := "fnExactCalmMatching", fn := fun _ => fun
  | [d] => { results := [.lit (.bool true)], args := [d] }
  | _ => none }
def fnExactCalmMatchingRow : OpenClaim := { program := "ytnbehgmfdigknaa", sum := "b4015142cc7a1c74cfe5814fadd3b4312e829e14f67ba4152a6832313fd0d077", func := "loop.example/g03202/laws.FnExactCalmMatching", spec := "fnExactCalmMatching", unfollowed := true, recurses := true, apart := false }
def FnExactCalmMatchingSaid : Prop := fnExactCalmMatchingRow.holds Try.pinned (OpenSpec.ofChange fnExactCalmMatchingSpec)

/-- ITS FALSE NEIGHBOUR: 'it returns false'. Refute it at one input. -/
def fnExactCalmMatchingWrong : ChangeSpec := { name := "fnExactCalmMatching", fn := fun _ => fun
  | [d] => { results := [.lit (.bool false)], args := [d] }
  | _ => none }
def FnExactCalmMatchingWrongFalsely : Prop := fnExactCalmMatchingRow.holds Try.pinned (OpenSpec.ofChange fnExactCalmMatchingWrong)

/-- 'laws.FnExactEqualMatching': WHATEVER THE INPUT: true; the input reads as it did. -/
def fnExactEqualMatchingSpec : ChangeSpec := { name := "fnExactEqualMatching", fn := fun _ => fun
  | [d] => { results := [.lit (.bool true)], args := [d] }
  | _ => none }
def fnExactEqualMatchingRow : OpenClaim := { program := "ytnbehgmfdigknaa", sum := "b4015142cc7a1c74cfe5814fadd3b4312e829e14f67ba4152a6832313fd0d077", func := "loop.example/g03202/laws.FnExactEqualMatching", spec := "fnExactEqualMatching", unfollowed := true, recurses := true, apart := false }
def FnExactEqualMatchingSaid : Prop := fnExactEqualMatchingRow.holds Try.pinned (OpenSpec.ofChange fnExactEqualMatchingSpec)

/-- ITS FALSE NEIGHBOUR: 'it returns false'. Refute it at one input. -/
def fnExactEqualMatchingWrong : ChangeSpec := { name := "fnExactEqualMatching", fn := fun _ => fun
  | [d] => { results := [.lit (.bool false)], args := [d] }
  | _ => none }
def FnExactEqualMatchingWrongFalsely : Prop := fnExactEqualMatchingRow.holds Try.pinned (OpenSpec.ofChange fnExactEqualMatchingWrong)

/-- 'laws.FnExactEvenMatching': WHATEVER THE INPUT: true; the input reads as it did. -/
def fnExactEvenMatchingSpec : ChangeSpec := { name := "fnExactEvenMatching", fn := fun _ => fun
  | [d] => { results := [.lit (.bool true)], args := [d] }
  | _ => none }
def fnExactEvenMatchingRow : OpenClaim := { program := "ytnbehgmfdigknaa", sum := "b4015142cc7a1c74cfe5814fadd3b4312e829e14f67ba4152a6832313fd0d077", func := "loop.example/g03202/laws.FnExactEvenMatching", spec := "fnExactEvenMatching", unfollowed := true, recurses := true, apart := false }
def FnExactEvenMatchingSaid : Prop := fnExactEvenMatchingRow.holds Try.pinned (OpenSpec.ofChange fnExactEvenMatchingSpec)

/-- ITS FALSE NEIGHBOUR: 'it returns false'. Refute it at one input. -/
def fnExactEvenMatchingWrong : ChangeSpec := { name := "fnExactEvenMatching", fn := fun _ => fun
  | [d] => { results := [.lit (.bool false)], args := [d] }
  | _ => none }
def FnExactEvenMatchingWrongFalsely : Prop := fnExactEvenMatchingRow.holds Try.pinned (OpenSpec.ofChange fnExactEvenMatchingWrong)

/- THE SECOND FORM. 'bulk': how many values and letters a reading holds, each counted each time it is reached (what is shared counts as often as it is met; a slice's spare places count too). A statement '..UptoSaid' is the law's where the arguments, and the package variables that the reading takes, are together of bulk at most 1048576: NARROWER than '..Said'. Prove '..Said' where nothing that the law and all that it calls make is longer than what came in: it says more and counts as full. Else prove '..UptoSaid'. A law counts once. -/
mutual
def uptoBulk {H : Type} : DataW H → Nat
  | .lit (.string bytes) => bytes.length + 1
  | .lit _ => 1
  | .nil => 1
  | .ptr d => uptoBulk d + 1
  | .slice elems spare => uptoBulkAll elems + uptoBulkAll spare + 1
  | .agg parts => uptoBulkAll parts + 1
  | .iface _ d => uptoBulk d + 1
  | .map entries => uptoBulkEntries entries + 1
  | .held _ => 1
def uptoBulkAll {H : Type} : List (DataW H) → Nat
  | [] => 0
  | d :: r => uptoBulk d + uptoBulkAll r
def uptoBulkEntries {H : Type} : List (Lit × DataW H) → Nat
  | [] => 0
  | x :: r => uptoBulkEntry x + uptoBulkEntries r
def uptoBulkEntry {H : Type} : Lit × DataW H → Nat
  | (.string bytes, d) => bytes.length + uptoBulk d + 1
  | (_, d) => uptoBulk d + 1
 end
def uptoSmall : (H : Type) → List (DataW H) → Bool := fun _ ds => decide (uptoBulkAll ds ≤ 1048576)
def OpenSpec.upto (s : _root_.Go.ChangeSpec) : _root_.Go.OpenSpec := { _root_.Go.OpenSpec.ofChange s with cond := some uptoSmall }

/-- 'laws.FnExactRotationsIn', WHERE WHAT IT READS IS OF BULK AT MOST 1048576: true; the input reads as it did. -/
def fnExactRotationsInUptoRow : OpenClaim := { program := "ytnbehgmfdigknaa", sum := "b4015142cc7a1c74cfe5814fadd3b4312e829e14f67ba4152a6832313fd0d077", func := "loop.example/g03202/laws.FnExactRotationsIn", spec := "fnExactRotationsIn", unfollowed := true, recurses := true, apart := false, narrowed := true }
def FnExactRotationsInUptoSaid : Prop := fnExactRotationsInUptoRow.holds Try.pinned (OpenSpec.upto fnExactRotationsInSpec)

/-- 'laws.FnExactPartnersOf', WHERE WHAT IT READS IS OF BULK AT MOST 1048576: true; the input reads as it did. -/
def fnExactPartnersOfUptoRow : OpenClaim := { program := "ytnbehgmfdigknaa", sum := "b4015142cc7a1c74cfe5814fadd3b4312e829e14f67ba4152a6832313fd0d077", func := "loop.example/g03202/laws.FnExactPartnersOf", spec := "fnExactPartnersOf", unfollowed := true, recurses := true, apart := false, narrowed := true }
def FnExactPartnersOfUptoSaid : Prop := fnExactPartnersOfUptoRow.holds Try.pinned (OpenSpec.upto fnExactPartnersOfSpec)

/-- 'laws.FnExactTurnRotation', WHERE WHAT IT READS IS OF BULK AT MOST 1048576: true; the input reads as it did. -/
def fnExactTurnRotationUptoRow : OpenClaim := { program := "ytnbehgmfdigknaa", sum := "b4015142cc7a1c74cfe5814fadd3b4312e829e14f67ba4152a6832313fd0d077", func := "loop.example/g03202/laws.FnExactTurnRotation", spec := "fnExactTurnRotation", unfollowed := true, recurses := true, apart := false, narrowed := true }
def FnExactTurnRotationUptoSaid : Prop := fnExactTurnRotationUptoRow.holds Try.pinned (OpenSpec.upto fnExactTurnRotationSpec)

/-- 'laws.FnExactCalmMatching', WHERE WHAT IT READS IS OF BULK AT MOST 1048576: true; the input reads as it did. -/
def fnExactCalmMatchingUptoRow : OpenClaim := { program := "ytnbehgmfdigknaa", sum := "b4015142cc7a1c74cfe5814fadd3b4312e829e14f67ba4152a6832313fd0d077", func := "loop.example/g03202/laws.FnExactCalmMatching", spec := "fnExactCalmMatching", unfollowed := true, recurses := true, apart := false, narrowed := true }
def FnExactCalmMatchingUptoSaid : Prop := fnExactCalmMatchingUptoRow.holds Try.pinned (OpenSpec.upto fnExactCalmMatchingSpec)

/-- 'laws.FnExactEqualMatching', WHERE WHAT IT READS IS OF BULK AT MOST 1048576: true; the input reads as it did. -/
def fnExactEqualMatchingUptoRow : OpenClaim := { program := "ytnbehgmfdigknaa", sum := "b4015142cc7a1c74cfe5814fadd3b4312e829e14f67ba4152a6832313fd0d077", func := "loop.example/g03202/laws.FnExactEqualMatching", spec := "fnExactEqualMatching", unfollowed := true, recurses := true, apart := false, narrowed := true }
def FnExactEqualMatchingUptoSaid : Prop := fnExactEqualMatchingUptoRow.holds Try.pinned (OpenSpec.upto fnExactEqualMatchingSpec)

/-- 'laws.FnExactEvenMatching', WHERE WHAT IT READS IS OF BULK AT MOST 1048576: true; the input reads as it did. -/
def fnExactEvenMatchingUptoRow : OpenClaim := { program := "ytnbehgmfdigknaa", sum := "b4015142cc7a1c74cfe5814fadd3b4312e829e14f67ba4152a6832313fd0d077", func := "loop.example/g03202/laws.FnExactEvenMatching", spec := "fnExactEvenMatching", unfollowed := true, recurses := true, apart := false, narrowed := true }
def FnExactEvenMatchingUptoSaid : Prop := fnExactEvenMatchingUptoRow.holds Try.pinned (OpenSpec.upto fnExactEvenMatchingSpec)

end Rows
end Go.Proofs.Ytnbehgmfdigknaa
