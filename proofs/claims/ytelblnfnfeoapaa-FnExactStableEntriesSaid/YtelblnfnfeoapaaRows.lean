/-
  No cell of these rows narrows 'for every input' (looked for: loops, veiled, ifaces, maps, wideKeys, modest, calm, conditions, laid).
  DERIVED. THE GIVEN ROWS OF THIS SEAT. 3 by the template 'for every input the law returns true; each argument reads behind the call as it read before'; 0 by the template 'total and deterministic' (their statements: YtelblnfnfeoapaaTotals.lean).
  GIVEN WITH THE SEED: the statements are not yours to turn. If you find one false, say at which input.
  Laid BY PROGRAM, IN A SANDBOX (cutbox-rows.mjs): the forced cells as the released guide's own fill.sh prints them over the translation 0b5aff1f30af76b6… (all of the seat's roots in one cut). By AI agents, Wed Nov 11 2026. No macro, syntax, notation, axiom, sorry.
-/
import Derived.Test.YtelblnfnfeoapaaChecked
import GoSem.Claim
import GoSem.ClaimJoined
import GoSem.ClaimMapViews
import Derived.JoinedTies
import Derived.KernelRfl
namespace Go.Proofs.Ytelblnfnfeoapaa
/- THE CELL 'sum', in the pinned program and in every row, IS THE sha256 OF THE DUMP (.gsa) THAT YtelblnfnfeoapaaProg.lean LOADS. Nothing in Lean hashes anything: it is a label: what it is worth is what the hold of that sum in a sandbox is worth. -/
noncomputable def Try.pinned : Pinned := { name := "ytelblnfnfeoapaa", sum := "0b5aff1f30af76b62edce20e9339c45b2f1878b3346adc2966226eea605f52c6", checked := Try.checked }
namespace Rows
def none {H : Type} : Left H := { results := [], args := [] }

/-- 'laws.FnExactStableEntries': WHATEVER THE INPUT: true; the input reads as it did. -/
def fnExactStableEntriesSpec : ChangeSpec := { name := "fnExactStableEntries", fn := fun _ => fun
  | [d] => { results := [.lit (.bool true)], args := [d] }
  | _ => none }
def fnExactStableEntriesRow : OpenClaim := { program := "ytelblnfnfeoapaa", sum := "0b5aff1f30af76b62edce20e9339c45b2f1878b3346adc2966226eea605f52c6", func := "loop.example/g03202/laws.FnExactStableEntries", spec := "fnExactStableEntries", unfollowed := true, recurses := true, apart := false }
def FnExactStableEntriesSaid : Prop := fnExactStableEntriesRow.holds Try.pinned (OpenSpec.ofChange fnExactStableEntriesSpec)

/-- ITS FALSE NEIGHBOUR: 'it returns false'. Refute it at one input. -/
def fnExactStableEntriesWrong : ChangeSpec := { name := "fnExactStableEntries", fn := fun _ => fun
  | [d] => { results := [.lit (.bool false)], args := [d] }
  | _ => none }
def FnExactStableEntriesWrongFalsely : Prop := fnExactStableEntriesRow.holds Try.pinned (OpenSpec.ofChange fnExactStableEntriesWrong)

/-- 'laws.FnExactGainBySplit': WHATEVER THE INPUT: true; the input reads as it did. -/
def fnExactGainBySplitSpec : ChangeSpec := { name := "fnExactGainBySplit", fn := fun _ => fun
  | [d1, d2, d3, d4, d5] => { results := [.lit (.bool true)], args := [d1, d2, d3, d4, d5] }
  | _ => none }
def fnExactGainBySplitRow : OpenClaim := { program := "ytelblnfnfeoapaa", sum := "0b5aff1f30af76b62edce20e9339c45b2f1878b3346adc2966226eea605f52c6", func := "loop.example/g03202/laws.FnExactGainBySplit", spec := "fnExactGainBySplit", unfollowed := true, recurses := true, apart := false }
def FnExactGainBySplitSaid : Prop := fnExactGainBySplitRow.holds Try.pinned (OpenSpec.ofChange fnExactGainBySplitSpec)

/-- ITS FALSE NEIGHBOUR: 'it returns false'. Refute it at one input. -/
def fnExactGainBySplitWrong : ChangeSpec := { name := "fnExactGainBySplit", fn := fun _ => fun
  | [d1, d2, d3, d4, d5] => { results := [.lit (.bool false)], args := [d1, d2, d3, d4, d5] }
  | _ => none }
def FnExactGainBySplitWrongFalsely : Prop := fnExactGainBySplitRow.holds Try.pinned (OpenSpec.ofChange fnExactGainBySplitWrong)

/-- 'laws.FnExactGiveInOrder': WHATEVER THE INPUT: true; the input reads as it did. -/
def fnExactGiveInOrderSpec : ChangeSpec := { name := "fnExactGiveInOrder", fn := fun _ => fun
  | [d] => { results := [.lit (.bool true)], args := [d] }
  | _ => none }
def fnExactGiveInOrderRow : OpenClaim := { program := "ytelblnfnfeoapaa", sum := "0b5aff1f30af76b62edce20e9339c45b2f1878b3346adc2966226eea605f52c6", func := "loop.example/g03202/laws.FnExactGiveInOrder", spec := "fnExactGiveInOrder", unfollowed := true, recurses := true, apart := false }
def FnExactGiveInOrderSaid : Prop := fnExactGiveInOrderRow.holds Try.pinned (OpenSpec.ofChange fnExactGiveInOrderSpec)

/-- ITS FALSE NEIGHBOUR: 'it returns false'. Refute it at one input. -/
def fnExactGiveInOrderWrong : ChangeSpec := { name := "fnExactGiveInOrder", fn := fun _ => fun
  | [d] => { results := [.lit (.bool false)], args := [d] }
  | _ => none }
def FnExactGiveInOrderWrongFalsely : Prop := fnExactGiveInOrderRow.holds Try.pinned (OpenSpec.ofChange fnExactGiveInOrderWrong)

/- THE SECOND FORM. 'bulk': how many values and letters a reading holds, each counted each time it is reached (what is shared counts as often as it is met; a slice's spare places count too). A statement '..UptoSaid' is the law's where the arguments, and the package variables that the reading takes, are together of bulk at most 1048576: NARROWER than '..Said'. Prove '..Said' where nothing that the law and all that it calls make is longer than what came in: it says more and counts as full. Else prove '..UptoSaid'. A law counts once. -/
mutual
def uptoBulk {H : Type} : DataW H → Nat
  | .lit (.string bytes) => bytes.length + 1
  | .lit _ => 1
  | .nil => 1
  | .ptr d => uptoBulk d + 1
  | .slice elems spare => uptoBulkAll elems + uptoBulkAll spare + 1
  | .agg parts => uptoBulkAll parts + 1
  | .iface _ d => uptoBulk d + 1
  | .map entries => uptoBulkEntries entries + 1
  | .held _ => 1
def uptoBulkAll {H : Type} : List (DataW H) → Nat
  | [] => 0
  | d :: r => uptoBulk d + uptoBulkAll r
def uptoBulkEntries {H : Type} : List (Lit × DataW H) → Nat
  | [] => 0
  | x :: r => uptoBulkEntry x + uptoBulkEntries r
def uptoBulkEntry {H : Type} : Lit × DataW H → Nat
  | (.string bytes, d) => bytes.length + uptoBulk d + 1
  | (_, d) => uptoBulk d + 1
 end
def uptoSmall : (H : Type) → List (DataW H) → Bool := fun _ ds => decide (uptoBulkAll ds ≤ 1048576)
def OpenSpec.upto (s : _root_.Go.ChangeSpec) : _root_.Go.OpenSpec := { _root_.Go.OpenSpec.ofChange s with cond := some uptoSmall }

/-- 'laws.FnExactStableEntries', WHERE WHAT IT READS IS OF BULK AT MOST 1048576: true; the input reads as it did. -/
def fnExactStableEntriesUptoRow : OpenClaim := { program := "ytelblnfnfeoapaa", sum := "0b5aff1f30af76b62edce20e9339c45b2f1878b3346adc2966226eea605f52c6", func := "loop.example/g03202/laws.FnExactStableEntries", spec := "fnExactStableEntries", unfollowed := true, recurses := true, apart := false, narrowed := true }
def FnExactStableEntriesUptoSaid : Prop := fnExactStableEntriesUptoRow.holds Try.pinned (OpenSpec.upto fnExactStableEntriesSpec)

/-- 'laws.FnExactGainBySplit', WHERE WHAT IT READS IS OF BULK AT MOST 1048576: true; the input reads as it did. -/
def fnExactGainBySplitUptoRow : OpenClaim := { program := "ytelblnfnfeoapaa", sum := "0b5aff1f30af76b62edce20e9339c45b2f1878b3346adc2966226eea605f52c6", func := "loop.example/g03202/laws.FnExactGainBySplit", spec := "fnExactGainBySplit", unfollowed := true, recurses := true, apart := false, narrowed := true }
def FnExactGainBySplitUptoSaid : Prop := fnExactGainBySplitUptoRow.holds Try.pinned (OpenSpec.upto fnExactGainBySplitSpec)

/-- 'laws.FnExactGiveInOrder', WHERE WHAT IT READS IS OF BULK AT MOST 1048576: true; the input reads as it did. -/
def fnExactGiveInOrderUptoRow : OpenClaim := { program := "ytelblnfnfeoapaa", sum := "0b5aff1f30af76b62edce20e9339c45b2f1878b3346adc2966226eea605f52c6", func := "loop.example/g03202/laws.FnExactGiveInOrder", spec := "fnExactGiveInOrder", unfollowed := true, recurses := true, apart := false, narrowed := true }
def FnExactGiveInOrderUptoSaid : Prop := fnExactGiveInOrderUptoRow.holds Try.pinned (OpenSpec.upto fnExactGiveInOrderSpec)

end Rows
end Go.Proofs.Ytelblnfnfeoapaa
