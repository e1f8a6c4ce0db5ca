/-
  No cell of these rows narrows 'for every input' (looked for: loops, veiled, ifaces, maps, wideKeys, modest, calm, conditions, laid).
  DERIVED. THE GIVEN ROWS OF THIS SEAT. 3 by the template 'for every input the law returns true; each argument reads behind the call as it read before'; 0 by the template 'total and deterministic' (their statements: YtolofcljdcnmkaaTotals.lean).
  GIVEN WITH THE SEED: the statements are not yours to turn. If you find one false, say at which input.
  Laid BY PROGRAM, IN A SANDBOX (cutbox-rows.mjs): the forced cells as the released guide's own fill.sh prints them over the translation 6eda5441d836280e… (all of the seat's roots in one cut). By AI agents, Wed Nov 11 2026. No macro, syntax, notation, axiom, sorry.
-/
import Derived.Test.YtolofcljdcnmkaaChecked
import GoSem.Claim
import GoSem.ClaimJoined
import GoSem.ClaimMapViews
import Derived.JoinedTies
import Derived.KernelRfl
namespace Go.Proofs.Ytolofcljdcnmkaa
/- THE CELL 'sum', in the pinned program and in every row, IS THE sha256 OF THE DUMP (.gsa) THAT YtolofcljdcnmkaaProg.lean LOADS. Nothing in Lean hashes anything: it is a label: what it is worth is what the hold of that sum in a sandbox is worth. -/
noncomputable def Try.pinned : Pinned := { name := "ytolofcljdcnmkaa", sum := "6eda5441d836280e2b402ecd054a183a674b187cb893b50baa57f8ac129c309f", checked := Try.checked }
namespace Rows
def none {H : Type} : Left H := { results := [], args := [] }

/-- 'laws.FnExactRotationChain': WHATEVER THE INPUT: true; the input reads as it did. -/
def fnExactRotationChainSpec : ChangeSpec := { name := "fnExactRotationChain", fn := fun _ => fun
  | [d] => { results := [.lit (.bool true)], args := [d] }
  | _ => none }
def fnExactRotationChainRow : OpenClaim := { program := "ytolofcljdcnmkaa", sum := "6eda5441d836280e2b402ecd054a183a674b187cb893b50baa57f8ac129c309f", func := "loop.example/g03202/laws.FnExactRotationChain", spec := "fnExactRotationChain", unfollowed := true, recurses := true, apart := false }
def FnExactRotationChainSaid : Prop := fnExactRotationChainRow.holds Try.pinned (OpenSpec.ofChange fnExactRotationChainSpec)

/-- ITS FALSE NEIGHBOUR: 'it returns false'. Refute it at one input. -/
def fnExactRotationChainWrong : ChangeSpec := { name := "fnExactRotationChain", fn := fun _ => fun
  | [d] => { results := [.lit (.bool false)], args := [d] }
  | _ => none }
def FnExactRotationChainWrongFalsely : Prop := fnExactRotationChainRow.holds Try.pinned (OpenSpec.ofChange fnExactRotationChainWrong)

/-- 'laws.FnExactCountRotations': WHATEVER THE INPUT: true; the input reads as it did. -/
def fnExactCountRotationsSpec : ChangeSpec := { name := "fnExactCountRotations", fn := fun _ => fun
  | [d] => { results := [.lit (.bool true)], args := [d] }
  | _ => none }
def fnExactCountRotationsRow : OpenClaim := { program := "ytolofcljdcnmkaa", sum := "6eda5441d836280e2b402ecd054a183a674b187cb893b50baa57f8ac129c309f", func := "loop.example/g03202/laws.FnExactCountRotations", spec := "fnExactCountRotations", unfollowed := true, recurses := true, apart := false }
def FnExactCountRotationsSaid : Prop := fnExactCountRotationsRow.holds Try.pinned (OpenSpec.ofChange fnExactCountRotationsSpec)

/-- ITS FALSE NEIGHBOUR: 'it returns false'. Refute it at one input. -/
def fnExactCountRotationsWrong : ChangeSpec := { name := "fnExactCountRotations", fn := fun _ => fun
  | [d] => { results := [.lit (.bool false)], args := [d] }
  | _ => none }
def FnExactCountRotationsWrongFalsely : Prop := fnExactCountRotationsRow.holds Try.pinned (OpenSpec.ofChange fnExactCountRotationsWrong)

/-- 'laws.FnExactLongestRotation': WHATEVER THE INPUT: true; the input reads as it did. -/
def fnExactLongestRotationSpec : ChangeSpec := { name := "fnExactLongestRotation", fn := fun _ => fun
  | [d] => { results := [.lit (.bool true)], args := [d] }
  | _ => none }
def fnExactLongestRotationRow : OpenClaim := { program := "ytolofcljdcnmkaa", sum := "6eda5441d836280e2b402ecd054a183a674b187cb893b50baa57f8ac129c309f", func := "loop.example/g03202/laws.FnExactLongestRotation", spec := "fnExactLongestRotation", unfollowed := true, recurses := true, apart := false }
def FnExactLongestRotationSaid : Prop := fnExactLongestRotationRow.holds Try.pinned (OpenSpec.ofChange fnExactLongestRotationSpec)

/-- ITS FALSE NEIGHBOUR: 'it returns false'. Refute it at one input. -/
def fnExactLongestRotationWrong : ChangeSpec := { name := "fnExactLongestRotation", fn := fun _ => fun
  | [d] => { results := [.lit (.bool false)], args := [d] }
  | _ => none }
def FnExactLongestRotationWrongFalsely : Prop := fnExactLongestRotationRow.holds Try.pinned (OpenSpec.ofChange fnExactLongestRotationWrong)

/- THE SECOND FORM. 'bulk': how many values and letters a reading holds, each counted each time it is reached (what is shared counts as often as it is met; a slice's spare places count too). A statement '..UptoSaid' is the law's where the arguments, and the package variables that the reading takes, are together of bulk at most 1048576: NARROWER than '..Said'. Prove '..Said' where nothing that the law and all that it calls make is longer than what came in: it says more and counts as full. Else prove '..UptoSaid'. A law counts once. -/
mutual
def uptoBulk {H : Type} : DataW H → Nat
  | .lit (.string bytes) => bytes.length + 1
  | .lit _ => 1
  | .nil => 1
  | .ptr d => uptoBulk d + 1
  | .slice elems spare => uptoBulkAll elems + uptoBulkAll spare + 1
  | .agg parts => uptoBulkAll parts + 1
  | .iface _ d => uptoBulk d + 1
  | .map entries => uptoBulkEntries entries + 1
  | .held _ => 1
def uptoBulkAll {H : Type} : List (DataW H) → Nat
  | [] => 0
  | d :: r => uptoBulk d + uptoBulkAll r
def uptoBulkEntries {H : Type} : List (Lit × DataW H) → Nat
  | [] => 0
  | x :: r => uptoBulkEntry x + uptoBulkEntries r
def uptoBulkEntry {H : Type} : Lit × DataW H → Nat
  | (.string bytes, d) => bytes.length + uptoBulk d + 1
  | (_, d) => uptoBulk d + 1
 end
def uptoSmall : (H : Type) → List (DataW H) → Bool := fun _ ds => decide (uptoBulkAll ds ≤ 1048576)
def OpenSpec.upto (s : _root_.Go.ChangeSpec) : _root_.Go.OpenSpec := { _root_.Go.OpenSpec.ofChange s with cond := some uptoSmall }

/-- 'laws.FnExactRotationChain', WHERE WHAT IT READS IS OF BULK AT MOST 1048576: true; the input reads as it did. -/
def fnExactRotationChainUptoRow : OpenClaim := { program := "ytolofcljdcnmkaa", sum := "6eda5441d836280e2b402ecd054a183a674b187cb893b50baa57f8ac129c309f", func := "loop.example/g03202/laws.FnExactRotationChain", spec := "fnExactRotationChain", unfollowed := true, recurses := true, apart := false, narrowed := true }
def FnExactRotationChainUptoSaid : Prop := fnExactRotationChainUptoRow.holds Try.pinned (OpenSpec.upto fnExactRotationChainSpec)

/-- 'laws.FnExactCountRotations', WHERE WHAT IT READS IS OF BULK AT MOST 1048576: true; the input reads as it did. -/
def fnExactCountRotationsUptoRow : OpenClaim := { program := "ytolofcljdcnmkaa", sum := "6eda5441d836280e2b402ecd054a183a674b187cb893b50baa57f8ac129c309f", func := "loop.example/g03202/laws.FnExactCountRotations", spec := "fnExactCountRotations", unfollowed := true, recurses := true, apart := false, narrowed := true }
def FnExactCountRotationsUptoSaid : Prop := fnExactCountRotationsUptoRow.holds Try.pinned (OpenSpec.upto fnExactCountRotationsSpec)

/-- 'laws.FnExactLongestRotation', WHERE WHAT IT READS IS OF BULK AT MOST 1048576: true; the input reads as it did. -/
def fnExactLongestRotationUptoRow : OpenClaim := { program := "ytolofcljdcnmkaa", sum := "6eda5441d836280e2b402ecd054a183a674b187cb893b50baa57f8ac129c309f", func := "loop.example/g03202/laws.FnExactLongestRotation", spec := "fnExactLongestRotation", unfollowed := true, recurses := true, apart := false, narrowed := true }
def FnExactLongestRotationUptoSaid : Prop := fnExactLongestRotationUptoRow.holds Try.pinned (OpenSpec.upto fnExactLongestRotationSpec)

end Rows
end Go.Proofs.Ytolofcljdcnmkaa
