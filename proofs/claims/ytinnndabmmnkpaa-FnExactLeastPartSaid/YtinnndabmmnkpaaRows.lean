/-
  No cell of these rows narrows 'for every input' (looked for: loops, veiled, ifaces, maps, wideKeys, modest, calm, conditions, laid).
  DERIVED. THE GIVEN ROWS OF THIS SEAT. 21 by the template 'for every input the law returns true; each argument reads behind the call as it read before'; 0 by the template 'total and deterministic' (their statements: YtinnndabmmnkpaaTotals.lean).
  GIVEN WITH THE SEED: the statements are not yours to turn. If you find one false, say at which input.
  Laid BY PROGRAM, IN A SANDBOX (cutbox-rows.mjs): the forced cells as the released guide's own fill.sh prints them over the translation 0628a2d206495bdb… (all of the seat's roots in one cut). By AI agents, Wed Nov 11 2026. No macro, syntax, notation, axiom, sorry.
-/
import Derived.Test.YtinnndabmmnkpaaChecked
import GoSem.Claim
import GoSem.ClaimJoined
import GoSem.ClaimMapViews
import Derived.JoinedTies
import Derived.KernelRfl
namespace Go.Proofs.Ytinnndabmmnkpaa
/- THE CELL 'sum', in the pinned program and in every row, IS THE sha256 OF THE DUMP (.gsa) THAT YtinnndabmmnkpaaProg.lean LOADS. Nothing in Lean hashes anything: it is a label: what it is worth is what the hold of that sum in a sandbox is worth. -/
noncomputable def Try.pinned : Pinned := { name := "ytinnndabmmnkpaa", sum := "0628a2d206495bdbd86cac4f845973da02d3c6cf40b0b7ba3edb491fd5aa0b6b", checked := Try.checked }
namespace Rows
def none {H : Type} : Left H := { results := [], args := [] }

/-- 'laws.FnExactValuesOk': WHATEVER THE INPUT: true; the input reads as it did. -/
def fnExactValuesOkSpec : ChangeSpec := { name := "fnExactValuesOk", fn := fun _ => fun
  | [d] => { results := [.lit (.bool true)], args := [d] }
  | _ => none }
def fnExactValuesOkRow : OpenClaim := { program := "ytinnndabmmnkpaa", sum := "0628a2d206495bdbd86cac4f845973da02d3c6cf40b0b7ba3edb491fd5aa0b6b", func := "loop.example/g03202/laws.FnExactValuesOk", spec := "fnExactValuesOk", unfollowed := true, recurses := true, apart := false }
def FnExactValuesOkSaid : Prop := fnExactValuesOkRow.holds Try.pinned (OpenSpec.ofChange fnExactValuesOkSpec)

/-- ITS FALSE NEIGHBOUR: 'it returns false'. Refute it at one input. -/
def fnExactValuesOkWrong : ChangeSpec := { name := "fnExactValuesOk", fn := fun _ => fun
  | [d] => { results := [.lit (.bool false)], args := [d] }
  | _ => none }
def FnExactValuesOkWrongFalsely : Prop := fnExactValuesOkRow.holds Try.pinned (OpenSpec.ofChange fnExactValuesOkWrong)

/-- 'laws.FnExactAllocationOk': WHATEVER THE INPUT: true; the input reads as it did. -/
def fnExactAllocationOkSpec : ChangeSpec := { name := "fnExactAllocationOk", fn := fun _ => fun
  | [d1, d2] => { results := [.lit (.bool true)], args := [d1, d2] }
  | _ => none }
def fnExactAllocationOkRow : OpenClaim := { program := "ytinnndabmmnkpaa", sum := "0628a2d206495bdbd86cac4f845973da02d3c6cf40b0b7ba3edb491fd5aa0b6b", func := "loop.example/g03202/laws.FnExactAllocationOk", spec := "fnExactAllocationOk", unfollowed := true, recurses := true, apart := false }
def FnExactAllocationOkSaid : Prop := fnExactAllocationOkRow.holds Try.pinned (OpenSpec.ofChange fnExactAllocationOkSpec)

/-- ITS FALSE NEIGHBOUR: 'it returns false'. Refute it at one input. -/
def fnExactAllocationOkWrong : ChangeSpec := { name := "fnExactAllocationOk", fn := fun _ => fun
  | [d1, d2] => { results := [.lit (.bool false)], args := [d1, d2] }
  | _ => none }
def FnExactAllocationOkWrongFalsely : Prop := fnExactAllocationOkRow.holds Try.pinned (OpenSpec.ofChange fnExactAllocationOkWrong)

/-- 'laws.FnExactWorthOf': WHATEVER THE INPUT: true; the input reads as it did. -/
def fnExactWorthOfSpec : ChangeSpec := { name := "fnExactWorthOf", fn := fun _ => fun
  | [d1, d2, d3, d4] => { results := [.lit (.bool true)], args := [d1, d2, d3, d4] }
  | _ => none }
def fnExactWorthOfRow : OpenClaim := { program := "ytinnndabmmnkpaa", sum := "0628a2d206495bdbd86cac4f845973da02d3c6cf40b0b7ba3edb491fd5aa0b6b", func := "loop.example/g03202/laws.FnExactWorthOf", spec := "fnExactWorthOf", unfollowed := true, recurses := true, apart := false }
def FnExactWorthOfSaid : Prop := fnExactWorthOfRow.holds Try.pinned (OpenSpec.ofChange fnExactWorthOfSpec)

/-- ITS FALSE NEIGHBOUR: 'it returns false'. Refute it at one input. -/
def fnExactWorthOfWrong : ChangeSpec := { name := "fnExactWorthOf", fn := fun _ => fun
  | [d1, d2, d3, d4] => { results := [.lit (.bool false)], args := [d1, d2, d3, d4] }
  | _ => none }
def FnExactWorthOfWrongFalsely : Prop := fnExactWorthOfRow.holds Try.pinned (OpenSpec.ofChange fnExactWorthOfWrong)

/-- 'laws.FnExactIsNearlyFree': WHATEVER THE INPUT: true; the input reads as it did. -/
def fnExactIsNearlyFreeSpec : ChangeSpec := { name := "fnExactIsNearlyFree", fn := fun _ => fun
  | [d1, d2] => { results := [.lit (.bool true)], args := [d1, d2] }
  | _ => none }
def fnExactIsNearlyFreeRow : OpenClaim := { program := "ytinnndabmmnkpaa", sum := "0628a2d206495bdbd86cac4f845973da02d3c6cf40b0b7ba3edb491fd5aa0b6b", func := "loop.example/g03202/laws.FnExactIsNearlyFree", spec := "fnExactIsNearlyFree", unfollowed := true, recurses := true, apart := false }
def FnExactIsNearlyFreeSaid : Prop := fnExactIsNearlyFreeRow.holds Try.pinned (OpenSpec.ofChange fnExactIsNearlyFreeSpec)

/-- ITS FALSE NEIGHBOUR: 'it returns false'. Refute it at one input. -/
def fnExactIsNearlyFreeWrong : ChangeSpec := { name := "fnExactIsNearlyFree", fn := fun _ => fun
  | [d1, d2] => { results := [.lit (.bool false)], args := [d1, d2] }
  | _ => none }
def FnExactIsNearlyFreeWrongFalsely : Prop := fnExactIsNearlyFreeRow.holds Try.pinned (OpenSpec.ofChange fnExactIsNearlyFreeWrong)

/-- 'laws.FnExactLeastPart': WHATEVER THE INPUT: true; the input reads as it did. -/
def fnExactLeastPartSpec : ChangeSpec := { name := "fnExactLeastPart", fn := fun _ => fun
  | [d1, d2] => { results := [.lit (.bool true)], args := [d1, d2] }
  | _ => none }
def fnExactLeastPartRow : OpenClaim := { program := "ytinnndabmmnkpaa", sum := "0628a2d206495bdbd86cac4f845973da02d3c6cf40b0b7ba3edb491fd5aa0b6b", func := "loop.example/g03202/laws.FnExactLeastPart", spec := "fnExactLeastPart", unfollowed := true, recurses := true, apart := false }
def FnExactLeastPartSaid : Prop := fnExactLeastPartRow.holds Try.pinned (OpenSpec.ofChange fnExactLeastPartSpec)

/-- ITS FALSE NEIGHBOUR: 'it returns false'. Refute it at one input. -/
def fnExactLeastPartWrong : ChangeSpec := { name := "fnExactLeastPart", fn := fun _ => fun
  | [d1, d2] => { results := [.lit (.bool false)], args := [d1, d2] }
  | _ => none }
def FnExactLeastPartWrongFalsely : Prop := fnExactLeastPartRow.holds Try.pinned (OpenSpec.ofChange fnExactLeastPartWrong)

/-- 'laws.FnExactIsEnvyFree': WHATEVER THE INPUT: true; the input reads as it did. -/
def fnExactIsEnvyFreeSpec : ChangeSpec := { name := "fnExactIsEnvyFree", fn := fun _ => fun
  | [d1, d2] => { results := [.lit (.bool true)], args := [d1, d2] }
  | _ => none }
def fnExactIsEnvyFreeRow : OpenClaim := { program := "ytinnndabmmnkpaa", sum := "0628a2d206495bdbd86cac4f845973da02d3c6cf40b0b7ba3edb491fd5aa0b6b", func := "loop.example/g03202/laws.FnExactIsEnvyFree", spec := "fnExactIsEnvyFree", unfollowed := true, recurses := true, apart := false }
def FnExactIsEnvyFreeSaid : Prop := fnExactIsEnvyFreeRow.holds Try.pinned (OpenSpec.ofChange fnExactIsEnvyFreeSpec)

/-- ITS FALSE NEIGHBOUR: 'it returns false'. Refute it at one input. -/
def fnExactIsEnvyFreeWrong : ChangeSpec := { name := "fnExactIsEnvyFree", fn := fun _ => fun
  | [d1, d2] => { results := [.lit (.bool false)], args := [d1, d2] }
  | _ => none }
def FnExactIsEnvyFreeWrongFalsely : Prop := fnExactIsEnvyFreeRow.holds Try.pinned (OpenSpec.ofChange fnExactIsEnvyFreeWrong)

/-- 'laws.FnExactIsProportional': WHATEVER THE INPUT: true; the input reads as it did. -/
def fnExactIsProportionalSpec : ChangeSpec := { name := "fnExactIsProportional", fn := fun _ => fun
  | [d1, d2] => { results := [.lit (.bool true)], args := [d1, d2] }
  | _ => none }
def fnExactIsProportionalRow : OpenClaim := { program := "ytinnndabmmnkpaa", sum := "0628a2d206495bdbd86cac4f845973da02d3c6cf40b0b7ba3edb491fd5aa0b6b", func := "loop.example/g03202/laws.FnExactIsProportional", spec := "fnExactIsProportional", unfollowed := true, recurses := true, apart := false }
def FnExactIsProportionalSaid : Prop := fnExactIsProportionalRow.holds Try.pinned (OpenSpec.ofChange fnExactIsProportionalSpec)

/-- ITS FALSE NEIGHBOUR: 'it returns false'. Refute it at one input. -/
def fnExactIsProportionalWrong : ChangeSpec := { name := "fnExactIsProportional", fn := fun _ => fun
  | [d1, d2] => { results := [.lit (.bool false)], args := [d1, d2] }
  | _ => none }
def FnExactIsProportionalWrongFalsely : Prop := fnExactIsProportionalRow.holds Try.pinned (OpenSpec.ofChange fnExactIsProportionalWrong)

/-- 'laws.FnExactIsAlmostFree': WHATEVER THE INPUT: true; the input reads as it did. -/
def fnExactIsAlmostFreeSpec : ChangeSpec := { name := "fnExactIsAlmostFree", fn := fun _ => fun
  | [d1, d2] => { results := [.lit (.bool true)], args := [d1, d2] }
  | _ => none }
def fnExactIsAlmostFreeRow : OpenClaim := { program := "ytinnndabmmnkpaa", sum := "0628a2d206495bdbd86cac4f845973da02d3c6cf40b0b7ba3edb491fd5aa0b6b", func := "loop.example/g03202/laws.FnExactIsAlmostFree", spec := "fnExactIsAlmostFree", unfollowed := true, recurses := true, apart := false }
def FnExactIsAlmostFreeSaid : Prop := fnExactIsAlmostFreeRow.holds Try.pinned (OpenSpec.ofChange fnExactIsAlmostFreeSpec)

/-- ITS FALSE NEIGHBOUR: 'it returns false'. Refute it at one input. -/
def fnExactIsAlmostFreeWrong : ChangeSpec := { name := "fnExactIsAlmostFree", fn := fun _ => fun
  | [d1, d2] => { results := [.lit (.bool false)], args := [d1, d2] }
  | _ => none }
def FnExactIsAlmostFreeWrongFalsely : Prop := fnExactIsAlmostFreeRow.holds Try.pinned (OpenSpec.ofChange fnExactIsAlmostFreeWrong)

/-- 'laws.FnExactEnvyMatrix': WHATEVER THE INPUT: true; the input reads as it did. -/
def fnExactEnvyMatrixSpec : ChangeSpec := { name := "fnExactEnvyMatrix", fn := fun _ => fun
  | [d1, d2] => { results := [.lit (.bool true)], args := [d1, d2] }
  | _ => none }
def fnExactEnvyMatrixRow : OpenClaim := { program := "ytinnndabmmnkpaa", sum := "0628a2d206495bdbd86cac4f845973da02d3c6cf40b0b7ba3edb491fd5aa0b6b", func := "loop.example/g03202/laws.FnExactEnvyMatrix", spec := "fnExactEnvyMatrix", unfollowed := true, recurses := true, apart := false }
def FnExactEnvyMatrixSaid : Prop := fnExactEnvyMatrixRow.holds Try.pinned (OpenSpec.ofChange fnExactEnvyMatrixSpec)

/-- ITS FALSE NEIGHBOUR: 'it returns false'. Refute it at one input. -/
def fnExactEnvyMatrixWrong : ChangeSpec := { name := "fnExactEnvyMatrix", fn := fun _ => fun
  | [d1, d2] => { results := [.lit (.bool false)], args := [d1, d2] }
  | _ => none }
def FnExactEnvyMatrixWrongFalsely : Prop := fnExactEnvyMatrixRow.holds Try.pinned (OpenSpec.ofChange fnExactEnvyMatrixWrong)

/-- 'laws.FnExactCountNearlyFree': WHATEVER THE INPUT: true; the input reads as it did. -/
def fnExactCountNearlyFreeSpec : ChangeSpec := { name := "fnExactCountNearlyFree", fn := fun _ => fun
  | [d] => { results := [.lit (.bool true)], args := [d] }
  | _ => none }
def fnExactCountNearlyFreeRow : OpenClaim := { program := "ytinnndabmmnkpaa", sum := "0628a2d206495bdbd86cac4f845973da02d3c6cf40b0b7ba3edb491fd5aa0b6b", func := "loop.example/g03202/laws.FnExactCountNearlyFree", spec := "fnExactCountNearlyFree", unfollowed := true, recurses := true, apart := false }
def FnExactCountNearlyFreeSaid : Prop := fnExactCountNearlyFreeRow.holds Try.pinned (OpenSpec.ofChange fnExactCountNearlyFreeSpec)

/-- ITS FALSE NEIGHBOUR: 'it returns false'. Refute it at one input. -/
def fnExactCountNearlyFreeWrong : ChangeSpec := { name := "fnExactCountNearlyFree", fn := fun _ => fun
  | [d] => { results := [.lit (.bool false)], args := [d] }
  | _ => none }
def FnExactCountNearlyFreeWrongFalsely : Prop := fnExactCountNearlyFreeRow.holds Try.pinned (OpenSpec.ofChange fnExactCountNearlyFreeWrong)

/-- 'laws.FnExactTakeTurns': WHATEVER THE INPUT: true; the input reads as it did. -/
def fnExactTakeTurnsSpec : ChangeSpec := { name := "fnExactTakeTurns", fn := fun _ => fun
  | [d1, d2] => { results := [.lit (.bool true)], args := [d1, d2] }
  | _ => none }
def fnExactTakeTurnsRow : OpenClaim := { program := "ytinnndabmmnkpaa", sum := "0628a2d206495bdbd86cac4f845973da02d3c6cf40b0b7ba3edb491fd5aa0b6b", func := "loop.example/g03202/laws.FnExactTakeTurns", spec := "fnExactTakeTurns", unfollowed := true, recurses := true, apart := false }
def FnExactTakeTurnsSaid : Prop := fnExactTakeTurnsRow.holds Try.pinned (OpenSpec.ofChange fnExactTakeTurnsSpec)

/-- ITS FALSE NEIGHBOUR: 'it returns false'. Refute it at one input. -/
def fnExactTakeTurnsWrong : ChangeSpec := { name := "fnExactTakeTurns", fn := fun _ => fun
  | [d1, d2] => { results := [.lit (.bool false)], args := [d1, d2] }
  | _ => none }
def FnExactTakeTurnsWrongFalsely : Prop := fnExactTakeTurnsRow.holds Try.pinned (OpenSpec.ofChange fnExactTakeTurnsWrong)

/-- 'laws.FnExactCountEnvyFree': WHATEVER THE INPUT: true; the input reads as it did. -/
def fnExactCountEnvyFreeSpec : ChangeSpec := { name := "fnExactCountEnvyFree", fn := fun _ => fun
  | [d] => { results := [.lit (.bool true)], args := [d] }
  | _ => none }
def fnExactCountEnvyFreeRow : OpenClaim := { program := "ytinnndabmmnkpaa", sum := "0628a2d206495bdbd86cac4f845973da02d3c6cf40b0b7ba3edb491fd5aa0b6b", func := "loop.example/g03202/laws.FnExactCountEnvyFree", spec := "fnExactCountEnvyFree", unfollowed := true, recurses := true, apart := false }
def FnExactCountEnvyFreeSaid : Prop := fnExactCountEnvyFreeRow.holds Try.pinned (OpenSpec.ofChange fnExactCountEnvyFreeSpec)

/-- ITS FALSE NEIGHBOUR: 'it returns false'. Refute it at one input. -/
def fnExactCountEnvyFreeWrong : ChangeSpec := { name := "fnExactCountEnvyFree", fn := fun _ => fun
  | [d] => { results := [.lit (.bool false)], args := [d] }
  | _ => none }
def FnExactCountEnvyFreeWrongFalsely : Prop := fnExactCountEnvyFreeRow.holds Try.pinned (OpenSpec.ofChange fnExactCountEnvyFreeWrong)

/-- 'laws.FnExactBestLeastPart': WHATEVER THE INPUT: true; the input reads as it did. -/
def fnExactBestLeastPartSpec : ChangeSpec := { name := "fnExactBestLeastPart", fn := fun _ => fun
  | [d] => { results := [.lit (.bool true)], args := [d] }
  | _ => none }
def fnExactBestLeastPartRow : OpenClaim := { program := "ytinnndabmmnkpaa", sum := "0628a2d206495bdbd86cac4f845973da02d3c6cf40b0b7ba3edb491fd5aa0b6b", func := "loop.example/g03202/laws.FnExactBestLeastPart", spec := "fnExactBestLeastPart", unfollowed := true, recurses := true, apart := false }
def FnExactBestLeastPartSaid : Prop := fnExactBestLeastPartRow.holds Try.pinned (OpenSpec.ofChange fnExactBestLeastPartSpec)

/-- ITS FALSE NEIGHBOUR: 'it returns false'. Refute it at one input. -/
def fnExactBestLeastPartWrong : ChangeSpec := { name := "fnExactBestLeastPart", fn := fun _ => fun
  | [d] => { results := [.lit (.bool false)], args := [d] }
  | _ => none }
def FnExactBestLeastPartWrongFalsely : Prop := fnExactBestLeastPartRow.holds Try.pinned (OpenSpec.ofChange fnExactBestLeastPartWrong)

/-- 'laws.FnExactShareOf': WHATEVER THE INPUT: true; the input reads as it did. -/
def fnExactShareOfSpec : ChangeSpec := { name := "fnExactShareOf", fn := fun _ => fun
  | [d1, d2] => { results := [.lit (.bool true)], args := [d1, d2] }
  | _ => none }
def fnExactShareOfRow : OpenClaim := { program := "ytinnndabmmnkpaa", sum := "0628a2d206495bdbd86cac4f845973da02d3c6cf40b0b7ba3edb491fd5aa0b6b", func := "loop.example/g03202/laws.FnExactShareOf", spec := "fnExactShareOf", unfollowed := true, recurses := true, apart := false }
def FnExactShareOfSaid : Prop := fnExactShareOfRow.holds Try.pinned (OpenSpec.ofChange fnExactShareOfSpec)

/-- ITS FALSE NEIGHBOUR: 'it returns false'. Refute it at one input. -/
def fnExactShareOfWrong : ChangeSpec := { name := "fnExactShareOf", fn := fun _ => fun
  | [d1, d2] => { results := [.lit (.bool false)], args := [d1, d2] }
  | _ => none }
def FnExactShareOfWrongFalsely : Prop := fnExactShareOfRow.holds Try.pinned (OpenSpec.ofChange fnExactShareOfWrong)

/-- 'laws.FnExactShareCut': WHATEVER THE INPUT: true; the input reads as it did. -/
def fnExactShareCutSpec : ChangeSpec := { name := "fnExactShareCut", fn := fun _ => fun
  | [d1, d2] => { results := [.lit (.bool true)], args := [d1, d2] }
  | _ => none }
def fnExactShareCutRow : OpenClaim := { program := "ytinnndabmmnkpaa", sum := "0628a2d206495bdbd86cac4f845973da02d3c6cf40b0b7ba3edb491fd5aa0b6b", func := "loop.example/g03202/laws.FnExactShareCut", spec := "fnExactShareCut", unfollowed := true, recurses := true, apart := false }
def FnExactShareCutSaid : Prop := fnExactShareCutRow.holds Try.pinned (OpenSpec.ofChange fnExactShareCutSpec)

/-- ITS FALSE NEIGHBOUR: 'it returns false'. Refute it at one input. -/
def fnExactShareCutWrong : ChangeSpec := { name := "fnExactShareCut", fn := fun _ => fun
  | [d1, d2] => { results := [.lit (.bool false)], args := [d1, d2] }
  | _ => none }
def FnExactShareCutWrongFalsely : Prop := fnExactShareCutRow.holds Try.pinned (OpenSpec.ofChange fnExactShareCutWrong)

/-- 'laws.FnExactGiveInOrder': WHATEVER THE INPUT: true; the input reads as it did. -/
def fnExactGiveInOrderSpec : ChangeSpec := { name := "fnExactGiveInOrder", fn := fun _ => fun
  | [d] => { results := [.lit (.bool true)], args := [d] }
  | _ => none }
def fnExactGiveInOrderRow : OpenClaim := { program := "ytinnndabmmnkpaa", sum := "0628a2d206495bdbd86cac4f845973da02d3c6cf40b0b7ba3edb491fd5aa0b6b", func := "loop.example/g03202/laws.FnExactGiveInOrder", spec := "fnExactGiveInOrder", unfollowed := true, recurses := true, apart := false }
def FnExactGiveInOrderSaid : Prop := fnExactGiveInOrderRow.holds Try.pinned (OpenSpec.ofChange fnExactGiveInOrderSpec)

/-- ITS FALSE NEIGHBOUR: 'it returns false'. Refute it at one input. -/
def fnExactGiveInOrderWrong : ChangeSpec := { name := "fnExactGiveInOrder", fn := fun _ => fun
  | [d] => { results := [.lit (.bool false)], args := [d] }
  | _ => none }
def FnExactGiveInOrderWrongFalsely : Prop := fnExactGiveInOrderRow.holds Try.pinned (OpenSpec.ofChange fnExactGiveInOrderWrong)

/-- 'laws.FnExactMostProduct': WHATEVER THE INPUT: true; the input reads as it did. -/
def fnExactMostProductSpec : ChangeSpec := { name := "fnExactMostProduct", fn := fun _ => fun
  | [d] => { results := [.lit (.bool true)], args := [d] }
  | _ => none }
def fnExactMostProductRow : OpenClaim := { program := "ytinnndabmmnkpaa", sum := "0628a2d206495bdbd86cac4f845973da02d3c6cf40b0b7ba3edb491fd5aa0b6b", func := "loop.example/g03202/laws.FnExactMostProduct", spec := "fnExactMostProduct", unfollowed := true, recurses := true, apart := false }
def FnExactMostProductSaid : Prop := fnExactMostProductRow.holds Try.pinned (OpenSpec.ofChange fnExactMostProductSpec)

/-- ITS FALSE NEIGHBOUR: 'it returns false'. Refute it at one input. -/
def fnExactMostProductWrong : ChangeSpec := { name := "fnExactMostProduct", fn := fun _ => fun
  | [d] => { results := [.lit (.bool false)], args := [d] }
  | _ => none }
def FnExactMostProductWrongFalsely : Prop := fnExactMostProductRow.holds Try.pinned (OpenSpec.ofChange fnExactMostProductWrong)

/-- 'laws.FnExactCutAndPick': WHATEVER THE INPUT: true; the input reads as it did. -/
def fnExactCutAndPickSpec : ChangeSpec := { name := "fnExactCutAndPick", fn := fun _ => fun
  | [d] => { results := [.lit (.bool true)], args := [d] }
  | _ => none }
def fnExactCutAndPickRow : OpenClaim := { program := "ytinnndabmmnkpaa", sum := "0628a2d206495bdbd86cac4f845973da02d3c6cf40b0b7ba3edb491fd5aa0b6b", func := "loop.example/g03202/laws.FnExactCutAndPick", spec := "fnExactCutAndPick", unfollowed := true, recurses := true, apart := false }
def FnExactCutAndPickSaid : Prop := fnExactCutAndPickRow.holds Try.pinned (OpenSpec.ofChange fnExactCutAndPickSpec)

/-- ITS FALSE NEIGHBOUR: 'it returns false'. Refute it at one input. -/
def fnExactCutAndPickWrong : ChangeSpec := { name := "fnExactCutAndPick", fn := fun _ => fun
  | [d] => { results := [.lit (.bool false)], args := [d] }
  | _ => none }
def FnExactCutAndPickWrongFalsely : Prop := fnExactCutAndPickRow.holds Try.pinned (OpenSpec.ofChange fnExactCutAndPickWrong)

/-- 'laws.FnExactGetsShares': WHATEVER THE INPUT: true; the input reads as it did. -/
def fnExactGetsSharesSpec : ChangeSpec := { name := "fnExactGetsShares", fn := fun _ => fun
  | [d1, d2] => { results := [.lit (.bool true)], args := [d1, d2] }
  | _ => none }
def fnExactGetsSharesRow : OpenClaim := { program := "ytinnndabmmnkpaa", sum := "0628a2d206495bdbd86cac4f845973da02d3c6cf40b0b7ba3edb491fd5aa0b6b", func := "loop.example/g03202/laws.FnExactGetsShares", spec := "fnExactGetsShares", unfollowed := true, recurses := true, apart := false }
def FnExactGetsSharesSaid : Prop := fnExactGetsSharesRow.holds Try.pinned (OpenSpec.ofChange fnExactGetsSharesSpec)

/-- ITS FALSE NEIGHBOUR: 'it returns false'. Refute it at one input. -/
def fnExactGetsSharesWrong : ChangeSpec := { name := "fnExactGetsShares", fn := fun _ => fun
  | [d1, d2] => { results := [.lit (.bool false)], args := [d1, d2] }
  | _ => none }
def FnExactGetsSharesWrongFalsely : Prop := fnExactGetsSharesRow.holds Try.pinned (OpenSpec.ofChange fnExactGetsSharesWrong)

/-- 'laws.FnShares': WHATEVER THE INPUT: true; the input reads as it did. -/
def fnSharesSpec : ChangeSpec := { name := "fnShares", fn := fun _ => fun
  | [d] => { results := [.lit (.bool true)], args := [d] }
  | _ => none }
def fnSharesRow : OpenClaim := { program := "ytinnndabmmnkpaa", sum := "0628a2d206495bdbd86cac4f845973da02d3c6cf40b0b7ba3edb491fd5aa0b6b", func := "loop.example/g03202/laws.FnShares", spec := "fnShares", unfollowed := true, recurses := true, apart := false }
def FnSharesSaid : Prop := fnSharesRow.holds Try.pinned (OpenSpec.ofChange fnSharesSpec)

/-- ITS FALSE NEIGHBOUR: 'it returns false'. Refute it at one input. -/
def fnSharesWrong : ChangeSpec := { name := "fnShares", fn := fun _ => fun
  | [d] => { results := [.lit (.bool false)], args := [d] }
  | _ => none }
def FnSharesWrongFalsely : Prop := fnSharesRow.holds Try.pinned (OpenSpec.ofChange fnSharesWrong)

/-- 'laws.FnGoods': WHATEVER THE INPUT: true; the input reads as it did. -/
def fnGoodsSpec : ChangeSpec := { name := "fnGoods", fn := fun _ => fun
  | [d] => { results := [.lit (.bool true)], args := [d] }
  | _ => none }
def fnGoodsRow : OpenClaim := { program := "ytinnndabmmnkpaa", sum := "0628a2d206495bdbd86cac4f845973da02d3c6cf40b0b7ba3edb491fd5aa0b6b", func := "loop.example/g03202/laws.FnGoods", spec := "fnGoods", unfollowed := true, recurses := true, apart := false }
def FnGoodsSaid : Prop := fnGoodsRow.holds Try.pinned (OpenSpec.ofChange fnGoodsSpec)

/-- ITS FALSE NEIGHBOUR: 'it returns false'. Refute it at one input. -/
def fnGoodsWrong : ChangeSpec := { name := "fnGoods", fn := fun _ => fun
  | [d] => { results := [.lit (.bool false)], args := [d] }
  | _ => none }
def FnGoodsWrongFalsely : Prop := fnGoodsRow.holds Try.pinned (OpenSpec.ofChange fnGoodsWrong)

/- THE SECOND FORM. 'bulk': how many values and letters a reading holds, each counted each time it is reached (what is shared counts as often as it is met; a slice's spare places count too). A statement '..UptoSaid' is the law's where the arguments, and the package variables that the reading takes, are together of bulk at most 1048576: NARROWER than '..Said'. Prove '..Said' where nothing that the law and all that it calls make is longer than what came in: it says more and counts as full. Else prove '..UptoSaid'. A law counts once. -/
mutual
def uptoBulk {H : Type} : DataW H → Nat
  | .lit (.string bytes) => bytes.length + 1
  | .lit _ => 1
  | .nil => 1
  | .ptr d => uptoBulk d + 1
  | .slice elems spare => uptoBulkAll elems + uptoBulkAll spare + 1
  | .agg parts => uptoBulkAll parts + 1
  | .iface _ d => uptoBulk d + 1
  | .map entries => uptoBulkEntries entries + 1
  | .held _ => 1
def uptoBulkAll {H : Type} : List (DataW H) → Nat
  | [] => 0
  | d :: r => uptoBulk d + uptoBulkAll r
def uptoBulkEntries {H : Type} : List (Lit × DataW H) → Nat
  | [] => 0
  | x :: r => uptoBulkEntry x + uptoBulkEntries r
def uptoBulkEntry {H : Type} : Lit × DataW H → Nat
  | (.string bytes, d) => bytes.length + uptoBulk d + 1
  | (_, d) => uptoBulk d + 1
 end
def uptoSmall : (H : Type) → List (DataW H) → Bool := fun _ ds => decide (uptoBulkAll ds ≤ 1048576)
def OpenSpec.upto (s : _root_.Go.ChangeSpec) : _root_.Go.OpenSpec := { _root_.Go.OpenSpec.ofChange s with cond := some uptoSmall }

/-- 'laws.FnExactValuesOk', WHERE WHAT IT READS IS OF BULK AT MOST 1048576: true; the input reads as it did. -/
def fnExactValuesOkUptoRow : OpenClaim := { program := "ytinnndabmmnkpaa", sum := "0628a2d206495bdbd86cac4f845973da02d3c6cf40b0b7ba3edb491fd5aa0b6b", func := "loop.example/g03202/laws.FnExactValuesOk", spec := "fnExactValuesOk", unfollowed := true, recurses := true, apart := false, narrowed := true }
def FnExactValuesOkUptoSaid : Prop := fnExactValuesOkUptoRow.holds Try.pinned (OpenSpec.upto fnExactValuesOkSpec)

/-- 'laws.FnExactAllocationOk', WHERE WHAT IT READS IS OF BULK AT MOST 1048576: true; the input reads as it did. -/
def fnExactAllocationOkUptoRow : OpenClaim := { program := "ytinnndabmmnkpaa", sum := "0628a2d206495bdbd86cac4f845973da02d3c6cf40b0b7ba3edb491fd5aa0b6b", func := "loop.example/g03202/laws.FnExactAllocationOk", spec := "fnExactAllocationOk", unfollowed := true, recurses := true, apart := false, narrowed := true }
def FnExactAllocationOkUptoSaid : Prop := fnExactAllocationOkUptoRow.holds Try.pinned (OpenSpec.upto fnExactAllocationOkSpec)

/-- 'laws.FnExactWorthOf', WHERE WHAT IT READS IS OF BULK AT MOST 1048576: true; the input reads as it did. -/
def fnExactWorthOfUptoRow : OpenClaim := { program := "ytinnndabmmnkpaa", sum := "0628a2d206495bdbd86cac4f845973da02d3c6cf40b0b7ba3edb491fd5aa0b6b", func := "loop.example/g03202/laws.FnExactWorthOf", spec := "fnExactWorthOf", unfollowed := true, recurses := true, apart := false, narrowed := true }
def FnExactWorthOfUptoSaid : Prop := fnExactWorthOfUptoRow.holds Try.pinned (OpenSpec.upto fnExactWorthOfSpec)

/-- 'laws.FnExactIsNearlyFree', WHERE WHAT IT READS IS OF BULK AT MOST 1048576: true; the input reads as it did. -/
def fnExactIsNearlyFreeUptoRow : OpenClaim := { program := "ytinnndabmmnkpaa", sum := "0628a2d206495bdbd86cac4f845973da02d3c6cf40b0b7ba3edb491fd5aa0b6b", func := "loop.example/g03202/laws.FnExactIsNearlyFree", spec := "fnExactIsNearlyFree", unfollowed := true, recurses := true, apart := false, narrowed := true }
def FnExactIsNearlyFreeUptoSaid : Prop := fnExactIsNearlyFreeUptoRow.holds Try.pinned (OpenSpec.upto fnExactIsNearlyFreeSpec)

/-- 'laws.FnExactLeastPart', WHERE WHAT IT READS IS OF BULK AT MOST 1048576: true; the input reads as it did. -/
def fnExactLeastPartUptoRow : OpenClaim := { program := "ytinnndabmmnkpaa", sum := "0628a2d206495bdbd86cac4f845973da02d3c6cf40b0b7ba3edb491fd5aa0b6b", func := "loop.example/g03202/laws.FnExactLeastPart", spec := "fnExactLeastPart", unfollowed := true, recurses := true, apart := false, narrowed := true }
def FnExactLeastPartUptoSaid : Prop := fnExactLeastPartUptoRow.holds Try.pinned (OpenSpec.upto fnExactLeastPartSpec)

/-- 'laws.FnExactIsEnvyFree', WHERE WHAT IT READS IS OF BULK AT MOST 1048576: true; the input reads as it did. -/
def fnExactIsEnvyFreeUptoRow : OpenClaim := { program := "ytinnndabmmnkpaa", sum := "0628a2d206495bdbd86cac4f845973da02d3c6cf40b0b7ba3edb491fd5aa0b6b", func := "loop.example/g03202/laws.FnExactIsEnvyFree", spec := "fnExactIsEnvyFree", unfollowed := true, recurses := true, apart := false, narrowed := true }
def FnExactIsEnvyFreeUptoSaid : Prop := fnExactIsEnvyFreeUptoRow.holds Try.pinned (OpenSpec.upto fnExactIsEnvyFreeSpec)

/-- 'laws.FnExactIsProportional', WHERE WHAT IT READS IS OF BULK AT MOST 1048576: true; the input reads as it did. -/
def fnExactIsProportionalUptoRow : OpenClaim := { program := "ytinnndabmmnkpaa", sum := "0628a2d206495bdbd86cac4f845973da02d3c6cf40b0b7ba3edb491fd5aa0b6b", func := "loop.example/g03202/laws.FnExactIsProportional", spec := "fnExactIsProportional", unfollowed := true, recurses := true, apart := false, narrowed := true }
def FnExactIsProportionalUptoSaid : Prop := fnExactIsProportionalUptoRow.holds Try.pinned (OpenSpec.upto fnExactIsProportionalSpec)

/-- 'laws.FnExactIsAlmostFree', WHERE WHAT IT READS IS OF BULK AT MOST 1048576: true; the input reads as it did. -/
def fnExactIsAlmostFreeUptoRow : OpenClaim := { program := "ytinnndabmmnkpaa", sum := "0628a2d206495bdbd86cac4f845973da02d3c6cf40b0b7ba3edb491fd5aa0b6b", func := "loop.example/g03202/laws.FnExactIsAlmostFree", spec := "fnExactIsAlmostFree", unfollowed := true, recurses := true, apart := false, narrowed := true }
def FnExactIsAlmostFreeUptoSaid : Prop := fnExactIsAlmostFreeUptoRow.holds Try.pinned (OpenSpec.upto fnExactIsAlmostFreeSpec)

/-- 'laws.FnExactEnvyMatrix', WHERE WHAT IT READS IS OF BULK AT MOST 1048576: true; the input reads as it did. -/
def fnExactEnvyMatrixUptoRow : OpenClaim := { program := "ytinnndabmmnkpaa", sum := "0628a2d206495bdbd86cac4f845973da02d3c6cf40b0b7ba3edb491fd5aa0b6b", func := "loop.example/g03202/laws.FnExactEnvyMatrix", spec := "fnExactEnvyMatrix", unfollowed := true, recurses := true, apart := false, narrowed := true }
def FnExactEnvyMatrixUptoSaid : Prop := fnExactEnvyMatrixUptoRow.holds Try.pinned (OpenSpec.upto fnExactEnvyMatrixSpec)

/-- 'laws.FnExactCountNearlyFree', WHERE WHAT IT READS IS OF BULK AT MOST 1048576: true; the input reads as it did. -/
def fnExactCountNearlyFreeUptoRow : OpenClaim := { program := "ytinnndabmmnkpaa", sum := "0628a2d206495bdbd86cac4f845973da02d3c6cf40b0b7ba3edb491fd5aa0b6b", func := "loop.example/g03202/laws.FnExactCountNearlyFree", spec := "fnExactCountNearlyFree", unfollowed := true, recurses := true, apart := false, narrowed := true }
def FnExactCountNearlyFreeUptoSaid : Prop := fnExactCountNearlyFreeUptoRow.holds Try.pinned (OpenSpec.upto fnExactCountNearlyFreeSpec)

/-- 'laws.FnExactTakeTurns', WHERE WHAT IT READS IS OF BULK AT MOST 1048576: true; the input reads as it did. -/
def fnExactTakeTurnsUptoRow : OpenClaim := { program := "ytinnndabmmnkpaa", sum := "0628a2d206495bdbd86cac4f845973da02d3c6cf40b0b7ba3edb491fd5aa0b6b", func := "loop.example/g03202/laws.FnExactTakeTurns", spec := "fnExactTakeTurns", unfollowed := true, recurses := true, apart := false, narrowed := true }
def FnExactTakeTurnsUptoSaid : Prop := fnExactTakeTurnsUptoRow.holds Try.pinned (OpenSpec.upto fnExactTakeTurnsSpec)

/-- 'laws.FnExactCountEnvyFree', WHERE WHAT IT READS IS OF BULK AT MOST 1048576: true; the input reads as it did. -/
def fnExactCountEnvyFreeUptoRow : OpenClaim := { program := "ytinnndabmmnkpaa", sum := "0628a2d206495bdbd86cac4f845973da02d3c6cf40b0b7ba3edb491fd5aa0b6b", func := "loop.example/g03202/laws.FnExactCountEnvyFree", spec := "fnExactCountEnvyFree", unfollowed := true, recurses := true, apart := false, narrowed := true }
def FnExactCountEnvyFreeUptoSaid : Prop := fnExactCountEnvyFreeUptoRow.holds Try.pinned (OpenSpec.upto fnExactCountEnvyFreeSpec)

/-- 'laws.FnExactBestLeastPart', WHERE WHAT IT READS IS OF BULK AT MOST 1048576: true; the input reads as it did. -/
def fnExactBestLeastPartUptoRow : OpenClaim := { program := "ytinnndabmmnkpaa", sum := "0628a2d206495bdbd86cac4f845973da02d3c6cf40b0b7ba3edb491fd5aa0b6b", func := "loop.example/g03202/laws.FnExactBestLeastPart", spec := "fnExactBestLeastPart", unfollowed := true, recurses := true, apart := false, narrowed := true }
def FnExactBestLeastPartUptoSaid : Prop := fnExactBestLeastPartUptoRow.holds Try.pinned (OpenSpec.upto fnExactBestLeastPartSpec)

/-- 'laws.FnExactShareOf', WHERE WHAT IT READS IS OF BULK AT MOST 1048576: true; the input reads as it did. -/
def fnExactShareOfUptoRow : OpenClaim := { program := "ytinnndabmmnkpaa", sum := "0628a2d206495bdbd86cac4f845973da02d3c6cf40b0b7ba3edb491fd5aa0b6b", func := "loop.example/g03202/laws.FnExactShareOf", spec := "fnExactShareOf", unfollowed := true, recurses := true, apart := false, narrowed := true }
def FnExactShareOfUptoSaid : Prop := fnExactShareOfUptoRow.holds Try.pinned (OpenSpec.upto fnExactShareOfSpec)

/-- 'laws.FnExactShareCut', WHERE WHAT IT READS IS OF BULK AT MOST 1048576: true; the input reads as it did. -/
def fnExactShareCutUptoRow : OpenClaim := { program := "ytinnndabmmnkpaa", sum := "0628a2d206495bdbd86cac4f845973da02d3c6cf40b0b7ba3edb491fd5aa0b6b", func := "loop.example/g03202/laws.FnExactShareCut", spec := "fnExactShareCut", unfollowed := true, recurses := true, apart := false, narrowed := true }
def FnExactShareCutUptoSaid : Prop := fnExactShareCutUptoRow.holds Try.pinned (OpenSpec.upto fnExactShareCutSpec)

/-- 'laws.FnExactGiveInOrder', WHERE WHAT IT READS IS OF BULK AT MOST 1048576: true; the input reads as it did. -/
def fnExactGiveInOrderUptoRow : OpenClaim := { program := "ytinnndabmmnkpaa", sum := "0628a2d206495bdbd86cac4f845973da02d3c6cf40b0b7ba3edb491fd5aa0b6b", func := "loop.example/g03202/laws.FnExactGiveInOrder", spec := "fnExactGiveInOrder", unfollowed := true, recurses := true, apart := false, narrowed := true }
def FnExactGiveInOrderUptoSaid : Prop := fnExactGiveInOrderUptoRow.holds Try.pinned (OpenSpec.upto fnExactGiveInOrderSpec)

/-- 'laws.FnExactMostProduct', WHERE WHAT IT READS IS OF BULK AT MOST 1048576: true; the input reads as it did. -/
def fnExactMostProductUptoRow : OpenClaim := { program := "ytinnndabmmnkpaa", sum := "0628a2d206495bdbd86cac4f845973da02d3c6cf40b0b7ba3edb491fd5aa0b6b", func := "loop.example/g03202/laws.FnExactMostProduct", spec := "fnExactMostProduct", unfollowed := true, recurses := true, apart := false, narrowed := true }
def FnExactMostProductUptoSaid : Prop := fnExactMostProductUptoRow.holds Try.pinned (OpenSpec.upto fnExactMostProductSpec)

/-- 'laws.FnExactCutAndPick', WHERE WHAT IT READS IS OF BULK AT MOST 1048576: true; the input reads as it did. -/
def fnExactCutAndPickUptoRow : OpenClaim := { program := "ytinnndabmmnkpaa", sum := "0628a2d206495bdbd86cac4f845973da02d3c6cf40b0b7ba3edb491fd5aa0b6b", func := "loop.example/g03202/laws.FnExactCutAndPick", spec := "fnExactCutAndPick", unfollowed := true, recurses := true, apart := false, narrowed := true }
def FnExactCutAndPickUptoSaid : Prop := fnExactCutAndPickUptoRow.holds Try.pinned (OpenSpec.upto fnExactCutAndPickSpec)

/-- 'laws.FnExactGetsShares', WHERE WHAT IT READS IS OF BULK AT MOST 1048576: true; the input reads as it did. -/
def fnExactGetsSharesUptoRow : OpenClaim := { program := "ytinnndabmmnkpaa", sum := "0628a2d206495bdbd86cac4f845973da02d3c6cf40b0b7ba3edb491fd5aa0b6b", func := "loop.example/g03202/laws.FnExactGetsShares", spec := "fnExactGetsShares", unfollowed := true, recurses := true, apart := false, narrowed := true }
def FnExactGetsSharesUptoSaid : Prop := fnExactGetsSharesUptoRow.holds Try.pinned (OpenSpec.upto fnExactGetsSharesSpec)

/-- 'laws.FnShares', WHERE WHAT IT READS IS OF BULK AT MOST 1048576: true; the input reads as it did. -/
def fnSharesUptoRow : OpenClaim := { program := "ytinnndabmmnkpaa", sum := "0628a2d206495bdbd86cac4f845973da02d3c6cf40b0b7ba3edb491fd5aa0b6b", func := "loop.example/g03202/laws.FnShares", spec := "fnShares", unfollowed := true, recurses := true, apart := false, narrowed := true }
def FnSharesUptoSaid : Prop := fnSharesUptoRow.holds Try.pinned (OpenSpec.upto fnSharesSpec)

/-- 'laws.FnGoods', WHERE WHAT IT READS IS OF BULK AT MOST 1048576: true; the input reads as it did. -/
def fnGoodsUptoRow : OpenClaim := { program := "ytinnndabmmnkpaa", sum := "0628a2d206495bdbd86cac4f845973da02d3c6cf40b0b7ba3edb491fd5aa0b6b", func := "loop.example/g03202/laws.FnGoods", spec := "fnGoods", unfollowed := true, recurses := true, apart := false, narrowed := true }
def FnGoodsUptoSaid : Prop := fnGoodsUptoRow.holds Try.pinned (OpenSpec.upto fnGoodsSpec)

end Rows
end Go.Proofs.Ytinnndabmmnkpaa
