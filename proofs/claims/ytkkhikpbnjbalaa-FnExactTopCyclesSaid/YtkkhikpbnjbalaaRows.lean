/-
  No cell of these rows narrows 'for every input' (looked for: loops, veiled, ifaces, maps, wideKeys, modest, calm, conditions, laid).
  DERIVED. THE GIVEN ROWS OF THIS SEAT. 13 by the template 'for every input the law returns true; each argument reads behind the call as it read before'; 0 by the template 'total and deterministic' (their statements: YtkkhikpbnjbalaaTotals.lean).
  GIVEN WITH THE SEED: the statements are not yours to turn. If you find one false, say at which input.
  Laid BY PROGRAM, IN A SANDBOX (cutbox-rows.mjs): the forced cells as the released guide's own fill.sh prints them over the translation fc84d34885d782ea… (all of the seat's roots in one cut). By AI agents, Wed Nov 11 2026. No macro, syntax, notation, axiom, sorry.
-/
import Derived.Test.YtkkhikpbnjbalaaChecked
import GoSem.Claim
import GoSem.ClaimJoined
import GoSem.ClaimMapViews
import Derived.JoinedTies
import Derived.KernelRfl
namespace Go.Proofs.Ytkkhikpbnjbalaa
/- THE CELL 'sum', in the pinned program and in every row, IS THE sha256 OF THE DUMP (.gsa) THAT YtkkhikpbnjbalaaProg.lean LOADS. Nothing in Lean hashes anything: it is a label: what it is worth is what the hold of that sum in a sandbox is worth. -/
noncomputable def Try.pinned : Pinned := { name := "ytkkhikpbnjbalaa", sum := "fc84d34885d782ea4801931c64998404367ac808a3db824ff8467f2c8c4a7054", checked := Try.checked }
namespace Rows
def none {H : Type} : Left H := { results := [], args := [] }

/-- 'laws.FnExactRentOk': WHATEVER THE INPUT: true; the input reads as it did. -/
def fnExactRentOkSpec : ChangeSpec := { name := "fnExactRentOk", fn := fun _ => fun
  | [d] => { results := [.lit (.bool true)], args := [d] }
  | _ => none }
def fnExactRentOkRow : OpenClaim := { program := "ytkkhikpbnjbalaa", sum := "fc84d34885d782ea4801931c64998404367ac808a3db824ff8467f2c8c4a7054", func := "loop.example/g03202/laws.FnExactRentOk", spec := "fnExactRentOk", unfollowed := true, recurses := true, apart := false }
def FnExactRentOkSaid : Prop := fnExactRentOkRow.holds Try.pinned (OpenSpec.ofChange fnExactRentOkSpec)

/-- ITS FALSE NEIGHBOUR: 'it returns false'. Refute it at one input. -/
def fnExactRentOkWrong : ChangeSpec := { name := "fnExactRentOk", fn := fun _ => fun
  | [d] => { results := [.lit (.bool false)], args := [d] }
  | _ => none }
def FnExactRentOkWrongFalsely : Prop := fnExactRentOkRow.holds Try.pinned (OpenSpec.ofChange fnExactRentOkWrong)

/-- 'laws.FnExactHousesOk': WHATEVER THE INPUT: true; the input reads as it did. -/
def fnExactHousesOkSpec : ChangeSpec := { name := "fnExactHousesOk", fn := fun _ => fun
  | [d] => { results := [.lit (.bool true)], args := [d] }
  | _ => none }
def fnExactHousesOkRow : OpenClaim := { program := "ytkkhikpbnjbalaa", sum := "fc84d34885d782ea4801931c64998404367ac808a3db824ff8467f2c8c4a7054", func := "loop.example/g03202/laws.FnExactHousesOk", spec := "fnExactHousesOk", unfollowed := true, recurses := true, apart := false }
def FnExactHousesOkSaid : Prop := fnExactHousesOkRow.holds Try.pinned (OpenSpec.ofChange fnExactHousesOkSpec)

/-- ITS FALSE NEIGHBOUR: 'it returns false'. Refute it at one input. -/
def fnExactHousesOkWrong : ChangeSpec := { name := "fnExactHousesOk", fn := fun _ => fun
  | [d] => { results := [.lit (.bool false)], args := [d] }
  | _ => none }
def FnExactHousesOkWrongFalsely : Prop := fnExactHousesOkRow.holds Try.pinned (OpenSpec.ofChange fnExactHousesOkWrong)

/-- 'laws.FnExactRoomValue': WHATEVER THE INPUT: true; the input reads as it did. -/
def fnExactRoomValueSpec : ChangeSpec := { name := "fnExactRoomValue", fn := fun _ => fun
  | [d1, d2] => { results := [.lit (.bool true)], args := [d1, d2] }
  | _ => none }
def fnExactRoomValueRow : OpenClaim := { program := "ytkkhikpbnjbalaa", sum := "fc84d34885d782ea4801931c64998404367ac808a3db824ff8467f2c8c4a7054", func := "loop.example/g03202/laws.FnExactRoomValue", spec := "fnExactRoomValue", unfollowed := true, recurses := true, apart := false }
def FnExactRoomValueSaid : Prop := fnExactRoomValueRow.holds Try.pinned (OpenSpec.ofChange fnExactRoomValueSpec)

/-- ITS FALSE NEIGHBOUR: 'it returns false'. Refute it at one input. -/
def fnExactRoomValueWrong : ChangeSpec := { name := "fnExactRoomValue", fn := fun _ => fun
  | [d1, d2] => { results := [.lit (.bool false)], args := [d1, d2] }
  | _ => none }
def FnExactRoomValueWrongFalsely : Prop := fnExactRoomValueRow.holds Try.pinned (OpenSpec.ofChange fnExactRoomValueWrong)

/-- 'laws.FnExactKeepsOwners': WHATEVER THE INPUT: true; the input reads as it did. -/
def fnExactKeepsOwnersSpec : ChangeSpec := { name := "fnExactKeepsOwners", fn := fun _ => fun
  | [d1, d2] => { results := [.lit (.bool true)], args := [d1, d2] }
  | _ => none }
def fnExactKeepsOwnersRow : OpenClaim := { program := "ytkkhikpbnjbalaa", sum := "fc84d34885d782ea4801931c64998404367ac808a3db824ff8467f2c8c4a7054", func := "loop.example/g03202/laws.FnExactKeepsOwners", spec := "fnExactKeepsOwners", unfollowed := true, recurses := true, apart := false }
def FnExactKeepsOwnersSaid : Prop := fnExactKeepsOwnersRow.holds Try.pinned (OpenSpec.ofChange fnExactKeepsOwnersSpec)

/-- ITS FALSE NEIGHBOUR: 'it returns false'. Refute it at one input. -/
def fnExactKeepsOwnersWrong : ChangeSpec := { name := "fnExactKeepsOwners", fn := fun _ => fun
  | [d1, d2] => { results := [.lit (.bool false)], args := [d1, d2] }
  | _ => none }
def FnExactKeepsOwnersWrongFalsely : Prop := fnExactKeepsOwnersRow.holds Try.pinned (OpenSpec.ofChange fnExactKeepsOwnersWrong)

/-- 'laws.FnExactLeastRaises': WHATEVER THE INPUT: true; the input reads as it did. -/
def fnExactLeastRaisesSpec : ChangeSpec := { name := "fnExactLeastRaises", fn := fun _ => fun
  | [d1, d2] => { results := [.lit (.bool true)], args := [d1, d2] }
  | _ => none }
def fnExactLeastRaisesRow : OpenClaim := { program := "ytkkhikpbnjbalaa", sum := "fc84d34885d782ea4801931c64998404367ac808a3db824ff8467f2c8c4a7054", func := "loop.example/g03202/laws.FnExactLeastRaises", spec := "fnExactLeastRaises", unfollowed := true, recurses := true, apart := false }
def FnExactLeastRaisesSaid : Prop := fnExactLeastRaisesRow.holds Try.pinned (OpenSpec.ofChange fnExactLeastRaisesSpec)

/-- ITS FALSE NEIGHBOUR: 'it returns false'. Refute it at one input. -/
def fnExactLeastRaisesWrong : ChangeSpec := { name := "fnExactLeastRaises", fn := fun _ => fun
  | [d1, d2] => { results := [.lit (.bool false)], args := [d1, d2] }
  | _ => none }
def FnExactLeastRaisesWrongFalsely : Prop := fnExactLeastRaisesRow.holds Try.pinned (OpenSpec.ofChange fnExactLeastRaisesWrong)

/-- 'laws.FnExactSerialChoice': WHATEVER THE INPUT: true; the input reads as it did. -/
def fnExactSerialChoiceSpec : ChangeSpec := { name := "fnExactSerialChoice", fn := fun _ => fun
  | [d1, d2] => { results := [.lit (.bool true)], args := [d1, d2] }
  | _ => none }
def fnExactSerialChoiceRow : OpenClaim := { program := "ytkkhikpbnjbalaa", sum := "fc84d34885d782ea4801931c64998404367ac808a3db824ff8467f2c8c4a7054", func := "loop.example/g03202/laws.FnExactSerialChoice", spec := "fnExactSerialChoice", unfollowed := true, recurses := true, apart := false }
def FnExactSerialChoiceSaid : Prop := fnExactSerialChoiceRow.holds Try.pinned (OpenSpec.ofChange fnExactSerialChoiceSpec)

/-- ITS FALSE NEIGHBOUR: 'it returns false'. Refute it at one input. -/
def fnExactSerialChoiceWrong : ChangeSpec := { name := "fnExactSerialChoice", fn := fun _ => fun
  | [d1, d2] => { results := [.lit (.bool false)], args := [d1, d2] }
  | _ => none }
def FnExactSerialChoiceWrongFalsely : Prop := fnExactSerialChoiceRow.holds Try.pinned (OpenSpec.ofChange fnExactSerialChoiceWrong)

/-- 'laws.FnExactCountBestRooms': WHATEVER THE INPUT: true; the input reads as it did. -/
def fnExactCountBestRoomsSpec : ChangeSpec := { name := "fnExactCountBestRooms", fn := fun _ => fun
  | [d] => { results := [.lit (.bool true)], args := [d] }
  | _ => none }
def fnExactCountBestRoomsRow : OpenClaim := { program := "ytkkhikpbnjbalaa", sum := "fc84d34885d782ea4801931c64998404367ac808a3db824ff8467f2c8c4a7054", func := "loop.example/g03202/laws.FnExactCountBestRooms", spec := "fnExactCountBestRooms", unfollowed := true, recurses := true, apart := false }
def FnExactCountBestRoomsSaid : Prop := fnExactCountBestRoomsRow.holds Try.pinned (OpenSpec.ofChange fnExactCountBestRoomsSpec)

/-- ITS FALSE NEIGHBOUR: 'it returns false'. Refute it at one input. -/
def fnExactCountBestRoomsWrong : ChangeSpec := { name := "fnExactCountBestRooms", fn := fun _ => fun
  | [d] => { results := [.lit (.bool false)], args := [d] }
  | _ => none }
def FnExactCountBestRoomsWrongFalsely : Prop := fnExactCountBestRoomsRow.holds Try.pinned (OpenSpec.ofChange fnExactCountBestRoomsWrong)

/-- 'laws.FnExactIsUnimproved': WHATEVER THE INPUT: true; the input reads as it did. -/
def fnExactIsUnimprovedSpec : ChangeSpec := { name := "fnExactIsUnimproved", fn := fun _ => fun
  | [d1, d2] => { results := [.lit (.bool true)], args := [d1, d2] }
  | _ => none }
def fnExactIsUnimprovedRow : OpenClaim := { program := "ytkkhikpbnjbalaa", sum := "fc84d34885d782ea4801931c64998404367ac808a3db824ff8467f2c8c4a7054", func := "loop.example/g03202/laws.FnExactIsUnimproved", spec := "fnExactIsUnimproved", unfollowed := true, recurses := true, apart := false }
def FnExactIsUnimprovedSaid : Prop := fnExactIsUnimprovedRow.holds Try.pinned (OpenSpec.ofChange fnExactIsUnimprovedSpec)

/-- ITS FALSE NEIGHBOUR: 'it returns false'. Refute it at one input. -/
def fnExactIsUnimprovedWrong : ChangeSpec := { name := "fnExactIsUnimproved", fn := fun _ => fun
  | [d1, d2] => { results := [.lit (.bool false)], args := [d1, d2] }
  | _ => none }
def FnExactIsUnimprovedWrongFalsely : Prop := fnExactIsUnimprovedRow.holds Try.pinned (OpenSpec.ofChange fnExactIsUnimprovedWrong)

/-- 'laws.FnExactBlockingSet': WHATEVER THE INPUT: true; the input reads as it did. -/
def fnExactBlockingSetSpec : ChangeSpec := { name := "fnExactBlockingSet", fn := fun _ => fun
  | [d1, d2] => { results := [.lit (.bool true)], args := [d1, d2] }
  | _ => none }
def fnExactBlockingSetRow : OpenClaim := { program := "ytkkhikpbnjbalaa", sum := "fc84d34885d782ea4801931c64998404367ac808a3db824ff8467f2c8c4a7054", func := "loop.example/g03202/laws.FnExactBlockingSet", spec := "fnExactBlockingSet", unfollowed := true, recurses := true, apart := false }
def FnExactBlockingSetSaid : Prop := fnExactBlockingSetRow.holds Try.pinned (OpenSpec.ofChange fnExactBlockingSetSpec)

/-- ITS FALSE NEIGHBOUR: 'it returns false'. Refute it at one input. -/
def fnExactBlockingSetWrong : ChangeSpec := { name := "fnExactBlockingSet", fn := fun _ => fun
  | [d1, d2] => { results := [.lit (.bool false)], args := [d1, d2] }
  | _ => none }
def FnExactBlockingSetWrongFalsely : Prop := fnExactBlockingSetRow.holds Try.pinned (OpenSpec.ofChange fnExactBlockingSetWrong)

/-- 'laws.FnExactTopCycles': WHATEVER THE INPUT: true; the input reads as it did. -/
def fnExactTopCyclesSpec : ChangeSpec := { name := "fnExactTopCycles", fn := fun _ => fun
  | [d] => { results := [.lit (.bool true)], args := [d] }
  | _ => none }
def fnExactTopCyclesRow : OpenClaim := { program := "ytkkhikpbnjbalaa", sum := "fc84d34885d782ea4801931c64998404367ac808a3db824ff8467f2c8c4a7054", func := "loop.example/g03202/laws.FnExactTopCycles", spec := "fnExactTopCycles", unfollowed := true, recurses := true, apart := false }
def FnExactTopCyclesSaid : Prop := fnExactTopCyclesRow.holds Try.pinned (OpenSpec.ofChange fnExactTopCyclesSpec)

/-- ITS FALSE NEIGHBOUR: 'it returns false'. Refute it at one input. -/
def fnExactTopCyclesWrong : ChangeSpec := { name := "fnExactTopCycles", fn := fun _ => fun
  | [d] => { results := [.lit (.bool false)], args := [d] }
  | _ => none }
def FnExactTopCyclesWrongFalsely : Prop := fnExactTopCyclesRow.holds Try.pinned (OpenSpec.ofChange fnExactTopCyclesWrong)

/-- 'laws.FnExactExchangeBy': WHATEVER THE INPUT: true; the input reads as it did. -/
def fnExactExchangeBySpec : ChangeSpec := { name := "fnExactExchangeBy", fn := fun _ => fun
  | [d] => { results := [.lit (.bool true)], args := [d] }
  | _ => none }
def fnExactExchangeByRow : OpenClaim := { program := "ytkkhikpbnjbalaa", sum := "fc84d34885d782ea4801931c64998404367ac808a3db824ff8467f2c8c4a7054", func := "loop.example/g03202/laws.FnExactExchangeBy", spec := "fnExactExchangeBy", unfollowed := true, recurses := true, apart := false }
def FnExactExchangeBySaid : Prop := fnExactExchangeByRow.holds Try.pinned (OpenSpec.ofChange fnExactExchangeBySpec)

/-- ITS FALSE NEIGHBOUR: 'it returns false'. Refute it at one input. -/
def fnExactExchangeByWrong : ChangeSpec := { name := "fnExactExchangeBy", fn := fun _ => fun
  | [d] => { results := [.lit (.bool false)], args := [d] }
  | _ => none }
def FnExactExchangeByWrongFalsely : Prop := fnExactExchangeByRow.holds Try.pinned (OpenSpec.ofChange fnExactExchangeByWrong)

/-- 'laws.FnExactUnimprovedExchanges': WHATEVER THE INPUT: true; the input reads as it did. -/
def fnExactUnimprovedExchangesSpec : ChangeSpec := { name := "fnExactUnimprovedExchanges", fn := fun _ => fun
  | [d] => { results := [.lit (.bool true)], args := [d] }
  | _ => none }
def fnExactUnimprovedExchangesRow : OpenClaim := { program := "ytkkhikpbnjbalaa", sum := "fc84d34885d782ea4801931c64998404367ac808a3db824ff8467f2c8c4a7054", func := "loop.example/g03202/laws.FnExactUnimprovedExchanges", spec := "fnExactUnimprovedExchanges", unfollowed := true, recurses := true, apart := false }
def FnExactUnimprovedExchangesSaid : Prop := fnExactUnimprovedExchangesRow.holds Try.pinned (OpenSpec.ofChange fnExactUnimprovedExchangesSpec)

/-- ITS FALSE NEIGHBOUR: 'it returns false'. Refute it at one input. -/
def fnExactUnimprovedExchangesWrong : ChangeSpec := { name := "fnExactUnimprovedExchanges", fn := fun _ => fun
  | [d] => { results := [.lit (.bool false)], args := [d] }
  | _ => none }
def FnExactUnimprovedExchangesWrongFalsely : Prop := fnExactUnimprovedExchangesRow.holds Try.pinned (OpenSpec.ofChange fnExactUnimprovedExchangesWrong)

/-- 'laws.FnHouses': WHATEVER THE INPUT: true; the input reads as it did. -/
def fnHousesSpec : ChangeSpec := { name := "fnHouses", fn := fun _ => fun
  | [d] => { results := [.lit (.bool true)], args := [d] }
  | _ => none }
def fnHousesRow : OpenClaim := { program := "ytkkhikpbnjbalaa", sum := "fc84d34885d782ea4801931c64998404367ac808a3db824ff8467f2c8c4a7054", func := "loop.example/g03202/laws.FnHouses", spec := "fnHouses", unfollowed := true, recurses := true, apart := false }
def FnHousesSaid : Prop := fnHousesRow.holds Try.pinned (OpenSpec.ofChange fnHousesSpec)

/-- ITS FALSE NEIGHBOUR: 'it returns false'. Refute it at one input. -/
def fnHousesWrong : ChangeSpec := { name := "fnHouses", fn := fun _ => fun
  | [d] => { results := [.lit (.bool false)], args := [d] }
  | _ => none }
def FnHousesWrongFalsely : Prop := fnHousesRow.holds Try.pinned (OpenSpec.ofChange fnHousesWrong)

/- THE SECOND FORM. 'bulk': how many values and letters a reading holds, each counted each time it is reached (what is shared counts as often as it is met; a slice's spare places count too). A statement '..UptoSaid' is the law's where the arguments, and the package variables that the reading takes, are together of bulk at most 1048576: NARROWER than '..Said'. Prove '..Said' where nothing that the law and all that it calls make is longer than what came in: it says more and counts as full. Else prove '..UptoSaid'. A law counts once. -/
mutual
def uptoBulk {H : Type} : DataW H → Nat
  | .lit (.string bytes) => bytes.length + 1
  | .lit _ => 1
  | .nil => 1
  | .ptr d => uptoBulk d + 1
  | .slice elems spare => uptoBulkAll elems + uptoBulkAll spare + 1
  | .agg parts => uptoBulkAll parts + 1
  | .iface _ d => uptoBulk d + 1
  | .map entries => uptoBulkEntries entries + 1
  | .held _ => 1
def uptoBulkAll {H : Type} : List (DataW H) → Nat
  | [] => 0
  | d :: r => uptoBulk d + uptoBulkAll r
def uptoBulkEntries {H : Type} : List (Lit × DataW H) → Nat
  | [] => 0
  | x :: r => uptoBulkEntry x + uptoBulkEntries r
def uptoBulkEntry {H : Type} : Lit × DataW H → Nat
  | (.string bytes, d) => bytes.length + uptoBulk d + 1
  | (_, d) => uptoBulk d + 1
 end
def uptoSmall : (H : Type) → List (DataW H) → Bool := fun _ ds => decide (uptoBulkAll ds ≤ 1048576)
def OpenSpec.upto (s : _root_.Go.ChangeSpec) : _root_.Go.OpenSpec := { _root_.Go.OpenSpec.ofChange s with cond := some uptoSmall }

/-- 'laws.FnExactRentOk', WHERE WHAT IT READS IS OF BULK AT MOST 1048576: true; the input reads as it did. -/
def fnExactRentOkUptoRow : OpenClaim := { program := "ytkkhikpbnjbalaa", sum := "fc84d34885d782ea4801931c64998404367ac808a3db824ff8467f2c8c4a7054", func := "loop.example/g03202/laws.FnExactRentOk", spec := "fnExactRentOk", unfollowed := true, recurses := true, apart := false, narrowed := true }
def FnExactRentOkUptoSaid : Prop := fnExactRentOkUptoRow.holds Try.pinned (OpenSpec.upto fnExactRentOkSpec)

/-- 'laws.FnExactHousesOk', WHERE WHAT IT READS IS OF BULK AT MOST 1048576: true; the input reads as it did. -/
def fnExactHousesOkUptoRow : OpenClaim := { program := "ytkkhikpbnjbalaa", sum := "fc84d34885d782ea4801931c64998404367ac808a3db824ff8467f2c8c4a7054", func := "loop.example/g03202/laws.FnExactHousesOk", spec := "fnExactHousesOk", unfollowed := true, recurses := true, apart := false, narrowed := true }
def FnExactHousesOkUptoSaid : Prop := fnExactHousesOkUptoRow.holds Try.pinned (OpenSpec.upto fnExactHousesOkSpec)

/-- 'laws.FnExactRoomValue', WHERE WHAT IT READS IS OF BULK AT MOST 1048576: true; the input reads as it did. -/
def fnExactRoomValueUptoRow : OpenClaim := { program := "ytkkhikpbnjbalaa", sum := "fc84d34885d782ea4801931c64998404367ac808a3db824ff8467f2c8c4a7054", func := "loop.example/g03202/laws.FnExactRoomValue", spec := "fnExactRoomValue", unfollowed := true, recurses := true, apart := false, narrowed := true }
def FnExactRoomValueUptoSaid : Prop := fnExactRoomValueUptoRow.holds Try.pinned (OpenSpec.upto fnExactRoomValueSpec)

/-- 'laws.FnExactKeepsOwners', WHERE WHAT IT READS IS OF BULK AT MOST 1048576: true; the input reads as it did. -/
def fnExactKeepsOwnersUptoRow : OpenClaim := { program := "ytkkhikpbnjbalaa", sum := "fc84d34885d782ea4801931c64998404367ac808a3db824ff8467f2c8c4a7054", func := "loop.example/g03202/laws.FnExactKeepsOwners", spec := "fnExactKeepsOwners", unfollowed := true, recurses := true, apart := false, narrowed := true }
def FnExactKeepsOwnersUptoSaid : Prop := fnExactKeepsOwnersUptoRow.holds Try.pinned (OpenSpec.upto fnExactKeepsOwnersSpec)

/-- 'laws.FnExactLeastRaises', WHERE WHAT IT READS IS OF BULK AT MOST 1048576: true; the input reads as it did. -/
def fnExactLeastRaisesUptoRow : OpenClaim := { program := "ytkkhikpbnjbalaa", sum := "fc84d34885d782ea4801931c64998404367ac808a3db824ff8467f2c8c4a7054", func := "loop.example/g03202/laws.FnExactLeastRaises", spec := "fnExactLeastRaises", unfollowed := true, recurses := true, apart := false, narrowed := true }
def FnExactLeastRaisesUptoSaid : Prop := fnExactLeastRaisesUptoRow.holds Try.pinned (OpenSpec.upto fnExactLeastRaisesSpec)

/-- 'laws.FnExactSerialChoice', WHERE WHAT IT READS IS OF BULK AT MOST 1048576: true; the input reads as it did. -/
def fnExactSerialChoiceUptoRow : OpenClaim := { program := "ytkkhikpbnjbalaa", sum := "fc84d34885d782ea4801931c64998404367ac808a3db824ff8467f2c8c4a7054", func := "loop.example/g03202/laws.FnExactSerialChoice", spec := "fnExactSerialChoice", unfollowed := true, recurses := true, apart := false, narrowed := true }
def FnExactSerialChoiceUptoSaid : Prop := fnExactSerialChoiceUptoRow.holds Try.pinned (OpenSpec.upto fnExactSerialChoiceSpec)

/-- 'laws.FnExactCountBestRooms', WHERE WHAT IT READS IS OF BULK AT MOST 1048576: true; the input reads as it did. -/
def fnExactCountBestRoomsUptoRow : OpenClaim := { program := "ytkkhikpbnjbalaa", sum := "fc84d34885d782ea4801931c64998404367ac808a3db824ff8467f2c8c4a7054", func := "loop.example/g03202/laws.FnExactCountBestRooms", spec := "fnExactCountBestRooms", unfollowed := true, recurses := true, apart := false, narrowed := true }
def FnExactCountBestRoomsUptoSaid : Prop := fnExactCountBestRoomsUptoRow.holds Try.pinned (OpenSpec.upto fnExactCountBestRoomsSpec)

/-- 'laws.FnExactIsUnimproved', WHERE WHAT IT READS IS OF BULK AT MOST 1048576: true; the input reads as it did. -/
def fnExactIsUnimprovedUptoRow : OpenClaim := { program := "ytkkhikpbnjbalaa", sum := "fc84d34885d782ea4801931c64998404367ac808a3db824ff8467f2c8c4a7054", func := "loop.example/g03202/laws.FnExactIsUnimproved", spec := "fnExactIsUnimproved", unfollowed := true, recurses := true, apart := false, narrowed := true }
def FnExactIsUnimprovedUptoSaid : Prop := fnExactIsUnimprovedUptoRow.holds Try.pinned (OpenSpec.upto fnExactIsUnimprovedSpec)

/-- 'laws.FnExactBlockingSet', WHERE WHAT IT READS IS OF BULK AT MOST 1048576: true; the input reads as it did. -/
def fnExactBlockingSetUptoRow : OpenClaim := { program := "ytkkhikpbnjbalaa", sum := "fc84d34885d782ea4801931c64998404367ac808a3db824ff8467f2c8c4a7054", func := "loop.example/g03202/laws.FnExactBlockingSet", spec := "fnExactBlockingSet", unfollowed := true, recurses := true, apart := false, narrowed := true }
def FnExactBlockingSetUptoSaid : Prop := fnExactBlockingSetUptoRow.holds Try.pinned (OpenSpec.upto fnExactBlockingSetSpec)

/-- 'laws.FnExactTopCycles', WHERE WHAT IT READS IS OF BULK AT MOST 1048576: true; the input reads as it did. -/
def fnExactTopCyclesUptoRow : OpenClaim := { program := "ytkkhikpbnjbalaa", sum := "fc84d34885d782ea4801931c64998404367ac808a3db824ff8467f2c8c4a7054", func := "loop.example/g03202/laws.FnExactTopCycles", spec := "fnExactTopCycles", unfollowed := true, recurses := true, apart := false, narrowed := true }
def FnExactTopCyclesUptoSaid : Prop := fnExactTopCyclesUptoRow.holds Try.pinned (OpenSpec.upto fnExactTopCyclesSpec)

/-- 'laws.FnExactExchangeBy', WHERE WHAT IT READS IS OF BULK AT MOST 1048576: true; the input reads as it did. -/
def fnExactExchangeByUptoRow : OpenClaim := { program := "ytkkhikpbnjbalaa", sum := "fc84d34885d782ea4801931c64998404367ac808a3db824ff8467f2c8c4a7054", func := "loop.example/g03202/laws.FnExactExchangeBy", spec := "fnExactExchangeBy", unfollowed := true, recurses := true, apart := false, narrowed := true }
def FnExactExchangeByUptoSaid : Prop := fnExactExchangeByUptoRow.holds Try.pinned (OpenSpec.upto fnExactExchangeBySpec)

/-- 'laws.FnExactUnimprovedExchanges', WHERE WHAT IT READS IS OF BULK AT MOST 1048576: true; the input reads as it did. -/
def fnExactUnimprovedExchangesUptoRow : OpenClaim := { program := "ytkkhikpbnjbalaa", sum := "fc84d34885d782ea4801931c64998404367ac808a3db824ff8467f2c8c4a7054", func := "loop.example/g03202/laws.FnExactUnimprovedExchanges", spec := "fnExactUnimprovedExchanges", unfollowed := true, recurses := true, apart := false, narrowed := true }
def FnExactUnimprovedExchangesUptoSaid : Prop := fnExactUnimprovedExchangesUptoRow.holds Try.pinned (OpenSpec.upto fnExactUnimprovedExchangesSpec)

/-- 'laws.FnHouses', WHERE WHAT IT READS IS OF BULK AT MOST 1048576: true; the input reads as it did. -/
def fnHousesUptoRow : OpenClaim := { program := "ytkkhikpbnjbalaa", sum := "fc84d34885d782ea4801931c64998404367ac808a3db824ff8467f2c8c4a7054", func := "loop.example/g03202/laws.FnHouses", spec := "fnHouses", unfollowed := true, recurses := true, apart := false, narrowed := true }
def FnHousesUptoSaid : Prop := fnHousesUptoRow.holds Try.pinned (OpenSpec.upto fnHousesSpec)

end Rows
end Go.Proofs.Ytkkhikpbnjbalaa
