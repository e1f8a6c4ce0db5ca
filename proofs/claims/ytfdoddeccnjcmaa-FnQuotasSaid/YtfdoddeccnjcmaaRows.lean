/-
  No cell of these rows narrows 'for every input' (looked for: loops, veiled, ifaces, maps, wideKeys, modest, calm, conditions, laid).
  DERIVED. THE GIVEN ROWS OF THIS SEAT. 5 by the template 'for every input the law returns true; each argument reads behind the call as it read before'; 0 by the template 'total and deterministic' (their statements: YtfdoddeccnjcmaaTotals.lean).
  GIVEN WITH THE SEED: the statements are not yours to turn. If you find one false, say at which input.
  Laid BY PROGRAM, IN A SANDBOX (cutbox-rows.mjs): the forced cells as the released guide's own fill.sh prints them over the translation 9381166230ea7543… (all of the seat's roots in one cut). By AI agents, Wed Nov 11 2026. No macro, syntax, notation, axiom, sorry.
-/
import Derived.Test.YtfdoddeccnjcmaaChecked
import GoSem.Claim
import GoSem.ClaimJoined
import GoSem.ClaimMapViews
import Derived.JoinedTies
import Derived.KernelRfl
namespace Go.Proofs.Ytfdoddeccnjcmaa
/- THE CELL 'sum', in the pinned program and in every row, IS THE sha256 OF THE DUMP (.gsa) THAT YtfdoddeccnjcmaaProg.lean LOADS. Nothing in Lean hashes anything: it is a label: what it is worth is what the hold of that sum in a sandbox is worth. -/
noncomputable def Try.pinned : Pinned := { name := "ytfdoddeccnjcmaa", sum := "9381166230ea7543c14e9ec795bc296435c2ccd7a21f001a55b8adddd336f2ae", checked := Try.checked }
namespace Rows
def none {H : Type} : Left H := { results := [], args := [] }

/-- 'laws.FnShifts': WHATEVER THE INPUT: true; the input reads as it did. -/
def fnShiftsSpec : ChangeSpec := { name := "fnShifts", fn := fun _ => fun
  | [d] => { results := [.lit (.bool true)], args := [d] }
  | _ => none }
def fnShiftsRow : OpenClaim := { program := "ytfdoddeccnjcmaa", sum := "9381166230ea7543c14e9ec795bc296435c2ccd7a21f001a55b8adddd336f2ae", func := "loop.example/g03202/laws.FnShifts", spec := "fnShifts", unfollowed := true, recurses := true, apart := false }
def FnShiftsSaid : Prop := fnShiftsRow.holds Try.pinned (OpenSpec.ofChange fnShiftsSpec)

/-- ITS FALSE NEIGHBOUR: 'it returns false'. Refute it at one input. -/
def fnShiftsWrong : ChangeSpec := { name := "fnShifts", fn := fun _ => fun
  | [d] => { results := [.lit (.bool false)], args := [d] }
  | _ => none }
def FnShiftsWrongFalsely : Prop := fnShiftsRow.holds Try.pinned (OpenSpec.ofChange fnShiftsWrong)

/-- 'laws.FnQuotas': WHATEVER THE INPUT: true; the input reads as it did. -/
def fnQuotasSpec : ChangeSpec := { name := "fnQuotas", fn := fun _ => fun
  | [d] => { results := [.lit (.bool true)], args := [d] }
  | _ => none }
def fnQuotasRow : OpenClaim := { program := "ytfdoddeccnjcmaa", sum := "9381166230ea7543c14e9ec795bc296435c2ccd7a21f001a55b8adddd336f2ae", func := "loop.example/g03202/laws.FnQuotas", spec := "fnQuotas", unfollowed := true, recurses := true, apart := false }
def FnQuotasSaid : Prop := fnQuotasRow.holds Try.pinned (OpenSpec.ofChange fnQuotasSpec)

/-- ITS FALSE NEIGHBOUR: 'it returns false'. Refute it at one input. -/
def fnQuotasWrong : ChangeSpec := { name := "fnQuotas", fn := fun _ => fun
  | [d] => { results := [.lit (.bool false)], args := [d] }
  | _ => none }
def FnQuotasWrongFalsely : Prop := fnQuotasRow.holds Try.pinned (OpenSpec.ofChange fnQuotasWrong)

/-- 'laws.FnHouses': WHATEVER THE INPUT: true; the input reads as it did. -/
def fnHousesSpec : ChangeSpec := { name := "fnHouses", fn := fun _ => fun
  | [d] => { results := [.lit (.bool true)], args := [d] }
  | _ => none }
def fnHousesRow : OpenClaim := { program := "ytfdoddeccnjcmaa", sum := "9381166230ea7543c14e9ec795bc296435c2ccd7a21f001a55b8adddd336f2ae", func := "loop.example/g03202/laws.FnHouses", spec := "fnHouses", unfollowed := true, recurses := true, apart := false }
def FnHousesSaid : Prop := fnHousesRow.holds Try.pinned (OpenSpec.ofChange fnHousesSpec)

/-- ITS FALSE NEIGHBOUR: 'it returns false'. Refute it at one input. -/
def fnHousesWrong : ChangeSpec := { name := "fnHouses", fn := fun _ => fun
  | [d] => { results := [.lit (.bool false)], args := [d] }
  | _ => none }
def FnHousesWrongFalsely : Prop := fnHousesRow.holds Try.pinned (OpenSpec.ofChange fnHousesWrong)

/-- 'laws.FnGoods': WHATEVER THE INPUT: true; the input reads as it did. -/
def fnGoodsSpec : ChangeSpec := { name := "fnGoods", fn := fun _ => fun
  | [d] => { results := [.lit (.bool true)], args := [d] }
  | _ => none }
def fnGoodsRow : OpenClaim := { program := "ytfdoddeccnjcmaa", sum := "9381166230ea7543c14e9ec795bc296435c2ccd7a21f001a55b8adddd336f2ae", func := "loop.example/g03202/laws.FnGoods", spec := "fnGoods", unfollowed := true, recurses := true, apart := false }
def FnGoodsSaid : Prop := fnGoodsRow.holds Try.pinned (OpenSpec.ofChange fnGoodsSpec)

/-- ITS FALSE NEIGHBOUR: 'it returns false'. Refute it at one input. -/
def fnGoodsWrong : ChangeSpec := { name := "fnGoods", fn := fun _ => fun
  | [d] => { results := [.lit (.bool false)], args := [d] }
  | _ => none }
def FnGoodsWrongFalsely : Prop := fnGoodsRow.holds Try.pinned (OpenSpec.ofChange fnGoodsWrong)

/-- 'laws.FnShares': WHATEVER THE INPUT: true; the input reads as it did. -/
def fnSharesSpec : ChangeSpec := { name := "fnShares", fn := fun _ => fun
  | [d] => { results := [.lit (.bool true)], args := [d] }
  | _ => none }
def fnSharesRow : OpenClaim := { program := "ytfdoddeccnjcmaa", sum := "9381166230ea7543c14e9ec795bc296435c2ccd7a21f001a55b8adddd336f2ae", func := "loop.example/g03202/laws.FnShares", spec := "fnShares", unfollowed := true, recurses := true, apart := false }
def FnSharesSaid : Prop := fnSharesRow.holds Try.pinned (OpenSpec.ofChange fnSharesSpec)

/-- ITS FALSE NEIGHBOUR: 'it returns false'. Refute it at one input. -/
def fnSharesWrong : ChangeSpec := { name := "fnShares", fn := fun _ => fun
  | [d] => { results := [.lit (.bool false)], args := [d] }
  | _ => none }
def FnSharesWrongFalsely : Prop := fnSharesRow.holds Try.pinned (OpenSpec.ofChange fnSharesWrong)

/- THE SECOND FORM. 'bulk': how many values and letters a reading holds, each counted each time it is reached (what is shared counts as often as it is met; a slice's spare places count too). A statement '..UptoSaid' is the law's where the arguments, and the package variables that the reading takes, are together of bulk at most 1048576: NARROWER than '..Said'. Prove '..Said' where nothing that the law and all that it calls make is longer than what came in: it says more and counts as full. Else prove '..UptoSaid'. A law counts once. -/
mutual
def uptoBulk {H : Type} : DataW H → Nat
  | .lit (.string bytes) => bytes.length + 1
  | .lit _ => 1
  | .nil => 1
  | .ptr d => uptoBulk d + 1
  | .slice elems spare => uptoBulkAll elems + uptoBulkAll spare + 1
  | .agg parts => uptoBulkAll parts + 1
  | .iface _ d => uptoBulk d + 1
  | .map entries => uptoBulkEntries entries + 1
  | .held _ => 1
def uptoBulkAll {H : Type} : List (DataW H) → Nat
  | [] => 0
  | d :: r => uptoBulk d + uptoBulkAll r
def uptoBulkEntries {H : Type} : List (Lit × DataW H) → Nat
  | [] => 0
  | x :: r => uptoBulkEntry x + uptoBulkEntries r
def uptoBulkEntry {H : Type} : Lit × DataW H → Nat
  | (.string bytes, d) => bytes.length + uptoBulk d + 1
  | (_, d) => uptoBulk d + 1
 end
def uptoSmall : (H : Type) → List (DataW H) → Bool := fun _ ds => decide (uptoBulkAll ds ≤ 1048576)
def OpenSpec.upto (s : _root_.Go.ChangeSpec) : _root_.Go.OpenSpec := { _root_.Go.OpenSpec.ofChange s with cond := some uptoSmall }

/-- 'laws.FnShifts', WHERE WHAT IT READS IS OF BULK AT MOST 1048576: true; the input reads as it did. -/
def fnShiftsUptoRow : OpenClaim := { program := "ytfdoddeccnjcmaa", sum := "9381166230ea7543c14e9ec795bc296435c2ccd7a21f001a55b8adddd336f2ae", func := "loop.example/g03202/laws.FnShifts", spec := "fnShifts", unfollowed := true, recurses := true, apart := false, narrowed := true }
def FnShiftsUptoSaid : Prop := fnShiftsUptoRow.holds Try.pinned (OpenSpec.upto fnShiftsSpec)

/-- 'laws.FnQuotas', WHERE WHAT IT READS IS OF BULK AT MOST 1048576: true; the input reads as it did. -/
def fnQuotasUptoRow : OpenClaim := { program := "ytfdoddeccnjcmaa", sum := "9381166230ea7543c14e9ec795bc296435c2ccd7a21f001a55b8adddd336f2ae", func := "loop.example/g03202/laws.FnQuotas", spec := "fnQuotas", unfollowed := true, recurses := true, apart := false, narrowed := true }
def FnQuotasUptoSaid : Prop := fnQuotasUptoRow.holds Try.pinned (OpenSpec.upto fnQuotasSpec)

/-- 'laws.FnHouses', WHERE WHAT IT READS IS OF BULK AT MOST 1048576: true; the input reads as it did. -/
def fnHousesUptoRow : OpenClaim := { program := "ytfdoddeccnjcmaa", sum := "9381166230ea7543c14e9ec795bc296435c2ccd7a21f001a55b8adddd336f2ae", func := "loop.example/g03202/laws.FnHouses", spec := "fnHouses", unfollowed := true, recurses := true, apart := false, narrowed := true }
def FnHousesUptoSaid : Prop := fnHousesUptoRow.holds Try.pinned (OpenSpec.upto fnHousesSpec)

/-- 'laws.FnGoods', WHERE WHAT IT READS IS OF BULK AT MOST 1048576: true; the input reads as it did. -/
def fnGoodsUptoRow : OpenClaim := { program := "ytfdoddeccnjcmaa", sum := "9381166230ea7543c14e9ec795bc296435c2ccd7a21f001a55b8adddd336f2ae", func := "loop.example/g03202/laws.FnGoods", spec := "fnGoods", unfollowed := true, recurses := true, apart := false, narrowed := true }
def FnGoodsUptoSaid : Prop := fnGoodsUptoRow.holds Try.pinned (OpenSpec.upto fnGoodsSpec)

/-- 'laws.FnShares', WHERE WHAT IT READS IS OF BULK AT MOST 1048576: true; the input reads as it did. -/
def fnSharesUptoRow : OpenClaim := { program := "ytfdoddeccnjcmaa", sum := "9381166230ea7543c14e9ec795bc296435c2ccd7a21f001a55b8adddd336f2ae", func := "loop.example/g03202/laws.FnShares", spec := "fnShares", unfollowed := true, recurses := true, apart := false, narrowed := true }
def FnSharesUptoSaid : Prop := fnSharesUptoRow.holds Try.pinned (OpenSpec.upto fnSharesSpec)

end Rows
end Go.Proofs.Ytfdoddeccnjcmaa
