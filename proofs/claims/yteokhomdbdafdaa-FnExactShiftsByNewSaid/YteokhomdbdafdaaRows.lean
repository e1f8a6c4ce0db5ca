/-
  No cell of these rows narrows 'for every input' (looked for: loops, veiled, ifaces, maps, wideKeys, modest, calm, conditions, laid).
  DERIVED. THE GIVEN ROWS OF THIS SEAT. 10 by the template 'for every input the law returns true; each argument reads behind the call as it read before'; 0 by the template 'total and deterministic' (their statements: YteokhomdbdafdaaTotals.lean).
  GIVEN WITH THE SEED: the statements are not yours to turn. If you find one false, say at which input.
  Laid BY PROGRAM, IN A SANDBOX (cutbox-rows.mjs): the forced cells as the released guide's own fill.sh prints them over the translation 4e6edc606c461900… (all of the seat's roots in one cut). By AI agents, Wed Nov 11 2026. No macro, syntax, notation, axiom, sorry.
-/
import Derived.Test.YteokhomdbdafdaaChecked
import GoSem.Claim
import GoSem.ClaimJoined
import GoSem.ClaimMapViews
import Derived.JoinedTies
import Derived.KernelRfl
namespace Go.Proofs.Yteokhomdbdafdaa
/- THE CELL 'sum', in the pinned program and in every row, IS THE sha256 OF THE DUMP (.gsa) THAT YteokhomdbdafdaaProg.lean LOADS. Nothing in Lean hashes anything: it is a label: what it is worth is what the hold of that sum in a sandbox is worth. -/
noncomputable def Try.pinned : Pinned := { name := "yteokhomdbdafdaa", sum := "4e6edc606c461900b67be9ca36958bcb507dd4668640c12bfeb89b848d4ad1fd", checked := Try.checked }
namespace Rows
def none {H : Type} : Left H := { results := [], args := [] }

/-- 'laws.FnShifts': WHATEVER THE INPUT: true; the input reads as it did. -/
def fnShiftsSpec : ChangeSpec := { name := "fnShifts", fn := fun _ => fun
  | [d] => { results := [.lit (.bool true)], args := [d] }
  | _ => none }
def fnShiftsRow : OpenClaim := { program := "yteokhomdbdafdaa", sum := "4e6edc606c461900b67be9ca36958bcb507dd4668640c12bfeb89b848d4ad1fd", func := "loop.example/g03202/laws.FnShifts", spec := "fnShifts", unfollowed := true, recurses := true, apart := false }
def FnShiftsSaid : Prop := fnShiftsRow.holds Try.pinned (OpenSpec.ofChange fnShiftsSpec)

/-- ITS FALSE NEIGHBOUR: 'it returns false'. Refute it at one input. -/
def fnShiftsWrong : ChangeSpec := { name := "fnShifts", fn := fun _ => fun
  | [d] => { results := [.lit (.bool false)], args := [d] }
  | _ => none }
def FnShiftsWrongFalsely : Prop := fnShiftsRow.holds Try.pinned (OpenSpec.ofChange fnShiftsWrong)

/-- 'laws.FnQuotas': WHATEVER THE INPUT: true; the input reads as it did. -/
def fnQuotasSpec : ChangeSpec := { name := "fnQuotas", fn := fun _ => fun
  | [d] => { results := [.lit (.bool true)], args := [d] }
  | _ => none }
def fnQuotasRow : OpenClaim := { program := "yteokhomdbdafdaa", sum := "4e6edc606c461900b67be9ca36958bcb507dd4668640c12bfeb89b848d4ad1fd", func := "loop.example/g03202/laws.FnQuotas", spec := "fnQuotas", unfollowed := true, recurses := true, apart := false }
def FnQuotasSaid : Prop := fnQuotasRow.holds Try.pinned (OpenSpec.ofChange fnQuotasSpec)

/-- ITS FALSE NEIGHBOUR: 'it returns false'. Refute it at one input. -/
def fnQuotasWrong : ChangeSpec := { name := "fnQuotas", fn := fun _ => fun
  | [d] => { results := [.lit (.bool false)], args := [d] }
  | _ => none }
def FnQuotasWrongFalsely : Prop := fnQuotasRow.holds Try.pinned (OpenSpec.ofChange fnQuotasWrong)

/-- 'laws.FnExactGiveSeats': WHATEVER THE INPUT: true; the input reads as it did. -/
def fnExactGiveSeatsSpec : ChangeSpec := { name := "fnExactGiveSeats", fn := fun _ => fun
  | [d1, d2, d3] => { results := [.lit (.bool true)], args := [d1, d2, d3] }
  | _ => none }
def fnExactGiveSeatsRow : OpenClaim := { program := "yteokhomdbdafdaa", sum := "4e6edc606c461900b67be9ca36958bcb507dd4668640c12bfeb89b848d4ad1fd", func := "loop.example/g03202/laws.FnExactGiveSeats", spec := "fnExactGiveSeats", unfollowed := true, recurses := true, apart := false }
def FnExactGiveSeatsSaid : Prop := fnExactGiveSeatsRow.holds Try.pinned (OpenSpec.ofChange fnExactGiveSeatsSpec)

/-- ITS FALSE NEIGHBOUR: 'it returns false'. Refute it at one input. -/
def fnExactGiveSeatsWrong : ChangeSpec := { name := "fnExactGiveSeats", fn := fun _ => fun
  | [d1, d2, d3] => { results := [.lit (.bool false)], args := [d1, d2, d3] }
  | _ => none }
def FnExactGiveSeatsWrongFalsely : Prop := fnExactGiveSeatsRow.holds Try.pinned (OpenSpec.ofChange fnExactGiveSeatsWrong)

/-- 'laws.FnExactLosesByMore': WHATEVER THE INPUT: true; the input reads as it did. -/
def fnExactLosesByMoreSpec : ChangeSpec := { name := "fnExactLosesByMore", fn := fun _ => fun
  | [d1, d2, d3] => { results := [.lit (.bool true)], args := [d1, d2, d3] }
  | _ => none }
def fnExactLosesByMoreRow : OpenClaim := { program := "yteokhomdbdafdaa", sum := "4e6edc606c461900b67be9ca36958bcb507dd4668640c12bfeb89b848d4ad1fd", func := "loop.example/g03202/laws.FnExactLosesByMore", spec := "fnExactLosesByMore", unfollowed := true, recurses := true, apart := false }
def FnExactLosesByMoreSaid : Prop := fnExactLosesByMoreRow.holds Try.pinned (OpenSpec.ofChange fnExactLosesByMoreSpec)

/-- ITS FALSE NEIGHBOUR: 'it returns false'. Refute it at one input. -/
def fnExactLosesByMoreWrong : ChangeSpec := { name := "fnExactLosesByMore", fn := fun _ => fun
  | [d1, d2, d3] => { results := [.lit (.bool false)], args := [d1, d2, d3] }
  | _ => none }
def FnExactLosesByMoreWrongFalsely : Prop := fnExactLosesByMoreRow.holds Try.pinned (OpenSpec.ofChange fnExactLosesByMoreWrong)

/-- 'laws.FnExactLosesByGrowth': WHATEVER THE INPUT: true; the input reads as it did. -/
def fnExactLosesByGrowthSpec : ChangeSpec := { name := "fnExactLosesByGrowth", fn := fun _ => fun
  | [d1, d2, d3, d4] => { results := [.lit (.bool true)], args := [d1, d2, d3, d4] }
  | _ => none }
def fnExactLosesByGrowthRow : OpenClaim := { program := "yteokhomdbdafdaa", sum := "4e6edc606c461900b67be9ca36958bcb507dd4668640c12bfeb89b848d4ad1fd", func := "loop.example/g03202/laws.FnExactLosesByGrowth", spec := "fnExactLosesByGrowth", unfollowed := true, recurses := true, apart := false }
def FnExactLosesByGrowthSaid : Prop := fnExactLosesByGrowthRow.holds Try.pinned (OpenSpec.ofChange fnExactLosesByGrowthSpec)

/-- ITS FALSE NEIGHBOUR: 'it returns false'. Refute it at one input. -/
def fnExactLosesByGrowthWrong : ChangeSpec := { name := "fnExactLosesByGrowth", fn := fun _ => fun
  | [d1, d2, d3, d4] => { results := [.lit (.bool false)], args := [d1, d2, d3, d4] }
  | _ => none }
def FnExactLosesByGrowthWrongFalsely : Prop := fnExactLosesByGrowthRow.holds Try.pinned (OpenSpec.ofChange fnExactLosesByGrowthWrong)

/-- 'laws.FnExactBreaksQuota': WHATEVER THE INPUT: true; the input reads as it did. -/
def fnExactBreaksQuotaSpec : ChangeSpec := { name := "fnExactBreaksQuota", fn := fun _ => fun
  | [d1, d2, d3] => { results := [.lit (.bool true)], args := [d1, d2, d3] }
  | _ => none }
def fnExactBreaksQuotaRow : OpenClaim := { program := "yteokhomdbdafdaa", sum := "4e6edc606c461900b67be9ca36958bcb507dd4668640c12bfeb89b848d4ad1fd", func := "loop.example/g03202/laws.FnExactBreaksQuota", spec := "fnExactBreaksQuota", unfollowed := true, recurses := true, apart := false }
def FnExactBreaksQuotaSaid : Prop := fnExactBreaksQuotaRow.holds Try.pinned (OpenSpec.ofChange fnExactBreaksQuotaSpec)

/-- ITS FALSE NEIGHBOUR: 'it returns false'. Refute it at one input. -/
def fnExactBreaksQuotaWrong : ChangeSpec := { name := "fnExactBreaksQuota", fn := fun _ => fun
  | [d1, d2, d3] => { results := [.lit (.bool false)], args := [d1, d2, d3] }
  | _ => none }
def FnExactBreaksQuotaWrongFalsely : Prop := fnExactBreaksQuotaRow.holds Try.pinned (OpenSpec.ofChange fnExactBreaksQuotaWrong)

/-- 'laws.FnExactFirstLoss': WHATEVER THE INPUT: true; the input reads as it did. -/
def fnExactFirstLossSpec : ChangeSpec := { name := "fnExactFirstLoss", fn := fun _ => fun
  | [d1, d2, d3] => { results := [.lit (.bool true)], args := [d1, d2, d3] }
  | _ => none }
def fnExactFirstLossRow : OpenClaim := { program := "yteokhomdbdafdaa", sum := "4e6edc606c461900b67be9ca36958bcb507dd4668640c12bfeb89b848d4ad1fd", func := "loop.example/g03202/laws.FnExactFirstLoss", spec := "fnExactFirstLoss", unfollowed := true, recurses := true, apart := false }
def FnExactFirstLossSaid : Prop := fnExactFirstLossRow.holds Try.pinned (OpenSpec.ofChange fnExactFirstLossSpec)

/-- ITS FALSE NEIGHBOUR: 'it returns false'. Refute it at one input. -/
def fnExactFirstLossWrong : ChangeSpec := { name := "fnExactFirstLoss", fn := fun _ => fun
  | [d1, d2, d3] => { results := [.lit (.bool false)], args := [d1, d2, d3] }
  | _ => none }
def FnExactFirstLossWrongFalsely : Prop := fnExactFirstLossRow.holds Try.pinned (OpenSpec.ofChange fnExactFirstLossWrong)

/-- 'laws.FnExactGainBySplit': WHATEVER THE INPUT: true; the input reads as it did. -/
def fnExactGainBySplitSpec : ChangeSpec := { name := "fnExactGainBySplit", fn := fun _ => fun
  | [d1, d2, d3, d4, d5] => { results := [.lit (.bool true)], args := [d1, d2, d3, d4, d5] }
  | _ => none }
def fnExactGainBySplitRow : OpenClaim := { program := "yteokhomdbdafdaa", sum := "4e6edc606c461900b67be9ca36958bcb507dd4668640c12bfeb89b848d4ad1fd", func := "loop.example/g03202/laws.FnExactGainBySplit", spec := "fnExactGainBySplit", unfollowed := true, recurses := true, apart := false }
def FnExactGainBySplitSaid : Prop := fnExactGainBySplitRow.holds Try.pinned (OpenSpec.ofChange fnExactGainBySplitSpec)

/-- ITS FALSE NEIGHBOUR: 'it returns false'. Refute it at one input. -/
def fnExactGainBySplitWrong : ChangeSpec := { name := "fnExactGainBySplit", fn := fun _ => fun
  | [d1, d2, d3, d4, d5] => { results := [.lit (.bool false)], args := [d1, d2, d3, d4, d5] }
  | _ => none }
def FnExactGainBySplitWrongFalsely : Prop := fnExactGainBySplitRow.holds Try.pinned (OpenSpec.ofChange fnExactGainBySplitWrong)

/-- 'laws.FnExactSeatTable': WHATEVER THE INPUT: true; the input reads as it did. -/
def fnExactSeatTableSpec : ChangeSpec := { name := "fnExactSeatTable", fn := fun _ => fun
  | [d1, d2, d3] => { results := [.lit (.bool true)], args := [d1, d2, d3] }
  | _ => none }
def fnExactSeatTableRow : OpenClaim := { program := "yteokhomdbdafdaa", sum := "4e6edc606c461900b67be9ca36958bcb507dd4668640c12bfeb89b848d4ad1fd", func := "loop.example/g03202/laws.FnExactSeatTable", spec := "fnExactSeatTable", unfollowed := true, recurses := true, apart := false }
def FnExactSeatTableSaid : Prop := fnExactSeatTableRow.holds Try.pinned (OpenSpec.ofChange fnExactSeatTableSpec)

/-- ITS FALSE NEIGHBOUR: 'it returns false'. Refute it at one input. -/
def fnExactSeatTableWrong : ChangeSpec := { name := "fnExactSeatTable", fn := fun _ => fun
  | [d1, d2, d3] => { results := [.lit (.bool false)], args := [d1, d2, d3] }
  | _ => none }
def FnExactSeatTableWrongFalsely : Prop := fnExactSeatTableRow.holds Try.pinned (OpenSpec.ofChange fnExactSeatTableWrong)

/-- 'laws.FnExactShiftsByNew': WHATEVER THE INPUT: true; the input reads as it did. -/
def fnExactShiftsByNewSpec : ChangeSpec := { name := "fnExactShiftsByNew", fn := fun _ => fun
  | [d1, d2, d3, d4, d5] => { results := [.lit (.bool true)], args := [d1, d2, d3, d4, d5] }
  | _ => none }
def fnExactShiftsByNewRow : OpenClaim := { program := "yteokhomdbdafdaa", sum := "4e6edc606c461900b67be9ca36958bcb507dd4668640c12bfeb89b848d4ad1fd", func := "loop.example/g03202/laws.FnExactShiftsByNew", spec := "fnExactShiftsByNew", unfollowed := true, recurses := true, apart := false }
def FnExactShiftsByNewSaid : Prop := fnExactShiftsByNewRow.holds Try.pinned (OpenSpec.ofChange fnExactShiftsByNewSpec)

/-- ITS FALSE NEIGHBOUR: 'it returns false'. Refute it at one input. -/
def fnExactShiftsByNewWrong : ChangeSpec := { name := "fnExactShiftsByNew", fn := fun _ => fun
  | [d1, d2, d3, d4, d5] => { results := [.lit (.bool false)], args := [d1, d2, d3, d4, d5] }
  | _ => none }
def FnExactShiftsByNewWrongFalsely : Prop := fnExactShiftsByNewRow.holds Try.pinned (OpenSpec.ofChange fnExactShiftsByNewWrong)

/- THE SECOND FORM. 'bulk': how many values and letters a reading holds, each counted each time it is reached (what is shared counts as often as it is met; a slice's spare places count too). A statement '..UptoSaid' is the law's where the arguments, and the package variables that the reading takes, are together of bulk at most 1048576: NARROWER than '..Said'. Prove '..Said' where nothing that the law and all that it calls make is longer than what came in: it says more and counts as full. Else prove '..UptoSaid'. A law counts once. -/
mutual
def uptoBulk {H : Type} : DataW H → Nat
  | .lit (.string bytes) => bytes.length + 1
  | .lit _ => 1
  | .nil => 1
  | .ptr d => uptoBulk d + 1
  | .slice elems spare => uptoBulkAll elems + uptoBulkAll spare + 1
  | .agg parts => uptoBulkAll parts + 1
  | .iface _ d => uptoBulk d + 1
  | .map entries => uptoBulkEntries entries + 1
  | .held _ => 1
def uptoBulkAll {H : Type} : List (DataW H) → Nat
  | [] => 0
  | d :: r => uptoBulk d + uptoBulkAll r
def uptoBulkEntries {H : Type} : List (Lit × DataW H) → Nat
  | [] => 0
  | x :: r => uptoBulkEntry x + uptoBulkEntries r
def uptoBulkEntry {H : Type} : Lit × DataW H → Nat
  | (.string bytes, d) => bytes.length + uptoBulk d + 1
  | (_, d) => uptoBulk d + 1
 end
def uptoSmall : (H : Type) → List (DataW H) → Bool := fun _ ds => decide (uptoBulkAll ds ≤ 1048576)
def OpenSpec.upto (s : _root_.Go.ChangeSpec) : _root_.Go.OpenSpec := { _root_.Go.OpenSpec.ofChange s with cond := some uptoSmall }

/-- 'laws.FnShifts', WHERE WHAT IT READS IS OF BULK AT MOST 1048576: true; the input reads as it did. -/
def fnShiftsUptoRow : OpenClaim := { program := "yteokhomdbdafdaa", sum := "4e6edc606c461900b67be9ca36958bcb507dd4668640c12bfeb89b848d4ad1fd", func := "loop.example/g03202/laws.FnShifts", spec := "fnShifts", unfollowed := true, recurses := true, apart := false, narrowed := true }
def FnShiftsUptoSaid : Prop := fnShiftsUptoRow.holds Try.pinned (OpenSpec.upto fnShiftsSpec)

/-- 'laws.FnQuotas', WHERE WHAT IT READS IS OF BULK AT MOST 1048576: true; the input reads as it did. -/
def fnQuotasUptoRow : OpenClaim := { program := "yteokhomdbdafdaa", sum := "4e6edc606c461900b67be9ca36958bcb507dd4668640c12bfeb89b848d4ad1fd", func := "loop.example/g03202/laws.FnQuotas", spec := "fnQuotas", unfollowed := true, recurses := true, apart := false, narrowed := true }
def FnQuotasUptoSaid : Prop := fnQuotasUptoRow.holds Try.pinned (OpenSpec.upto fnQuotasSpec)

/-- 'laws.FnExactGiveSeats', WHERE WHAT IT READS IS OF BULK AT MOST 1048576: true; the input reads as it did. -/
def fnExactGiveSeatsUptoRow : OpenClaim := { program := "yteokhomdbdafdaa", sum := "4e6edc606c461900b67be9ca36958bcb507dd4668640c12bfeb89b848d4ad1fd", func := "loop.example/g03202/laws.FnExactGiveSeats", spec := "fnExactGiveSeats", unfollowed := true, recurses := true, apart := false, narrowed := true }
def FnExactGiveSeatsUptoSaid : Prop := fnExactGiveSeatsUptoRow.holds Try.pinned (OpenSpec.upto fnExactGiveSeatsSpec)

/-- 'laws.FnExactLosesByMore', WHERE WHAT IT READS IS OF BULK AT MOST 1048576: true; the input reads as it did. -/
def fnExactLosesByMoreUptoRow : OpenClaim := { program := "yteokhomdbdafdaa", sum := "4e6edc606c461900b67be9ca36958bcb507dd4668640c12bfeb89b848d4ad1fd", func := "loop.example/g03202/laws.FnExactLosesByMore", spec := "fnExactLosesByMore", unfollowed := true, recurses := true, apart := false, narrowed := true }
def FnExactLosesByMoreUptoSaid : Prop := fnExactLosesByMoreUptoRow.holds Try.pinned (OpenSpec.upto fnExactLosesByMoreSpec)

/-- 'laws.FnExactLosesByGrowth', WHERE WHAT IT READS IS OF BULK AT MOST 1048576: true; the input reads as it did. -/
def fnExactLosesByGrowthUptoRow : OpenClaim := { program := "yteokhomdbdafdaa", sum := "4e6edc606c461900b67be9ca36958bcb507dd4668640c12bfeb89b848d4ad1fd", func := "loop.example/g03202/laws.FnExactLosesByGrowth", spec := "fnExactLosesByGrowth", unfollowed := true, recurses := true, apart := false, narrowed := true }
def FnExactLosesByGrowthUptoSaid : Prop := fnExactLosesByGrowthUptoRow.holds Try.pinned (OpenSpec.upto fnExactLosesByGrowthSpec)

/-- 'laws.FnExactBreaksQuota', WHERE WHAT IT READS IS OF BULK AT MOST 1048576: true; the input reads as it did. -/
def fnExactBreaksQuotaUptoRow : OpenClaim := { program := "yteokhomdbdafdaa", sum := "4e6edc606c461900b67be9ca36958bcb507dd4668640c12bfeb89b848d4ad1fd", func := "loop.example/g03202/laws.FnExactBreaksQuota", spec := "fnExactBreaksQuota", unfollowed := true, recurses := true, apart := false, narrowed := true }
def FnExactBreaksQuotaUptoSaid : Prop := fnExactBreaksQuotaUptoRow.holds Try.pinned (OpenSpec.upto fnExactBreaksQuotaSpec)

/-- 'laws.FnExactFirstLoss', WHERE WHAT IT READS IS OF BULK AT MOST 1048576: true; the input reads as it did. -/
def fnExactFirstLossUptoRow : OpenClaim := { program := "yteokhomdbdafdaa", sum := "4e6edc606c461900b67be9ca36958bcb507dd4668640c12bfeb89b848d4ad1fd", func := "loop.example/g03202/laws.FnExactFirstLoss", spec := "fnExactFirstLoss", unfollowed := true, recurses := true, apart := false, narrowed := true }
def FnExactFirstLossUptoSaid : Prop := fnExactFirstLossUptoRow.holds Try.pinned (OpenSpec.upto fnExactFirstLossSpec)

/-- 'laws.FnExactGainBySplit', WHERE WHAT IT READS IS OF BULK AT MOST 1048576: true; the input reads as it did. -/
def fnExactGainBySplitUptoRow : OpenClaim := { program := "yteokhomdbdafdaa", sum := "4e6edc606c461900b67be9ca36958bcb507dd4668640c12bfeb89b848d4ad1fd", func := "loop.example/g03202/laws.FnExactGainBySplit", spec := "fnExactGainBySplit", unfollowed := true, recurses := true, apart := false, narrowed := true }
def FnExactGainBySplitUptoSaid : Prop := fnExactGainBySplitUptoRow.holds Try.pinned (OpenSpec.upto fnExactGainBySplitSpec)

/-- 'laws.FnExactSeatTable', WHERE WHAT IT READS IS OF BULK AT MOST 1048576: true; the input reads as it did. -/
def fnExactSeatTableUptoRow : OpenClaim := { program := "yteokhomdbdafdaa", sum := "4e6edc606c461900b67be9ca36958bcb507dd4668640c12bfeb89b848d4ad1fd", func := "loop.example/g03202/laws.FnExactSeatTable", spec := "fnExactSeatTable", unfollowed := true, recurses := true, apart := false, narrowed := true }
def FnExactSeatTableUptoSaid : Prop := fnExactSeatTableUptoRow.holds Try.pinned (OpenSpec.upto fnExactSeatTableSpec)

/-- 'laws.FnExactShiftsByNew', WHERE WHAT IT READS IS OF BULK AT MOST 1048576: true; the input reads as it did. -/
def fnExactShiftsByNewUptoRow : OpenClaim := { program := "yteokhomdbdafdaa", sum := "4e6edc606c461900b67be9ca36958bcb507dd4668640c12bfeb89b848d4ad1fd", func := "loop.example/g03202/laws.FnExactShiftsByNew", spec := "fnExactShiftsByNew", unfollowed := true, recurses := true, apart := false, narrowed := true }
def FnExactShiftsByNewUptoSaid : Prop := fnExactShiftsByNewUptoRow.holds Try.pinned (OpenSpec.upto fnExactShiftsByNewSpec)

end Rows
end Go.Proofs.Yteokhomdbdafdaa
