/-
  No cell of these rows narrows 'for every input' (looked for: loops, veiled, ifaces, maps, wideKeys, modest, calm, conditions, laid).
  DERIVED. THE GIVEN ROWS OF THIS SEAT. 9 by the template 'for every input the law returns true; each argument reads behind the call as it read before'; 0 by the template 'total and deterministic' (their statements: YtgdpplhbblapgaaTotals.lean).
  GIVEN WITH THE SEED: the statements are not yours to turn. If you find one false, say at which input.
  Laid BY PROGRAM, IN A SANDBOX (cutbox-rows.mjs): the forced cells as the released guide's own fill.sh prints them over the translation 7b67bacd1d0c95d2… (all of the seat's roots in one cut). By AI agents, Wed Nov 11 2026. No macro, syntax, notation, axiom, sorry.
-/
import Derived.Test.YtgdpplhbblapgaaChecked
import GoSem.Claim
import GoSem.ClaimJoined
import GoSem.ClaimMapViews
import Derived.JoinedTies
import Derived.KernelRfl
namespace Go.Proofs.Ytgdpplhbblapgaa
/- THE CELL 'sum', in the pinned program and in every row, IS THE sha256 OF THE DUMP (.gsa) THAT YtgdpplhbblapgaaProg.lean LOADS. Nothing in Lean hashes anything: it is a label: what it is worth is what the hold of that sum in a sandbox is worth. -/
noncomputable def Try.pinned : Pinned := { name := "ytgdpplhbblapgaa", sum := "7b67bacd1d0c95d26f74dfb27e0a461ad2fd1cee865735a95489a98c869a41c2", checked := Try.checked }
namespace Rows
def none {H : Type} : Left H := { results := [], args := [] }

/-- 'laws.FnExactOffer': WHATEVER THE INPUT: true; the input reads as it did. -/
def fnExactOfferSpec : ChangeSpec := { name := "fnExactOffer", fn := fun _ => fun
  | [d] => { results := [.lit (.bool true)], args := [d] }
  | _ => none }
def fnExactOfferRow : OpenClaim := { program := "ytgdpplhbblapgaa", sum := "7b67bacd1d0c95d26f74dfb27e0a461ad2fd1cee865735a95489a98c869a41c2", func := "loop.example/g03202/laws.FnExactOffer", spec := "fnExactOffer", unfollowed := true, recurses := true, apart := false }
def FnExactOfferSaid : Prop := fnExactOfferRow.holds Try.pinned (OpenSpec.ofChange fnExactOfferSpec)

/-- ITS FALSE NEIGHBOUR: 'it returns false'. Refute it at one input. -/
def fnExactOfferWrong : ChangeSpec := { name := "fnExactOffer", fn := fun _ => fun
  | [d] => { results := [.lit (.bool false)], args := [d] }
  | _ => none }
def FnExactOfferWrongFalsely : Prop := fnExactOfferRow.holds Try.pinned (OpenSpec.ofChange fnExactOfferWrong)

/-- 'laws.FnExactApply': WHATEVER THE INPUT: true; the input reads as it did. -/
def fnExactApplySpec : ChangeSpec := { name := "fnExactApply", fn := fun _ => fun
  | [d] => { results := [.lit (.bool true)], args := [d] }
  | _ => none }
def fnExactApplyRow : OpenClaim := { program := "ytgdpplhbblapgaa", sum := "7b67bacd1d0c95d26f74dfb27e0a461ad2fd1cee865735a95489a98c869a41c2", func := "loop.example/g03202/laws.FnExactApply", spec := "fnExactApply", unfollowed := true, recurses := true, apart := false }
def FnExactApplySaid : Prop := fnExactApplyRow.holds Try.pinned (OpenSpec.ofChange fnExactApplySpec)

/-- ITS FALSE NEIGHBOUR: 'it returns false'. Refute it at one input. -/
def fnExactApplyWrong : ChangeSpec := { name := "fnExactApply", fn := fun _ => fun
  | [d] => { results := [.lit (.bool false)], args := [d] }
  | _ => none }
def FnExactApplyWrongFalsely : Prop := fnExactApplyRow.holds Try.pinned (OpenSpec.ofChange fnExactApplyWrong)

/-- 'laws.FnExactStepsTo': WHATEVER THE INPUT: true; the input reads as it did. -/
def fnExactStepsToSpec : ChangeSpec := { name := "fnExactStepsTo", fn := fun _ => fun
  | [d1, d2] => { results := [.lit (.bool true)], args := [d1, d2] }
  | _ => none }
def fnExactStepsToRow : OpenClaim := { program := "ytgdpplhbblapgaa", sum := "7b67bacd1d0c95d26f74dfb27e0a461ad2fd1cee865735a95489a98c869a41c2", func := "loop.example/g03202/laws.FnExactStepsTo", spec := "fnExactStepsTo", unfollowed := true, recurses := true, apart := false }
def FnExactStepsToSaid : Prop := fnExactStepsToRow.holds Try.pinned (OpenSpec.ofChange fnExactStepsToSpec)

/-- ITS FALSE NEIGHBOUR: 'it returns false'. Refute it at one input. -/
def fnExactStepsToWrong : ChangeSpec := { name := "fnExactStepsTo", fn := fun _ => fun
  | [d1, d2] => { results := [.lit (.bool false)], args := [d1, d2] }
  | _ => none }
def FnExactStepsToWrongFalsely : Prop := fnExactStepsToRow.holds Try.pinned (OpenSpec.ofChange fnExactStepsToWrong)

/-- 'laws.FnExactMedianMatching': WHATEVER THE INPUT: true; the input reads as it did. -/
def fnExactMedianMatchingSpec : ChangeSpec := { name := "fnExactMedianMatching", fn := fun _ => fun
  | [d1, d2] => { results := [.lit (.bool true)], args := [d1, d2] }
  | _ => none }
def fnExactMedianMatchingRow : OpenClaim := { program := "ytgdpplhbblapgaa", sum := "7b67bacd1d0c95d26f74dfb27e0a461ad2fd1cee865735a95489a98c869a41c2", func := "loop.example/g03202/laws.FnExactMedianMatching", spec := "fnExactMedianMatching", unfollowed := true, recurses := true, apart := false }
def FnExactMedianMatchingSaid : Prop := fnExactMedianMatchingRow.holds Try.pinned (OpenSpec.ofChange fnExactMedianMatchingSpec)

/-- ITS FALSE NEIGHBOUR: 'it returns false'. Refute it at one input. -/
def fnExactMedianMatchingWrong : ChangeSpec := { name := "fnExactMedianMatching", fn := fun _ => fun
  | [d1, d2] => { results := [.lit (.bool false)], args := [d1, d2] }
  | _ => none }
def FnExactMedianMatchingWrongFalsely : Prop := fnExactMedianMatchingRow.holds Try.pinned (OpenSpec.ofChange fnExactMedianMatchingWrong)

/-- 'laws.FnColleges': WHATEVER THE INPUT: true; the input reads as it did. -/
def fnCollegesSpec : ChangeSpec := { name := "fnColleges", fn := fun _ => fun
  | [d] => { results := [.lit (.bool true)], args := [d] }
  | _ => none }
def fnCollegesRow : OpenClaim := { program := "ytgdpplhbblapgaa", sum := "7b67bacd1d0c95d26f74dfb27e0a461ad2fd1cee865735a95489a98c869a41c2", func := "loop.example/g03202/laws.FnColleges", spec := "fnColleges", unfollowed := true, recurses := true, apart := false }
def FnCollegesSaid : Prop := fnCollegesRow.holds Try.pinned (OpenSpec.ofChange fnCollegesSpec)

/-- ITS FALSE NEIGHBOUR: 'it returns false'. Refute it at one input. -/
def fnCollegesWrong : ChangeSpec := { name := "fnColleges", fn := fun _ => fun
  | [d] => { results := [.lit (.bool false)], args := [d] }
  | _ => none }
def FnCollegesWrongFalsely : Prop := fnCollegesRow.holds Try.pinned (OpenSpec.ofChange fnCollegesWrong)

/-- 'laws.FnMarriages': WHATEVER THE INPUT: true; the input reads as it did. -/
def fnMarriagesSpec : ChangeSpec := { name := "fnMarriages", fn := fun _ => fun
  | [d] => { results := [.lit (.bool true)], args := [d] }
  | _ => none }
def fnMarriagesRow : OpenClaim := { program := "ytgdpplhbblapgaa", sum := "7b67bacd1d0c95d26f74dfb27e0a461ad2fd1cee865735a95489a98c869a41c2", func := "loop.example/g03202/laws.FnMarriages", spec := "fnMarriages", unfollowed := true, recurses := true, apart := false }
def FnMarriagesSaid : Prop := fnMarriagesRow.holds Try.pinned (OpenSpec.ofChange fnMarriagesSpec)

/-- ITS FALSE NEIGHBOUR: 'it returns false'. Refute it at one input. -/
def fnMarriagesWrong : ChangeSpec := { name := "fnMarriages", fn := fun _ => fun
  | [d] => { results := [.lit (.bool false)], args := [d] }
  | _ => none }
def FnMarriagesWrongFalsely : Prop := fnMarriagesRow.holds Try.pinned (OpenSpec.ofChange fnMarriagesWrong)

/-- 'laws.FnLattice': WHATEVER THE INPUT: true; the input reads as it did. -/
def fnLatticeSpec : ChangeSpec := { name := "fnLattice", fn := fun _ => fun
  | [d] => { results := [.lit (.bool true)], args := [d] }
  | _ => none }
def fnLatticeRow : OpenClaim := { program := "ytgdpplhbblapgaa", sum := "7b67bacd1d0c95d26f74dfb27e0a461ad2fd1cee865735a95489a98c869a41c2", func := "loop.example/g03202/laws.FnLattice", spec := "fnLattice", unfollowed := true, recurses := true, apart := false }
def FnLatticeSaid : Prop := fnLatticeRow.holds Try.pinned (OpenSpec.ofChange fnLatticeSpec)

/-- ITS FALSE NEIGHBOUR: 'it returns false'. Refute it at one input. -/
def fnLatticeWrong : ChangeSpec := { name := "fnLattice", fn := fun _ => fun
  | [d] => { results := [.lit (.bool false)], args := [d] }
  | _ => none }
def FnLatticeWrongFalsely : Prop := fnLatticeRow.holds Try.pinned (OpenSpec.ofChange fnLatticeWrong)

/-- 'laws.FnRotations': WHATEVER THE INPUT: true; the input reads as it did. -/
def fnRotationsSpec : ChangeSpec := { name := "fnRotations", fn := fun _ => fun
  | [d] => { results := [.lit (.bool true)], args := [d] }
  | _ => none }
def fnRotationsRow : OpenClaim := { program := "ytgdpplhbblapgaa", sum := "7b67bacd1d0c95d26f74dfb27e0a461ad2fd1cee865735a95489a98c869a41c2", func := "loop.example/g03202/laws.FnRotations", spec := "fnRotations", unfollowed := true, recurses := true, apart := false }
def FnRotationsSaid : Prop := fnRotationsRow.holds Try.pinned (OpenSpec.ofChange fnRotationsSpec)

/-- ITS FALSE NEIGHBOUR: 'it returns false'. Refute it at one input. -/
def fnRotationsWrong : ChangeSpec := { name := "fnRotations", fn := fun _ => fun
  | [d] => { results := [.lit (.bool false)], args := [d] }
  | _ => none }
def FnRotationsWrongFalsely : Prop := fnRotationsRow.holds Try.pinned (OpenSpec.ofChange fnRotationsWrong)

/-- 'laws.FnRooms': WHATEVER THE INPUT: true; the input reads as it did. -/
def fnRoomsSpec : ChangeSpec := { name := "fnRooms", fn := fun _ => fun
  | [d] => { results := [.lit (.bool true)], args := [d] }
  | _ => none }
def fnRoomsRow : OpenClaim := { program := "ytgdpplhbblapgaa", sum := "7b67bacd1d0c95d26f74dfb27e0a461ad2fd1cee865735a95489a98c869a41c2", func := "loop.example/g03202/laws.FnRooms", spec := "fnRooms", unfollowed := true, recurses := true, apart := false }
def FnRoomsSaid : Prop := fnRoomsRow.holds Try.pinned (OpenSpec.ofChange fnRoomsSpec)

/-- ITS FALSE NEIGHBOUR: 'it returns false'. Refute it at one input. -/
def fnRoomsWrong : ChangeSpec := { name := "fnRooms", fn := fun _ => fun
  | [d] => { results := [.lit (.bool false)], args := [d] }
  | _ => none }
def FnRoomsWrongFalsely : Prop := fnRoomsRow.holds Try.pinned (OpenSpec.ofChange fnRoomsWrong)

/- THE SECOND FORM. 'bulk': how many values and letters a reading holds, each counted each time it is reached (what is shared counts as often as it is met; a slice's spare places count too). A statement '..UptoSaid' is the law's where the arguments, and the package variables that the reading takes, are together of bulk at most 1048576: NARROWER than '..Said'. Prove '..Said' where nothing that the law and all that it calls make is longer than what came in: it says more and counts as full. Else prove '..UptoSaid'. A law counts once. -/
mutual
def uptoBulk {H : Type} : DataW H → Nat
  | .lit (.string bytes) => bytes.length + 1
  | .lit _ => 1
  | .nil => 1
  | .ptr d => uptoBulk d + 1
  | .slice elems spare => uptoBulkAll elems + uptoBulkAll spare + 1
  | .agg parts => uptoBulkAll parts + 1
  | .iface _ d => uptoBulk d + 1
  | .map entries => uptoBulkEntries entries + 1
  | .held _ => 1
def uptoBulkAll {H : Type} : List (DataW H) → Nat
  | [] => 0
  | d :: r => uptoBulk d + uptoBulkAll r
def uptoBulkEntries {H : Type} : List (Lit × DataW H) → Nat
  | [] => 0
  | x :: r => uptoBulkEntry x + uptoBulkEntries r
def uptoBulkEntry {H : Type} : Lit × DataW H → Nat
  | (.string bytes, d) => bytes.length + uptoBulk d + 1
  | (_, d) => uptoBulk d + 1
 end
def uptoSmall : (H : Type) → List (DataW H) → Bool := fun _ ds => decide (uptoBulkAll ds ≤ 1048576)
def OpenSpec.upto (s : _root_.Go.ChangeSpec) : _root_.Go.OpenSpec := { _root_.Go.OpenSpec.ofChange s with cond := some uptoSmall }

/-- 'laws.FnExactOffer', WHERE WHAT IT READS IS OF BULK AT MOST 1048576: true; the input reads as it did. -/
def fnExactOfferUptoRow : OpenClaim := { program := "ytgdpplhbblapgaa", sum := "7b67bacd1d0c95d26f74dfb27e0a461ad2fd1cee865735a95489a98c869a41c2", func := "loop.example/g03202/laws.FnExactOffer", spec := "fnExactOffer", unfollowed := true, recurses := true, apart := false, narrowed := true }
def FnExactOfferUptoSaid : Prop := fnExactOfferUptoRow.holds Try.pinned (OpenSpec.upto fnExactOfferSpec)

/-- 'laws.FnExactApply', WHERE WHAT IT READS IS OF BULK AT MOST 1048576: true; the input reads as it did. -/
def fnExactApplyUptoRow : OpenClaim := { program := "ytgdpplhbblapgaa", sum := "7b67bacd1d0c95d26f74dfb27e0a461ad2fd1cee865735a95489a98c869a41c2", func := "loop.example/g03202/laws.FnExactApply", spec := "fnExactApply", unfollowed := true, recurses := true, apart := false, narrowed := true }
def FnExactApplyUptoSaid : Prop := fnExactApplyUptoRow.holds Try.pinned (OpenSpec.upto fnExactApplySpec)

/-- 'laws.FnExactStepsTo', WHERE WHAT IT READS IS OF BULK AT MOST 1048576: true; the input reads as it did. -/
def fnExactStepsToUptoRow : OpenClaim := { program := "ytgdpplhbblapgaa", sum := "7b67bacd1d0c95d26f74dfb27e0a461ad2fd1cee865735a95489a98c869a41c2", func := "loop.example/g03202/laws.FnExactStepsTo", spec := "fnExactStepsTo", unfollowed := true, recurses := true, apart := false, narrowed := true }
def FnExactStepsToUptoSaid : Prop := fnExactStepsToUptoRow.holds Try.pinned (OpenSpec.upto fnExactStepsToSpec)

/-- 'laws.FnExactMedianMatching', WHERE WHAT IT READS IS OF BULK AT MOST 1048576: true; the input reads as it did. -/
def fnExactMedianMatchingUptoRow : OpenClaim := { program := "ytgdpplhbblapgaa", sum := "7b67bacd1d0c95d26f74dfb27e0a461ad2fd1cee865735a95489a98c869a41c2", func := "loop.example/g03202/laws.FnExactMedianMatching", spec := "fnExactMedianMatching", unfollowed := true, recurses := true, apart := false, narrowed := true }
def FnExactMedianMatchingUptoSaid : Prop := fnExactMedianMatchingUptoRow.holds Try.pinned (OpenSpec.upto fnExactMedianMatchingSpec)

/-- 'laws.FnColleges', WHERE WHAT IT READS IS OF BULK AT MOST 1048576: true; the input reads as it did. -/
def fnCollegesUptoRow : OpenClaim := { program := "ytgdpplhbblapgaa", sum := "7b67bacd1d0c95d26f74dfb27e0a461ad2fd1cee865735a95489a98c869a41c2", func := "loop.example/g03202/laws.FnColleges", spec := "fnColleges", unfollowed := true, recurses := true, apart := false, narrowed := true }
def FnCollegesUptoSaid : Prop := fnCollegesUptoRow.holds Try.pinned (OpenSpec.upto fnCollegesSpec)

/-- 'laws.FnMarriages', WHERE WHAT IT READS IS OF BULK AT MOST 1048576: true; the input reads as it did. -/
def fnMarriagesUptoRow : OpenClaim := { program := "ytgdpplhbblapgaa", sum := "7b67bacd1d0c95d26f74dfb27e0a461ad2fd1cee865735a95489a98c869a41c2", func := "loop.example/g03202/laws.FnMarriages", spec := "fnMarriages", unfollowed := true, recurses := true, apart := false, narrowed := true }
def FnMarriagesUptoSaid : Prop := fnMarriagesUptoRow.holds Try.pinned (OpenSpec.upto fnMarriagesSpec)

/-- 'laws.FnLattice', WHERE WHAT IT READS IS OF BULK AT MOST 1048576: true; the input reads as it did. -/
def fnLatticeUptoRow : OpenClaim := { program := "ytgdpplhbblapgaa", sum := "7b67bacd1d0c95d26f74dfb27e0a461ad2fd1cee865735a95489a98c869a41c2", func := "loop.example/g03202/laws.FnLattice", spec := "fnLattice", unfollowed := true, recurses := true, apart := false, narrowed := true }
def FnLatticeUptoSaid : Prop := fnLatticeUptoRow.holds Try.pinned (OpenSpec.upto fnLatticeSpec)

/-- 'laws.FnRotations', WHERE WHAT IT READS IS OF BULK AT MOST 1048576: true; the input reads as it did. -/
def fnRotationsUptoRow : OpenClaim := { program := "ytgdpplhbblapgaa", sum := "7b67bacd1d0c95d26f74dfb27e0a461ad2fd1cee865735a95489a98c869a41c2", func := "loop.example/g03202/laws.FnRotations", spec := "fnRotations", unfollowed := true, recurses := true, apart := false, narrowed := true }
def FnRotationsUptoSaid : Prop := fnRotationsUptoRow.holds Try.pinned (OpenSpec.upto fnRotationsSpec)

/-- 'laws.FnRooms', WHERE WHAT IT READS IS OF BULK AT MOST 1048576: true; the input reads as it did. -/
def fnRoomsUptoRow : OpenClaim := { program := "ytgdpplhbblapgaa", sum := "7b67bacd1d0c95d26f74dfb27e0a461ad2fd1cee865735a95489a98c869a41c2", func := "loop.example/g03202/laws.FnRooms", spec := "fnRooms", unfollowed := true, recurses := true, apart := false, narrowed := true }
def FnRoomsUptoSaid : Prop := fnRoomsUptoRow.holds Try.pinned (OpenSpec.upto fnRoomsSpec)

end Rows
end Go.Proofs.Ytgdpplhbblapgaa
