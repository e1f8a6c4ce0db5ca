/-
  No cell of these rows narrows 'for every input' (looked for: loops, veiled, ifaces, maps, wideKeys, modest, calm, conditions, laid).
  DERIVED. THE GIVEN ROWS OF THIS SEAT. 9 by the template 'for every input the law returns true; each argument reads behind the call as it read before'; 0 by the template 'total and deterministic' (their statements: YtkmklfdpomkalaaTotals.lean).
  GIVEN WITH THE SEED: the statements are not yours to turn. If you find one false, say at which input.
  Laid BY PROGRAM, IN A SANDBOX (cutbox-rows.mjs): the forced cells as the released guide's own fill.sh prints them over the translation 9b878ed6eec763f9… (all of the seat's roots in one cut). By AI agents, Wed Nov 11 2026. No macro, syntax, notation, axiom, sorry.
-/
import Derived.Test.YtkmklfdpomkalaaChecked
import GoSem.Claim
import GoSem.ClaimJoined
import GoSem.ClaimMapViews
import Derived.JoinedTies
import Derived.KernelRfl
namespace Go.Proofs.Ytkmklfdpomkalaa
/- THE CELL 'sum', in the pinned program and in every row, IS THE sha256 OF THE DUMP (.gsa) THAT YtkmklfdpomkalaaProg.lean LOADS. Nothing in Lean hashes anything: it is a label: what it is worth is what the hold of that sum in a sandbox is worth. -/
noncomputable def Try.pinned : Pinned := { name := "ytkmklfdpomkalaa", sum := "9b878ed6eec763f9bbce58cbedc200966e45402249d84f40b4b775a4fffcede2", checked := Try.checked }
namespace Rows
def none {H : Type} : Left H := { results := [], args := [] }

/-- 'laws.FnExactCountEnvyFree': WHATEVER THE INPUT: true; the input reads as it did. -/
def fnExactCountEnvyFreeSpec : ChangeSpec := { name := "fnExactCountEnvyFree", fn := fun _ => fun
  | [d] => { results := [.lit (.bool true)], args := [d] }
  | _ => none }
def fnExactCountEnvyFreeRow : OpenClaim := { program := "ytkmklfdpomkalaa", sum := "9b878ed6eec763f9bbce58cbedc200966e45402249d84f40b4b775a4fffcede2", func := "loop.example/g03202/laws.FnExactCountEnvyFree", spec := "fnExactCountEnvyFree", unfollowed := true, recurses := true, apart := false }
def FnExactCountEnvyFreeSaid : Prop := fnExactCountEnvyFreeRow.holds Try.pinned (OpenSpec.ofChange fnExactCountEnvyFreeSpec)

/-- ITS FALSE NEIGHBOUR: 'it returns false'. Refute it at one input. -/
def fnExactCountEnvyFreeWrong : ChangeSpec := { name := "fnExactCountEnvyFree", fn := fun _ => fun
  | [d] => { results := [.lit (.bool false)], args := [d] }
  | _ => none }
def FnExactCountEnvyFreeWrongFalsely : Prop := fnExactCountEnvyFreeRow.holds Try.pinned (OpenSpec.ofChange fnExactCountEnvyFreeWrong)

/-- 'laws.FnExactCountNearlyFree': WHATEVER THE INPUT: true; the input reads as it did. -/
def fnExactCountNearlyFreeSpec : ChangeSpec := { name := "fnExactCountNearlyFree", fn := fun _ => fun
  | [d] => { results := [.lit (.bool true)], args := [d] }
  | _ => none }
def fnExactCountNearlyFreeRow : OpenClaim := { program := "ytkmklfdpomkalaa", sum := "9b878ed6eec763f9bbce58cbedc200966e45402249d84f40b4b775a4fffcede2", func := "loop.example/g03202/laws.FnExactCountNearlyFree", spec := "fnExactCountNearlyFree", unfollowed := true, recurses := true, apart := false }
def FnExactCountNearlyFreeSaid : Prop := fnExactCountNearlyFreeRow.holds Try.pinned (OpenSpec.ofChange fnExactCountNearlyFreeSpec)

/-- ITS FALSE NEIGHBOUR: 'it returns false'. Refute it at one input. -/
def fnExactCountNearlyFreeWrong : ChangeSpec := { name := "fnExactCountNearlyFree", fn := fun _ => fun
  | [d] => { results := [.lit (.bool false)], args := [d] }
  | _ => none }
def FnExactCountNearlyFreeWrongFalsely : Prop := fnExactCountNearlyFreeRow.holds Try.pinned (OpenSpec.ofChange fnExactCountNearlyFreeWrong)

/-- 'laws.FnExactBestLeastPart': WHATEVER THE INPUT: true; the input reads as it did. -/
def fnExactBestLeastPartSpec : ChangeSpec := { name := "fnExactBestLeastPart", fn := fun _ => fun
  | [d] => { results := [.lit (.bool true)], args := [d] }
  | _ => none }
def fnExactBestLeastPartRow : OpenClaim := { program := "ytkmklfdpomkalaa", sum := "9b878ed6eec763f9bbce58cbedc200966e45402249d84f40b4b775a4fffcede2", func := "loop.example/g03202/laws.FnExactBestLeastPart", spec := "fnExactBestLeastPart", unfollowed := true, recurses := true, apart := false }
def FnExactBestLeastPartSaid : Prop := fnExactBestLeastPartRow.holds Try.pinned (OpenSpec.ofChange fnExactBestLeastPartSpec)

/-- ITS FALSE NEIGHBOUR: 'it returns false'. Refute it at one input. -/
def fnExactBestLeastPartWrong : ChangeSpec := { name := "fnExactBestLeastPart", fn := fun _ => fun
  | [d] => { results := [.lit (.bool false)], args := [d] }
  | _ => none }
def FnExactBestLeastPartWrongFalsely : Prop := fnExactBestLeastPartRow.holds Try.pinned (OpenSpec.ofChange fnExactBestLeastPartWrong)

/-- 'laws.FnExactShareCut': WHATEVER THE INPUT: true; the input reads as it did. -/
def fnExactShareCutSpec : ChangeSpec := { name := "fnExactShareCut", fn := fun _ => fun
  | [d1, d2] => { results := [.lit (.bool true)], args := [d1, d2] }
  | _ => none }
def fnExactShareCutRow : OpenClaim := { program := "ytkmklfdpomkalaa", sum := "9b878ed6eec763f9bbce58cbedc200966e45402249d84f40b4b775a4fffcede2", func := "loop.example/g03202/laws.FnExactShareCut", spec := "fnExactShareCut", unfollowed := true, recurses := true, apart := false }
def FnExactShareCutSaid : Prop := fnExactShareCutRow.holds Try.pinned (OpenSpec.ofChange fnExactShareCutSpec)

/-- ITS FALSE NEIGHBOUR: 'it returns false'. Refute it at one input. -/
def fnExactShareCutWrong : ChangeSpec := { name := "fnExactShareCut", fn := fun _ => fun
  | [d1, d2] => { results := [.lit (.bool false)], args := [d1, d2] }
  | _ => none }
def FnExactShareCutWrongFalsely : Prop := fnExactShareCutRow.holds Try.pinned (OpenSpec.ofChange fnExactShareCutWrong)

/-- 'laws.FnExactShareOf': WHATEVER THE INPUT: true; the input reads as it did. -/
def fnExactShareOfSpec : ChangeSpec := { name := "fnExactShareOf", fn := fun _ => fun
  | [d1, d2] => { results := [.lit (.bool true)], args := [d1, d2] }
  | _ => none }
def fnExactShareOfRow : OpenClaim := { program := "ytkmklfdpomkalaa", sum := "9b878ed6eec763f9bbce58cbedc200966e45402249d84f40b4b775a4fffcede2", func := "loop.example/g03202/laws.FnExactShareOf", spec := "fnExactShareOf", unfollowed := true, recurses := true, apart := false }
def FnExactShareOfSaid : Prop := fnExactShareOfRow.holds Try.pinned (OpenSpec.ofChange fnExactShareOfSpec)

/-- ITS FALSE NEIGHBOUR: 'it returns false'. Refute it at one input. -/
def fnExactShareOfWrong : ChangeSpec := { name := "fnExactShareOf", fn := fun _ => fun
  | [d1, d2] => { results := [.lit (.bool false)], args := [d1, d2] }
  | _ => none }
def FnExactShareOfWrongFalsely : Prop := fnExactShareOfRow.holds Try.pinned (OpenSpec.ofChange fnExactShareOfWrong)

/-- 'laws.FnExactMostProduct': WHATEVER THE INPUT: true; the input reads as it did. -/
def fnExactMostProductSpec : ChangeSpec := { name := "fnExactMostProduct", fn := fun _ => fun
  | [d] => { results := [.lit (.bool true)], args := [d] }
  | _ => none }
def fnExactMostProductRow : OpenClaim := { program := "ytkmklfdpomkalaa", sum := "9b878ed6eec763f9bbce58cbedc200966e45402249d84f40b4b775a4fffcede2", func := "loop.example/g03202/laws.FnExactMostProduct", spec := "fnExactMostProduct", unfollowed := true, recurses := true, apart := false }
def FnExactMostProductSaid : Prop := fnExactMostProductRow.holds Try.pinned (OpenSpec.ofChange fnExactMostProductSpec)

/-- ITS FALSE NEIGHBOUR: 'it returns false'. Refute it at one input. -/
def fnExactMostProductWrong : ChangeSpec := { name := "fnExactMostProduct", fn := fun _ => fun
  | [d] => { results := [.lit (.bool false)], args := [d] }
  | _ => none }
def FnExactMostProductWrongFalsely : Prop := fnExactMostProductRow.holds Try.pinned (OpenSpec.ofChange fnExactMostProductWrong)

/-- 'laws.FnExactCutAndPick': WHATEVER THE INPUT: true; the input reads as it did. -/
def fnExactCutAndPickSpec : ChangeSpec := { name := "fnExactCutAndPick", fn := fun _ => fun
  | [d] => { results := [.lit (.bool true)], args := [d] }
  | _ => none }
def fnExactCutAndPickRow : OpenClaim := { program := "ytkmklfdpomkalaa", sum := "9b878ed6eec763f9bbce58cbedc200966e45402249d84f40b4b775a4fffcede2", func := "loop.example/g03202/laws.FnExactCutAndPick", spec := "fnExactCutAndPick", unfollowed := true, recurses := true, apart := false }
def FnExactCutAndPickSaid : Prop := fnExactCutAndPickRow.holds Try.pinned (OpenSpec.ofChange fnExactCutAndPickSpec)

/-- ITS FALSE NEIGHBOUR: 'it returns false'. Refute it at one input. -/
def fnExactCutAndPickWrong : ChangeSpec := { name := "fnExactCutAndPick", fn := fun _ => fun
  | [d] => { results := [.lit (.bool false)], args := [d] }
  | _ => none }
def FnExactCutAndPickWrongFalsely : Prop := fnExactCutAndPickRow.holds Try.pinned (OpenSpec.ofChange fnExactCutAndPickWrong)

/-- 'laws.FnExactGetsShares': WHATEVER THE INPUT: true; the input reads as it did. -/
def fnExactGetsSharesSpec : ChangeSpec := { name := "fnExactGetsShares", fn := fun _ => fun
  | [d1, d2] => { results := [.lit (.bool true)], args := [d1, d2] }
  | _ => none }
def fnExactGetsSharesRow : OpenClaim := { program := "ytkmklfdpomkalaa", sum := "9b878ed6eec763f9bbce58cbedc200966e45402249d84f40b4b775a4fffcede2", func := "loop.example/g03202/laws.FnExactGetsShares", spec := "fnExactGetsShares", unfollowed := true, recurses := true, apart := false }
def FnExactGetsSharesSaid : Prop := fnExactGetsSharesRow.holds Try.pinned (OpenSpec.ofChange fnExactGetsSharesSpec)

/-- ITS FALSE NEIGHBOUR: 'it returns false'. Refute it at one input. -/
def fnExactGetsSharesWrong : ChangeSpec := { name := "fnExactGetsShares", fn := fun _ => fun
  | [d1, d2] => { results := [.lit (.bool false)], args := [d1, d2] }
  | _ => none }
def FnExactGetsSharesWrongFalsely : Prop := fnExactGetsSharesRow.holds Try.pinned (OpenSpec.ofChange fnExactGetsSharesWrong)

/-- 'laws.FnExactTakeTurns': WHATEVER THE INPUT: true; the input reads as it did. -/
def fnExactTakeTurnsSpec : ChangeSpec := { name := "fnExactTakeTurns", fn := fun _ => fun
  | [d1, d2] => { results := [.lit (.bool true)], args := [d1, d2] }
  | _ => none }
def fnExactTakeTurnsRow : OpenClaim := { program := "ytkmklfdpomkalaa", sum := "9b878ed6eec763f9bbce58cbedc200966e45402249d84f40b4b775a4fffcede2", func := "loop.example/g03202/laws.FnExactTakeTurns", spec := "fnExactTakeTurns", unfollowed := true, recurses := true, apart := false }
def FnExactTakeTurnsSaid : Prop := fnExactTakeTurnsRow.holds Try.pinned (OpenSpec.ofChange fnExactTakeTurnsSpec)

/-- ITS FALSE NEIGHBOUR: 'it returns false'. Refute it at one input. -/
def fnExactTakeTurnsWrong : ChangeSpec := { name := "fnExactTakeTurns", fn := fun _ => fun
  | [d1, d2] => { results := [.lit (.bool false)], args := [d1, d2] }
  | _ => none }
def FnExactTakeTurnsWrongFalsely : Prop := fnExactTakeTurnsRow.holds Try.pinned (OpenSpec.ofChange fnExactTakeTurnsWrong)

/- THE SECOND FORM. 'bulk': how many values and letters a reading holds, each counted each time it is reached (what is shared counts as often as it is met; a slice's spare places count too). A statement '..UptoSaid' is the law's where the arguments, and the package variables that the reading takes, are together of bulk at most 1048576: NARROWER than '..Said'. Prove '..Said' where nothing that the law and all that it calls make is longer than what came in: it says more and counts as full. Else prove '..UptoSaid'. A law counts once. -/
mutual
def uptoBulk {H : Type} : DataW H → Nat
  | .lit (.string bytes) => bytes.length + 1
  | .lit _ => 1
  | .nil => 1
  | .ptr d => uptoBulk d + 1
  | .slice elems spare => uptoBulkAll elems + uptoBulkAll spare + 1
  | .agg parts => uptoBulkAll parts + 1
  | .iface _ d => uptoBulk d + 1
  | .map entries => uptoBulkEntries entries + 1
  | .held _ => 1
def uptoBulkAll {H : Type} : List (DataW H) → Nat
  | [] => 0
  | d :: r => uptoBulk d + uptoBulkAll r
def uptoBulkEntries {H : Type} : List (Lit × DataW H) → Nat
  | [] => 0
  | x :: r => uptoBulkEntry x + uptoBulkEntries r
def uptoBulkEntry {H : Type} : Lit × DataW H → Nat
  | (.string bytes, d) => bytes.length + uptoBulk d + 1
  | (_, d) => uptoBulk d + 1
 end
def uptoSmall : (H : Type) → List (DataW H) → Bool := fun _ ds => decide (uptoBulkAll ds ≤ 1048576)
def OpenSpec.upto (s : _root_.Go.ChangeSpec) : _root_.Go.OpenSpec := { _root_.Go.OpenSpec.ofChange s with cond := some uptoSmall }

/-- 'laws.FnExactCountEnvyFree', WHERE WHAT IT READS IS OF BULK AT MOST 1048576: true; the input reads as it did. -/
def fnExactCountEnvyFreeUptoRow : OpenClaim := { program := "ytkmklfdpomkalaa", sum := "9b878ed6eec763f9bbce58cbedc200966e45402249d84f40b4b775a4fffcede2", func := "loop.example/g03202/laws.FnExactCountEnvyFree", spec := "fnExactCountEnvyFree", unfollowed := true, recurses := true, apart := false, narrowed := true }
def FnExactCountEnvyFreeUptoSaid : Prop := fnExactCountEnvyFreeUptoRow.holds Try.pinned (OpenSpec.upto fnExactCountEnvyFreeSpec)

/-- 'laws.FnExactCountNearlyFree', WHERE WHAT IT READS IS OF BULK AT MOST 1048576: true; the input reads as it did. -/
def fnExactCountNearlyFreeUptoRow : OpenClaim := { program := "ytkmklfdpomkalaa", sum := "9b878ed6eec763f9bbce58cbedc200966e45402249d84f40b4b775a4fffcede2", func := "loop.example/g03202/laws.FnExactCountNearlyFree", spec := "fnExactCountNearlyFree", unfollowed := true, recurses := true, apart := false, narrowed := true }
def FnExactCountNearlyFreeUptoSaid : Prop := fnExactCountNearlyFreeUptoRow.holds Try.pinned (OpenSpec.upto fnExactCountNearlyFreeSpec)

/-- 'laws.FnExactBestLeastPart', WHERE WHAT IT READS IS OF BULK AT MOST 1048576: true; the input reads as it did. -/
def fnExactBestLeastPartUptoRow : OpenClaim := { program := "ytkmklfdpomkalaa", sum := "9b878ed6eec763f9bbce58cbedc200966e45402249d84f40b4b775a4fffcede2", func := "loop.example/g03202/laws.FnExactBestLeastPart", spec := "fnExactBestLeastPart", unfollowed := true, recurses := true, apart := false, narrowed := true }
def FnExactBestLeastPartUptoSaid : Prop := fnExactBestLeastPartUptoRow.holds Try.pinned (OpenSpec.upto fnExactBestLeastPartSpec)

/-- 'laws.FnExactShareCut', WHERE WHAT IT READS IS OF BULK AT MOST 1048576: true; the input reads as it did. -/
def fnExactShareCutUptoRow : OpenClaim := { program := "ytkmklfdpomkalaa", sum := "9b878ed6eec763f9bbce58cbedc200966e45402249d84f40b4b775a4fffcede2", func := "loop.example/g03202/laws.FnExactShareCut", spec := "fnExactShareCut", unfollowed := true, recurses := true, apart := false, narrowed := true }
def FnExactShareCutUptoSaid : Prop := fnExactShareCutUptoRow.holds Try.pinned (OpenSpec.upto fnExactShareCutSpec)

/-- 'laws.FnExactShareOf', WHERE WHAT IT READS IS OF BULK AT MOST 1048576: true; the input reads as it did. -/
def fnExactShareOfUptoRow : OpenClaim := { program := "ytkmklfdpomkalaa", sum := "9b878ed6eec763f9bbce58cbedc200966e45402249d84f40b4b775a4fffcede2", func := "loop.example/g03202/laws.FnExactShareOf", spec := "fnExactShareOf", unfollowed := true, recurses := true, apart := false, narrowed := true }
def FnExactShareOfUptoSaid : Prop := fnExactShareOfUptoRow.holds Try.pinned (OpenSpec.upto fnExactShareOfSpec)

/-- 'laws.FnExactMostProduct', WHERE WHAT IT READS IS OF BULK AT MOST 1048576: true; the input reads as it did. -/
def fnExactMostProductUptoRow : OpenClaim := { program := "ytkmklfdpomkalaa", sum := "9b878ed6eec763f9bbce58cbedc200966e45402249d84f40b4b775a4fffcede2", func := "loop.example/g03202/laws.FnExactMostProduct", spec := "fnExactMostProduct", unfollowed := true, recurses := true, apart := false, narrowed := true }
def FnExactMostProductUptoSaid : Prop := fnExactMostProductUptoRow.holds Try.pinned (OpenSpec.upto fnExactMostProductSpec)

/-- 'laws.FnExactCutAndPick', WHERE WHAT IT READS IS OF BULK AT MOST 1048576: true; the input reads as it did. -/
def fnExactCutAndPickUptoRow : OpenClaim := { program := "ytkmklfdpomkalaa", sum := "9b878ed6eec763f9bbce58cbedc200966e45402249d84f40b4b775a4fffcede2", func := "loop.example/g03202/laws.FnExactCutAndPick", spec := "fnExactCutAndPick", unfollowed := true, recurses := true, apart := false, narrowed := true }
def FnExactCutAndPickUptoSaid : Prop := fnExactCutAndPickUptoRow.holds Try.pinned (OpenSpec.upto fnExactCutAndPickSpec)

/-- 'laws.FnExactGetsShares', WHERE WHAT IT READS IS OF BULK AT MOST 1048576: true; the input reads as it did. -/
def fnExactGetsSharesUptoRow : OpenClaim := { program := "ytkmklfdpomkalaa", sum := "9b878ed6eec763f9bbce58cbedc200966e45402249d84f40b4b775a4fffcede2", func := "loop.example/g03202/laws.FnExactGetsShares", spec := "fnExactGetsShares", unfollowed := true, recurses := true, apart := false, narrowed := true }
def FnExactGetsSharesUptoSaid : Prop := fnExactGetsSharesUptoRow.holds Try.pinned (OpenSpec.upto fnExactGetsSharesSpec)

/-- 'laws.FnExactTakeTurns', WHERE WHAT IT READS IS OF BULK AT MOST 1048576: true; the input reads as it did. -/
def fnExactTakeTurnsUptoRow : OpenClaim := { program := "ytkmklfdpomkalaa", sum := "9b878ed6eec763f9bbce58cbedc200966e45402249d84f40b4b775a4fffcede2", func := "loop.example/g03202/laws.FnExactTakeTurns", spec := "fnExactTakeTurns", unfollowed := true, recurses := true, apart := false, narrowed := true }
def FnExactTakeTurnsUptoSaid : Prop := fnExactTakeTurnsUptoRow.holds Try.pinned (OpenSpec.upto fnExactTakeTurnsSpec)

end Rows
end Go.Proofs.Ytkmklfdpomkalaa
