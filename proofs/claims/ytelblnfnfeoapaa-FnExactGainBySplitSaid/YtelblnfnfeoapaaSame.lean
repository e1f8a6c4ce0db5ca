/- Own work: contracts of functions that the claim reaches. No condition beyond those that each theorem names. -/
import Derived.Test.YtelblnfnfeoapaaProg
import Derived.Test.YtelblnfnfeoapaaSmall
namespace Go.Proofs.Ytelblnfnfeoapaa
open Go Go.Vc
set_option maxRecDepth 100000
set_option linter.unusedSimpArgs false
set_option linter.unusedVariables false
/- spec_l04Same: not in this cut -/
/- slices_Equal_Sint_int: not in this cut -/
theorem ne_at {a b : List Int} {j : Nat} (hl : a.length = b.length) (h : a.getD j 0 ≠ b.getD j 0) : decide (a = b) = false := by
  apply decide_eq_false; intro e; subst e; exact h rfl
theorem eq_all {a b : List Int} (hl : a.length = b.length) (h : ∀ i, i < a.length → a.getD i 0 = b.getD i 0) : decide (a = b) = true := by
  apply decide_eq_true
  apply List.ext_getElem hl
  intro i h1 h2
  have := h i h1
  simpa [List.getD, h1, h2] using this
end Go.Proofs.Ytelblnfnfeoapaa
