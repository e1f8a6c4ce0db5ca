/- Own work: contracts of functions that the claim reaches. No condition beyond those that each theorem names. -/
import Derived.Test.YtelblnfnfeoapaaProg
import Derived.Test.YtelblnfnfeoapaaV4
namespace Go.Proofs.Ytelblnfnfeoapaa
open Go Go.Vc
set_option maxRecDepth 100000
set_option linter.unusedSimpArgs false
set_option linter.unusedVariables false
theorem pfacts : PFacts Try.prog where
  head := by
    rw [((congrArg String.toList (rfl : Try.prog.initOrder = String.ofList _)).trans String.toList_ofList : Try.prog.initOrder.toList = _)]
    kernel_rfl
  later := by as_aux_lemma => kernel_rfl
  refl := by as_aux_lemma => kernel_rfl
  door := by as_aux_lemma => kernel_rfl
  laid := by as_aux_lemma => kernel_rfl
  mapsR := by as_aux_lemma => kernel_rfl
  stops := by as_aux_lemma => kernel_rfl
  knobs := by as_aux_lemma => kernel_rfl
  plain := by as_aux_lemma => kernel_rfl
  heard := by as_aux_lemma => kernel_rfl
theorem ownk : ownKnob Try.prog.godebug = none := by kernel_rfl

end Go.Proofs.Ytelblnfnfeoapaa
