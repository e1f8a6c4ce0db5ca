/- Own work: contracts of functions. No condition beyond those that each theorem names. -/
import Derived.Test.YtllcbempbdibhaaProg
import Derived.Test.YtllcbempbdibhaaChlen
namespace Go.Proofs.Ytllcbempbdibhaa
open Go Go.Vc
set_option maxRecDepth 100000
set_option linter.unusedSimpArgs false
set_option linter.unusedVariables false
section
variable {x y:List (List Int)} {l r:List Int}
theorem match_of (h : stabB x y l = true) : matchB x y l = true := by
 simp only [stabB,Bool.and_eq_true] at h; exact h.1
end
end Go.Proofs.Ytllcbempbdibhaa
