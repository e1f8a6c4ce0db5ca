/- Own work: contracts of functions. No condition beyond those that each theorem names. -/
import Derived.Test.YtllcbempbdibhaaProg
import Derived.Test.YtllcbempbdibhaaDia
import Derived.Test.YtllcbempbdibhaaSteps
namespace Go.Proofs.Ytllcbempbdibhaa
open Go Go.Vc
set_option maxRecDepth 100000
set_option linter.unusedSimpArgs false
set_option linter.unusedVariables false
theorem Sm.congr {n : Nat} {P Q : Nat → Nat → Nat → Prop} {μ ν : Nat → Nat} (S : Sm n P Q μ) (h : ∀ i, i < n → ν i = μ i) : Sm n P Q ν :=
 ⟨fun i hi => by rw [h i hi]; exact S.inn i hi,fun i j hi hj e => S.inj i j hi hj (by rw [← h i hi,← h j hj,e]),fun i j hi hj => by rw [h i hi,h j hj]; exact S.st i j hi hj⟩
section
variable {x y:List (List Int)} {l z:List Int}
end
end Go.Proofs.Ytllcbempbdibhaa
