/- Own work: contracts of functions. No condition beyond those that each theorem names. -/
import Derived.Test.YtllcbempbdibhaaProg
import Derived.Test.YtllcbempbdibhaaMarry
namespace Go.Proofs.Ytllcbempbdibhaa
open Go Go.Vc
set_option maxRecDepth 100000
set_option linter.unusedSimpArgs false
set_option linter.unusedVariables false
section
variable {n:Nat} {P Q:Nat → Nat → Nat → Prop} {μ ν:Nat → Nat} {T:Nat → Prop} {s:Nat → Nat}
end
end Go.Proofs.Ytllcbempbdibhaa
