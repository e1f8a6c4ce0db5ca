/- Own work: contracts of functions. No condition beyond those that each theorem names. -/
import Derived.Test.YtllcbempbdibhaaProg
import Derived.Test.YtllcbempbdibhaaCyc
namespace Go.Proofs.Ytllcbempbdibhaa
open Go Go.Vc
set_option maxRecDepth 100000
set_option linter.unusedSimpArgs false
set_option linter.unusedVariables false
section
variable {f:Int → Int} {a:Int}
end
end Go.Proofs.Ytllcbempbdibhaa
