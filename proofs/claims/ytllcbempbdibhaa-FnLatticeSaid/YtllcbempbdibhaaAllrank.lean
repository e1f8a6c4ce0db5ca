/- Own work: contracts of functions. No condition beyond those that each theorem names. -/
import Derived.Test.YtllcbempbdibhaaProg
import Derived.Test.YtllcbempbdibhaaRanks
import Derived.Test.YtllcbempbdibhaaSmall
namespace Go.Proofs.Ytllcbempbdibhaa
open Go Go.Vc
set_option maxRecDepth 100000
set_option linter.unusedSimpArgs false
set_option linter.unusedVariables false
def l03 (m : Nat) : Nat → List Int → List (List Int)
 | 0,l => [l]
 | k + 1,l => (List.range m).flatMap fun (x:Nat) => if placeI l (x:Int) < 0 then l03 m k (l ++ [(x:Int)]) else []
def allRank (m:Int):List (List Int):=if inI m 1 5 then l03 m.toNat m.toNat [] else []
end Go.Proofs.Ytllcbempbdibhaa
