/- Own work: contracts of functions. No condition beyond those that each theorem names. -/
import Derived.Test.YtllcbempbdibhaaProg
import Derived.Test.YtllcbempbdibhaaInvm
import Derived.Test.YtllcbempbdibhaaNextw
namespace Go.Proofs.Ytllcbempbdibhaa
open Go Go.Vc
set_option maxRecDepth 100000
set_option linter.unusedSimpArgs false
set_option linter.unusedVariables false
section
variable {x y:List (List Int)} {l:List Int}
theorem stab_mem : l ∈ stabF x y ↔ stabB x y l = true := by
 constructor
 ·intro h
  obtain ⟨h1,h2,h3⟩:=stab_rank h
  simp [stabB,matchB,h1,h2,h3]
 ·intro h
  have h':=h
  simp only [stabB,matchB,Bool.and_eq_true] at h'
  unfold stabF stabK
  rw [if_pos h'.1.1,List.take_length]
  exact List.mem_filter.2 ⟨rank_allRank h'.1.2,h'.2⟩
end
section
variable {x y:List (List Int)} {L:List (List Int)}
end
end Go.Proofs.Ytllcbempbdibhaa
