/- Own work: contracts of functions. No condition beyond those that each theorem names. -/
import Derived.Test.YtllcbempbdibhaaProg
import Derived.Test.YtllcbempbdibhaaPropose
namespace Go.Proofs.Ytllcbempbdibhaa
open Go Go.Vc
set_option maxRecDepth 100000
set_option linter.unusedSimpArgs false
set_option linter.unusedVariables false
theorem nodup_get {l : List Int} (h : l.Nodup) {i j : Nat} (hi : i < l.length) (hj : j < l.length) (e : l.getD i 0 = l.getD j 0) : i = j := by
 have h':=List.pairwise_iff_getElem.1 h
 simp only [List.getD,List.getElem?_eq_getElem hi,List.getElem?_eq_getElem hj,Option.getD_some] at e
 rcases Nat.lt_trichotomy i j with q | q | q
 ·exact absurd e (h' i j hi hj q)
 ·exact q
 ·exact absurd e.symm (h' j i hj hi q)
theorem placeI_at {l : List Int} (h : l.Nodup) {j : Nat} (hj : j < l.length) : placeI l (l.getD j 0) = j := by
 obtain ⟨k,h1,h2,h3⟩:=placeI_mem (getD_mem (d:=0) hj)
 rw [h3,nodup_get h h1 hj h2]
section
variable {x y:List (List Int)} {l r:List Int}
end
end Go.Proofs.Ytllcbempbdibhaa
