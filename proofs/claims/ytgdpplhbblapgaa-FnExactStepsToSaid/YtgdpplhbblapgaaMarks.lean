/- Own work: contracts of functions that the claim reaches. No condition beyond those that each theorem names. -/
import Derived.Test.YtgdpplhbblapgaaProg
import Derived.Test.YtgdpplhbblapgaaLaws
namespace Go.Proofs.Ytgdpplhbblapgaa
open Go Go.Vc
set_option maxRecDepth 100000
set_option linter.unusedSimpArgs false
set_option linter.unusedVariables false
/- laws_heldIntSS: not in this cut -/
/-- The numbers of rows. -/
def tot (a : List (List Int)) : Nat := (a.map List.length).sum
theorem szIL_tot : ∀ {a : List (List Int)} {left : Int}, 0 ≤ left → ¬ szIL a left < 0 → (tot a : Int) ≤ left
  | [], left, h0, h => by simpa [tot] using h0
  | r :: a, left, h0, h => by
    simp only [szIL] at h
    by_cases h2 : szI r left < 0
    · simp [h2] at h
    · rw [if_neg h2] at h
      have h3 := szIL_tot (by omega) h
      have h4 : szI r left = left - r.length := by unfold szI at h2 ⊢; split <;> rename_i h5 <;> simp [h5] at h2 ⊢
      have h5 : tot (r :: a) = r.length + tot a := by simp [tot]
      omega
theorem szII_tot {a : List (List Int)} {left : Int} (h : ¬ szII a left < 0) : (tot a : Int) ≤ left := by
  unfold szII at h
  split at h
  · simp at h
  · rename_i h2
    have := szIL_tot (by omega) h
    omega

end Go.Proofs.Ytgdpplhbblapgaa
