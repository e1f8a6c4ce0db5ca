/- Own work: contracts of functions that the claim reaches. No condition beyond those that each theorem names. -/
import Derived.Test.YtfdoddeccnjcmaaProg
import Derived.Test.YtfdoddeccnjcmaaFilled
namespace Go.Proofs.Ytfdoddeccnjcmaa
open Go Go.Vc
set_option maxRecDepth 100000
set_option linter.unusedSimpArgs false
set_option linter.unusedVariables false
/- spec_l13Give: not in this cut -/
def usedL (O : List Int) (t n : Nat) : List Bool := (List.range n).map (usedO O t)
theorem usedL_len {O : List Int} {t n : Nat} : (usedL O t n).length = n := by simp [usedL]
theorem usedL0 {O : List Int} {n : Nat} : (List.range n).map (usedO O 0) = List.replicate n false := by
  apply List.ext_getElem
  · simp
  · intro i h1 h2; simp [usedO]
theorem usedL_get {O : List Int} {t n i : Nat} (h : i < n) : (usedL O t n).getD i false = usedO O t i := by simp [usedL, List.getD, h]
theorem usedL_set {O : List Int} {t n : Nat} (ht : t < O.length) (h0 : 0 ≤ O.getD t 0) : (usedL O t n).set (O.getD t 0).toNat true = usedL O (t + 1) n := by
  apply List.ext_getElem?
  intro k
  rw [List.getElem?_set]
  by_cases hk : k < n
  · have e : ∀ t, (usedL O t n)[k]? = some (usedO O t k) := fun t => by simp [usedL, hk]
    have e2 : usedO O (t + 1) k = (usedO O t k || decide ((k : Int) = O.getD t 0)) := by
      simp only [usedO]; rw [take_getD 0 ht, List.any_append]; simp
    rw [e, e, e2, usedL_len]
    by_cases hx : (O.getD t 0).toNat = k
    · rw [if_pos hx, if_pos (by omega)]
      have : (k : Int) = O.getD t 0 := by omega
      simp [this]
    · have : ¬ (k : Int) = O.getD t 0 := by omega
      rw [if_neg hx, decide_eq_false this, Bool.or_false]
  · have e : ∀ t, (usedL O t n)[k]? = none := fun t => by simp [usedL]; omega
    rw [e, e, usedL_len]
    by_cases hx : (O.getD t 0).toNat = k
    · rw [if_pos hx, if_neg (by omega)]
    · rw [if_neg hx]
end Go.Proofs.Ytfdoddeccnjcmaa
