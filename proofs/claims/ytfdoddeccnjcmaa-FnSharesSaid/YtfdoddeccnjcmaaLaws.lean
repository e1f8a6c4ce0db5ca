/- Own work: contracts of functions that the claim reaches. No condition beyond those that each theorem names. -/
import Derived.Test.YtfdoddeccnjcmaaProg
import Derived.Test.YtfdoddeccnjcmaaSmall
namespace Go.Proofs.Ytfdoddeccnjcmaa
open Go Go.Vc
set_option maxRecDepth 100000
set_option linter.unusedSimpArgs false
set_option linter.unusedVariables false
/- laws_szIntS: not in this cut -/
/- laws_szIntSS: not in this cut -/
/- laws_toIntS: not in this cut -/
/- laws_toIntSS: not in this cut -/
/- laws_eqIntS: not in this cut -/
/- laws_eqIntSS: not in this cut -/
def szI (a : List Int) (left : Int) : Int := if left - a.length < 0 then -1 else left - a.length
theorem szI_bd {a : List Int} {left : Int} (h1 : left ≤ 1048576) : szI a left ≤ 1048576 := by unfold szI; split <;> omega
/-- What is left after the rows; below 0: too much. -/
def szIL : List (List Int) → Int → Int
  | [], left => left
  | r :: rs, left => if szI r left < 0 then -1 else szIL rs (szI r left)
def szII (a : List (List Int)) (left : Int) : Int := if left - a.length < 0 then -1 else szIL a (left - a.length)
theorem szIL_ok {a : List (List Int)} {left : Int} (h1 : left ≤ 1048576) (h : ¬ szIL a left < 0) : ∀ r ∈ a, r.length ≤ 1048576 := by
  induction a generalizing left with
  | nil => intro r hr; simp at hr
  | cons x a ih =>
    intro r hr
    simp only [szIL] at h
    by_cases h2 : szI x left < 0
    · simp [h2] at h
    · rw [if_neg h2] at h
      rcases List.mem_cons.1 hr with rfl | hr
      · unfold szI at h2; split at h2 <;> omega
      · exact ih (szI_bd h1) h r hr
theorem szII_ok {a : List (List Int)} {left : Int} (h1 : left ≤ 1048576) (h : ¬ szII a left < 0) : a.length ≤ 1048576 ∧ ∀ r ∈ a, r.length ≤ 1048576 := by
  unfold szII at h
  split at h
  · simp at h
  · exact ⟨by omega, szIL_ok (by omega) h⟩
theorem take_set {α : Type} {a : List α} {j n : Nat} {d z : α} (hj : j < a.length) (hn : a.length = n) : (a.take j ++ List.replicate (n - j) z).set j (a.getD j d) = a.take (j + 1) ++ List.replicate (n - (j + 1)) z := by
  have h1 : n - j = (n - (j + 1)) + 1 := by omega
  have hl : (a.take j).length = j := by rw [List.length_take]; omega
  rw [h1, List.replicate_succ, List.set_append_right _ _ (by omega), hl, Nat.sub_self, List.set_cons_zero, ← List.take_append_getElem hj, List.append_assoc]
  simp [List.getD, hj]
end Go.Proofs.Ytfdoddeccnjcmaa
