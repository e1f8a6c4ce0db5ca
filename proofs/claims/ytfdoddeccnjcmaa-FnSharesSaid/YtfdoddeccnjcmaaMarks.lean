/- Own work: contracts of functions that the claim reaches. No condition beyond those that each theorem names. -/
import Derived.Test.YtfdoddeccnjcmaaProg
import Derived.Test.YtfdoddeccnjcmaaLaws
namespace Go.Proofs.Ytfdoddeccnjcmaa
open Go Go.Vc
set_option maxRecDepth 100000
set_option linter.unusedSimpArgs false
set_option linter.unusedVariables false
/- laws_markIntS: not in this cut -/
/- laws_heldIntS: not in this cut -/
/- laws_markIntSS: not in this cut -/
/- laws_heldIntSS: not in this cut -/
/-- k, k + 1, .. : n of them. -/
def upI (k : Int) : Nat → List Int
  | 0 => []
  | n + 1 => k :: upI (k + 1) n
theorem upI_len {n : Nat} : ∀ {k : Int}, (upI k n).length = n := by
  induction n with
  | zero => intro k; rfl
  | succ n ih => intro k; simp [upI, ih]
theorem upI_get {n j : Nat} : ∀ {k : Int}, j < n → (upI k n).getD j 0 = k + j := by
  induction n generalizing j with
  | zero => intro k h; omega
  | succ n ih =>
    intro k h
    cases j with
    | zero => simp [upI]
    | succ j =>
      simp only [upI, List.getD_cons_succ]
      rw [ih (by omega)]; omega
theorem upI_snoc {n : Nat} : ∀ {k : Int}, upI k (n + 1) = upI k n ++ [k + n] := by
  induction n with
  | zero => intro k; simp [upI]
  | succ n ih =>
    intro k
    have h := ih (k := k + 1)
    simp only [upI, List.cons_append] at h ⊢
    rw [h]
    have : k + 1 + (n : Int) = k + (n + 1 : Nat) := by omega
    rw [this]
theorem up_set {a : List Int} {k : Int} {j : Nat} (hj : j < a.length) : (upI k j ++ a.drop j).set j (k + j) = upI k (j + 1) ++ a.drop (j + 1) := by
  rw [List.set_append_right _ _ (by rw [upI_len]; omega), upI_len, Nat.sub_self, drop_getD 0 hj, List.set_cons_zero, upI_snoc, List.append_assoc]; rfl
/-- The numbers of rows. -/
def tot (a : List (List Int)) : Nat := (a.map List.length).sum
def upR (k : Int) : List (List Int) → List (List Int)
  | [] => []
  | r :: rs => upI k r.length :: upR (k + r.length) rs
theorem tot_snoc {a : List (List Int)} {r : List Int} : tot (a ++ [r]) = tot a + r.length := by simp [tot]
theorem upR_len : ∀ {a : List (List Int)} {k : Int}, (upR k a).length = a.length
  | [], _ => rfl
  | r :: a, k => by simp [upR, upR_len (a := a)]
theorem upR_snoc {r : List Int} : ∀ {a : List (List Int)} {k : Int}, upR k (a ++ [r]) = upR k a ++ [upI (k + tot a) r.length]
  | [], k => by simp [upR, tot]
  | q :: a, k => by
    have h : k + (q.length : Int) + (tot a : Int) = k + (tot (q :: a) : Nat) := by simp [tot]; omega
    simp only [List.cons_append, upR, upR_snoc (a := a), h]
theorem upR_getD : ∀ {a : List (List Int)} {k : Int} {j : Nat}, j < a.length → (upR k a).getD j [] = upI (k + tot (a.take j)) (a.getD j []).length
  | [], _, _, h => by simp at h
  | r :: a, k, 0, _ => by simp [upR, tot]
  | r :: a, k, j + 1, h => by
    simp only [upR, List.getD_cons_succ, List.take_succ_cons]
    rw [upR_getD (by simpa using h)]
    congr 1
    simp [tot]; omega
theorem upR_set {a : List (List Int)} {k : Int} {j : Nat} (hj : j < a.length) : (upR k (a.take j) ++ a.drop j).set j (upI (k + tot (a.take j)) (a.getD j []).length) = upR k (a.take (j + 1)) ++ a.drop (j + 1) := by
  have hl : (upR k (a.take j)).length = j := by rw [upR_len, List.length_take]; omega
  rw [List.set_append_right _ _ (by rw [hl]; omega), hl, Nat.sub_self, drop_getD [] hj, List.set_cons_zero, take_getD [] hj, upR_snoc, List.append_assoc]; rfl
theorem tot_take {a : List (List Int)} {j : Nat} (hj : j < a.length) : tot (a.take (j + 1)) = tot (a.take j) + (a.getD j []).length := by rw [take_getD [] hj, tot_snoc]
theorem tot_take_le {a : List (List Int)} {j : Nat} : tot (a.take j) ≤ tot a := by
  have : tot a = tot (a.take j) + tot (a.drop j) := by
    have h : a = a.take j ++ a.drop j := (List.take_append_drop j a).symm
    have h2 : ∀ x y : List (List Int), tot (x ++ y) = tot x + tot y := by intro x y; simp [tot]
    rw [← h2, ← h]
  omega
theorem rows_getD {a : List (List Int)} {k : Int} {j : Nat} (hj : j < a.length) : (upR k (a.take j) ++ a.drop j).getD j [] = a.getD j [] := by
  have hl : (upR k (a.take j)).length = j := by rw [upR_len, List.length_take]; omega
  rw [List.getD, List.getElem?_append_right (by omega), hl, Nat.sub_self, drop_getD [] hj]; rfl
theorem szIL_tot : ∀ {a : List (List Int)} {left : Int}, 0 ≤ left → ¬ szIL a left < 0 → (tot a : Int) ≤ left
  | [], left, h0, h => by simpa [tot] using h0
  | r :: a, left, h0, h => by
    simp only [szIL] at h
    by_cases h2 : szI r left < 0
    · simp [h2] at h
    · rw [if_neg h2] at h
      have h3 := szIL_tot (by omega) h
      have h4 : szI r left = left - r.length := by unfold szI at h2 ⊢; split <;> rename_i h5 <;> simp [h5] at h2 ⊢
      have h5 : tot (r :: a) = r.length + tot a := by simp [tot]
      omega
theorem szII_tot {a : List (List Int)} {left : Int} (h : ¬ szII a left < 0) : (tot a : Int) ≤ left := by
  unfold szII at h
  split at h
  · simp at h
  · rename_i h2
    have := szIL_tot (by omega) h
    omega

end Go.Proofs.Ytfdoddeccnjcmaa
