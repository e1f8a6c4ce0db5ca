/- Own work: contracts of functions that the claim reaches. No condition beyond those that each theorem names. -/
import Derived.Test.YtgdpplhbblapgaaProg
import Derived.Test.YtgdpplhbblapgaaInvm
import Derived.Test.YtgdpplhbblapgaaNextw
namespace Go.Proofs.Ytgdpplhbblapgaa
open Go Go.Vc
set_option maxRecDepth 100000
set_option linter.unusedSimpArgs false
set_option linter.unusedVariables false
section
variable {x y : List (List Int)} {l : List Int}
theorem stab_mem : l ∈ stabF x y ↔ stabB x y l = true := by
 constructor
 ·intro h
  obtain ⟨h1, h2, h3⟩ := stab_rank h
  simp [stabB, matchB, h1, h2, h3]
 ·intro h
  have h' := h
  simp only [stabB, matchB, Bool.and_eq_true] at h'
  unfold stabF stabK
  rw [if_pos h'.1.1, List.take_length]
  exact List.mem_filter.2 ⟨rank_allRank h'.1.2, h'.2⟩
theorem ch_sum {m : Nat} (h : ∀ q, q < m → rotsF x y (chI x y q) ≠ []) : ∀ {i j : Nat}, i < j → j ≤ m → sumF (placeM x (chI x y i)) x.length < sumF (placeM x (chI x y j)) x.length
 | i, 0, h1, _ => by omega
 | i, j + 1, h1, h2 => by
  have := trnI_up (h j (by omega))
  have e : chI x y (j + 1) = trnI x y (chI x y j) := rfl
  rw [← e] at this
  by_cases c : i = j
  ·subst c; omega
  ·have := ch_sum h (i := i) (j := j) (by omega) (by omega)
   omega
theorem ch_le {m : Nat} (hm : marketB x y = true) (h : ∀ q, q < m → rotsF x y (chI x y q) ≠ []) : m + 1 ≤ (stabF x y).length := by
 have := nodupR_len (xs := chK x y (m + 1)) (ys := stabF x y) (by
  rw [List.Nodup, List.pairwise_iff_getElem]
  intro i j hi hj hij e
  rw [chK_len] at hi hj
  have := ch_sum h hij (by omega)
  have e1 : (chK x y (m + 1))[i]'(by rw [chK_len]; omega) = chI x y i := by simp [chK]
  have e2 : (chK x y (m + 1))[j]'(by rw [chK_len]; omega) = chI x y j := by simp [chK]
  rw [e1, e2] at e
  rw [e] at this; omega) (fun a ha => by
  obtain ⟨j, hj, rfl⟩ := mem_getD [] ha
  rw [chK_len] at hj
  rw [chK_get hj, stab_mem]
  exact (levS_ok (psF_stab hm) _ (ch_lev fun q hq => h q (by omega))).1)
 rwa [chK_len] at this
theorem ch_step {m j : Nat} (hm : marketB x y = true) (h : ∀ q, q < m → rotsF x y (chI x y q) ≠ []) (hj : j ≤ m) : stepF x y (chI x y j) = j :=
 step_path hm (lev_path (ch_lev fun q hq => h q (by omega)))
end
section
variable {x y : List (List Int)} {L : List (List Int)}
theorem lon_two : ∀ {k : Nat}, lonN x y L k = 0 ∨ 2 ≤ lonN x y L k
 | 0 => .inl rfl
 | k + 1 => by
  have ih := lon_two (k := k)
  simp only [lonN]
  split
  ·exact ih
  ·rename_i h
   have := rot_two (getD_mem (d := []) (List.length_pos_iff.2 h))
   right; omega
theorem lon_pos : ∀ {k q : Nat}, q < k → rotsF x y (L.getD q []) ≠ [] → 2 ≤ lonN x y L k
 | 0, q, h, _ => by omega
 | k + 1, q, h, hq => by
  simp only [lonN]
  by_cases e : q = k
  ·subst e
   rw [if_neg hq]
   have := rot_two (getD_mem (d := []) (List.length_pos_iff.2 hq))
   omega
  ·have := lon_pos (k := k) (q := q) (by omega) hq
   split <;> omega
theorem lon_zero : ∀ {k : Nat}, (∀ q, q < k → rotsF x y (L.getD q []) = []) → lonN x y L k = 0
 | 0, _ => rfl
 | k + 1, h => by
  simp only [lonN]
  rw [if_pos (h k (by omega))]
  exact lon_zero fun q hq => h q (by omega)
end
end Go.Proofs.Ytgdpplhbblapgaa
