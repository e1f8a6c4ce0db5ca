/- Own work: contracts of functions that the claim reaches. No condition beyond those that each theorem names. -/
import Derived.Test.YtfdoddeccnjcmaaProg
import Derived.Test.YtfdoddeccnjcmaaHamq
namespace Go.Proofs.Ytfdoddeccnjcmaa
open Go Go.Vc
set_option maxRecDepth 100000
set_option linter.unusedSimpArgs false
set_option linter.unusedVariables false
/-! No seats are nearer to the shares than those of the greatest remainders. -/
def absI (x : Int) : Int := max x (-x)
/-- How far seats are from the shares, times the sums. -/
def distF (cs ss : List Int) : Int := sumF (fun i => absI (ss.getD i 0 * sumL cs - cs.getD i 0 * sumL ss)) cs.length
theorem dist_step {S z r e : Int} (z0 : 0 ≤ z) (z1 : z ≤ S) (r0 : 0 ≤ r) (r1 : r < S) :
    (r ≤ z → r ≤ absI (e * S - r) - (S - 2 * z) * e) ∧ (z ≤ r → 2 * z - r ≤ absI (e * S - r) - (S - 2 * z) * e) := by
  have e1 : (S - 2 * z) * e = e * S - 2 * (z * e) := by grind
  rw [e1]
  unfold absI
  by_cases he : 1 ≤ e
  · have h1 := Int.mul_le_mul_of_nonneg_left he z0
    have h2 := Int.mul_le_mul_of_nonneg_right he (show 0 ≤ S by omega)
    rw [Int.mul_one] at h1
    rw [Int.one_mul] at h2
    omega
  · have h1 := Int.mul_nonneg (show 0 ≤ S - z by omega) (show 0 ≤ -e by omega)
    have h2 : (S - z) * (-e) = z * e - e * S := by grind
    omega
theorem ham_near {cs ts : List Int} {n : Int} (h : askB cs n = true) (hl : ts.length = cs.length) (hs : sumL ts = n) : distF cs (hamF cs n) ≤ distF cs ts := by
  have A := ask_of h
  have hp := A.pos
  obtain ⟨z, z0, z1, hz⟩ := ham_theta h
  have key := sumF_le (f := fun i => 1 * absI ((hamF cs n).getD i 0 * sumL cs - cs.getD i 0 * n) + (-(sumL cs - 2 * z)) * (hamF cs n).getD i 0) (g := fun i => 1 * absI (ts.getD i 0 * sumL cs - cs.getD i 0 * n) + (-(sumL cs - 2 * z)) * ts.getD i 0) (j := cs.length) fun i hi => by
    have Q := quo_at h hi
    have q1 := Q.eq
    have q2 := Q.r0
    have q3 := Q.rS
    have st := dist_step (S := sumL cs) (z := z) (r := (quoF remO cs n).getD i 0) (e := ts.getD i 0 - (quoF lowO cs n).getD i 0) z0 z1 q2 q3
    have a1 : ts.getD i 0 * sumL cs - cs.getD i 0 * n = (ts.getD i 0 - (quoF lowO cs n).getD i 0) * sumL cs - (quoF remO cs n).getD i 0 := by rw [← q1]; grind
    rcases hz i hi with ⟨e, h3⟩ | ⟨e, h3⟩
    · have a2 : (hamF cs n).getD i 0 * sumL cs - cs.getD i 0 * n = - (quoF remO cs n).getD i 0 := by rw [← q1, e]; grind
      have := st.1 h3
      rw [a1, a2, e]
      have a3 : absI (-(quoF remO cs n).getD i 0) = (quoF remO cs n).getD i 0 := by unfold absI; omega
      rw [a3]
      generalize absI ((ts.getD i 0 - (quoF lowO cs n).getD i 0) * sumL cs - (quoF remO cs n).getD i 0) = D at *
      grind
    · have a2 : (hamF cs n).getD i 0 * sumL cs - cs.getD i 0 * n = sumL cs - (quoF remO cs n).getD i 0 := by rw [← q1, e]; grind
      have := st.2 h3
      rw [a1, a2, e]
      have a3 : absI (sumL cs - (quoF remO cs n).getD i 0) = sumL cs - (quoF remO cs n).getD i 0 := by unfold absI; omega
      rw [a3]
      generalize absI ((ts.getD i 0 - (quoF lowO cs n).getD i 0) * sumL cs - (quoF remO cs n).getD i 0) = D at *
      grind
  rw [sumF_lin, sumF_lin] at key
  have s1 := ham_sum h
  unfold distF
  rw [s1, hs]
  rw [sumL_F (hamF_len h)] at s1
  rw [sumL_F hl] at hs
  rw [s1, hs] at key
  omega

end Go.Proofs.Ytfdoddeccnjcmaa
