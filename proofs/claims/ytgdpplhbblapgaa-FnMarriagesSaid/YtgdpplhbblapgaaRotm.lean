/- Own work: contracts of functions that the claim reaches. No condition beyond those that each theorem names. -/
import Derived.Test.YtgdpplhbblapgaaProg
import Derived.Test.YtgdpplhbblapgaaMarry
namespace Go.Proofs.Ytgdpplhbblapgaa
open Go Go.Vc
set_option maxRecDepth 100000
set_option linter.unusedSimpArgs false
set_option linter.unusedVariables false
structure Ro (n : Nat) (P Q : Nat → Nat → Nat → Prop) (μ : Nat → Nat) (T : Nat → Prop) (s : Nat → Nat) : Prop where
 sub : ∀ i, T i → i < n
 nx : ∀ i, T i → Nx n P Q μ i (s i)
 cl : ∀ i j, T i → j < n → μ j = s i → T j
 inj : ∀ i j, T i → T j → s i = s j → i = j
open Classical in
noncomputable def turnM (T : Nat → Prop) (s μ : Nat → Nat) (i : Nat) : Nat := if T i then s i else μ i
section
variable {n : Nat} {P Q : Nat → Nat → Nat → Prop} {μ ν : Nat → Nat} {T : Nat → Prop} {s : Nat → Nat}
theorem turn_yes {i : Nat} (h : T i) : turnM T s μ i = s i := by unfold turnM; rw [if_pos h]
theorem turn_no {i : Nat} (h : ¬ T i) : turnM T s μ i = μ i := by unfold turnM; rw [if_neg h]
theorem turn_sm (hP : Lk n P) (hQ : Lk n Q) (A : Sm n P Q μ) (R : Ro n P Q μ T s) : Sm n P Q (turnM T s μ) := by
 refine ⟨fun i hi => ?_, fun i j hi hj e => ?_, fun i j hi hj h hq => ?_⟩
 ·by_cases hT : T i
  ·rw [turn_yes hT]; exact (R.nx i hT).1
  ·rw [turn_no hT]; exact A.inn i hi
 ·by_cases h1 : T i <;> by_cases h2 : T j
  ·rw [turn_yes h1, turn_yes h2] at e; exact R.inj i j h1 h2 e
  ·rw [turn_yes h1, turn_no h2] at e; exact absurd (R.cl i j h1 hj e.symm) h2
  ·rw [turn_no h1, turn_yes h2] at e; exact absurd (R.cl j i h2 hi e) h1
  ·rw [turn_no h1, turn_no h2] at e; exact A.inj i j hi hj e
 ·by_cases h2 : T j
  ·rw [turn_yes h2] at h hq
   obtain ⟨n1, n2, n3, n4⟩ := R.nx j h2
   obtain ⟨k, hk, ek⟩ := A.onto n1
   have hTk := R.cl j k h2 hk ek
   have hqk := hQ.trans _ _ _ _ hq (n3 k hk ek)
   have hnot : ¬ P i (s j) (μ i) := fun hp => by
    rw [← ek] at hp hqk
    exact A.st i k hi hk hp hqk
   by_cases h1 : T i
   ·rw [turn_yes h1] at h
    obtain ⟨m1, m2, m3, m4⟩ := R.nx i h1
    have hlt : P i (μ i) (s j) := by
     rcases hP.tot i (μ i) (s j) hi (A.inn i hi) n1 with h3 | h3 | h3
     ·exact h3
     ·rw [← ek] at h3
      have := A.inj i k hi hk h3
      subst this
      exact absurd hqk (hQ.irr _ _)
     ·exact absurd h3 hnot
    exact m4 (s j) n1 hlt h k hk ek hqk
   ·rw [turn_no h1] at h
    exact hnot h
  ·rw [turn_no h2] at h hq
   by_cases h1 : T i
   ·rw [turn_yes h1] at h
    obtain ⟨m1, m2, m3, m4⟩ := R.nx i h1
    rcases hP.tot i (μ j) (μ i) hi (A.inn j hj) (A.inn i hi) with h3 | h3 | h3
    ·exact A.st i j hi hj h3 hq
    ·have := A.inj j i hj hi h3
     subst this; exact h2 h1
    ·exact m4 (μ j) (A.inn j hj) h3 h j hj rfl hq
   ·rw [turn_no h1] at h
    exact A.st i j hi hj h hq
theorem turn_le (hP : Lk n P) (R : Ro n P Q μ T s) {i : Nat} : ¬ P i (turnM T s μ i) (μ i) := by
 by_cases h1 : T i
 ·rw [turn_yes h1]; exact hP.asym (R.nx i h1).2.1
 ·rw [turn_no h1]; exact hP.irr _ _
theorem turn_above (hP : Lk n P) (hQ : Lk n Q) (A : Sm n P Q μ) (B : Sm n P Q ν) (R : Ro n P Q μ T s) (h : ∀ i, i < n → ¬ P i (ν i) (μ i)) (hne : ∀ i, T i → ν i ≠ μ i) : ∀ i, i < n → ¬ P i (ν i) (turnM T s μ i) := fun i hi => by
 by_cases h1 : T i
 ·rw [turn_yes h1]
  exact ((next_down hP hQ A B h hi (hne i h1)).2 (s i) (R.nx i h1)).1
 ·rw [turn_no h1]; exact h i hi
theorem nx_turn (hP : Lk n P) (hQ : Lk n Q) (A : Sm n P Q μ) (R : Ro n P Q μ T s) {i w : Nat} (hi : i < n) (hT : ¬ T i) (hw : Nx n P Q μ i w) (hkeep : ∀ j, j < n → μ j = w → ¬ T j) : Nx n P Q (turnM T s μ) i w := by
 obtain ⟨w1, w2, w3, w4⟩ := hw
 have S := turn_sm hP hQ A R
 refine ⟨w1, by rw [turn_no hT]; exact w2, fun j hj e => ?_, fun v hv h1 h2 j hj e hq => ?_⟩
 ·obtain ⟨k, hk, ek⟩ := A.onto w1
  have hk2 := hkeep k hk ek
  have : j = k := S.inj j k hj hk (by rw [e, turn_no hk2, ek])
  subst this
  exact w3 j hj ek
 ·rw [turn_no hT] at h1
  obtain ⟨k, hk, ek⟩ := A.onto hv
  refine w4 v hv h1 h2 k hk ek ?_
  by_cases hjk : j = k
  ·subst hjk; exact hq
  have hopp := women_opp hP hQ A S (fun i hi => turn_le hP R) hk hj (by rw [e, ek])
  rw [ek] at hopp
  rcases hQ.tot v j k hv hj hk with h3 | h3 | h3
  ·exact hQ.trans _ _ _ _ hq h3
  ·exact absurd h3 hjk
  ·exact absurd h3 hopp
end
end Go.Proofs.Ytgdpplhbblapgaa
