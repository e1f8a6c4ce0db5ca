/- Own work: contracts of functions that the claim reaches. No condition beyond those that each theorem names. -/
import Derived.Test.YtgdpplhbblapgaaProg
import Derived.Test.YtgdpplhbblapgaaDia
import Derived.Test.YtgdpplhbblapgaaSteps
namespace Go.Proofs.Ytgdpplhbblapgaa
open Go Go.Vc
set_option maxRecDepth 100000
set_option linter.unusedSimpArgs false
set_option linter.unusedVariables false
def lstN (n : Nat) (μ : Nat → Nat) : List Int := (List.range n).map fun i => (μ i : Int)
theorem lstN_len {n : Nat} {μ : Nat → Nat} : (lstN n μ).length = n := by simp [lstN]
theorem lstN_get {n i : Nat} {μ : Nat → Nat} (h : i < n) : (lstN n μ).getD i 0 = μ i := by simp [lstN, List.getD, h]
theorem fn_lst {n i : Nat} {μ : Nat → Nat} (h : i < n) : fnL (lstN n μ) i = μ i := by unfold fnL; rw [lstN_get h]; simp
theorem Sm.congr {n : Nat} {P Q : Nat → Nat → Nat → Prop} {μ ν : Nat → Nat} (S : Sm n P Q μ) (h : ∀ i, i < n → ν i = μ i) : Sm n P Q ν :=
 ⟨fun i hi => by rw [h i hi]; exact S.inn i hi, fun i j hi hj e => S.inj i j hi hj (by rw [← h i hi, ← h j hj, e]), fun i j hi hj => by rw [h i hi, h j hj]; exact S.st i j hi hj⟩
section
variable {x y : List (List Int)} {l z : List Int}
theorem stab_lst {μ : Nat → Nat} (hm : marketB x y = true) (S : Sm x.length (PM x) (PM y) μ) : stabB x y (lstN x.length μ) = true :=
 of_sm hm lstN_len (fun i hi => by rw [lstN_get hi]; omega) (S.congr fun i hi => fn_lst hi)
theorem worst (hs : stabB x y l = true) (h0 : rotsF x y l = []) (hz : stabB x y z = true) : ∀ i, i < x.length → placeM x z i ≤ placeM x l i := by
 obtain ⟨hm, R, M⟩ := stab_of hs
 obtain ⟨_, Rz, _⟩ := stab_of hz
 have S := meet_sm (lkP M.m) (lkP M.w) (sm_of hs) (sm_of hz)
 have hw := stab_lst hm S
 have hL := lkP M.m
 have hle : ∀ i, i < x.length → ¬ PM x i (fnL (lstN x.length (meetM (PM x) (fnL l) (fnL z))) i) (fnL l i) := fun i hi => by
  rw [fn_lst hi]
  unfold meetM
  split
  ·rename_i h; exact hL.asym h
  ·exact hL.irr _ _
 by_cases e : lstN x.length (meetM (PM x) (fnL l) (fnL z)) = l
 ·intro i hi
  refine (place_le M Rz R hi).1 fun h => ?_
  have h1 : fnL (lstN x.length (meetM (PM x) (fnL l) (fnL z))) i = fnL l i := by rw [e]
  rw [fn_lst hi] at h1
  unfold meetM at h1
  rw [if_pos h] at h1
  rw [h1] at h
  exact hL.irr _ _ h
 ·obtain ⟨r, hr, _⟩ := rot_to hs hw hle e
  rw [h0] at hr; cases hr
theorem ch_lev : ∀ {j : Nat}, (∀ q, q < j → rotsF x y (chI x y q) ≠ []) → chI x y j ∈ levS x y j
 | 0, _ => by simp [chI, levS]
 | j + 1, h => by
  have hj := h j (by omega)
  have ih := ch_lev (j := j) fun q hq => h q (by omega)
  simp only [levS, List.mem_flatMap, List.mem_map]
  exact ⟨_, ih, (rotsF x y (chI x y j)).getD 0 [], getD_mem (List.length_pos_iff.2 hj), rfl⟩
theorem step_path {k : Nat} (hm : marketB x y = true) (h : PathN x y k (psF x y).wo z) : stepF x y z = k := by
 have h0 := psF_stab hm
 have hz := path_stab h0 h
 obtain ⟨m, e, hmem, _, _⟩ := stepF_of hz
 rw [e]
 have := path_len (d := (sumF (placeM x z) x.length - sumF (placeM x (psF x y).wo) x.length).toNat) h0 (by omega) (lev_path hmem) h
 omega
end
end Go.Proofs.Ytgdpplhbblapgaa
