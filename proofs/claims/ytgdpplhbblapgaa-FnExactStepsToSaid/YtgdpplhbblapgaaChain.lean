/- Own work: contracts of functions that the claim reaches. No condition beyond those that each theorem names. -/
import Derived.Test.YtgdpplhbblapgaaProg
import Derived.Test.YtgdpplhbblapgaaPropose
namespace Go.Proofs.Ytgdpplhbblapgaa
open Go Go.Vc
set_option maxRecDepth 100000
set_option linter.unusedSimpArgs false
set_option linter.unusedVariables false
/-! Rotation after rotation, from the men's best matching. -/
theorem nodup_get {l : List Int} (h : l.Nodup) {i j : Nat} (hi : i < l.length) (hj : j < l.length) (e : l.getD i 0 = l.getD j 0) : i = j := by
  have h' := List.pairwise_iff_getElem.1 h
  simp only [List.getD, List.getElem?_eq_getElem hi, List.getElem?_eq_getElem hj, Option.getD_some] at e
  rcases Nat.lt_trichotomy i j with q | q | q
  · exact absurd e (h' i j hi hj q)
  · exact q
  · exact absurd e.symm (h' j i hj hi q)
theorem placeI_at {l : List Int} (h : l.Nodup) {j : Nat} (hj : j < l.length) : placeI l (l.getD j 0) = j := by
  obtain ⟨k, h1, h2, h3⟩ := placeI_mem (getD_mem (d := 0) hj)
  rw [h3, nodup_get h h1 hj h2]
theorem sumF_le {f g : Nat → Int} : ∀ {n : Nat}, (∀ i, i < n → f i ≤ g i) → sumF f n ≤ sumF g n
  | 0, _ => by simp [sumF]
  | n + 1, h => by
    have h1 := sumF_le (n := n) fun i hi => h i (by omega)
    have h2 := h n (by omega)
    simp only [sumF]; omega
theorem sumF_lt {f g : Nat → Int} : ∀ {n : Nat}, (∀ i, i < n → f i ≤ g i) → (∃ i, i < n ∧ f i < g i) → sumF f n < sumF g n
  | 0, _, ⟨i, hi, _⟩ => by omega
  | n + 1, h, ⟨i, hi, hlt⟩ => by
    have h1 := sumF_le (n := n) fun i hi => h i (by omega)
    have h2 := h n (by omega)
    simp only [sumF]
    by_cases e : i = n
    · subst e; omega
    · have := sumF_lt (n := n) (fun i hi => h i (by omega)) ⟨i, by omega, hlt⟩
      omega
section
variable {x y : List (List Int)} {l r : List Int}
theorem turnN_get (hr : ∀ v ∈ r, 0 ≤ v ∧ v < (l.length : Int)) : ∀ {k : Nat}, k ≤ r.length → ∀ i, (turnN x y l r k).getD i 0 = if ∃ q, q < k ∧ (r.getD q 0).toNat = i then nwI x y l i else l.getD i 0
  | 0, _, i => by simp [turnN]
  | k + 1, hk, i => by
    have hv := hr _ (getD_mem (d := 0) (show k < r.length by omega))
    have ih := turnN_get hr (k := k) (by omega) i
    simp only [turnN]
    rw [getD_set (by rw [turnN_len]; omega)]
    by_cases e : (r.getD k 0).toNat = i
    · rw [if_pos e, if_pos ⟨k, by omega, e⟩, e]
    · rw [if_neg e, ih]
      by_cases e2 : ∃ q, q < k ∧ (r.getD q 0).toNat = i
      · obtain ⟨q, h1, h2⟩ := e2
        rw [if_pos ⟨q, h1, h2⟩, if_pos ⟨q, by omega, h2⟩]
      · rw [if_neg e2, if_neg]
        rintro ⟨q, h1, h2⟩
        by_cases e3 : q = k
        · subst e3; exact e h2
        · exact e2 ⟨q, by omega, h2⟩
theorem rotK_ne : ∀ {k : Nat}, r ∈ rotK x y l k → r ≠ []
  | 0, h => by simp [rotK] at h
  | k + 1, h => by
    simp only [rotK, List.mem_append] at h
    rcases h with h | h
    · exact rotK_ne h
    · split at h
      · cases h
      · rename_i hn; rw [List.mem_singleton.1 h]; exact hn
theorem rots_facts (h : r ∈ rotsF x y l) : Mk x y x.length ∧ rankB x.length l = true ∧ r ≠ [] ∧ r.length ≤ x.length + 1 ∧ (∀ v ∈ r, 0 ≤ v ∧ v < x.length) ∧ ∀ v ∈ r, ¬ nwI x y l v.toNat < 0 := by
  unfold rotsF at h
  split at h
  · rename_i hs
    obtain ⟨_, R, M⟩ := stab_of hs
    have hne := rotK_ne h
    obtain ⟨a, ha, rfl⟩ := rotK_mem h
    have hin := rotS_in M R ha
    refine ⟨M, R, hne, rotS_len M R ha, hin, fun v hv hneg => ?_⟩
    have hlow := rotS_eq (x := x) (y := y) (l := l) (a := (a : Int))
    have hG : rotS x y l a = rotG x y l a := by
      rw [hlow]; unfold lowOf; rw [if_pos]
      rw [hlow] at hne; unfold lowOf at hne; split at hne
      · assumption
      · exact absurd rfl hne
    rcases cycG_ok (f := nxI x y l) (k := x.length + 2) (pth_one (f := nxI x y l) (a := (a : Int))) with e | e
    · exact hne (hG.trans e)
    · have hv' : v ∈ rotG x y l a := hG ▸ hv
      have h1 : nxI x y l v ∈ rotG x y l a := e.nx' hv'
      rw [← hG] at h1
      have h2 := (hin _ h1).1
      have h3 := (hin _ hv).1
      rw [nxI, if_neg (by omega), if_pos hneg] at h2; omega
  · cases h
end
/- spec_RotationChain: not in this cut -/
/- spec_CountRotations: not in this cut -/
/- spec_LongestRotation: not in this cut -/
end Go.Proofs.Ytgdpplhbblapgaa
