/- Own work: contracts of functions that the claim reaches. No condition beyond those that each theorem names. -/
import Derived.Test.YtgdpplhbblapgaaProg
import Derived.Test.YtgdpplhbblapgaaChlen
namespace Go.Proofs.Ytgdpplhbblapgaa
open Go Go.Vc
set_option maxRecDepth 100000
set_option linter.unusedSimpArgs false
set_option linter.unusedVariables false
section
variable {x y : List (List Int)} {l r : List Int}
theorem rot_short (h : r ∈ rotsF x y l) : r.length ≤ x.length := by
 obtain ⟨a, _, C⟩ := rots_cyc h
 obtain ⟨_, _, _, _, hb, _⟩ := rots_facts h
 have := nodupR_len (xs := r) (ys := upto x.length) C.nd (fun v hv => mem_upto.2 (hb v hv))
 rwa [upto_len] at this
theorem match_of (h : stabB x y l = true) : matchB x y l = true := by
 simp only [stabB, Bool.and_eq_true] at h; exact h.1
theorem rot_good (h : r ∈ rotsF x y l) : goodB x y l (trL x y l r) = true := by
 have hs := rots_stab h
 have ht := trL_stab h
 simp only [goodB, Bool.and_eq_true, List.all_eq_true, List.mem_range, Bool.not_eq_true']
 refine ⟨⟨match_of hs, match_of ht⟩, fun i hi => ?_⟩
 obtain ⟨_, R, M⟩ := stab_of hs
 obtain ⟨_, R', _⟩ := stab_of ht
 have := trL_le h i
 unfold PM at this
 rw [(fn_at R hi).1, (fn_at R' hi).1] at this
 simpa using this
theorem rot_turn (h : r ∈ rotsF x y l) : turnB x y l r = true ∧ turnF x y l r = trL x y l r := by
 have : turnB x y l r = true := by
  unfold turnB
  exact List.any_eq_true.2 ⟨r, h, by simp⟩
 exact ⟨this, by unfold turnF; rw [if_pos this]; rfl⟩
theorem rot_next (h : r ∈ rotsF x y l) {v : Int} (hv : v ∈ r) : 0 ≤ v ∧ v < x.length ∧ (trL x y l r).getD v.toNat 0 = nwI x y l v.toNat := by
 obtain ⟨_, _, _, _, hb, _⟩ := rots_facts h
 have hb := hb v hv
 refine ⟨hb.1, hb.2, ?_⟩
 rw [trL_get h, if_pos (by rw [Int.toNat_of_nonneg hb.1]; exact hv)]
theorem chain_facts (hm : marketB x y = true) : ∃ m : Nat, m ≤ 31 ∧ chainF x y = chK x y (m + 1) ∧ chI x y 0 = (psF x y).wo ∧ chI x y m = invL (psF y x).wo ∧
  (∀ j, j ≤ m → stabB x y (chI x y j) = true ∧ stepF x y (chI x y j) = j ∧ (rotsF x y (chI x y j) = [] ↔ j = m)) ∧ m + 1 ≤ (stabF x y).length ∧
  (0 < lonN x y (chainF x y) (chainF x y).length ↔ 0 < m) ∧ (lonN x y (chainF x y) (chainF x y).length = 0 ∨ 2 ≤ lonN x y (chainF x y) (chainF x y).length) := by
 obtain ⟨m, h31, he, hn, hc⟩ := chain_of hm
 have hst : ∀ j, j ≤ m → stabB x y (chI x y j) = true := fun j hj => (levS_ok (psF_stab hm) _ (ch_lev fun q hq => hn q (by omega))).1
 refine ⟨m, h31, hc, rfl, women_end (hst m (Nat.le_refl _)) he, fun j hj => ⟨hst j hj, ch_step hm hn hj, ⟨fun h => ?_, fun h => by rw [h]; exact he⟩⟩, ch_le hm hn, ?_, lon_two⟩
 ·refine Classical.byContradiction fun hne => hn j (by omega) h
 ·rw [hc, chK_len]
  constructor
  ·intro h
   refine Classical.byContradiction fun h0 => ?_
   have := lon_zero (x := x) (y := y) (L := chK x y (m + 1)) (k := m + 1) fun q hq => by
    have : q = m := by omega
    subst this
    rw [chK_get (by omega)]; exact he
   omega
  ·intro h
   have := lon_pos (x := x) (y := y) (L := chK x y (m + 1)) (k := m + 1) (q := 0) (by omega) (by rw [chK_get (by omega)]; exact hn 0 h)
   omega
end
end Go.Proofs.Ytgdpplhbblapgaa
