/- Own work: contracts of functions that the claim reaches. No condition beyond those that each theorem names. -/
import Derived.Test.YtgdpplhbblapgaaProg
import Derived.Test.YtgdpplhbblapgaaPbest
namespace Go.Proofs.Ytgdpplhbblapgaa
open Go Go.Vc
set_option maxRecDepth 100000
set_option linter.unusedSimpArgs false
set_option linter.unusedVariables false
section
variable {x y : List (List Int)} {l r r' z : List Int}
theorem rots_low (h : r ∈ rotsF x y l) : ∃ a : Nat, a < x.length ∧ r = rotS x y l a ∧ Cyc (nxI x y l) a r ∧ ∀ v ∈ r, (a : Int) ≤ v := by
 have hst := rots_stab h
 unfold rotsF at h
 rw [if_pos hst] at h
 have hne := rotK_ne h
 obtain ⟨a, ha, rfl⟩ := rotK_mem h
 have hlow := rotS_eq (x := x) (y := y) (l := l) (a := (a : Int))
 have hc : rotG x y l a ≠ [] ∧ ∀ v ∈ rotG x y l a, (a : Int) ≤ v := by
  rw [hlow] at hne; unfold lowOf at hne; split at hne
  ·assumption
  ·exact absurd rfl hne
 have hG : rotS x y l a = rotG x y l a := by rw [hlow]; unfold lowOf; rw [if_pos hc]
 refine ⟨a, ha, rfl, ?_, by rw [hG]; exact hc.2⟩
 rw [hG]
 rcases cycG_ok (f := nxI x y l) (k := x.length + 2) (pth_one (f := nxI x y l) (a := (a : Int))) with e | e
 ·exact absurd e hc.1
 ·exact e
theorem rots_of_cyc (hs : stabB x y l = true) {a : Nat} (ha : a < x.length) (C : Cyc (nxI x y l) a r) (hb : ∀ v ∈ r, (a : Int) ≤ v ∧ v < x.length) : r ∈ rotsF x y l := by
 have hlen : r.length ≤ x.length := by
  have := nodup_sub_len C.nd (ys := upto x.length) fun v hv => mem_upto.2 (by have := hb v hv; omega)
  rwa [upto_len] at this
 have hf := C.found (k := x.length + 2) (j := 1) (by omega) (by have := C.pos; omega) (by omega)
 have h1 : r.take 1 = [(a : Int)] := by
  have e := C.hd
  have hpos := C.pos
  revert e hpos
  cases r with
  | nil => intro _ h; simp at h
  | cons u us => intro e _; simp only [List.getD_cons_zero] at e; simp [e]
 rw [h1] at hf
 have hne : r ≠ [] := fun e => by have := C.pos; rw [e] at this; simp at this
 have hS' : rotS x y l a = r := by
  rw [rotS_eq, rotG, hf, lowOf, if_pos ⟨hne, fun v hv => (hb v hv).1⟩]
 unfold rotsF; rw [if_pos hs, ← hS']
 exact rotK_of ha (by rw [hS']; exact hne)
theorem rots_two (h : r ∈ rotsF x y l) (h' : r' ∈ rotsF x y l) : r = r' ∨ ∀ v ∈ r, v ∉ r' := by
 obtain ⟨a, ha, e, C, hl⟩ := rots_low h
 obtain ⟨b, hb, e', C', hl'⟩ := rots_low h'
 by_cases hx : ∃ v ∈ r, v ∈ r'
 ·obtain ⟨v, h1, h2⟩ := hx
  have := C.same C' hl hl' h1 h2
  left; rw [e, e', this]
 ·exact .inr fun v h1 h2 => hx ⟨v, h1, h2⟩
theorem rot_stay (h : r ∈ rotsF x y l) (h' : r' ∈ rotsF x y l) (hd : ∀ v ∈ r', v ∉ r) : r' ∈ rotsF x y (trL x y l r) ∧ ∀ i : Nat, (i : Int) ∈ r' → nwI x y (trL x y l r) i = nwI x y l i := by
 obtain ⟨M, R, _⟩ := rots_facts h
 obtain ⟨_, _, _, _, hin, hnw⟩ := rots_facts h'
 have hst := trL_stab h
 have R' := (stab_of hst).2.1
 obtain ⟨a, ha, e, C, hl⟩ := rots_low h'
 have A := sm_of (rots_stab h)
 have key : ∀ i : Nat, (i : Int) ∈ r' → nwI x y (trL x y l r) i = nwI x y l i ∧ nxI x y (trL x y l r) i = nxI x y l i := fun i hi => by
  have hil : i < x.length := by have := hin _ hi; omega
  have hw : ¬ nwI x y l i < 0 := by have := hnw _ hi; rwa [Int.toNat_natCast] at this
  have N := nw_nx M R hil hw
  obtain ⟨j, hj, ej⟩ := A.onto N.1
  have hpj := place_fn R hj
  rw [ej, Int.toNat_of_nonneg (by omega), ← nxI_at hw] at hpj
  have hjr : (j : Int) ∈ r' := by rw [← hpj]; exact C.nx' hi
  have hkeep : ∀ k, k < x.length → fnL l k = (nwI x y l i).toNat → ¬ (k : Int) ∈ r := fun k hk ek => by
   have : k = j := A.inj k j hk hj (by rw [ek, ej])
   subst this; exact hd _ hjr
  have N' := nx_turn (lkP M.m) (lkP M.w) A (ro_of h) hil (hd _ hi) N hkeep
  rw [← trL_fn h] at N'
  have e1 := nx_nw M R' hil N'
  rw [Int.toNat_of_nonneg (by omega)] at e1
  refine ⟨e1, ?_⟩
  have hpj' := place_fn R' hj
  have : fnL (trL x y l r) j = fnL l j := by
   rw [trL_fn h, turn_no (T := fun i : Nat => (i : Int) ∈ r) (hd _ hjr)]
  rw [this, ej, Int.toNat_of_nonneg (by omega)] at hpj'
  rw [nxI_at (by rw [e1]; exact hw), e1, hpj', hpj]
 have keyI : ∀ v ∈ r', nxI x y (trL x y l r) v = nxI x y l v := fun v hv => by
  have := hin v hv
  have hv' : v = ((v.toNat : Nat) : Int) := by omega
  rw [hv'] at hv ⊢
  exact (key _ hv).2
 refine ⟨rots_of_cyc hst ha ⟨⟨C.pos, C.hd, fun i hi => ?_, C.nd⟩, ?_⟩ fun v hv => ⟨hl v hv, (hin v hv).2⟩, fun i hi => (key i hi).1⟩
 ·rw [keyI _ (getD_mem (by omega))]; exact C.nx i hi
 ·rw [keyI _ (getD_mem (by have := C.pos; omega))]; exact C.cl
theorem trL_comm (h : r ∈ rotsF x y l) (h' : r' ∈ rotsF x y l) (hd : ∀ v ∈ r', v ∉ r) : trL x y (trL x y l r) r' = trL x y (trL x y l r') r := by
 have hd' : ∀ v ∈ r, v ∉ r' := fun v h1 h2 => hd v h2 h1
 obtain ⟨s1, n1⟩ := rot_stay h h' hd
 obtain ⟨s2, n2⟩ := rot_stay h' h hd'
 have e1 := (stab_of (trL_stab s1)).2.1
 have e2 := (stab_of (trL_stab s2)).2.1
 refine fn_ext e1 e2 fun i hi => ?_
 unfold fnL
 rw [trL_get s1, trL_get s2, trL_get h, trL_get h']
 by_cases c1 : (i : Int) ∈ r'
 ·rw [if_pos c1, if_neg (hd _ c1), if_pos c1, n1 i c1]
 ·by_cases c2 : (i : Int) ∈ r
  ·rw [if_neg c1, if_pos c2, if_pos c2, n2 i c2]
  ·rw [if_neg c1, if_neg c2, if_neg c2, if_neg c1]
end
def PathN (x y : List (List Int)) : Nat → List Int → List Int → Prop
 | 0, l, z => l = z
 | k + 1, l, z => ∃ r ∈ rotsF x y l, PathN x y k (trL x y l r) z
section
variable {x y : List (List Int)} {l r r' z : List Int}
theorem path_snoc : ∀ {k : Nat} {l : List Int}, PathN x y k l z → r ∈ rotsF x y z → PathN x y (k + 1) l (trL x y z r)
 | 0, l, h, hr => by
  have h : l = z := h
  subst h; exact ⟨r, hr, rfl⟩
 | k + 1, l, ⟨r', h1, h2⟩, hr => ⟨r', h1, path_snoc h2 hr⟩
theorem lev_path : ∀ {k : Nat} {z : List Int}, z ∈ levS x y k → PathN x y k (psF x y).wo z
 | 0, z, h => by simp only [levS, List.mem_singleton] at h; exact h.symm
 | k + 1, z, h => by
  simp only [levS, List.mem_flatMap, List.mem_map] at h
  obtain ⟨l, h1, r, h2, rfl⟩ := h
  exact path_snoc (lev_path h1) h2
theorem path_stab : ∀ {k : Nat} {l : List Int}, stabB x y l = true → PathN x y k l z → stabB x y z = true
 | 0, l, hs, h => by have h : l = z := h; exact h ▸ hs
 | k + 1, l, hs, ⟨r, h1, h2⟩ => path_stab (trL_stab h1) h2
theorem place_up (h : r ∈ rotsF x y l) {i : Nat} (hi : i < x.length) : placeM x l i ≤ placeM x (trL x y l r) i := by
 obtain ⟨M, R, _⟩ := rots_facts h
 exact (place_le M R (stab_of (trL_stab h)).2.1 hi).1 (trL_le h i)
theorem path_le : ∀ {k : Nat} {l : List Int}, PathN x y k l z → ∀ i, i < x.length → placeM x l i ≤ placeM x z i
 | 0, l, h, i, _ => by have h : l = z := h; subst h; omega
 | k + 1, l, ⟨r, h1, h2⟩, i, hi => by
  have := place_up h1 hi
  have := path_le h2 i hi
  omega
theorem path_ex (hz : stabB x y z = true) : ∀ {d : Nat} {l : List Int}, stabB x y l = true → (∀ i, i < x.length → placeM x l i ≤ placeM x z i) → sumF (placeM x z) x.length - sumF (placeM x l) x.length ≤ d → ∃ k, PathN x y k l z
 | d, l, hs, hle, hd => by
  obtain ⟨_, R, M⟩ := stab_of hs
  obtain ⟨_, Rz, _⟩ := stab_of hz
  by_cases e : z = l
  ·exact ⟨0, e.symm⟩
  ·obtain ⟨r, hr, _, h2⟩ := rot_to hs hz (fun i hi => (place_le M R Rz hi).2 (hle i hi)) e
   have R' := (stab_of (trL_stab hr)).2.1
   have h3 := trL_up hr
   have h4 : ∀ i, i < x.length → placeM x (trL x y l r) i ≤ placeM x z i := fun i hi => (place_le M R' Rz hi).1 (h2 i hi)
   have h5 := sumF_le h4
   cases d with
   | zero => omega
   | succ d =>
    obtain ⟨k, hk⟩ := path_ex hz (d := d) (trL_stab hr) h4 (by omega)
    exact ⟨k + 1, r, hr, hk⟩
theorem path_len : ∀ {d : Nat} {l : List Int} {j k : Nat}, stabB x y l = true → sumF (placeM x z) x.length - sumF (placeM x l) x.length ≤ d → PathN x y j l z → PathN x y k l z → j = k
 | d, l, 0, 0, _, _, _, _ => rfl
 | d, l, 0, k + 1, hs, hd, h, ⟨r, h1, h2⟩ => by
  have h : l = z := h
  subst h
  have := trL_up h1
  have := sumF_le (path_le h2)
  omega
 | d, l, j + 1, 0, hs, hd, ⟨r, h1, h2⟩, h => by
  have h : l = z := h
  subst h
  have := trL_up h1
  have := sumF_le (path_le h2)
  omega
 | d, l, j + 1, k + 1, hs, hd, ⟨r, h1, h2⟩, ⟨r', h1', h2'⟩ => by
  have u1 := trL_up h1
  have u2 := trL_up h1'
  have s1 := sumF_le (path_le h2)
  have s2 := sumF_le (path_le h2')
  cases d with
  | zero => omega
  | succ d =>
   rcases rots_two h1' h1 with e | hd'
   ·subst e
    have := path_len (d := d) (trL_stab h1) (by omega) h2 h2'
    omega
   ·obtain ⟨t1, _⟩ := rot_stay h1 h1' hd'
    obtain ⟨t2, _⟩ := rot_stay h1' h1 (fun v a b => hd' v b a)
    have hc := trL_comm h1 h1' hd'
    have hz := path_stab (trL_stab h1) h2
    have hle : ∀ i, i < x.length → placeM x (trL x y (trL x y l r) r') i ≤ placeM x z i := fun i hi => by
     have p1 := path_le h2 i hi
     have p2 := path_le h2' i hi
     unfold placeM at p1 p2 ⊢
     by_cases c : (i : Int) ∈ r'
     ·rw [trL_get t1, if_pos c, (rot_stay h1 h1' hd').2 i c]
      rw [trL_get h1', if_pos c] at p2; exact p2
     ·rw [trL_get t1, if_neg c]; exact p1
    obtain ⟨p, hp⟩ := path_ex hz (d := (sumF (placeM x z) x.length - sumF (placeM x (trL x y (trL x y l r) r')) x.length).toNat) (trL_stab t1) hle (by omega)
    have a1 := path_len (d := d) (trL_stab h1) (by omega) h2 (show PathN x y (p + 1) (trL x y l r) z from ⟨r', t1, hp⟩)
    have a2 := path_len (d := d) (trL_stab h1') (by omega) h2' (show PathN x y (p + 1) (trL x y l r') z from ⟨r, t2, hc ▸ hp⟩)
    omega
end
end Go.Proofs.Ytgdpplhbblapgaa
