/- Own work: contracts of functions that the claim reaches. No condition beyond those that each theorem names. -/
import Derived.Test.YtgdpplhbblapgaaProg
import Derived.Test.YtgdpplhbblapgaaRotm
import Derived.Test.YtgdpplhbblapgaaChain
namespace Go.Proofs.Ytgdpplhbblapgaa
open Go Go.Vc
set_option maxRecDepth 100000
set_option linter.unusedSimpArgs false
set_option linter.unusedVariables false
def PM (x : List (List Int)) (i a b : Nat) : Prop := prefB (x.getD i []) (a : Int) (b : Int) = true
def fnL (l : List Int) (i : Nat) : Nat := (l.getD i 0).toNat
theorem cyc_inj {f : Int → Int} {a : Int} {L : List Int} (h : Cyc f a L) {u v : Int} (hu : u ∈ L) (hv : v ∈ L) (e : f u = f v) : u = v := by
 obtain ⟨i, hi, rfl⟩ := mem_getD 0 hu
 obtain ⟨j, hj, rfl⟩ := mem_getD 0 hv
 have key : ∀ k, k < L.length → ∃ k', k' < L.length ∧ L.getD k' 0 = f (L.getD k 0) ∧ k' = if k + 1 < L.length then k + 1 else 0 := fun k hk => by
  by_cases h1 : k + 1 < L.length
  ·exact ⟨k + 1, h1, h.nx k h1, by rw [if_pos h1]⟩
  ·refine ⟨0, h.pos, ?_, by rw [if_neg h1]⟩
   rw [h.hd, show k = L.length - 1 by omega, h.cl]
 obtain ⟨i', a1, a2, a3⟩ := key i hi
 obtain ⟨j', b1, b2, b3⟩ := key j hj
 have := nodup_get h.nd a1 b1 (by rw [a2, b2, e])
 have : i = j := by split at a3 <;> split at b3 <;> omega
 rw [this]
section
variable {x y : List (List Int)} {l r z : List Int} {n : Nat}
theorem lkP (H : Hs x n) : Lk n (PM x) := by
 refine ⟨fun i a => by unfold PM; rw [pref_self]; simp, fun i a b c h1 h2 => ?_, fun i a b hi ha hb => ?_⟩
 ·unfold PM prefB at *
  simp only [Bool.and_eq_true, decide_eq_true_eq] at *
  omega
 ·by_cases e : a = b
  ·exact .inr (.inl e)
  have hr := H.rk i hi
  have := pref_total (rank_all hr (a := (a : Int)) (by omega) (by omega)) (rank_all hr (a := (b : Int)) (by omega) (by omega)) (by omega)
  unfold PM
  rw [this]
  cases prefB (x.getD i []) (b : Int) (a : Int) <;> simp
theorem pm_iff (H : Hs x n) {i a b : Nat} (hi : i < n) (ha : a < n) (hb : b < n) : PM x i a b ↔ placeI (x.getD i []) a < placeI (x.getD i []) b := by
 have hr := H.rk i hi
 unfold PM
 rw [pref_iff (rank_all hr (by omega) (by omega)) (rank_all hr (by omega) (by omega)), decide_eq_true_iff]
theorem fn_at (R : rankB n l = true) {i : Nat} (hi : i < n) : ((fnL l i : Nat) : Int) = l.getD i 0 ∧ fnL l i < n := by
 have hl := rank_len R
 have := rank_bd R (i := i) (by omega)
 unfold fnL; omega
theorem place_fn (R : rankB n l = true) {i : Nat} (hi : i < n) : placeI l (fnL l i : Nat) = i := by
 have hl := rank_len R
 rw [(fn_at R hi).1]
 exact placeI_at (rank_nodup R) (by omega)
theorem sm_of (hs : stabB x y l = true) : Sm x.length (PM x) (PM y) (fnL l) := by
 obtain ⟨_, R, M⟩ := stab_of hs
 have hl := rank_len R
 simp only [stabB, Bool.and_eq_true, stableB, List.all_eq_true, List.mem_range, Bool.not_eq_true'] at hs
 refine ⟨fun i hi => (fn_at R hi).2, fun i j hi hj e => ?_, fun i j hi hj h hq => ?_⟩
 ·have h1 := fn_at R hi; have h2 := fn_at R hj
  exact nodup_get (rank_nodup R) (by omega) (by omega) (by omega)
 ·have h1 := fn_at R hi; have h2 := fn_at R hj
  have hb := hs.2 i hi (fnL l j) h2.2
  have e := place_fn R hj
  unfold blkI at hb
  unfold PM at h hq
  rw [h1.1] at h
  rw [e, h, hq] at hb; simp at hb
theorem of_sm (hm : marketB x y = true) (hl : l.length = x.length) (h0 : ∀ i, i < x.length → 0 ≤ l.getD i 0) (S : Sm x.length (PM x) (PM y) (fnL l)) : stabB x y l = true := by
 have M := mk_of hm
 have e0 : ∀ i, i < x.length → ((fnL l i : Nat) : Int) = l.getD i 0 ∧ fnL l i < x.length := fun i hi => by
  have := h0 i hi; have := S.inn i hi
  refine ⟨?_, this⟩
  unfold fnL; omega
 have R : rankB x.length l = true := by
  refine rank_of_perm M.m.n1 M.m.n5 (perm_of_sub (nodup_getD fun i j hij hj e => ?_) (fun v hv => ?_) (by rw [upto_len]; omega))
  ·have h1 := e0 i (by omega); have h2 := e0 j (by omega)
   have := S.inj i j (by omega) (by omega) (by omega)
   omega
  ·obtain ⟨i, hi, rfl⟩ := mem_getD 0 hv
   have := e0 i (by omega)
   exact mem_upto.2 ⟨by omega, by omega⟩
 simp only [stabB, matchB, Bool.and_eq_true, stableB, List.all_eq_true, List.mem_range, Bool.not_eq_true']
 refine ⟨⟨hm, R⟩, fun i hi w hw => ?_⟩
 obtain ⟨j, hj, e⟩ := S.onto hw
 have h1 := S.st i j hi hj
 have h2 := place_fn R hj
 unfold PM at h1
 rw [e] at h1 h2
 rw [(e0 i hi).1] at h1
 unfold blkI
 rw [h2]
 cases hc : prefB (x.getD i []) (w : Int) (l.getD i 0) with
 | false => rfl
 | true => rw [Bool.true_and]; simpa using h1 hc
theorem nxt_at (M : Mk x y x.length) (R : rankB x.length l = true) {i : Nat} (hi : i < x.length) : ∃ p : Nat, placeI (x.getD i []) (fnL l i : Nat) = p ∧ p < x.length ∧ (nxtL x l i).length = x.length - (p + 1) ∧
  ∀ q, q < x.length - (p + 1) → 0 ≤ (nxtL x l i).getD q 0 ∧ (nxtL x l i).getD q 0 < x.length ∧ placeI (x.getD i []) ((nxtL x l i).getD q 0) = p + 1 + q := by
 have hr := M.m.rk i hi
 have hll := rank_len R
 have hrl := rank_len hr
 have h1 := fn_at R hi
 obtain ⟨p, p1, p2, p3⟩ := placeI_mem (rank_all hr (a := (fnL l i : Nat)) (by omega) (by omega))
 refine ⟨p, p3, by omega, ?_, fun q hq => ?_⟩
 ·unfold nxtL; rw [← h1.1, p3, List.length_drop]; omega
 ·have ed : (nxtL x l i).getD q 0 = (x.getD i []).getD (p + 1 + q) 0 := by
   unfold nxtL; rw [← h1.1, p3, show ((p : Int) + 1).toNat = p + 1 by omega]; simp [List.getD]
  have hb := rank_bd hr (i := p + 1 + q) (by omega)
  rw [ed, placeI_at (rank_nodup hr) (by omega)]
  exact ⟨hb.1, hb.2, by omega⟩
theorem takes_iff (R : rankB x.length l = true) {i w : Nat} (hw : w < x.length) : takesB y l i (w : Int) = true ↔ ∀ j, j < x.length → fnL l j = w → PM y w i j := by
 obtain ⟨j, hj, e⟩ := range_onto (f := fnL l) (fun i hi => (fn_at R hi).2) (fun i j hi hj e => by
  have h1 := fn_at R hi; have h2 := fn_at R hj; have := rank_len R
  exact nodup_get (rank_nodup R) (by omega) (by omega) (by omega)) hw
 have hp := place_fn R hj
 have e2 : takesB y l i (w : Int) = prefB (y.getD w []) i (j : Nat) := by
  rw [e] at hp
  unfold takesB; rw [hp, Int.toNat_natCast]
 rw [e2]
 refine ⟨fun h k hk ek => ?_, fun h => h j hj e⟩
 have hk' := place_fn R hk
 rw [ek, ← e, hp] at hk'
 have : j = k := by omega
 subst this; exact h
theorem nw_nx (M : Mk x y x.length) (R : rankB x.length l = true) {i : Nat} (hi : i < x.length) (h : ¬ nwI x y l i < 0) : Nx x.length (PM x) (PM y) (fnL l) i (nwI x y l i).toNat := by
 obtain ⟨p, p1, p2, p3, p4⟩ := nxt_at M R hi
 rcases idxP_cases 0 (takesB y l i) (nxtL x l i) with ⟨q, q1, q2, q3, q4⟩ | ⟨_, e⟩
 ·rw [nwI_hit q1 q2 q3]
  have hq := p4 q (by omega)
  obtain ⟨w, hw⟩ : ∃ w : Nat, (nxtL x l i).getD q 0 = w := ⟨((nxtL x l i).getD q 0).toNat, by omega⟩
  rw [hw] at hq q2 ⊢
  rw [Int.toNat_natCast]
  have hwn : w < x.length := by omega
  have hfi := fn_at R hi
  refine ⟨hwn, (pm_iff M.m hi hfi.2 hwn).2 (by omega), (takes_iff R hwn).1 q2, fun v hv h1 h2 j hj ej hq2 => ?_⟩
  rw [pm_iff M.m hi hfi.2 hv] at h1
  rw [pm_iff M.m hi hv hwn] at h2
  obtain ⟨pv, v1⟩ : ∃ pv : Nat, placeI (x.getD i []) v = p + 1 + pv := ⟨(placeI (x.getD i []) v - p - 1).toNat, by omega⟩
  have hv2 := p4 pv (by omega)
  have hve : (nxtL x l i).getD pv 0 = v := placeI_inj (rank_all (M.m.rk i hi) hv2.1 hv2.2.1) (by rw [hv2.2.2, v1])
  have hf := q3 pv (by omega)
  rw [hve] at hf
  have ht : takesB y l i (v : Int) = true := (takes_iff R hv).2 fun k hk ek => by
   have a1 := place_fn R hk; have a2 := place_fn R hj
   rw [ek] at a1; rw [ej] at a2
   have : k = j := by omega
   rw [this]; exact hq2
  rw [ht] at hf; cases hf
 ·exfalso; apply h; unfold nwI; rw [e]; simp
theorem nx_nw (M : Mk x y x.length) (R : rankB x.length l = true) {i w : Nat} (hi : i < x.length) (h : Nx x.length (PM x) (PM y) (fnL l) i w) : nwI x y l i = w := by
 obtain ⟨p, p1, p2, p3, p4⟩ := nxt_at M R hi
 obtain ⟨w1, w2, w3, w4⟩ := h
 have hfi := fn_at R hi
 rw [pm_iff M.m hi hfi.2 w1] at w2
 have hr := M.m.rk i hi
 obtain ⟨pw, pw1, pw2, pw3⟩ := placeI_mem (rank_all hr (a := (w : Int)) (by omega) (by omega))
 have hrl := rank_len hr
 obtain ⟨q, hq⟩ : ∃ q : Nat, pw = p + 1 + q := ⟨pw - p - 1, by omega⟩
 have hq4 := p4 q (by omega)
 have he : (nxtL x l i).getD q 0 = w := placeI_inj (rank_all hr hq4.1 hq4.2.1) (by rw [hq4.2.2, pw3]; omega)
 rw [nwI_hit (j := q) (by omega) (by rw [he]; exact (takes_iff R w1).2 w3) fun k hk => ?_, he]
 have hk4 := p4 k (by omega)
 obtain ⟨v, hv⟩ : ∃ v : Nat, (nxtL x l i).getD k 0 = v := ⟨((nxtL x l i).getD k 0).toNat, by omega⟩
 rw [hv] at hk4 ⊢
 have hvn : v < x.length := by omega
 cases hc : takesB y l i (v : Int) with
 | false => rfl
 | true =>
  exfalso
  obtain ⟨j, hj, ej⟩ := range_onto (f := fnL l) (fun i hi => (fn_at R hi).2) (fun i j hi hj e => by
   have h1 := fn_at R hi; have h2 := fn_at R hj; have := rank_len R
   exact nodup_get (rank_nodup R) (by omega) (by omega) (by omega)) hvn
  exact w4 v hvn ((pm_iff M.m hi hfi.2 hvn).2 (by omega)) ((pm_iff M.m hi hvn w1).2 (by omega)) j hj ej ((takes_iff R hvn).1 hc j hj ej)
theorem rots_cyc (h : r ∈ rotsF x y l) : ∃ a : Nat, a < x.length ∧ Cyc (nxI x y l) a r := by
 have hst : stabB x y l = true := by
  unfold rotsF at h; split at h
  ·assumption
  ·cases h
 have h' := h
 unfold rotsF at h
 rw [if_pos hst] at h
 have hne := rotK_ne h
 obtain ⟨a, ha, rfl⟩ := rotK_mem h
 refine ⟨a, ha, ?_⟩
 have hlow := rotS_eq (x := x) (y := y) (l := l) (a := (a : Int))
 have hG : rotS x y l a = rotG x y l a := by
  rw [hlow]; unfold lowOf; rw [if_pos]
  rw [hlow] at hne; unfold lowOf at hne; split at hne
  ·assumption
  ·exact absurd rfl hne
 rw [hG] at hne ⊢
 rcases cycG_ok (f := nxI x y l) (k := x.length + 2) (pth_one (f := nxI x y l) (a := (a : Int))) with e | e
 ·exact absurd e hne
 ·exact e
theorem rots_stab (h : r ∈ rotsF x y l) : stabB x y l = true := by
 unfold rotsF at h; split at h
 ·assumption
 ·cases h
theorem nxI_at {i : Nat} (h : ¬ nwI x y l i < 0) : nxI x y l i = placeI l (nwI x y l i) := by
 unfold nxI; rw [if_neg (by omega), Int.toNat_natCast, if_neg h]
theorem ro_of (h : r ∈ rotsF x y l) : Ro x.length (PM x) (PM y) (fnL l) (fun i => (i : Int) ∈ r) (fun i => (nwI x y l i).toNat) := by
 obtain ⟨M, R, hne, _, hin, hnw⟩ := rots_facts h
 obtain ⟨a, ha, C⟩ := rots_cyc h
 have hlt : ∀ i : Nat, (i : Int) ∈ r → i < x.length := fun i hi => by have := hin _ hi; omega
 have hnw' : ∀ i : Nat, (i : Int) ∈ r → ¬ nwI x y l i < 0 := fun i hi => by have := hnw _ hi; rwa [Int.toNat_natCast] at this
 refine ⟨hlt, fun i hi => nw_nx M R (hlt i hi) (hnw' i hi), fun i j hi hj e => ?_, fun i j hi hj e => ?_⟩
 ·have h1 := C.nx' hi
  have h2 := place_fn R hj
  rw [nxI_at (hnw' i hi)] at h1
  rw [e, Int.toNat_of_nonneg (by have := hnw' i hi; omega)] at h2
  rw [h2] at h1; exact h1
 ·have h1 := hnw' i hi; have h2 := hnw' j hj
  have e' : nwI x y l i = nwI x y l j := by have e : (nwI x y l i).toNat = (nwI x y l j).toNat := e; omega
  have := cyc_inj C hi hj (by rw [nxI_at h1, nxI_at h2, e'])
  omega
def trL (x y : List (List Int)) (l r : List Int) : List Int := turnN x y l r r.length
theorem trL_get (h : r ∈ rotsF x y l) (i : Nat) : (trL x y l r).getD i 0 = if (i : Int) ∈ r then nwI x y l i else l.getD i 0 := by
 obtain ⟨M, R, hne, _, hin, hnw⟩ := rots_facts h
 have hll := rank_len R
 unfold trL
 rw [turnN_get (fun v hv => by have := hin v hv; omega) (Nat.le_refl _)]
 have : (∃ q, q < r.length ∧ (r.getD q 0).toNat = i) ↔ (i : Int) ∈ r := by
  constructor
  ·rintro ⟨q, h1, h2⟩
   have hm := getD_mem (d := 0) h1
   have := hin _ hm
   rw [show (i : Int) = r.getD q 0 by omega]; exact hm
  ·intro hm
   obtain ⟨q, h1, h2⟩ := mem_getD 0 hm
   exact ⟨q, h1, by rw [h2]; simp⟩
 by_cases e : (i : Int) ∈ r
 ·rw [if_pos e, if_pos (this.2 e)]
 ·rw [if_neg e, if_neg (fun h => e (this.1 h))]
theorem trL_fn (h : r ∈ rotsF x y l) : fnL (trL x y l r) = turnM (fun i => (i : Int) ∈ r) (fun i => (nwI x y l i).toNat) (fnL l) := by
 funext i
 unfold fnL
 rw [trL_get h]
 by_cases e : (i : Int) ∈ r
 ·rw [if_pos e, turn_yes (T := fun i : Nat => (i : Int) ∈ r) e]
 ·rw [if_neg e, turn_no (T := fun i : Nat => (i : Int) ∈ r) e]
theorem trL_len : (trL x y l r).length = l.length := turnN_len
theorem trL_sm (h : r ∈ rotsF x y l) : Sm x.length (PM x) (PM y) (fnL (trL x y l r)) := by
 obtain ⟨M, R, _⟩ := rots_facts h
 rw [trL_fn h]
 exact turn_sm (lkP M.m) (lkP M.w) (sm_of (rots_stab h)) (ro_of h)
theorem trL_stab (h : r ∈ rotsF x y l) : stabB x y (trL x y l r) = true := by
 obtain ⟨M, R, _, _, hin, hnw⟩ := rots_facts h
 have hll := rank_len R
 refine of_sm (stab_of (rots_stab h)).1 (by rw [trL_len]; omega) (fun i hi => ?_) (trL_sm h)
 rw [trL_get h]
 split
 ·rename_i hm; have := hnw _ hm; rw [Int.toNat_natCast] at this; omega
 ·exact (rank_bd R (by omega)).1
theorem trL_le (h : r ∈ rotsF x y l) (i : Nat) : ¬ PM x i (fnL (trL x y l r) i) (fnL l i) := by
 obtain ⟨M, R, _⟩ := rots_facts h
 rw [trL_fn h]
 exact turn_le (lkP M.m) (ro_of h)
theorem trL_ne (h : r ∈ rotsF x y l) {i : Nat} (hi : (i : Int) ∈ r) : PM x i (fnL l i) (fnL (trL x y l r) i) := by
 rw [trL_fn h, turn_yes (T := fun i : Nat => (i : Int) ∈ r) hi]
 exact ((ro_of h).nx i hi).2.1
theorem fn_ext (hl : rankB n l = true) (hz : rankB n z = true) (h : ∀ i, i < n → fnL l i = fnL z i) : l = z := by
 have h1 := rank_len hl; have h2 := rank_len hz
 refine List.ext_getElem (by omega) fun i a b => ?_
 have := h i (by omega)
 have e1 := (fn_at hl (i := i) (by omega)).1
 have e2 := (fn_at hz (i := i) (by omega)).1
 simp only [List.getD, List.getElem?_eq_getElem a, List.getElem?_eq_getElem b, Option.getD_some] at e1 e2
 omega
theorem least_of' : ∀ {L : List Int}, L ≠ [] → ∃ j, j < L.length ∧ ∀ v ∈ L, L.getD j 0 ≤ v
 | [], h => absurd rfl h
 | a :: L, _ => by
  by_cases e : L = []
  ·subst e; exact ⟨0, by simp, by simp⟩
  ·obtain ⟨j, hj, h⟩ := least_of' e
   by_cases h2 : a ≤ L.getD j 0
   ·refine ⟨0, by simp, fun v hv => ?_⟩
    rcases List.mem_cons.1 hv with rfl | hv
    ·simp
    ·have := h v hv; simp only [List.getD_cons_zero]; omega
   ·refine ⟨j + 1, by simp; omega, fun v hv => ?_⟩
    simp only [List.getD_cons_succ]
    rcases List.mem_cons.1 hv with rfl | hv
    ·omega
    ·exact h v hv
theorem rotK_of {a k : Nat} (ha : a < k) (h : rotS x y l a ≠ []) : rotS x y l a ∈ rotK x y l k := by
 induction k with
 | zero => omega
 | succ k ih =>
  simp only [rotK, List.mem_append]
  by_cases e : a = k
  ·subst e; rw [if_neg h]; simp
  ·exact .inl (ih (by omega))
theorem rot_in (hs : stabB x y l = true) {S : List Int} (hne : S ≠ []) (hS : ∀ v ∈ S, 0 ≤ v ∧ v < x.length) (hc : ∀ v ∈ S, nxI x y l v ∈ S) : ∃ r ∈ rotsF x y l, ∀ v ∈ r, v ∈ S := by
 obtain ⟨_, R, M⟩ := stab_of hs
 have hp : 0 < S.length := List.length_pos_iff.2 hne
 obtain ⟨b, L, hL, hLS⟩ := cyc_ex hc (k := S.length) (L := [S.getD 0 0]) pth_one (fun v hv => by rw [List.mem_singleton.1 hv]; exact mem_getD' hp) (by simp)
 obtain ⟨j, hj, hmin⟩ := least_of' (L := L) (fun e => by have := hL.pos; rw [e] at this; simp at this)
 have hR := hL.rot hj
 have hmem : ∀ v, v ∈ L.drop j ++ L.take j → v ∈ L := fun v hv => by
  rcases List.mem_append.1 hv with h | h
  ·exact List.mem_of_mem_drop h
  ·exact List.mem_of_mem_take h
 have hlen : (L.drop j ++ L.take j).length ≤ x.length := by
  have := nodup_sub_len hR.nd (ys := upto x.length) fun v hv => mem_upto.2 (hS v (hLS v (hmem v hv)))
  rwa [upto_len] at this
 have hb := hS _ (hLS _ (mem_getD' hj))
 have hf := hR.found (k := x.length + 2) (j := 1) (by omega) (by have := hR.pos; omega) (by omega)
 have h1 : (L.drop j ++ L.take j).take 1 = [L.getD j 0] := by
  have e := hR.hd
  have hpos := hR.pos
  revert e hpos
  cases L.drop j ++ L.take j with
  | nil => intro _ h; simp at h
  | cons u us => intro e _; simp only [List.getD_cons_zero] at e; simp [e]
 rw [h1] at hf
 have hS' : rotS x y l (L.getD j 0) = L.drop j ++ L.take j := by
  rw [rotS_eq, rotG, hf, lowOf, if_pos ⟨fun e => by have := hR.pos; rw [e] at this; simp at this, fun v hv => hmin v (hmem v hv)⟩]
 have e : ((L.getD j 0).toNat : Int) = L.getD j 0 := by omega
 refine ⟨rotS x y l (L.getD j 0), ?_, fun v hv => hLS v (hmem v (hS' ▸ hv))⟩
 unfold rotsF; rw [if_pos hs, ← e]
 refine rotK_of (by omega) ?_
 rw [e, hS']
 exact fun e => by have := hR.pos; rw [e] at this; simp at this
theorem rot_to (hl : stabB x y l = true) (hz : stabB x y z = true) (hle : ∀ i, i < x.length → ¬ PM x i (fnL z i) (fnL l i)) (hne : z ≠ l) :
  ∃ r ∈ rotsF x y l, (∀ v ∈ r, fnL z v.toNat ≠ fnL l v.toNat) ∧ ∀ i, i < x.length → ¬ PM x i (fnL z i) (fnL (trL x y l r) i) := by
 obtain ⟨_, R, M⟩ := stab_of hl
 obtain ⟨_, Rz, _⟩ := stab_of hz
 have A := sm_of hl
 have B := sm_of hz
 have hnd := fun {i} hi hn => next_down (lkP M.m) (lkP M.w) A B hle (i := i) hi hn
 obtain ⟨r, hr, hD⟩ := rot_in (S := (upto x.length).filter fun v => decide (fnL z v.toNat ≠ fnL l v.toNat)) hl (fun e => by
  refine hne (fn_ext Rz R fun i hi => ?_)
  refine Classical.byContradiction fun hc => ?_
  have : (i : Int) ∈ (upto x.length).filter fun v => decide (fnL z v.toNat ≠ fnL l v.toNat) := by
   rw [List.mem_filter]
   exact ⟨mem_upto.2 ⟨by omega, by omega⟩, by simpa using hc⟩
  rw [e] at this; cases this) (fun v hv => mem_upto.1 (List.mem_filter.1 hv).1) (fun v hv => by
  obtain ⟨h1, h2⟩ := List.mem_filter.1 hv
  have h1 := mem_upto.1 h1
  have h2 := of_decide_eq_true h2
  obtain ⟨i, rfl⟩ : ∃ i : Nat, v = i := ⟨v.toNat, by omega⟩
  rw [Int.toNat_natCast] at h2
  have hi : i < x.length := by omega
  obtain ⟨⟨w, hw⟩, hall⟩ := hnd hi h2
  have e := nx_nw M R hi hw
  obtain ⟨j, hj, ej⟩ := A.onto hw.1
  have := (hall w hw).2 j hj ej
  have hp := place_fn R hj
  rw [ej] at hp
  rw [nxI_at (by omega), e, hp, List.mem_filter]
  exact ⟨mem_upto.2 ⟨by omega, by omega⟩, by simpa using this⟩)
 have hin := (rots_facts hr).2.2.2.2.1
 have hD' : ∀ v ∈ r, fnL z v.toNat ≠ fnL l v.toNat := fun v hv => of_decide_eq_true (List.mem_filter.1 (hD v hv)).2
 refine ⟨r, hr, hD', fun i hi => ?_⟩
 rw [trL_fn hr]
 exact turn_above (lkP M.m) (lkP M.w) A B (ro_of hr) hle (fun i hi => by have := hD' _ hi; rwa [Int.toNat_natCast] at this) i hi
theorem place_le (M : Mk x y x.length) (R : rankB x.length l = true) (Rz : rankB x.length z = true) {i : Nat} (hi : i < x.length) : ¬ PM x i (fnL z i) (fnL l i) ↔ placeM x l i ≤ placeM x z i := by
 have h1 := fn_at R hi; have h2 := fn_at Rz hi
 rw [pm_iff M.m hi h2.2 h1.2, h1.1, h2.1]
 unfold placeM; omega
theorem trL_up (h : r ∈ rotsF x y l) : sumF (placeM x l) x.length + 1 ≤ sumF (placeM x (trL x y l r)) x.length := by
 obtain ⟨M, R, hne, _, hin, _⟩ := rots_facts h
 have R' := (stab_of (trL_stab h)).2.1
 refine sumF_lt (fun i hi => (place_le M R R' hi).1 (trL_le h i)) ?_
 have hpos : 0 < r.length := List.length_pos_iff.2 hne
 have hm := getD_mem (d := 0) hpos
 have hb := hin _ hm
 have e : ((r.getD 0 0).toNat : Int) = r.getD 0 0 := by omega
 have := trL_ne h (i := (r.getD 0 0).toNat) (by rw [e]; exact hm)
 have hi : (r.getD 0 0).toNat < x.length := by omega
 have h1 := fn_at R hi; have h2 := fn_at R' hi
 rw [pm_iff M.m hi h1.2 h2.2, h1.1, h2.1] at this
 exact ⟨_, hi, this⟩
theorem rot_two (h : r ∈ rotsF x y l) : 2 ≤ r.length := by
 obtain ⟨M, R, hne, _, hin, hnw⟩ := rots_facts h
 obtain ⟨a, ha, C⟩ := rots_cyc h
 refine Classical.byContradiction fun hc => ?_
 have hpos := C.pos
 have e1 : r.length = 1 := by omega
 have hcl := C.cl
 rw [e1, show (1 : Nat) - 1 = 0 by omega, C.hd] at hcl
 have hm : (a : Int) ∈ r := by rw [← C.hd]; exact getD_mem hpos
 have hw := hnw _ hm
 rw [Int.toNat_natCast] at hw
 have N := nw_nx M R ha hw
 obtain ⟨j, hj, ej⟩ := (sm_of (rots_stab h)).onto N.1
 have hp := place_fn R hj
 rw [ej, Int.toNat_of_nonneg (by omega), ← nxI_at hw, hcl] at hp
 have : j = a := by omega
 subst this
 have h2 := N.2.1
 rw [← ej] at h2
 exact (lkP M.m).irr _ _ h2
theorem sumF_lt2 {f g : Nat → Int} {i j : Nat} (hij : i < j) (hi : f i < g i) (hj : f j < g j) : ∀ {n : Nat}, j < n → (∀ i, i < n → f i ≤ g i) → sumF f n + 2 ≤ sumF g n
 | 0, h, _ => by omega
 | n + 1, h, hle => by
  simp only [sumF]
  by_cases e : j = n
  ·subst e
   have := sumF_lt (n := j) (fun i hi => hle i (by omega)) ⟨i, hij, hi⟩
   omega
  ·have := sumF_lt2 hij hi hj (n := n) (by omega) fun i hi => hle i (by omega)
   have := hle n (by omega)
   omega
theorem trL_up2 (h : r ∈ rotsF x y l) : sumF (placeM x l) x.length + 2 ≤ sumF (placeM x (trL x y l r)) x.length := by
 obtain ⟨M, R, hne, _, hin, _⟩ := rots_facts h
 have R' := (stab_of (trL_stab h)).2.1
 obtain ⟨a, ha, C⟩ := rots_cyc h
 have h2 := rot_two h
 have lt : ∀ q, q < r.length → (r.getD q 0).toNat < x.length ∧ placeM x l (r.getD q 0).toNat < placeM x (trL x y l r) (r.getD q 0).toNat := fun q hq => by
  have hm := getD_mem (d := 0) hq
  have hb := hin _ hm
  have e : ((r.getD q 0).toNat : Int) = r.getD q 0 := by omega
  have := trL_ne h (i := (r.getD q 0).toNat) (by rw [e]; exact hm)
  have hi : (r.getD q 0).toNat < x.length := by omega
  have h1 := fn_at R hi; have h2 := fn_at R' hi
  rw [pm_iff M.m hi h1.2 h2.2, h1.1, h2.1] at this
  exact ⟨hi, this⟩
 have l0 := lt 0 (by omega)
 have l1 := lt 1 (by omega)
 have hle := fun i hi => (place_le M R R' (i := i) hi).1 (trL_le h i)
 have hne : (r.getD 0 0).toNat ≠ (r.getD 1 0).toNat := fun e => by
  have a1 := hin _ (getD_mem (d := 0) (show 0 < r.length by omega))
  have a2 := hin _ (getD_mem (d := 0) (show 1 < r.length by omega))
  have := nodup_get C.nd (i := 0) (j := 1) (by omega) (by omega) (by omega)
  omega
 rcases Nat.lt_or_gt_of_ne hne with h3 | h3
 ·exact sumF_lt2 h3 l0.2 l1.2 l1.1 hle
 ·exact sumF_lt2 h3 l1.2 l0.2 l0.1 hle
end
def levS (x y : List (List Int)) : Nat → List (List Int)
 | 0 => [(psF x y).wo]
 | k + 1 => (levS x y k).flatMap fun l => (rotsF x y l).map fun r => trL x y l r
theorem levS_ok {x y : List (List Int)} (h0 : stabB x y (psF x y).wo = true) : ∀ {k : Nat}, ∀ l ∈ levS x y k, stabB x y l = true ∧ 2 * (k : Int) ≤ sumF (placeM x l) x.length
 | 0, l, h => by
  simp only [levS, List.mem_singleton] at h
  subst h
  obtain ⟨_, R, M⟩ := stab_of h0
  have := (sumF_bd (f := placeM x (psF x y).wo) (n := x.length) (fun i hi => plM M R hi) (Nat.le_refl _)).1
  exact ⟨h0, by omega⟩
 | k + 1, l, h => by
  simp only [levS, List.mem_flatMap, List.mem_map] at h
  obtain ⟨l', h1, r, h2, rfl⟩ := h
  have := levS_ok h0 l' h1
  have hu := trL_up2 h2
  exact ⟨trL_stab h2, by omega⟩
theorem levS_reach {x y : List (List Int)} {z : List Int} (hz : stabB x y z = true) : ∀ {d k : Nat} {l : List Int}, l ∈ levS x y k → stabB x y l = true → (∀ i, i < x.length → ¬ PM x i (fnL z i) (fnL l i)) → sumF (placeM x z) x.length - sumF (placeM x l) x.length ≤ d → ∃ m, z ∈ levS x y m
 | 0, k, l, h, hs, hle, hd => by
  by_cases e : z = l
  ·rw [e]; exact ⟨k, h⟩
  ·exfalso
   obtain ⟨r, hr, _, h2⟩ := rot_to hs hz hle e
   obtain ⟨_, R', M⟩ := stab_of (trL_stab hr)
   obtain ⟨_, Rz, _⟩ := stab_of hz
   have h3 := trL_up hr
   have h4 := sumF_le (n := x.length) fun i hi => (place_le M R' Rz hi).1 (h2 i hi)
   omega
 | d + 1, k, l, h, hs, hle, hd => by
  by_cases e : z = l
  ·rw [e]; exact ⟨k, h⟩
  ·obtain ⟨r, hr, _, h2⟩ := rot_to hs hz hle e
   have h3 := trL_up hr
   exact levS_reach hz (d := d) (k := k + 1) (l := trL x y l r) (by
    simp only [levS, List.mem_flatMap, List.mem_map]
    exact ⟨l, h, r, hr, rfl⟩) (trL_stab hr) h2 (by omega)
end Go.Proofs.Ytgdpplhbblapgaa
