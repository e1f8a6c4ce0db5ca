/- Own work: contracts of functions that the claim reaches. No condition beyond those that each theorem names. -/
import Derived.Test.YtfdoddeccnjcmaaProg
import Derived.Test.YtfdoddeccnjcmaaGoodt
import Derived.Test.YtfdoddeccnjcmaaAlmost
import Derived.Test.YtfdoddeccnjcmaaCount
namespace Go.Proofs.Ytfdoddeccnjcmaa
open Go Go.Vc
set_option maxRecDepth 100000
set_option linter.unusedSimpArgs false
set_option linter.unusedVariables false
/-! What the law of goods says, of numbers. -/
theorem ef1_alm {vs : List (List Int)} {l : List Int} {m : Nat} (V : Vals vs m) (hl : l.length = m) (h : Ef1 vs l) : almB vs l = true := by
  simp only [almB, List.all_eq_true, List.mem_range, okAt, decide_eq_true_eq]
  intro i hi k hk
  refine bestN_iff.2 ?_
  unfold envy
  rcases h i k hi hk with h | ⟨g, h1, h2, h3⟩
  · left; omega
  · right
    have := (V.bd i g hi (by omega)).1
    exact ⟨g, h1, h2, by omega⟩
theorem giv_full {vs : List (List Int)} {m : Nat} (V : Vals vs m) : Full vs (givN vs m m) m := by
  refine ⟨givN_len, fun x hx => ?_⟩
  obtain ⟨h, hh, rfl⟩ := mem_getD 0 hx
  exact ((giv_ok V (g := m) (Nat.le_refl _)).2 h hh).1 (by rw [givN_len] at hh; exact hh)
theorem giv_good {vs : List (List Int)} (h : rectB vs 3 6 100 = true) : Full vs (givF vs) (vs.getD 0 []).length ∧ Ef1 vs (givF vs) := by
  unfold givF; rw [if_pos h]
  exact ⟨giv_full (vals_of h), (giv_ok (vals_of h) (Nat.le_refl _)).1⟩
theorem tak_good {vs : List (List Int)} {r : List Int} (h : rectB vs 3 6 100 = true) (hr : rankB vs.length r = true) : takB vs r = true ∧ Full vs (takF vs r) (vs.getD 0 []).length ∧ Ef1 vs (takF vs r) := by
  have hb : takB vs r = true := by simp [takB, h, hr]
  have K := tk_of h hr
  unfold takF; rw [if_pos hb]
  exact ⟨hb, ⟨takN_len, turns_full K⟩, turns_ef1 K hr⟩
theorem bst_max2 {f g : List Int → Int} {S : Nat → List Int} : ∀ {k j : Nat}, j < k → ¬ (f (bstL (fun l => [f l, g l]) S k) < f (S j) ∨ (f (bstL (fun l => [f l, g l]) S k) = f (S j) ∧ g (bstL (fun l => [f l, g l]) S k) < g (S j)))
  | k + 1, j, h => by
    rw [bstL]
    simp only [cmpL_2]
    by_cases hc : k = 0 ∨ f (bstL (fun l => [f l, g l]) S k) < f (S k) ∨ (f (S k) = f (bstL (fun l => [f l, g l]) S k) ∧ g (bstL (fun l => [f l, g l]) S k) < g (S k))
    · rw [if_pos hc]
      by_cases hj : j = k
      · subst hj; omega
      · have := bst_max2 (f := f) (g := g) (S := S) (k := k) (j := j) (by omega)
        omega
    · rw [if_neg hc]
      by_cases hj : j = k
      · subst hj; omega
      · exact bst_max2 (by omega)
theorem most_good {vs : List (List Int)} (h : rectB vs 3 6 100 = true) : Full vs (mostF vs) (vs.getD 0 []).length ∧ Ef1 vs (mostF vs) := by
  have V := vals_of h
  have n1 := V.n1
  unfold mostF; rw [if_pos h]
  obtain ⟨q, hq⟩ : ∃ q, vs.length ^ (vs.getD 0 []).length = q + 1 := ⟨vs.length ^ (vs.getD 0 []).length - 1, by have : 0 < vs.length ^ (vs.getD 0 []).length := Nat.pow_pos (by omega); omega⟩
  have hF : Full vs (bstF vs (prodC vs)) (vs.getD 0 []).length := by
    unfold bstF
    rw [hq]
    obtain ⟨j, _, e⟩ := bstL_in (c := prodC vs) (S := sn 0 vs.length (vs.getD 0 []).length) (k := q)
    rw [e]
    exact ⟨sn_len, fun x hx => by have := sn_bd (by omega) x hx; omega⟩
  refine ⟨hF, best_ef1 V hF.len hF.own fun l' hl' ho => ?_⟩
  obtain ⟨j, h4, h5⟩ := sn_surj (low := 0) (b := vs.length) hl' (fun x hx => by have := ho x hx; omega)
  have := bst_max2 (f := fun l => manyN vs l vs.length) (g := fun l => prodN vs l vs.length) (S := sn 0 vs.length (vs.getD 0 []).length) h4
  simp only [h5] at this
  exact this
theorem full_no {vs : List (List Int)} {l : List Int} {m : Nat} (F : Full vs l m) : ¬ (-1 : Int) ∈ l := fun h => by have := F.own _ h; omega
/-- The envy of the first i people. -/
def envS (vs : List (List Int)) (l : List Int) (i : Nat) : Int := ((List.range i).map fun a => (envR vs l a vs.length).sum).sum
theorem envR_nn {vs : List (List Int)} {l : List Int} {i : Nat} : ∀ {k : Nat}, 0 ≤ (envR vs l i k).sum
  | 0 => by simp [envR]
  | k + 1 => by
    have := envR_nn (vs := vs) (l := l) (i := i) (k := k)
    simp only [envR, List.range_succ, List.map_append, List.sum_append, List.map_cons, List.map_nil, List.sum_cons, List.sum_nil] at this ⊢
    have : 0 ≤ envy vs l i k := by unfold envy; omega
    omega
theorem envR_z {vs : List (List Int)} {l : List Int} {i : Nat} : ∀ {k : Nat}, (envR vs l i k).sum = 0 ↔ ∀ j, j < k → wo vs l i j ≤ wo vs l i i
  | 0 => by simp [envR]
  | k + 1 => by
    have h1 := envR_nn (vs := vs) (l := l) (i := i) (k := k)
    have ih := envR_z (vs := vs) (l := l) (i := i) (k := k)
    have e : (envR vs l i (k + 1)).sum = (envR vs l i k).sum + envy vs l i k := by simp [envR, List.range_succ]
    rw [e]
    unfold envy
    constructor
    · intro h j hj
      by_cases hjk : j = k
      · subst hjk; omega
      · exact ih.1 (by omega) j (by omega)
    · intro h
      have := ih.2 fun j hj => h j (by omega)
      have := h k (by omega)
      omega
theorem envS_s {vs : List (List Int)} {l : List Int} {i : Nat} : envS vs l (i + 1) = envS vs l i + (envR vs l i vs.length).sum := by simp [envS, List.range_succ]
theorem envS_nn {vs : List (List Int)} {l : List Int} : ∀ {i : Nat}, 0 ≤ envS vs l i
  | 0 => by simp [envS]
  | i + 1 => by
    have := envS_nn (vs := vs) (l := l) (i := i)
    have := envR_nn (vs := vs) (l := l) (i := i) (k := vs.length)
    rw [envS_s]; omega
theorem envS_z {vs : List (List Int)} {l : List Int} : ∀ {i : Nat}, envS vs l i = 0 ↔ ∀ a, a < i → ∀ j, j < vs.length → wo vs l a j ≤ wo vs l a a
  | 0 => by simp [envS]
  | i + 1 => by
    have h1 := envS_nn (vs := vs) (l := l) (i := i)
    have h2 := envR_nn (vs := vs) (l := l) (i := i) (k := vs.length)
    have ih := envS_z (vs := vs) (l := l) (i := i)
    have ez := envR_z (vs := vs) (l := l) (i := i) (k := vs.length)
    rw [envS_s]
    constructor
    · intro h a ha
      by_cases hai : a = i
      · subst hai; exact ez.1 (by omega)
      · exact ih.1 (by omega) a (by omega)
    · intro h
      have := ih.2 fun a ha => h a (by omega)
      have := ez.2 (h i (by omega))
      omega
theorem envy_free {vs : List (List Int)} {l : List Int} : envS vs l vs.length = 0 ↔ freeB vs l = true := by
  rw [free_iff, envS_z]
  exact ⟨fun h i k hi hk => h i hi k hk, fun h a ha j hj => h a j ha hj⟩
theorem free_count {vs : List (List Int)} {l : List Int} (h : rectB vs 3 6 100 = true) (F : Full vs l (vs.getD 0 []).length) (hf : freeB vs l = true) : 1 ≤ cntF vs (freeB vs) := by
  obtain ⟨j, h4, h5⟩ := sn_surj (low := 0) (b := vs.length) F.len (fun x hx => by have := F.own x hx; omega)
  unfold cntF
  rw [if_pos h]
  have := cntN_pos (p := freeB vs) h4 (by rw [h5]; exact hf)
  omega
theorem count_nn {vs : List (List Int)} {p : List Int → Bool} (h : rectB vs 3 6 100 = true) : 0 ≤ cntF vs p := by
  unfold cntF; rw [if_pos h]; omega
theorem count_one {vs : List (List Int)} (h : rectB vs 3 6 100 = true) (h1 : vs.length = 1) : cntF vs (freeB vs) = 1 := by
  unfold cntF
  rw [if_pos h, h1, Nat.one_pow]
  have : freeB vs (sn 0 1 (vs.getD 0 []).length 0) = true := free_iff.2 fun i k hi hk => by
    have : i = k := by omega
    subst this; exact Int.le_refl _
  show ((0 + if freeB vs (sn 0 1 (vs.getD 0 []).length 0) = true then 1 else 0 : Nat) : Int) = 1
  rw [if_pos this]; rfl
theorem envM_get {vs : List (List Int)} {l : List Int} {n i : Nat} (h : i < n) : (envM vs l n).getD i [] = envR vs l i vs.length := by simp [envM, List.getD, h]
theorem envR_get {vs : List (List Int)} {l : List Int} {i k j : Nat} (h : j < k) : (envR vs l i k).getD j 0 = envy vs l i j := by simp [envR, List.getD, h]
theorem envR_mem {vs : List (List Int)} {l : List Int} {m i k : Nat} (V : Vals vs m) (hl : l.length = m) (hi : i < vs.length) : ∀ x ∈ envR vs l i k, -600 ≤ x ∧ x ≤ 600 := fun x hx => by
  obtain ⟨j, _, rfl⟩ := List.mem_map.1 hx
  have h1 := wo_bd (vs := vs) (l := l) (k := (j : Int)) (by rw [hl]; exact V) hi
  have h2 := wo_bd (vs := vs) (l := l) (k := (i : Int)) (by rw [hl]; exact V) hi
  unfold envy; omega
def ownS (vs : List (List Int)) (l : List Int) (i k : Nat) : Int := ((List.range k).map fun b : Nat => wo vs l i b).sum
theorem ownS_s {vs : List (List Int)} {l : List Int} {i k : Nat} : ownS vs l i (k + 1) = ownS vs l i k + wo vs l i k := by simp [ownS, List.range_succ]
theorem ownS_bd {vs : List (List Int)} {l : List Int} {m i : Nat} (V : Vals vs m) (hl : l.length = m) (hi : i < vs.length) : ∀ {k : Nat}, 0 ≤ ownS vs l i k ∧ ownS vs l i k ≤ 600 * k
  | 0 => by simp [ownS]
  | k + 1 => by
    have := ownS_bd V hl hi (k := k)
    have h1 := wo_bd (vs := vs) (l := l) (k := (k : Int)) (by rw [hl]; exact V) hi
    rw [ownS_s]; omega
theorem envS_bd {vs : List (List Int)} {l : List Int} {m : Nat} (V : Vals vs m) (hl : l.length = m) : ∀ {i : Nat}, i ≤ vs.length → envS vs l i ≤ 1800 * i
  | 0, _ => by simp [envS]
  | i + 1, h => by
    have := envS_bd V hl (i := i) (by omega)
    have h1 := sum_take_bd (xs := envR vs l i vs.length) (B := 600) (by omega) (envR_mem V hl (by omega)) (j := (envR vs l i vs.length).length) (Nat.le_refl _)
    rw [List.take_length, envR_len] at h1
    have n3 := V.n3
    rw [envS_s]; omega

end Go.Proofs.Ytfdoddeccnjcmaa
