/- Own work: contracts of functions that the claim reaches. No condition beyond those that each theorem names. -/
import Derived.Test.YtfdoddeccnjcmaaProg
import Derived.Test.YtfdoddeccnjcmaaSeats
namespace Go.Proofs.Ytfdoddeccnjcmaa
open Go Go.Vc
set_option maxRecDepth 100000
set_option linter.unusedSimpArgs false
set_option linter.unusedVariables false
/-! The order of claims, and what it says of the seats. -/
theorem cmpI_anti {a b : Int} : cmpI b a = - cmpI a b := by unfold cmpI; grind
theorem cmpI_ge {a b : Int} : 0 ≤ cmpI a b ↔ b ≤ a := by unfold cmpI; grind
theorem clm_anti {m x a y b : Int} : clmS m y b x a = - clmS m x a y b := by
  unfold clmS
  rw [cmpI_anti (a := x) (b := y), cmpI_anti (a := topC m x a * postP m b) (b := topC m y b * postP m a)]
  grind
theorem clm_refl {m x a : Int} : clmS m x a x a = 0 := by
  have := clm_anti (m := m) (x := x) (a := a) (y := x) (b := a)
  omega
/-- When one claim is no less than another. -/
theorem clm_ge {m x a y b : Int} (x0 : 0 ≤ x) (y0 : 0 ≤ y) (a0 : 0 ≤ a) (a1 : a ≤ 100) (b0 : 0 ≤ b) (b1 : b ≤ 100) :
    0 ≤ clmS m x a y b ↔ y = 0 ∨ (0 < x ∧ 0 < y ∧ ((postP m a = 0 ∧ (postP m b = 0 → y ≤ x)) ∨ (0 < postP m a ∧ 0 < postP m b ∧ topC m y b * postP m a ≤ topC m x a * postP m b))) := by
  obtain ⟨p0, _, _, _⟩ := post_bd (m := m) a0 a1
  obtain ⟨q0, _, _, _⟩ := post_bd (m := m) b0 b1
  have h1 := cmpI_ge (a := x) (b := y)
  have h2 := cmpI_ge (a := topC m x a * postP m b) (b := topC m y b * postP m a)
  unfold clmS
  generalize cmpI (topC m x a * postP m b) (topC m y b * postP m a) = K at *
  generalize cmpI x y = J at *
  generalize topC m x a * postP m b = L at *
  generalize topC m y b * postP m a = R at *
  generalize postP m a = p at *
  generalize postP m b = q at *
  grind
theorem clm_trans {m x a y b z c : Int} (x0 : 0 ≤ x) (y0 : 0 ≤ y) (z0 : 0 ≤ z) (a0 : 0 ≤ a) (a1 : a ≤ 100) (b0 : 0 ≤ b) (b1 : b ≤ 100) (c0 : 0 ≤ c) (c1 : c ≤ 100)
    (h1 : 0 ≤ clmS m x a y b) (h2 : 0 ≤ clmS m y b z c) : 0 ≤ clmS m x a z c := by
  rw [clm_ge x0 y0 a0 a1 b0 b1] at h1
  rw [clm_ge y0 z0 b0 b1 c0 c1] at h2
  rw [clm_ge x0 z0 a0 a1 c0 c1]
  rcases h2 with h2 | ⟨h2, h3, h4⟩
  · exact .inl h2
  right
  rcases h1 with h1 | ⟨h1, _, h5⟩
  · omega
  refine ⟨h1, h3, ?_⟩
  generalize topC m x a = A at *
  generalize topC m y b = B at *
  generalize topC m z c = D at *
  generalize postP m a = p at *
  generalize postP m b = q at *
  generalize postP m c = r at *
  rcases h5 with ⟨h5, h6⟩ | ⟨h5, h6, h7⟩
  · left
    refine ⟨h5, fun hr => ?_⟩
    rcases h4 with ⟨h4, h8⟩ | ⟨h4, h8, _⟩
    · exact Int.le_trans (h8 hr) (h6 h4)
    · omega
  · right
    rcases h4 with ⟨h4, _⟩ | ⟨h4, h8, h9⟩
    · omega
    · refine ⟨h5, h8, Int.le_of_mul_le_mul_right ?_ h6⟩
      have e1 := Int.mul_le_mul_of_nonneg_right h9 (show 0 ≤ p by omega)
      have e2 := Int.mul_le_mul_of_nonneg_right h7 (show 0 ≤ r by omega)
      grind
theorem top_mono {m x x' a : Int} (x0 : 0 ≤ x) (h : x ≤ x') (a0 : 0 ≤ a) (a1 : a ≤ 100) : topC m x a ≤ topC m x' a := by
  obtain ⟨_, _, q1, _⟩ := post_bd (m := m) a0 a1
  unfold topC
  split
  · exact Int.mul_le_mul h h x0 (by omega)
  · exact Int.mul_le_mul_of_nonneg_right h (by omega)
theorem clm_mono {m x x' a : Int} (x0 : 0 ≤ x) (h : x ≤ x') (a0 : 0 ≤ a) (a1 : a ≤ 100) : 0 ≤ clmS m x' a x a := by
  rw [clm_ge (by omega) x0 a0 a1 a0 a1]
  obtain ⟨p0, _, _, _⟩ := post_bd (m := m) a0 a1
  have := Int.mul_le_mul_of_nonneg_right (top_mono (m := m) x0 h a0 a1) p0
  generalize topC m x a * postP m a = L at *
  generalize topC m x' a * postP m a = R at *
  omega
/-- More seats, less claim. -/
theorem clm_less {m x a b : Int} (hm : 1 ≤ m ∧ m ≤ 5) (x0 : 0 < x) (a0 : 0 ≤ a) (h : a < b) (b1 : b ≤ 100) : 0 < clmS m x a x b := by
  have e : ¬ 0 ≤ clmS m x b x a := by
    rw [clm_ge (by omega) (by omega) (by omega) b1 a0 (by omega)]
    rintro (h1 | ⟨_, _, h2⟩)
    · omega
    have key : 0 < postP m b ∧ topC m x b * postP m a < topC m x a * postP m b := by
      obtain ⟨d, rfl, hd⟩ : ∃ d, b = a + 1 + d ∧ 0 ≤ d := ⟨b - a - 1, by omega, by omega⟩
      have m1 := Int.mul_nonneg a0 hd
      have m2 := Int.mul_nonneg a0 a0
      have m3 := Int.mul_nonneg hd hd
      have m4 := Int.mul_nonneg m1 hd
      have m5 := Int.mul_nonneg m2 hd
      have x1 := Int.mul_pos x0 x0
      have hm : m = 1 ∨ m = 2 ∨ m = 3 ∨ m = 4 ∨ m = 5 := by omega
      have key2 : 0 < postP m (a + 1 + d) ∧ postQ m (a + 1 + d) * postP m a < postQ m a * postP m (a + 1 + d) := by
        unfold postP postQ
        rcases hm with rfl | rfl | rfl | rfl | rfl <;> simp <;> grind
      refine ⟨key2.1, ?_⟩
      by_cases h3 : m = 3
      · subst h3
        have q : ∀ z : Int, postQ 3 z = 1 := fun z => by simp [postQ]
        have := key2.2
        rw [q, q] at this
        simp only [topC, if_true]
        have := Int.mul_lt_mul_of_pos_left this x1
        grind
      · simp only [topC, if_neg h3]
        have := Int.mul_lt_mul_of_pos_left key2.2 x0
        grind
    generalize topC m x b * postP m a = L at *
    generalize topC m x a * postP m b = R at *
    omega
  have := clm_anti (m := m) (x := x) (a := a) (y := x) (b := b)
  omega
theorem clm_dec {m x a b : Int} (hm : 1 ≤ m ∧ m ≤ 5) (x0 : 0 ≤ x) (a0 : 0 ≤ a) (h : a ≤ b) (b1 : b ≤ 100) : 0 ≤ clmS m x a x b := by
  by_cases e : a = b
  · subst e; rw [clm_refl]; exact Int.le_refl _
  by_cases e2 : x = 0
  · subst e2; simp [clmS, cmpI]
  have := clm_less hm (show 0 < x by omega) a0 (show a < b by omega) b1
  omega
/-- The claim of i beats that of k: it is greater, or as great and the lesser index. -/
def Bt (m x a : Int) (i : Nat) (y b : Int) (k : Nat) : Prop := 0 < clmS m x a y b ∨ (clmS m x a y b = 0 ∧ i < k)
theorem bt_ge {m x a y b : Int} {i k : Nat} (h : Bt m x a i y b k) : 0 ≤ clmS m x a y b := by unfold Bt at h; omega
section
variable {m x a y b z c w d : Int} {i k : Nat}
/-- A beats B, B is no less than C: A beats C (C being of B's index). -/
theorem bt_ge_trans (x0 : 0 ≤ x) (y0 : 0 ≤ y) (z0 : 0 ≤ z) (a0 : 0 ≤ a) (a1 : a ≤ 100) (b0 : 0 ≤ b) (b1 : b ≤ 100) (c0 : 0 ≤ c) (c1 : c ≤ 100) (h : Bt m x a i y b k) (h2 : 0 ≤ clmS m y b z c) : Bt m x a i z c k := by
  have h1 := clm_trans x0 y0 z0 a0 a1 b0 b1 c0 c1 (bt_ge h) h2
  by_cases e : clmS m x a z c = 0
  · right
    refine ⟨e, ?_⟩
    rcases h with h | h
    · exfalso
      have e1 := clm_anti (m := m) (x := x) (a := a) (y := z) (b := c)
      have := clm_trans y0 z0 x0 b0 b1 c0 c1 a0 a1 h2 (by omega)
      have e2 := clm_anti (m := m) (x := x) (a := a) (y := y) (b := b)
      omega
    · exact h.2
  · left; omega
/-- No ring of two beats and two weak steps. -/
theorem bt_ring (x0 : 0 ≤ x) (y0 : 0 ≤ y) (z0 : 0 ≤ z) (w0 : 0 ≤ w) (a0 : 0 ≤ a) (a1 : a ≤ 100) (b0 : 0 ≤ b) (b1 : b ≤ 100) (c0 : 0 ≤ c) (c1 : c ≤ 100) (d0 : 0 ≤ d) (d1 : d ≤ 100)
    (h1 : Bt m x a i y b k) (h2 : 0 ≤ clmS m y b z c) (h3 : Bt m z c k w d i) (h4 : 0 ≤ clmS m w d x a) : False := by
  have g1 := bt_ge_trans x0 y0 z0 a0 a1 b0 b1 c0 c1 h1 h2
  have g2 := bt_ge_trans z0 w0 x0 c0 c1 d0 d1 a0 a1 h3 h4
  have e := clm_anti (m := m) (x := x) (a := a) (y := z) (b := c)
  unfold Bt at g1 g2
  omega
end
theorem topS_beats {m : Int} {cs ss : List Int} (hc : ∀ x ∈ cs, 0 ≤ x) (hs : ∀ x ∈ ss, 0 ≤ x ∧ x ≤ 100) (hl : ss.length = cs.length) : ∀ {j : Nat}, 0 < j → j ≤ cs.length → ∀ k, k < j → (k : Int) ≠ topS m cs ss j →
    Bt m (cs.getD (topS m cs ss j).toNat 0) (ss.getD (topS m cs ss j).toNat 0) (topS m cs ss j).toNat (cs.getD k 0) (ss.getD k 0) k
  | 0, h, _, _, _, _ => by omega
  | j + 1, _, hj, k, hk, hne => by
    have tb := topS_bd (m := m) (cs := cs) (ss := ss) (j := j)
    have g : ∀ i : Nat, i < cs.length → 0 ≤ cs.getD i 0 ∧ 0 ≤ ss.getD i 0 ∧ ss.getD i 0 ≤ 100 := fun i hi => ⟨hc _ (getD_mem hi), hs _ (getD_mem (by omega))⟩
    obtain ⟨j1, j2, j3⟩ := g j (by omega)
    obtain ⟨k1, k2, k3⟩ := g k (by omega)
    simp only [topS] at hne ⊢
    by_cases h : 0 < clmS m (cs.getD j 0) (ss.getD j 0) (cs.getD (topS m cs ss j).toNat 0) (ss.getD (topS m cs ss j).toNat 0)
    · rw [if_pos h] at hne ⊢
      simp only [Int.toNat_natCast] at hne ⊢
      have hkj : k < j := by omega
      obtain ⟨t1, t2, t3⟩ := g (topS m cs ss j).toNat (by omega)
      left
      by_cases e : (k : Int) = topS m cs ss j
      · rw [← e, Int.toNat_natCast] at h; exact h
      · have := topS_beats hc hs hl (j := j) (by omega) (by omega) k hkj e
        have h5 : Bt m (cs.getD j 0) (ss.getD j 0) 1 (cs.getD (topS m cs ss j).toNat 0) (ss.getD (topS m cs ss j).toNat 0) 0 := .inl h
        have := bt_ge_trans j1 t1 k1 j2 j3 t2 t3 k2 k3 h5 (bt_ge this)
        unfold Bt at this; omega
    · rw [if_neg h] at hne ⊢
      by_cases e : k = j
      · subst e
        have ea := clm_anti (m := m) (x := cs.getD k 0) (a := ss.getD k 0) (y := cs.getD (topS m cs ss k).toNat 0) (b := ss.getD (topS m cs ss k).toNat 0)
        have : (topS m cs ss k).toNat < k := by omega
        unfold Bt; omega
      · exact topS_beats hc hs hl (j := j) (by omega) (by omega) k (by omega) hne
/-- Seats are fair: the last seat of each beats the next seat of each other. -/
def Fair (m : Int) (cs ss : List Int) : Prop := ∀ i k : Nat, i < cs.length → k < cs.length → i ≠ k → 1 ≤ ss.getD i 0 → Bt m (cs.getD i 0) (ss.getD i 0 - 1) i (cs.getD k 0) (ss.getD k 0) k
theorem incL_get {ss : List Int} {b : Int} {i : Nat} (hb : b.toNat < ss.length) : (incL ss b).getD i 0 = if i = b.toNat then ss.getD i 0 + 1 else ss.getD i 0 := by
  unfold incL
  simp only [List.getD, List.getElem?_set]
  by_cases h : b.toNat = i
  · subst h; simp [hb]
  · have : ¬ i = b.toNat := fun e => h e.symm
    simp [h, this]
theorem ord_fair {m : Int} {cs : List Int} (hm : 1 ≤ m ∧ m ≤ 5) (hc : ∀ x ∈ cs, 0 ≤ x) (h0 : 0 < cs.length) : ∀ {t : Nat}, t ≤ 100 → Fair m cs (ordS m cs t).2
  | 0, _, i, k, hi, hk, hne, h1 => by
    simp [ordS, List.getD, hi] at h1
  | t + 1, ht, i, k, hi, hk, hne, h1 => by
    have ih := ord_fair hm hc h0 (t := t) (by omega)
    have hl := (ordS_len (m := m) (cs := cs) (t := t)).2
    have hb : ∀ x ∈ (ordS m cs t).2, 0 ≤ x ∧ x ≤ 99 := fun x hx => by have := ordS_bd x hx; omega
    have tb := topS_bd (m := m) (cs := cs) (ss := (ordS m cs t).2) (j := cs.length)
    have e2 : (ordS m cs (t + 1)).2 = incL (ordS m cs t).2 (topS m cs (ordS m cs t).2 cs.length) := rfl
    have top := topS_beats (m := m) hc (fun x hx => by have := hb x hx; omega) hl h0 (Nat.le_refl _)
    rw [e2] at h1 ⊢
    generalize (ordS m cs t).2 = ss at *
    generalize topS m cs ss cs.length = b at *
    have hb' : b.toNat < ss.length := by omega
    have g : ∀ i : Nat, i < cs.length → 0 ≤ cs.getD i 0 ∧ 0 ≤ ss.getD i 0 ∧ ss.getD i 0 ≤ 99 := fun i hi => ⟨hc _ (getD_mem hi), hb _ (getD_mem (by omega))⟩
    obtain ⟨i1, i2, i3⟩ := g i hi
    obtain ⟨k1, k2, k3⟩ := g k hk
    rw [incL_get hb'] at h1 ⊢
    rw [incL_get hb']
    by_cases ei : i = b.toNat
    · rw [if_pos ei, if_neg (by omega), Int.add_sub_cancel]
      have := top k hk (by omega)
      rwa [← ei] at this
    · rw [if_neg ei] at h1 ⊢
      have := ih i k hi hk hne h1
      by_cases ek : k = b.toNat
      · rw [if_pos ek]
        exact bt_ge_trans i1 k1 k1 (by omega) (by omega) k2 (by omega) (by omega) (by omega) this (clm_dec hm k1 k2 (by omega) (by omega))
      · rw [if_neg ek]; exact this
theorem ord_sum {m : Int} {cs : List Int} (h0 : 0 < cs.length) : ∀ {t : Nat}, sumL (ordS m cs t).2 = t
  | 0 => by
    have : ∀ k j, sumN (List.replicate k (0 : Int)) j = 0 := by
      intro k j
      induction j with
      | zero => rfl
      | succ j ih => simp only [sumN, ih]; by_cases h : j < k <;> simp [List.getD, h]
    simp [ordS, sumL, this]
  | t + 1 => by
    have ih := ord_sum (m := m) h0 (t := t)
    have hl := (ordS_len (m := m) (cs := cs) (t := t)).2
    have tb := topS_bd (m := m) (cs := cs) (ss := (ordS m cs t).2) (j := cs.length)
    simp only [ordS, incL]
    unfold sumL at ih ⊢
    rw [List.length_set, sumN_set (by omega) (Nat.le_refl _), if_pos (by omega), ih]
    omega
/-- Who has no votes gets no seats. -/
theorem fair_zero {m : Int} {cs ss : List Int} (hc : ∀ x ∈ cs, 0 ≤ x) (F : Fair m cs ss) {i k : Nat} (hi : i < cs.length) (hk : k < cs.length) (hp : 0 < cs.getD k 0) (h1 : 1 ≤ ss.getD i 0) : 0 < cs.getD i 0 := by
  have c1 := hc _ (getD_mem (d := 0) hi)
  by_cases e : i = k
  · subst e; exact hp
  refine Int.not_le.1 fun hle => ?_
  have z : cs.getD i 0 = 0 := by omega
  have := bt_ge (F i k hi hk e h1)
  rw [z] at this
  simp only [clmS, true_or, if_true, cmpI_ge] at this
  omega
theorem sum_pos_ex {xs : List Int} (h : 0 < sumL xs) : ∃ k, k < xs.length ∧ 0 < xs.getD k 0 := by
  have : ∀ j, 0 < sumN xs j → ∃ k, k < j ∧ 0 < xs.getD k 0 := by
    intro j
    induction j with
    | zero => intro h; simp [sumN] at h
    | succ j ih =>
      intro h
      simp only [sumN] at h
      by_cases h2 : 0 < sumN xs j
      · obtain ⟨k, h3, h4⟩ := ih h2; exact ⟨k, by omega, h4⟩
      · exact ⟨j, by omega, by omega⟩
  exact this _ h
/-- If the sums are one and someone has more in the one, someone has less. -/
theorem sum_other {xs ys : List Int} {i : Nat} : ∀ {j : Nat}, (∀ k, k < j → k ≠ i → xs.getD k 0 ≤ ys.getD k 0) → sumN xs j - (if i < j then xs.getD i 0 else 0) ≤ sumN ys j - (if i < j then ys.getD i 0 else 0)
  | 0, _ => by simp [sumN]
  | j + 1, h => by
    have ih := sum_other (xs := xs) (ys := ys) (i := i) (j := j) fun k hk hne => h k (by omega) hne
    simp only [sumN]
    by_cases e : i = j
    · subst e
      simp at ih ⊢; omega
    · have := h j (by omega) (fun e2 => e e2.symm)
      by_cases h2 : i < j
      · rw [if_pos h2] at ih; rw [if_pos h2] at ih; rw [if_pos (by omega), if_pos (by omega)]; omega
      · rw [if_neg h2] at ih; rw [if_neg h2] at ih; rw [if_neg (by omega), if_neg (by omega)]; omega
/-- Fairness and the sum fix the seats. -/
theorem fair_uniq {m : Int} {cs ss tt : List Int} (hm : 1 ≤ m ∧ m ≤ 5) (hc : ∀ x ∈ cs, 0 ≤ x) (hs : ∀ x ∈ ss, 0 ≤ x ∧ x ≤ 100) (ht : ∀ x ∈ tt, 0 ≤ x ∧ x ≤ 100) (ls : ss.length = cs.length) (lt : tt.length = cs.length)
    (F : Fair m cs ss) (G : Fair m cs tt) (e : sumL ss = sumL tt) : ss = tt := by
  have g : ∀ i : Nat, i < cs.length → 0 ≤ cs.getD i 0 ∧ (0 ≤ ss.getD i 0 ∧ ss.getD i 0 ≤ 100) ∧ (0 ≤ tt.getD i 0 ∧ tt.getD i 0 ≤ 100) := fun i hi => ⟨hc _ (getD_mem hi), hs _ (getD_mem (by omega)), ht _ (getD_mem (by omega))⟩
  have main : ∀ {ss tt : List Int}, (∀ i : Nat, i < cs.length → 0 ≤ cs.getD i 0 ∧ (0 ≤ ss.getD i 0 ∧ ss.getD i 0 ≤ 100) ∧ (0 ≤ tt.getD i 0 ∧ tt.getD i 0 ≤ 100)) → Fair m cs ss → Fair m cs tt → sumN ss cs.length = sumN tt cs.length → ∀ i, i < cs.length → ss.getD i 0 ≤ tt.getD i 0 := by
    intro ss tt g F G e i hi
    refine Int.not_lt.1 fun hlt => ?_
    have hex : ∃ k, k < cs.length ∧ k ≠ i ∧ ss.getD k 0 < tt.getD k 0 := Classical.byContradiction fun hno => by
      have := sum_other (xs := tt) (ys := ss) (i := i) (j := cs.length) fun k hk hne => Int.not_lt.1 fun h => hno ⟨k, hk, hne, h⟩
      rw [if_pos hi, if_pos hi] at this
      omega
    obtain ⟨k, hk, hne, hk2⟩ := hex
    obtain ⟨i1, i2, i3⟩ := g i hi
    obtain ⟨k1, k2, k3⟩ := g k hk
    have b1 := F i k hi hk (Ne.symm hne) (by omega)
    have b2 := G k i hk hi hne (by omega)
    exact bt_ring i1 k1 k1 i1 (by omega) (by omega) (by omega) (by omega) (by omega) (by omega) (by omega) (by omega) b1 (clm_dec hm k1 (by omega) (by omega) (by omega)) b2 (clm_dec hm i1 (by omega) (by omega) (by omega))
  have e' : sumN ss cs.length = sumN tt cs.length := by unfold sumL at e; rw [ls, lt] at e; exact e
  refine List.ext_getElem (by omega) fun i h1 h2 => ?_
  have h3 := main g F G e' i (by omega)
  have h4 := main (fun i hi => ⟨(g i hi).1, (g i hi).2.2, (g i hi).2.1⟩) G F e'.symm i (by omega)
  have e1 : ss.getD i 0 = ss[i] := by simp [List.getD, h1]
  have e2 : tt.getD i 0 = tt[i] := by simp [List.getD, h2]
  omega

end Go.Proofs.Ytfdoddeccnjcmaa
