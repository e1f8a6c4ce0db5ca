/- Own work: contracts of functions that the claim reaches. No condition beyond those that each theorem names. -/
import Derived.Test.YtfdoddeccnjcmaaProg
import Derived.Test.YtfdoddeccnjcmaaCore
import Derived.Test.YtfdoddeccnjcmaaExch
namespace Go.Proofs.Ytfdoddeccnjcmaa
open Go Go.Vc
set_option maxRecDepth 100000
set_option linter.unusedSimpArgs false
set_option linter.unusedVariables false
/-! The exchange by cycles has the core's properties. -/
theorem set_ne_getD {xs : List Int} {i j : Nat} {v : Int} (h : i ≠ j) : (xs.set i v).getD j 0 = xs.getD j 0 := by simp [List.getD, h]
theorem exC_no {out c : List Int} {a : Nat} (hb : ∀ x ∈ c, 0 ≤ x) (h : ¬ (a : Int) ∈ c) : ∀ {k : Nat}, k ≤ c.length → (exC out c k).getD a 0 = out.getD a 0
  | 0, _ => rfl
  | k + 1, hk => by
    simp only [exC]
    have hm : c.getD k 0 ∈ c := getD_mem (by omega)
    have hne : (c.getD k 0).toNat ≠ a := fun e => h (by have := hb _ hm; rw [show (a : Int) = c.getD k 0 by omega]; exact hm)
    rw [set_ne_getD hne]; exact exC_no hb h (by omega)
theorem exC_at {out c : List Int} (hn : c.Nodup) (hb : ∀ x ∈ c, 0 ≤ x ∧ x < out.length) : ∀ {k q : Nat}, k ≤ c.length → q < k → (exC out c k).getD (c.getD q 0).toNat 0 = c.getD ((q + 1) % c.length) 0
  | 0, q, _, h => by omega
  | k + 1, q, hk, hq => by
    simp only [exC]
    have bk := hb _ (getD_mem (d := 0) (show k < c.length by omega))
    have bq := hb _ (getD_mem (d := 0) (show q < c.length by omega))
    by_cases e : q = k
    · subst e
      have hlt : (c.getD q 0).toNat < (exC out c q).length := by rw [exC_len]; omega
      exact getD_set_eq hlt
    · have hne : (c.getD k 0).toNat ≠ (c.getD q 0).toNat := fun h => e (nodup_inj hn (by omega) (by omega) (by omega))
      rw [set_ne_getD hne]; exact exC_at hn hb (by omega) (by omega)
theorem exR_at {n : Nat} {R : List (List Int)} (hn : R.flatten.Nodup) (hb : ∀ x ∈ R.flatten, 0 ≤ x ∧ x < n) : ∀ {t s q : Nat}, t ≤ R.length → s < t → q < (R.getD s []).length →
    (exR n R t).getD ((R.getD s []).getD q 0).toNat 0 = (R.getD s []).getD ((q + 1) % (R.getD s []).length) 0
  | 0, s, q, _, h, _ => by omega
  | t + 1, s, q, ht, hs, hq => by
    obtain ⟨h1, h2⟩ := List.pairwise_flatten.1 hn
    have hRt : R.getD t [] ∈ R := getD_mem (by omega)
    have hRs : R.getD s [] ∈ R := getD_mem (by omega)
    have bt : ∀ x ∈ R.getD t [], 0 ≤ x ∧ x < n := fun x hx => hb x (List.mem_flatten.2 ⟨_, hRt, hx⟩)
    have bs : ∀ x ∈ R.getD s [], 0 ≤ x ∧ x < n := fun x hx => hb x (List.mem_flatten.2 ⟨_, hRs, hx⟩)
    simp only [exR]
    by_cases e : s = t
    · subst e
      exact exC_at (h1 _ hRs) (fun x hx => by rw [exR_len]; exact bs x hx) (Nat.le_refl _) hq
    · have hx := bs _ (getD_mem (d := 0) hq)
      rw [exC_no (fun x hx => (bt x hx).1) (fun hm => ?_) (Nat.le_refl _)]
      · exact exR_at hn hb (by omega) (by omega) hq
      · rw [Int.toNat_of_nonneg hx.1] at hm
        rw [List.pairwise_iff_getElem] at h2
        have e1 : R.getD s [] = R[s]'(by omega) := by simp [List.getD, show s < R.length by omega]
        have e2 : R.getD t [] = R[t]'(by omega) := by simp [List.getD, show t < R.length by omega]
        have := h2 s t (by omega) (by omega) (by omega) _ (e1 ▸ getD_mem (d := 0) hq) _ (e2 ▸ hm)
        exact this (by rw [e1])
theorem tc_flat {ls : List (List Int)} (H : Hs ls ls.length) : ∀ {j : Nat}, (tcS ls j).2.flatten.Nodup ∧ ∀ x, x ∈ (tcS ls j).2.flatten ↔ ((0 ≤ x ∧ x < ls.length) ∧ ¬ x ∈ (tcS ls j).1)
  | 0 => by
    refine ⟨by simp [tcS], fun x => ?_⟩
    simp only [tcS, List.flatten_nil, List.not_mem_nil, false_iff, not_and, Classical.not_not]
    exact fun h => mem_upto.2 h
  | j + 1 => by
    obtain ⟨h1, h2⟩ := tc_flat H (j := j)
    have hS := tcS_lf (ls := ls) (j := j)
    obtain ⟨f1, f2⟩ := flat_ok H hS (Nat.le_refl _)
    have f1 : (rndS ls (tcS ls j).1).flatten.Nodup := f1
    have f2 : ∀ y ∈ (rndS ls (tcS ls j).1).flatten, y ∈ (tcS ls j).1 := f2
    simp only [tcS, List.flatten_append]
    refine ⟨List.nodup_append.2 ⟨h1, f1, fun a ha b hb e => ?_⟩, fun x => ?_⟩
    · subst e; exact ((h2 a).1 ha).2 (f2 a hb)
    · rw [List.mem_append, h2, List.mem_filter]
      constructor
      · rintro (⟨h3, h4⟩ | h3)
        · exact ⟨h3, fun h => h4 h.1⟩
        · exact ⟨hS.bd x (f2 x h3), fun h => by have := h.2; simp only [Bool.not_eq_true'] at this; rw [inL_iff.2 h3] at this; cases this⟩
      · rintro ⟨h3, h4⟩
        by_cases h5 : x ∈ (tcS ls j).1
        · right
          refine Classical.byContradiction fun h6 => h4 ⟨h5, ?_⟩
          simp only [Bool.not_eq_true']
          exact Bool.eq_false_iff.2 fun h7 => h6 (inL_iff.1 h7)
        · exact .inl ⟨h3, h5⟩
theorem tc_end {ls : List (List Int)} (H : Hs ls ls.length) : (tcS ls ls.length).1 = [] :=
  List.eq_nil_of_length_eq_zero (by have := tcS_down H (j := ls.length); omega)
theorem tc_mono {ls : List (List Int)} {c : List Int} {j : Nat} (h : c ∈ (tcS ls j).2) : ∀ d, c ∈ (tcS ls (j + d)).2
  | 0 => h
  | d + 1 => by
    rw [← Nat.add_assoc]
    simp only [tcS, List.mem_append]
    exact .inl (tc_mono h d)
/-- One who leaves in round j gets the best of what is left, with one who leaves then. -/
theorem ex_at {ls : List (List Int)} (H : Hs ls ls.length) {j : Nat} (hj : j < ls.length) {a : Int} (ha : a ∈ (rndS ls (tcS ls j).1).flatten) :
    (exR ls.length (tcS ls ls.length).2 (tcS ls ls.length).2.length).getD a.toNat 0 = topI ls (tcS ls j).1 a ∧ topI ls (tcS ls j).1 a ∈ (rndS ls (tcS ls j).1).flatten := by
  obtain ⟨c, hc, hac⟩ := List.mem_flatten.1 ha
  have hc1 : c ∈ (tcS ls (j + 1)).2 := by simp only [tcS, List.mem_append]; exact .inr hc
  have hcn : c ∈ (tcS ls ls.length).2 := by have := tc_mono hc1 (ls.length - (j + 1)); rwa [show j + 1 + (ls.length - (j + 1)) = ls.length by omega] at this
  obtain ⟨b, _, hb⟩ := List.mem_flatMap.1 hc
  obtain ⟨_, hC, _⟩ := row_mem hb
  obtain ⟨s, hs, es⟩ := mem_getD [] hcn
  obtain ⟨q, hq, eq⟩ := mem_getD 0 hac
  obtain ⟨t1, t2⟩ := tc_flat H (j := ls.length)
  have key := exR_at (n := ls.length) t1 (fun x hx => ((t2 x).1 hx).1) (t := (tcS ls ls.length).2.length) (s := s) (q := q) (Nat.le_refl _) hs (by rw [es]; exact hq)
  rw [es, eq] at key
  have hnx : c.getD ((q + 1) % c.length) 0 = topI ls (tcS ls j).1 a := by
    by_cases e : q + 1 < c.length
    · rw [Nat.mod_eq_of_lt e, hC.nx q e, eq]
    · have e2 : q = c.length - 1 := by omega
      rw [show q + 1 = c.length by omega, Nat.mod_self, hC.hd, ← hC.cl, ← e2, eq]
  rw [hnx] at key
  refine ⟨key, List.mem_flatten.2 ⟨c, hc, ?_⟩⟩
  rw [← hnx]
  exact getD_mem (Nat.mod_lt _ hC.pos)
theorem tc_sub {ls : List (List Int)} {j : Nat} {a : Int} : ∀ {d : Nat}, a ∈ (tcS ls (j + d)).1 → a ∈ (tcS ls j).1
  | 0, h => h
  | d + 1, h => by
    rw [← Nat.add_assoc] at h
    simp only [tcS] at h
    exact tc_sub (List.mem_filter.1 h).1
theorem tc_round {ls : List (List Int)} (H : Hs ls ls.length) {a : Int} (h0 : 0 ≤ a) (h1 : a < ls.length) : ∃ j, j < ls.length ∧ a ∈ (tcS ls j).1 ∧ a ∈ (rndS ls (tcS ls j).1).flatten := by
  have main : ∀ k, k ≤ ls.length → ¬ a ∈ (tcS ls k).1 → ∃ j, j < ls.length ∧ a ∈ (tcS ls j).1 ∧ a ∈ (rndS ls (tcS ls j).1).flatten := by
    intro k
    induction k with
    | zero => intro _ h; exact absurd (mem_upto.2 ⟨h0, h1⟩) h
    | succ k ih =>
      intro hk h
      by_cases hin : a ∈ (tcS ls k).1
      · refine ⟨k, by omega, hin, ?_⟩
        simp only [tcS, List.mem_filter, not_and, Bool.not_eq_true', Bool.not_eq_false] at h
        exact inL_iff.1 (h hin)
      · exact ih (by omega) hin
  exact main ls.length (Nat.le_refl _) (by rw [tc_end H]; simp)
theorem tc_uniq {ls : List (List Int)} {a : Int} {j k : Nat} (h1 : a ∈ (rndS ls (tcS ls j).1).flatten) (h2 : a ∈ (tcS ls k).1) : k ≤ j := by
  refine Nat.not_lt.1 fun hlt => ?_
  have h3 : a ∈ (tcS ls (j + 1)).1 := tc_sub (d := k - (j + 1)) (by rw [show j + 1 + (k - (j + 1)) = k by omega]; exact h2)
  simp only [tcS, List.mem_filter, Bool.not_eq_true'] at h3
  rw [inL_iff.2 h1] at h3
  cases h3.2
/-- Nothing that is left comes before the first of what is left. -/
theorem top_best {row S : List Int} {h : Int} (hh : h ∈ S) : prefB row h (fstL S row) = false := by
  refine Bool.eq_false_iff.2 fun hp => ?_
  simp only [prefB, Bool.and_eq_true, decide_eq_true_eq] at hp
  obtain ⟨⟨p1, p2⟩, p3⟩ := hp
  unfold placeI at p1 p2 p3
  rcases idxP_cases 0 (fun x => decide (x = h)) row with ⟨k, k1, k2, k3, k4⟩ | k
  · rcases idxP_cases 0 (inL S) row with ⟨j, j1, j2, j3, j4⟩ | j
    · have ef : fstL S row = row.getD j 0 := by unfold fstL; rw [j4]; rfl
      rw [ef] at p2 p3
      rcases idxP_cases 0 (fun x => decide (x = row.getD j 0)) row with ⟨i, i1, i2, i3, i4⟩ | i
      · have hij : i ≤ j := Nat.not_lt.1 fun hlt => by
          have := i3 j hlt
          simp at this
        rw [k4, i4] at p3
        have := j3 k (by omega)
        simp only [decide_eq_true_eq] at k2
        rw [k2, inL_iff.2 hh] at this
        cases this
      · rw [i.2] at p2; omega
    · have hk := k2
      simp only [decide_eq_true_eq] at hk
      have := j.1 _ (getD_mem (d := 0) k1)
      rw [hk, inL_iff.2 hh] at this
      cases this
  · rw [k.2] at p1; omega
theorem onto_inj {S : List Nat} {f : Nat → Nat} (hn : S.Nodup) (honto : ∀ h ∈ S, ∃ a ∈ S, f a = h) : ∀ a ∈ S, ∀ b ∈ S, f a = f b → a = b := fun a ha b hb e => Classical.byContradiction fun hab => by
  have hlt : ((S.erase a).map f).length < S.length := by
    rw [List.length_map, List.length_erase_of_mem ha]
    have : 0 < S.length := List.length_pos_of_mem ha
    omega
  have := nsub_len hn (ys := (S.erase a).map f) fun h hh => by
    obtain ⟨c, hc, rfl⟩ := honto h hh
    by_cases hca : c = a
    · subst hca
      exact List.mem_map.2 ⟨b, (List.mem_erase_of_ne (Ne.symm hab)).2 hb, e.symm⟩
    · exact List.mem_map.2 ⟨c, (List.mem_erase_of_ne hca).2 hc, rfl⟩
  omega
/-- Every house is somebody's. -/
theorem ex_on {ls : List (List Int)} {j : Nat} {a : Int} (ha : a ∈ (rndS ls (tcS ls j).1).flatten) : ∃ b ∈ (rndS ls (tcS ls j).1).flatten, topI ls (tcS ls j).1 b = a := by
  obtain ⟨c, hc, hac⟩ := List.mem_flatten.1 ha
  obtain ⟨b, _, hb⟩ := List.mem_flatMap.1 hc
  obtain ⟨_, hC, _⟩ := row_mem hb
  obtain ⟨q, hq, eq⟩ := mem_getD 0 hac
  by_cases e : q = 0
  · refine ⟨c.getD (c.length - 1) 0, List.mem_flatten.2 ⟨c, hc, getD_mem (by omega)⟩, ?_⟩
    rw [hC.cl, ← hC.hd, ← eq, e]
  · refine ⟨c.getD (q - 1) 0, List.mem_flatten.2 ⟨c, hc, getD_mem (by omega)⟩, ?_⟩
    rw [← hC.nx (q - 1) (by omega), show q - 1 + 1 = q by omega, eq]
/-- The exchange by cycles, as a map. -/
def exX (ls : List (List Int)) (i : Nat) : Nat := ((exR ls.length (tcS ls ls.length).2 (tcS ls ls.length).2.length).getD i 0).toNat
theorem core_ok {ls : List (List Int)} (H : Hs ls ls.length) (tot : ∀ i a b : Nat, i < ls.length → a < ls.length → b < ls.length → prefB (ls.getD i []) a b = true ∨ a = b ∨ prefB (ls.getD i []) b a = true) :
    ∃ r, Core ls.length (fun i a b => prefB (ls.getD i []) a b = true) (exX ls) r := by
  obtain ⟨r, hr⟩ := Classical.axiomOfChoice (fun a : Nat => show ∃ j, a < ls.length → j < ls.length ∧ (a : Int) ∈ (tcS ls j).1 ∧ (a : Int) ∈ (rndS ls (tcS ls j).1).flatten by
    by_cases ha : a < ls.length
    · obtain ⟨j, h⟩ := tc_round H (a := (a : Int)) (by omega) (by omega)
      exact ⟨j, fun _ => h⟩
    · exact ⟨0, fun h => absurd h ha⟩)
  have sub : ∀ j, ∀ y ∈ (rndS ls (tcS ls j).1).flatten, y ∈ (tcS ls j).1 := fun j => (flat_ok H tcS_lf (Nat.le_refl _)).2
  have at' : ∀ i, i < ls.length → (exX ls i : Int) = topI ls (tcS ls (r i)).1 i ∧ (exX ls i : Int) ∈ (rndS ls (tcS ls (r i)).1).flatten ∧ exX ls i < ls.length := fun i hi => by
    obtain ⟨h1, h2, h3⟩ := hr i hi
    obtain ⟨e1, e2⟩ := ex_at H h1 h3
    have hb := tcS_lf.bd _ (sub _ _ e2)
    rw [Int.toNat_natCast] at e1
    have e : (exX ls i : Int) = topI ls (tcS ls (r i)).1 i := by unfold exX; rw [e1]; omega
    exact ⟨e, by rw [e]; exact e2, by omega⟩
  have onto : ∀ h ∈ List.range ls.length, ∃ a ∈ List.range ls.length, exX ls a = h := fun h hh => by
    have hh := List.mem_range.1 hh
    obtain ⟨h1, h2, h3⟩ := hr h hh
    obtain ⟨b, hb, eb⟩ := ex_on h3
    have bb := tcS_lf.bd _ (sub _ _ hb)
    obtain ⟨B, rfl⟩ : ∃ B : Nat, b = B := ⟨b.toNat, by omega⟩
    refine ⟨B, List.mem_range.2 (by omega), ?_⟩
    obtain ⟨e1, _⟩ := ex_at H h1 hb
    rw [Int.toNat_natCast, eb] at e1
    unfold exX; rw [e1]; rfl
  refine ⟨r, fun i hi => (at' i hi).2.2, fun i j hi hj e => onto_inj List.nodup_range onto i (List.mem_range.2 hi) j (List.mem_range.2 hj) e, fun i hi => ?_, fun i h hi hh hle hp => ?_, tot⟩
  · obtain ⟨a1, a2, a3⟩ := at' i hi
    obtain ⟨b1, b2, b3⟩ := hr _ a3
    exact Nat.le_antisymm (tc_uniq a2 b2) (tc_uniq b3 (sub _ _ a2))
  · obtain ⟨a1, _, _⟩ := at' i hi
    obtain ⟨b1, b2, _⟩ := hr h hh
    have hin : (h : Int) ∈ (tcS ls (r i)).1 := tc_sub (d := r h - r i) (by rw [show r i + (r h - r i) = r h by omega]; exact b2)
    have := top_best (row := ls.getD i []) hin
    simp only [a1, topI, Int.toNat_natCast] at hp
    rw [this] at hp; cases hp
theorem pref_tot {n : Nat} {row : List Int} (hr : rankB n row = true) {a b : Int} (ha : 0 ≤ a ∧ a < n) (hb : 0 ≤ b ∧ b < n) : prefB row a b = true ∨ a = b ∨ prefB row b a = true := by
  have at' : ∀ c : Int, 0 ≤ c ∧ c < n → ∃ k : Nat, placeI row c = k ∧ row.getD k 0 = c := fun c hc => by
    rcases idxP_cases 0 (fun x => decide (x = c)) row with ⟨k, _, k2, _, k4⟩ | k
    · exact ⟨k, k4, of_decide_eq_true k2⟩
    · have := k.1 c (rank_all hr hc.1 hc.2)
      simp at this
  obtain ⟨i, i1, i2⟩ := at' a ha
  obtain ⟨j, j1, j2⟩ := at' b hb
  simp only [prefB, i1, j1, Bool.and_eq_true, decide_eq_true_eq]
  rcases Nat.lt_trichotomy i j with h | h | h
  · left; omega
  · right; left; rw [← i2, ← j2, h]
  · right; right; omega
theorem core_hs {ls : List (List Int)} (H : Hs ls ls.length) : ∃ r, Core ls.length (fun i a b => prefB (ls.getD i []) a b = true) (exX ls) r :=
  core_ok H fun i a b hi ha hb => by
    rcases pref_tot (H.rk i hi) (a := (a : Int)) (b := (b : Int)) ⟨by omega, by omega⟩ ⟨by omega, by omega⟩ with h | h | h
    · exact .inl h
    · exact .inr (.inl (by omega))
    · exact .inr (.inr h)

end Go.Proofs.Ytfdoddeccnjcmaa
