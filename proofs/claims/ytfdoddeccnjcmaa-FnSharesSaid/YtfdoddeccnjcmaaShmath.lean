/- Own work: contracts of functions that the claim reaches. No condition beyond those that each theorem names. -/
import Derived.Test.YtfdoddeccnjcmaaProg
import Derived.Test.YtfdoddeccnjcmaaEfx
import Derived.Test.YtfdoddeccnjcmaaAlmost
import Derived.Test.YtfdoddeccnjcmaaCutpick
import Derived.Test.YtfdoddeccnjcmaaMost
namespace Go.Proofs.Ytfdoddeccnjcmaa
open Go Go.Vc
set_option maxRecDepth 100000
set_option linter.unusedSimpArgs false
set_option linter.unusedVariables false
/-! What the law of shares says, of numbers. -/
theorem sum_row {xs : List Int} : xs.sum = ((List.range xs.length).map fun g => xs.getD g 0).sum := congrArg List.sum (map_range 0 xs)
theorem sum_at {n : Nat} {a x : Int} : ((List.range n).map fun k : Nat => if a = (k : Int) then x else 0).sum = if 0 ≤ a ∧ a < n then x else 0 := by
  induction n with
  | zero => simp; omega
  | succ n ih =>
    rw [List.range_succ, List.map_append, List.sum_append, ih]
    simp only [List.map_cons, List.map_nil, List.sum_cons, List.sum_nil]
    by_cases h : a = n
    · subst h; simp; intro h; omega
    · rw [if_neg h]
      by_cases h2 : 0 ≤ a ∧ a < n
      · rw [if_pos h2, if_pos (by omega)]; simp
      · rw [if_neg h2, if_neg (by omega)]; simp
theorem sum_add {f g : Nat → Int} : ∀ {n : Nat}, ((List.range n).map fun k => f k + g k).sum = ((List.range n).map f).sum + ((List.range n).map g).sum
  | 0 => by simp
  | n + 1 => by
    simp only [List.range_succ, List.map_append, List.sum_append, List.map_cons, List.map_nil, List.sum_cons, List.sum_nil]
    rw [sum_add]; omega
theorem sum_le {f : Nat → Int} {c : Int} : ∀ {n : Nat}, (∀ k, k < n → f k ≤ c) → ((List.range n).map f).sum ≤ n * c
  | 0, _ => by simp
  | n + 1, h => by
    have h1 := sum_le (n := n) fun k hk => h k (by omega)
    have h2 := h n (by omega)
    simp only [List.range_succ, List.map_append, List.sum_append, List.map_cons, List.map_nil, List.sum_cons, List.sum_nil]
    have : ((n + 1 : Nat) : Int) * c = n * c + c := by rw [Int.natCast_add, Int.add_mul]; simp
    omega
theorem sum_ge {f : Nat → Int} {c : Int} : ∀ {n : Nat}, (∀ k, k < n → c ≤ f k) → n * c ≤ ((List.range n).map f).sum
  | 0, _ => by simp
  | n + 1, h => by
    have h1 := sum_ge (n := n) fun k hk => h k (by omega)
    have h2 := h n (by omega)
    simp only [List.range_succ, List.map_append, List.sum_append, List.map_cons, List.map_nil, List.sum_cons, List.sum_nil]
    have : ((n + 1 : Nat) : Int) * c = n * c + c := by rw [Int.natCast_add, Int.add_mul]; simp
    omega
/-- Every one of the m goods has an owner. -/
structure Full (vs : List (List Int)) (l : List Int) (m : Nat) : Prop where
  len : l.length = m
  own : ∀ x ∈ l, 0 ≤ x ∧ x < vs.length
theorem worth_tot {r l : List Int} {n : Nat} : ∀ {j : Nat}, (∀ g, g < j → 0 ≤ l.getD g 0 ∧ l.getD g 0 < n) → ((List.range n).map fun k : Nat => worthL r l k j).sum = ((List.range j).map fun g => r.getD g 0).sum
  | 0, _ => by
    have : (List.range n).map (fun k : Nat => worthL r l k 0) = (List.range n).map fun _ => (0 : Int) := rfl
    rw [this]
    have := sum_le (f := fun _ => (0 : Int)) (c := 0) (n := n) fun _ _ => Int.le_refl _
    have := sum_ge (f := fun _ => (0 : Int)) (c := 0) (n := n) fun _ _ => Int.le_refl _
    simp only [List.range_zero, List.map_nil, List.sum_nil]; omega
  | j + 1, h => by
    have ih := worth_tot (r := r) (j := j) fun g hg => h g (by omega)
    have e : (fun k : Nat => worthL r l k (j + 1)) = fun k : Nat => worthL r l k j + if l.getD j 0 = (k : Int) then r.getD j 0 else 0 := rfl
    rw [e, sum_add, ih, sum_at, if_pos (h j (by omega))]
    simp only [List.range_succ, List.map_append, List.sum_append, List.map_cons, List.map_nil, List.sum_cons, List.sum_nil]
    omega
section
variable {vs : List (List Int)} {l : List Int} {m i : Nat}
theorem Full.at (F : Full vs l m) : ∀ g, g < m → 0 ≤ l.getD g 0 ∧ l.getD g 0 < vs.length := fun g hg => F.own _ (getD_mem (by rw [F.len]; exact hg))
theorem wo_tot (V : Vals vs m) (F : Full vs l m) (hi : i < vs.length) : ((List.range vs.length).map fun k : Nat => wo vs l i k).sum = (vs.getD i []).sum := by
  unfold wo
  rw [F.len, worth_tot F.at, sum_row (xs := vs.getD i []), V.len i hi]
theorem full_alloc (h : rectB vs 3 6 100 = true) (V : Vals vs m) (hm : (vs.getD 0 []).length = m) (F : Full vs l m) : allocB vs l = true := by
  simp only [allocB, Bool.and_eq_true, decide_eq_true_eq, List.all_eq_true, inI]
  refine ⟨⟨h, by rw [hm]; exact F.len⟩, fun x hx => ?_⟩
  have := F.own x hx
  omega
theorem free_iff : freeB vs l = true ↔ ∀ i k, i < vs.length → k < vs.length → wo vs l i k ≤ wo vs l i i := by
  simp only [freeB, List.all_eq_true, List.mem_range, decide_eq_true_eq]
  exact ⟨fun h i k hi hk => h i hi k hk, fun h i hi k hk => h i k hi hk⟩
theorem free_prop (V : Vals vs m) (F : Full vs l m) (h : freeB vs l = true) : propB vs l = true := by
  simp only [propB, List.all_eq_true, List.mem_range, decide_eq_true_eq]
  intro i hi
  rw [← wo_tot V F hi]
  exact sum_le fun k hk => free_iff.1 h i k hi hk
theorem partN_le {i : Nat} : ∀ {j k : Nat}, k < j → partN vs l i j ≤ wo vs l i k
  | j + 1, k, h => by
    simp only [partN]
    by_cases hk : k = j
    · subst hk; omega
    · have := partN_le (i := i) (j := j) (k := k) (by omega); omega
theorem share_part (V : Vals vs m) (F : Full vs l m) (hi : i < vs.length) : vs.length * partF vs i l ≤ (vs.getD i []).sum := by
  rw [← wo_tot V F hi]
  exact sum_ge fun k hk => partN_le hk
theorem cut_of (h : rectB vs 3 6 100 = true) (hi : i < vs.length) : cutB vs i = true := by
  simp only [cutB, h, Bool.true_and, inI, Bool.and_eq_true, decide_eq_true_eq]; omega
theorem cut_full (h : rectB vs 3 6 100 = true) (hi : i < vs.length) : Full vs (cutF vs i) (vs.getD 0 []).length := by
  obtain ⟨_, h2, h3⟩ := cut_len (cut_of h hi)
  exact ⟨h2, h3⟩
theorem share_eq (h : rectB vs 3 6 100 = true) (hi : i < vs.length) : shareI vs i = partF vs i (cutF vs i) := by
  unfold shareI; rw [if_pos (cut_of h hi)]; rfl
theorem share_le (h : rectB vs 3 6 100 = true) (hi : i < vs.length) : vs.length * shareI vs i ≤ (vs.getD i []).sum := by
  rw [share_eq h hi]; exact share_part (vals_of h) (cut_full h hi) hi
theorem share_nn (h : rectB vs 3 6 100 = true) (hi : i < vs.length) : 0 ≤ shareI vs i := by
  rw [share_eq h hi]
  exact (partN_bd (by rw [(cut_full h hi).len]; exact vals_of h) hi).1
theorem gets_iff : getsB vs l = true ↔ allocB vs l = true ∧ ∀ i, i < vs.length → shareI vs i ≤ wo vs l i i := by
  simp only [getsB, Bool.and_eq_true, List.all_eq_true, List.mem_range, Bool.not_eq_true', decide_eq_false_iff_not, Int.not_lt]
theorem prop_gets (h : rectB vs 3 6 100 = true) (F : Full vs l (vs.getD 0 []).length) (hp : propB vs l = true) : getsB vs l = true := by
  refine gets_iff.2 ⟨full_alloc h (vals_of h) rfl F, fun i hi => ?_⟩
  simp only [propB, List.all_eq_true, List.mem_range, decide_eq_true_eq] at hp
  have h1 := Int.le_trans (share_le h hi) (hp i hi)
  exact Int.le_of_mul_le_mul_left h1 (by have := (vals_of h).n1; omega)
theorem near_iff : nearB vs l = true ↔ ∀ i g, i < vs.length → g < l.length → 0 ≤ l.getD g 0 → l.getD g 0 ≠ i → wo vs l i (l.getD g 0) - (vs.getD i []).getD g 0 ≤ wo vs l i i := by
  simp only [nearB, List.all_eq_true, List.mem_range, nearAt, Bool.not_eq_true', Bool.and_eq_false_iff, decide_eq_false_iff_not]
  constructor
  · intro h i g hi hg h0 hn
    rcases h i hi g hg with (h | h) | h
    · exact absurd h0 h
    · exact absurd hn h
    · omega
  · intro h i hi g hg
    by_cases h0 : 0 ≤ l.getD g 0
    · by_cases hn : l.getD g 0 ≠ i
      · have := h i g hi hg h0 hn; right; omega
      · left; right; exact hn
    · left; left; exact h0
theorem free_near (V : Vals vs m) (F : Full vs l m) (h : freeB vs l = true) : nearB vs l = true := by
  refine near_iff.2 fun i g hi hg h0 hn => ?_
  rw [F.len] at hg
  have hk := F.at g hg
  have h1 := free_iff.1 h i (l.getD g 0).toNat hi (by omega)
  rw [Int.toNat_of_nonneg h0] at h1
  have := (V.bd i g hi hg).1
  omega
theorem worth_good {r l : List Int} {k : Int} : ∀ {j : Nat}, worthL r l k j ≠ 0 → ∃ g, g < j ∧ l.getD g 0 = k
  | 0, h => absurd rfl h
  | j + 1, h => by
    by_cases hk : l.getD j 0 = k
    · exact ⟨j, by omega, hk⟩
    · simp only [worthL, if_neg hk, Int.add_zero] at h
      obtain ⟨g, h1, h2⟩ := worth_good h; exact ⟨g, by omega, h2⟩
theorem near_alm (V : Vals vs m) (F : Full vs l m) (h : nearB vs l = true) : almB vs l = true := by
  simp only [almB, List.all_eq_true, List.mem_range, okAt, decide_eq_true_eq]
  intro i hi k hk
  refine bestN_iff.2 ?_
  by_cases he : envy vs l i k ≤ 0
  · exact .inl he
  have h0 : wo vs l i i < wo vs l i k := by unfold envy at he; omega
  have h1 := (wo_bd (vs := vs) (l := l) (i := i) (k := (i : Int)) (by rw [F.len]; exact V) hi).1
  obtain ⟨g, hg, hgk⟩ := worth_good (r := vs.getD i []) (l := l) (k := (k : Int)) (j := l.length) (by unfold wo at h0 h1; omega)
  have hne : l.getD g 0 ≠ i := by
    rw [hgk]; intro e
    have : k = i := by omega
    subst this; omega
  have := near_iff.1 h i g hi hg (by omega) hne
  rw [hgk] at this
  exact .inr ⟨g, hg, hgk, by unfold envy; omega⟩
end
theorem sn_surj {low : Int} {b : Nat} : ∀ {k : Nat} {l : List Int}, l.length = k → (∀ x ∈ l, low ≤ x ∧ x < low + b) → ∃ j, j < b ^ k ∧ sn low b k j = l
  | 0, l, h, _ => ⟨0, by simp, by rw [List.eq_nil_of_length_eq_zero h]; rfl⟩
  | k + 1, l, h, hb => by
    have hne : l ≠ [] := fun e => by rw [e] at h; simp at h
    obtain ⟨j, h1, h2⟩ := sn_surj (low := low) (b := b) (k := k) (l := l.dropLast) (by simp [h]) fun x hx => hb x (List.dropLast_subset l hx)
    have hx := hb _ (List.getLast_mem hne)
    refine ⟨j * b + (l.getLast hne - low).toNat, ?_, ?_⟩
    · have : (j + 1) * b ≤ b ^ k * b := Nat.mul_le_mul_right b h1
      rw [Nat.pow_succ]; rw [Nat.succ_mul] at this; omega
    · have hlt : (l.getLast hne - low).toNat < b := by omega
      simp only [sn]
      rw [Nat.mul_comm j b, Nat.mul_add_div (by omega), Nat.div_eq_of_lt hlt, Nat.add_zero, h2, Nat.mul_add_mod, Nat.mod_eq_of_lt hlt, Int.toNat_of_nonneg (by omega)]
      rw [show low + (l.getLast hne - low) = l.getLast hne by omega]
      exact List.dropLast_concat_getLast hne
theorem cntN_pos {p : List Int → Bool} {b m : Nat} : ∀ {c j : Nat}, j < c → p (sn 0 b m j) = true → 1 ≤ cntN p b m c
  | c + 1, j, h, hp => by
    simp only [cntN]
    by_cases hj : j = c
    · subst hj; rw [if_pos hp]; omega
    · have := cntN_pos (c := c) (by omega) hp; omega
theorem near_count {vs : List (List Int)} (h : rectB vs 3 6 100 = true) (m5 : (vs.getD 0 []).length ≤ 5) : 1 ≤ cntF vs (nearB vs) := by
  obtain ⟨l, h1, h2, h3⟩ := near_ex (vals_of h) m5
  obtain ⟨j, h4, h5⟩ := sn_surj (low := 0) (b := vs.length) h1 (fun x hx => by have := h2 x hx; omega)
  unfold cntF
  rw [if_pos h]
  have := cntN_pos (p := nearB vs) h4 (by rw [h5]; exact h3)
  omega
/-- The first best one is best. -/
theorem bst_max {f : List Int → Int} {S : Nat → List Int} : ∀ {k j : Nat}, j < k → f (S j) ≤ f (bstL (fun l => [f l]) S k)
  | k + 1, j, h => by
    rw [bstL]
    simp only [cmpL_1]
    by_cases hk : k = 0
    · rw [if_pos (.inl hk)]; have : j = k := by omega
      rw [this]; exact Int.le_refl _
    · by_cases hc : f (bstL (fun l => [f l]) S k) < f (S k)
      · rw [if_pos (.inr hc)]
        by_cases hj : j = k
        · subst hj; exact Int.le_refl _
        · have := bst_max (f := f) (S := S) (k := k) (j := j) (by omega); omega
      · rw [if_neg (by omega)]
        by_cases hj : j = k
        · subst hj; omega
        · exact bst_max (by omega)
theorem leastN_nn {vs : List (List Int)} {l : List Int} (V : Vals vs l.length) : 0 ≤ leastN vs l vs.length := (leastN_bd V (Nat.le_refl _)).1
theorem least_best {vs : List (List Int)} {l : List Int} (h : rectB vs 3 6 100 = true) (F : Full vs l (vs.getD 0 []).length) : 0 ≤ leastPartF vs l ∧ leastPartF vs l ≤ blpF vs := by
  have V := vals_of h
  have e : leastPartF vs l = leastN vs l vs.length := if_pos (full_alloc h V rfl F)
  rw [e]
  refine ⟨leastN_nn (by rw [F.len]; exact V), ?_⟩
  unfold blpF
  rw [if_pos h]
  obtain ⟨j, h4, h5⟩ := sn_surj (low := 0) (b := vs.length) F.len (fun x hx => by have := F.own x hx; omega)
  have := bst_max (f := fun l => leastN vs l vs.length) (S := sn 0 vs.length (vs.getD 0 []).length) h4
  simp only [h5] at this
  exact this
theorem flipN_at {l : List Int} : ∀ {j i : Nat}, i < j → j ≤ l.length → (flipN l j).getD i 0 = 1 - l.getD i 0
  | j + 1, i, h, hl => by
    simp only [flipN]
    by_cases hi : i = j
    · subst hi
      have : i < (flipN l i).length := by rw [flipN_len]; omega
      simp [List.getD, this]
    · have : ((flipN l j).set j (1 - l.getD j 0)).getD i 0 = (flipN l j).getD i 0 := by simp [List.getD, show j ≠ i by omega]
      rw [this]; exact flipN_at (by omega) (by omega)
theorem flip_worth {r l : List Int} {k : Int} : ∀ {j : Nat}, j ≤ l.length → worthL r (flipN l l.length) k j = worthL r l (1 - k) j
  | 0, _ => rfl
  | j + 1, h => by
    simp only [worthL]
    rw [flip_worth (by omega), flipN_at (by omega) (Nat.le_refl _)]
    congr 1
    by_cases c : l.getD j 0 = 1 - k
    · rw [if_pos c, if_pos (by omega)]
    · rw [if_neg c, if_neg (by omega)]
theorem flip_wo {vs : List (List Int)} {l : List Int} {i : Nat} {k : Int} : wo vs (flipN l l.length) i k = wo vs l i (1 - k) := by
  unfold wo; rw [flipN_len]; exact flip_worth (Nat.le_refl _)
theorem flip_full {vs : List (List Int)} {l : List Int} {m : Nat} (h2 : vs.length = 2) (F : Full vs l m) : Full vs (flipN l l.length) m := by
  refine ⟨by rw [flipN_len]; exact F.len, fun x hx => ?_⟩
  obtain ⟨i, hi, rfl⟩ := List.getElem_of_mem hx
  rw [flipN_len] at hi
  have h1 := flipN_at hi (Nat.le_refl l.length)
  have h3 := F.own _ (getD_mem (d := 0) hi)
  have : (flipN l l.length).getD i 0 = (flipN l l.length)[i] := by simp [List.getD, flipN_len, hi]
  rw [← this, h1]; omega
theorem pick_gets {vs : List (List Int)} (h : rectB vs 3 6 100 = true) (h2 : vs.length = 2) : getsB vs (pickF vs) = true ∧ Full vs (pickF vs) (vs.getD 0 []).length ∧ wo vs (pickF vs) 1 0 ≤ wo vs (pickF vs) 1 1 := by
  have V := vals_of h
  have hp : pickB vs = true := by simp [pickB, h, h2]
  have F : Full vs (cutF vs 0) (vs.getD 0 []).length := cut_full (i := 0) h (by omega)
  have e0 : shareI vs 0 = partF vs 0 (cutF vs 0) := share_eq (i := 0) h (by omega)
  have s00 : partF vs 0 (cutF vs 0) ≤ wo vs (cutF vs 0) 0 0 := by have := partN_le (vs := vs) (l := cutF vs 0) (i := 0) (j := vs.length) (k := 0) (by omega); exact this
  have s01 : partF vs 0 (cutF vs 0) ≤ wo vs (cutF vs 0) 0 1 := by have := partN_le (vs := vs) (l := cutF vs 0) (i := 0) (j := vs.length) (k := 1) (by omega); exact this
  have main : ∀ x, Full vs x (vs.getD 0 []).length → partF vs 0 (cutF vs 0) ≤ wo vs x 0 0 → wo vs x 1 0 ≤ wo vs x 1 1 → getsB vs x = true := fun x Fx h00 h11 => by
    refine gets_iff.2 ⟨full_alloc h V rfl Fx, fun i hi => ?_⟩
    obtain rfl | rfl : i = 0 ∨ i = 1 := by omega
    · show shareI vs 0 ≤ _
      rw [e0]; exact h00
    · have h3 := share_le (i := 1) h hi
      have h4 := wo_tot (i := 1) V Fx hi
      rw [h2] at h3 h4
      have h5 : (((List.range 2).map fun k : Nat => wo vs x 1 k).sum : Int) = wo vs x 1 0 + wo vs x 1 1 := by simp [List.range_succ]
      rw [h5] at h4
      have h6 : shareI vs ((1 : Nat) : Int) = shareI vs 1 := rfl
      show shareI vs ((1 : Nat) : Int) ≤ wo vs x 1 ((1 : Nat) : Int)
      have h7 : wo vs x 1 ((1 : Nat) : Int) = wo vs x 1 1 := rfl
      rw [h7]; omega
  unfold pickF
  rw [if_pos hp]
  split
  · rename_i hc
    have f1 : wo vs (flipN (cutF vs 0) (cutF vs 0).length) 1 1 = wo vs (cutF vs 0) 1 0 := flip_wo
    have f0 : wo vs (flipN (cutF vs 0) (cutF vs 0).length) 1 0 = wo vs (cutF vs 0) 1 1 := flip_wo
    have f2 : wo vs (flipN (cutF vs 0) (cutF vs 0).length) 0 0 = wo vs (cutF vs 0) 0 1 := flip_wo
    have Fx := flip_full h2 F
    exact ⟨main _ Fx (by rw [f2]; exact s01) (by omega), Fx, by omega⟩
  · rename_i hc
    exact ⟨main _ F s00 (by omega), F, by omega⟩
theorem worthOf_eq {vs : List (List Int)} {l : List Int} {i k : Nat} (h : allocB vs l = true) (hi : i < vs.length) (hk : k < vs.length) : worthOfF vs l i k = wo vs l i k := by
  unfold worthOfF
  rw [if_pos]
  · rfl
  · simp only [h, inI, Bool.and_eq_true, decide_eq_true_eq, true_and]; omega

end Go.Proofs.Ytfdoddeccnjcmaa
