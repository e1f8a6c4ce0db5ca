/- Own work: contracts of functions that the claim reaches. No condition beyond those that each theorem names. -/
import Derived.Test.YtfdoddeccnjcmaaProg
import Derived.Test.YtfdoddeccnjcmaaEnum
namespace Go.Proofs.Ytfdoddeccnjcmaa
open Go Go.Vc
set_option maxRecDepth 100000
set_option linter.unusedSimpArgs false
set_option linter.unusedVariables false
/-! Sums of worths; full allocations; the lists of an enumeration. -/
theorem map_range {α : Type} (d : α) (l : List α) : l = (List.range l.length).map fun g => l.getD g d := by
  refine List.ext_getElem (by simp) fun i h1 h2 => ?_
  simp [List.getD, h1]
theorem sum_row {xs : List Int} : xs.sum = ((List.range xs.length).map fun g => xs.getD g 0).sum := congrArg List.sum (map_range 0 xs)
theorem sum_at {n : Nat} {a x : Int} : ((List.range n).map fun k : Nat => if a = (k : Int) then x else 0).sum = if 0 ≤ a ∧ a < n then x else 0 := by
  induction n with
  | zero => simp; omega
  | succ n ih =>
    rw [List.range_succ, List.map_append, List.sum_append, ih]
    simp only [List.map_cons, List.map_nil, List.sum_cons, List.sum_nil]
    by_cases h : a = n
    · subst h; simp; intro h; omega
    · rw [if_neg h]
      by_cases h2 : 0 ≤ a ∧ a < n
      · rw [if_pos h2, if_pos (by omega)]; simp
      · rw [if_neg h2, if_neg (by omega)]; simp
theorem sum_add {f g : Nat → Int} : ∀ {n : Nat}, ((List.range n).map fun k => f k + g k).sum = ((List.range n).map f).sum + ((List.range n).map g).sum
  | 0 => by simp
  | n + 1 => by
    simp only [List.range_succ, List.map_append, List.sum_append, List.map_cons, List.map_nil, List.sum_cons, List.sum_nil]
    rw [sum_add]; omega
theorem sum_le {f : Nat → Int} {c : Int} : ∀ {n : Nat}, (∀ k, k < n → f k ≤ c) → ((List.range n).map f).sum ≤ n * c
  | 0, _ => by simp
  | n + 1, h => by
    have h1 := sum_le (n := n) fun k hk => h k (by omega)
    have h2 := h n (by omega)
    simp only [List.range_succ, List.map_append, List.sum_append, List.map_cons, List.map_nil, List.sum_cons, List.sum_nil]
    have : ((n + 1 : Nat) : Int) * c = n * c + c := by rw [Int.natCast_add, Int.add_mul]; simp
    omega
theorem sum_ge {f : Nat → Int} {c : Int} : ∀ {n : Nat}, (∀ k, k < n → c ≤ f k) → n * c ≤ ((List.range n).map f).sum
  | 0, _ => by simp
  | n + 1, h => by
    have h1 := sum_ge (n := n) fun k hk => h k (by omega)
    have h2 := h n (by omega)
    simp only [List.range_succ, List.map_append, List.sum_append, List.map_cons, List.map_nil, List.sum_cons, List.sum_nil]
    have : ((n + 1 : Nat) : Int) * c = n * c + c := by rw [Int.natCast_add, Int.add_mul]; simp
    omega
/-- Every one of the m goods has an owner. -/
structure Full (vs : List (List Int)) (l : List Int) (m : Nat) : Prop where
  len : l.length = m
  own : ∀ x ∈ l, 0 ≤ x ∧ x < vs.length
theorem worth_tot {r l : List Int} {n : Nat} : ∀ {j : Nat}, (∀ g, g < j → 0 ≤ l.getD g 0 ∧ l.getD g 0 < n) → ((List.range n).map fun k : Nat => worthL r l k j).sum = ((List.range j).map fun g => r.getD g 0).sum
  | 0, _ => by
    have : (List.range n).map (fun k : Nat => worthL r l k 0) = (List.range n).map fun _ => (0 : Int) := rfl
    rw [this]
    have := sum_le (f := fun _ => (0 : Int)) (c := 0) (n := n) fun _ _ => Int.le_refl _
    have := sum_ge (f := fun _ => (0 : Int)) (c := 0) (n := n) fun _ _ => Int.le_refl _
    simp only [List.range_zero, List.map_nil, List.sum_nil]; omega
  | j + 1, h => by
    have ih := worth_tot (r := r) (j := j) fun g hg => h g (by omega)
    have e : (fun k : Nat => worthL r l k (j + 1)) = fun k : Nat => worthL r l k j + if l.getD j 0 = (k : Int) then r.getD j 0 else 0 := rfl
    rw [e, sum_add, ih, sum_at, if_pos (h j (by omega))]
    simp only [List.range_succ, List.map_append, List.sum_append, List.map_cons, List.map_nil, List.sum_cons, List.sum_nil]
    omega
section
variable {vs : List (List Int)} {l : List Int} {m i : Nat}
theorem Full.at (F : Full vs l m) : ∀ g, g < m → 0 ≤ l.getD g 0 ∧ l.getD g 0 < vs.length := fun g hg => F.own _ (getD_mem (by rw [F.len]; exact hg))
theorem wo_tot (V : Vals vs m) (F : Full vs l m) (hi : i < vs.length) : ((List.range vs.length).map fun k : Nat => wo vs l i k).sum = (vs.getD i []).sum := by
  unfold wo
  rw [F.len, worth_tot F.at, sum_row (xs := vs.getD i []), V.len i hi]
theorem full_alloc (h : rectB vs 3 6 100 = true) (V : Vals vs m) (hm : (vs.getD 0 []).length = m) (F : Full vs l m) : allocB vs l = true := by
  simp only [allocB, Bool.and_eq_true, decide_eq_true_eq, List.all_eq_true, inI]
  refine ⟨⟨h, by rw [hm]; exact F.len⟩, fun x hx => ?_⟩
  have := F.own x hx
  omega
theorem free_iff : freeB vs l = true ↔ ∀ i k, i < vs.length → k < vs.length → wo vs l i k ≤ wo vs l i i := by
  simp only [freeB, List.all_eq_true, List.mem_range, decide_eq_true_eq]
  exact ⟨fun h i k hi hk => h i hi k hk, fun h i hi k hk => h i k hi hk⟩
end
theorem sn_surj {low : Int} {b : Nat} : ∀ {k : Nat} {l : List Int}, l.length = k → (∀ x ∈ l, low ≤ x ∧ x < low + b) → ∃ j, j < b ^ k ∧ sn low b k j = l
  | 0, l, h, _ => ⟨0, by simp, by rw [List.eq_nil_of_length_eq_zero h]; rfl⟩
  | k + 1, l, h, hb => by
    have hne : l ≠ [] := fun e => by rw [e] at h; simp at h
    obtain ⟨j, h1, h2⟩ := sn_surj (low := low) (b := b) (k := k) (l := l.dropLast) (by simp [h]) fun x hx => hb x (List.dropLast_subset l hx)
    have hx := hb _ (List.getLast_mem hne)
    refine ⟨j * b + (l.getLast hne - low).toNat, ?_, ?_⟩
    · have : (j + 1) * b ≤ b ^ k * b := Nat.mul_le_mul_right b h1
      rw [Nat.pow_succ]; rw [Nat.succ_mul] at this; omega
    · have hlt : (l.getLast hne - low).toNat < b := by omega
      simp only [sn]
      rw [Nat.mul_comm j b, Nat.mul_add_div (by omega), Nat.div_eq_of_lt hlt, Nat.add_zero, h2, Nat.mul_add_mod, Nat.mod_eq_of_lt hlt, Int.toNat_of_nonneg (by omega)]
      rw [show low + (l.getLast hne - low) = l.getLast hne by omega]
      exact List.dropLast_concat_getLast hne
theorem cntN_pos {p : List Int → Bool} {b m : Nat} : ∀ {c j : Nat}, j < c → p (sn 0 b m j) = true → 1 ≤ cntN p b m c
  | c + 1, j, h, hp => by
    simp only [cntN]
    by_cases hj : j = c
    · subst hj; rw [if_pos hp]; omega
    · have := cntN_pos (c := c) (by omega) hp; omega
theorem worthOf_eq {vs : List (List Int)} {l : List Int} {i k : Nat} (h : allocB vs l = true) (hi : i < vs.length) (hk : k < vs.length) : worthOfF vs l i k = wo vs l i k := by
  unfold worthOfF
  rw [if_pos]
  · rfl
  · simp only [h, inI, Bool.and_eq_true, decide_eq_true_eq, true_and]; omega

end Go.Proofs.Ytfdoddeccnjcmaa
