/- Own work: contracts of functions that the claim reaches. No condition beyond those that each theorem names. -/
import Derived.Test.YtelblnfnfeoapaaProg
import Derived.Test.YtelblnfnfeoapaaV4
namespace Go.Proofs.Ytelblnfnfeoapaa
open Go Go.Vc
set_option maxRecDepth 100000
set_option linter.unusedSimpArgs false
set_option linter.unusedVariables false
theorem mo : Try.prog.follows .mixedOrders = true := by kernel_rfl
theorem getD_mem {α : Type} {xs : List α} {j : Nat} {d : α} (h : j < xs.length) : xs.getD j d ∈ xs := by
  rw [List.getD, List.getElem?_eq_getElem h]; exact List.getElem_mem h
theorem mem_getD {α : Type} {xs : List α} {x : α} (d : α) (h : x ∈ xs) : ∃ j, j < xs.length ∧ xs.getD j d = x := by
  obtain ⟨j, hj, e⟩ := List.getElem_of_mem h
  exact ⟨j, hj, by rw [List.getD, List.getElem?_eq_getElem hj]; exact e⟩
theorem take_getD {α : Type} {xs : List α} {j : Nat} (d : α) (h : j < xs.length) : xs.take (j + 1) = xs.take j ++ [xs.getD j d] := by
  rw [List.take_succ_eq_append_getElem h, List.getD, List.getElem?_eq_getElem h]; rfl
theorem drop_getD {α : Type} {xs : List α} {j : Nat} (d : α) (h : j < xs.length) : xs.drop j = xs.getD j d :: xs.drop (j + 1) := by
  rw [List.drop_eq_getElem_cons h, List.getD, List.getElem?_eq_getElem h]; rfl
/-- The first place whose element has the property, or -1. -/
def idxP {α : Type} (p : α → Bool) (xs : List α) : Int := match xs.findIdx? p with
  | some i => i
  | none => -1
theorem idxP_hit {α : Type} {d : α} {p : α → Bool} {xs : List α} {j : Nat} (hj : j < xs.length) (hp : p (xs.getD j d) = true) (hb : ∀ i, i < j → p (xs.getD i d) = false) : idxP p xs = j := by
  have : xs.findIdx? p = some j := by
    rw [List.findIdx?_eq_some_iff_getElem]
    refine ⟨hj, by simpa [List.getD, hj] using hp, fun i hi => ?_⟩
    have := hb i hi
    simpa [List.getD, Nat.lt_trans hi hj] using this
  rw [idxP, this]
theorem idxP_miss {α : Type} {d : α} {p : α → Bool} {xs : List α} (hb : ∀ i, i < xs.length → p (xs.getD i d) = false) : idxP p xs = -1 := by
  have : xs.findIdx? p = none := by
    rw [List.findIdx?_eq_none_iff]
    intro x hx
    obtain ⟨j, hj, e⟩ := mem_getD d hx
    rw [← e]; exact hb j hj
  rw [idxP, this]
theorem idxP_cases {α : Type} (d : α) (p : α → Bool) (xs : List α) : (∃ j, j < xs.length ∧ p (xs.getD j d) = true ∧ (∀ i, i < j → p (xs.getD i d) = false) ∧ idxP p xs = j) ∨ ((∀ x ∈ xs, p x = false) ∧ idxP p xs = -1) := by
  cases h : xs.findIdx? p with
  | none =>
    right
    rw [List.findIdx?_eq_none_iff] at h
    exact ⟨h, by rw [idxP, List.findIdx?_eq_none_iff.2 h]⟩
  | some j =>
    left
    have h' := h
    rw [List.findIdx?_eq_some_iff_getElem] at h
    obtain ⟨hj, hp, hb⟩ := h
    refine ⟨j, hj, by simpa [List.getD, hj] using hp, fun i hi => ?_, by rw [idxP, h']⟩
    have := hb i hi
    simpa [List.getD, Nat.lt_trans hi hj] using this
theorem idxP_any {α : Type} {p : α → Bool} {xs : List α} : decide (0 ≤ idxP p xs) = xs.any p := by
  cases h : xs.any p with
  | true =>
    obtain ⟨x, hx, hp⟩ := List.any_eq_true.1 h
    rcases idxP_cases x p xs with ⟨j, _, _, _, e⟩ | ⟨hn, _⟩
    · rw [e]; simp
    · rw [hn x hx] at hp; cases hp
  | false =>
    have hn : ∀ x ∈ xs, p x = false := fun x hx => by
      have := List.any_eq_false.1 h x hx; simpa using this
    have : idxP p xs = -1 := by
      cases xs with
      | nil => rfl
      | cons x _ => exact idxP_miss (d := x) fun i hi => hn _ (getD_mem hi)
    rw [this]; rfl
theorem and_ge {a b : Prop} [Decidable a] [Decidable b] : (bif decide a then decide b else false) = decide (a ∧ b) := by
  by_cases h : a <;> simp [h]
theorem all_of_getD {α : Type} (d : α) {p : α → Bool} {xs : List α} (h : ∀ i, i < xs.length → p (xs.getD i d) = true) : xs.all p = true := by
  rw [List.all_eq_true]
  intro x hx
  obtain ⟨j, hj, e⟩ := mem_getD d hx
  rw [← e]; exact h j hj
theorem not_all_getD {α : Type} (d : α) {p : α → Bool} {xs : List α} {j : Nat} (hj : j < xs.length) (h : p (xs.getD j d) = false) : xs.all p = false := by
  rw [List.all_eq_false]
  exact ⟨_, getD_mem hj, by rw [h]; simp⟩
theorem all_range {n : Nat} {p : Nat → Bool} (h : ∀ i, i < n → p i = true) : (List.range n).all p = true := by
  rw [List.all_eq_true]; intro i hi; exact h i (by simpa using hi)
theorem not_all_range {n i : Nat} {p : Nat → Bool} (hi : i < n) (h : p i = false) : (List.range n).all p = false := by
  rw [List.all_eq_false]; exact ⟨i, by simpa using hi, by rw [h]; simp⟩
theorem all_range_iff {n : Nat} {p : Nat → Bool} : (List.range n).all p = true ↔ ∀ i, i < n → p i = true := by
  rw [List.all_eq_true]; exact ⟨fun h i hi => h i (by simpa using hi), fun h i hi => h i (by simpa using hi)⟩

end Go.Proofs.Ytelblnfnfeoapaa
