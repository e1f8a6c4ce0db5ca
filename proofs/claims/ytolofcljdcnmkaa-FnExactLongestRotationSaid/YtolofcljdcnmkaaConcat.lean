/- Own work: contracts of functions that the claim reaches. No condition beyond those that each theorem names. -/
import Derived.Test.YtolofcljdcnmkaaProg
import Derived.Test.YtolofcljdcnmkaaSmall
namespace Go.Proofs.Ytolofcljdcnmkaa
open Go Go.Vc
set_option maxRecDepth 100000
set_option linter.unusedSimpArgs false
set_option linter.unusedVariables false
/- slices_Grow_Sint_int: not in this cut -/
/- slices_Concat_Sint_int: not in this cut -/
/- impl_indices: not in this cut -/
/-- The numbers below n. -/
def upto (n : Nat) : List Int := (List.range n).map fun (x : Nat) => (x : Int)
theorem upto_len {n : Nat} : (upto n).length = n := by simp [upto]
/-- The numbers below j, and noughts behind. -/
def uptoJ (n j : Nat) : List Int := (List.range n).map fun (x : Nat) => if x < j then (x : Int) else 0
theorem uptoJ_len {n j : Nat} : (uptoJ n j).length = n := by simp [uptoJ]
theorem uptoJ_s {n j : Nat} (h : j < n) : (uptoJ n j).set j j = uptoJ n (j + 1) := by
  apply List.ext_getElem
  · simp [uptoJ]
  · intro i h1 h2
    simp only [uptoJ, List.getElem_set, List.getElem_map, List.getElem_range]
    by_cases e : j = i
    · subst e; simp
    · rw [if_neg e]
      by_cases e2 : i < j
      · rw [if_pos e2, if_pos (by omega)]
      · rw [if_neg e2, if_neg (by omega)]
theorem uptoJ_n {n : Nat} : uptoJ n n = upto n := List.map_congr_left fun x hx => if_pos (by simpa using hx)
end Go.Proofs.Ytolofcljdcnmkaa
