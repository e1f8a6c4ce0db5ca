/- Own work: contracts of functions that the claim reaches. No condition beyond those that each theorem names. -/
import Derived.Test.YtfdoddeccnjcmaaProg
import Derived.Test.YtfdoddeccnjcmaaRanks
import Derived.Test.YtfdoddeccnjcmaaSmall
namespace Go.Proofs.Ytfdoddeccnjcmaa
open Go Go.Vc
set_option maxRecDepth 100000
set_option linter.unusedSimpArgs false
set_option linter.unusedVariables false
/- spec_l03All: not in this cut -/
/- spec_AllRankings: not in this cut -/
/-- The rankings of m that begin with l, k places being open. -/
def l03 (m : Nat) : Nat → List Int → List (List Int)
  | 0, l => [l]
  | k + 1, l => (List.range m).flatMap fun (x : Nat) => if placeI l (x : Int) < 0 then l03 m k (l ++ [(x : Int)]) else []
def l03P (m k : Nat) (l : List Int) (n : Nat) : List (List Int) := (List.range n).flatMap fun (x : Nat) => if placeI l (x : Int) < 0 then l03 m k (l ++ [(x : Int)]) else []
theorem l03P_s {m k : Nat} {l : List Int} {n : Nat} : l03P m k l (n + 1) = l03P m k l n ++ if placeI l (n : Int) < 0 then l03 m k (l ++ [(n : Int)]) else [] := by
  simp [l03P, List.range_succ]
theorem l03_len {m : Nat} : ∀ {k : Nat} {l : List Int}, (l03 m k l).length ≤ m ^ k
  | 0, l => by simp [l03]
  | k + 1, l => by
    have : ∀ n, (l03P m k l n).length ≤ n * m ^ k := by
      intro n
      induction n with
      | zero => simp [l03P]
      | succ n ih =>
        rw [l03P_s, List.length_append]
        have h1 : (if placeI l (n : Int) < 0 then l03 m k (l ++ [(n : Int)]) else []).length ≤ m ^ k := by
          split
          · exact l03_len
          · simp
        rw [Nat.succ_mul]; omega
    have := this m
    rw [Nat.pow_succ, Nat.mul_comm]; exact this
theorem l03P_len {m k : Nat} {l : List Int} : ∀ {n : Nat}, (l03P m k l n).length ≤ n * m ^ k
  | 0 => by simp [l03P]
  | n + 1 => by
    have h0 := l03P_len (m := m) (k := k) (l := l) (n := n)
    rw [l03P_s, List.length_append]
    have h1 : (if placeI l (n : Int) < 0 then l03 m k (l ++ [(n : Int)]) else []).length ≤ m ^ k := by
      split
      · exact l03_len
      · simp
    rw [Nat.succ_mul]; omega
def allRank (m : Int) : List (List Int) := if inI m 1 5 then l03 m.toNat m.toNat [] else []
end Go.Proofs.Ytfdoddeccnjcmaa
