/- Own work: contracts of functions that the claim reaches. No condition beyond those that each theorem names. -/
import Derived.Test.YtgdpplhbblapgaaProg
import Derived.Test.YtgdpplhbblapgaaRot
namespace Go.Proofs.Ytgdpplhbblapgaa
open Go Go.Vc
set_option maxRecDepth 100000
set_option linter.unusedSimpArgs false
set_option linter.unusedVariables false
def K_impl_BlockingPairs : List Nat := [0, 1, 2, 4, 1002, 2002]
def C_impl_BlockingPairs : C :=
 let ks := K_impl_BlockingPairs
 (.seq
  (.rg 0 [(none, .v 2 .boxS [.s 0]), (none, .mkn 4)])
  (.cl ks (.seq
  (.seq
  (.rg 0 [(none, .v 5 (.lds 2) [.s 2]), (none, .v 6 .mv [.s 1]), (none, .co 7 123 [.s 5, .s 6]), (none, .v 8 .not [.s 7])])
  (.cond (.s 8)
  (.seq
  (.rg 0 [(none, .mkn 4)])
  .ret)
  .skip))
  (.cl ks (.seq
  (.rg 0 [(none, .v 9 (.lds 2) [.s 2]), (none, .v 10 .mv [.s 1]), (none, .co 11 122 [.s 9, .s 10]), (none, .tk 4 11)])
  .ret)))))
theorem chk_impl_BlockingPairs : ∃ b, Try.f51.body = some b ∧ chk Try.prog Try.f51.ntmps true C_impl_BlockingPairs b = true := ⟨_, rfl, by kernel_rfl⟩
theorem impl_BlockingPairs_ok {n1 n2 n3 : Option Bool} (x y : List (List Int)) (l : List Int) (h0 : matchB x y l = true) (hx : x.length ≤ 1048576) (kx : ∀ r ∈ x, r.length ≤ 1048576) (hy : y.length ≤ 1048576) (ky : ∀ r ∈ y, r.length ≤ 1048576) (hl : l.length ≤ 1048576) :
  CallOk Try.prog 51 [.a [.s n1 (rr x), .s n2 (rr y)], .s n3 (ii l)] [(0, .own 1 none (rr (blkL x y l x.length x.length)))] := by
 obtain ⟨code0, hcd1, hcd2⟩ := chk_impl_BlockingPairs; refine callOk_of Try.func51 hcd1 mo Try.call51 (rs := [4]) (by kernel_rfl) hcd2 (by rw [Try.ntmps51]; simp) (by simp) (by decide) ?_; unfold C_impl_BlockingPairs K_impl_BlockingPairs; simp (maxSteps := 2000000) only [go_sem, Nat.reduceBEq, Nat.reduceAdd, Nat.reduceMul, Nat.reduceMod, Nat.reduceLT, Nat.reduceDiv, Nat.reduceSub, Nat.reduceLeDiff, Int.reduceToNat, Int.reduceLT, Int.reduceLE, reduceCtorEq]
 have h0' := h0
 simp only [matchB, Bool.and_eq_true] at h0'
 have M := mk_of h0'.1
 refine ⟨_, impl_IsMatching_ok x y l hx kx hy ky hl, ?_⟩; simp (maxSteps := 2000000) only [go_sem, Nat.reduceBEq, Nat.reduceAdd, Nat.reduceMul, Nat.reduceMod, Nat.reduceLT, Nat.reduceDiv, Nat.reduceSub, Nat.reduceLeDiff, Int.reduceToNat, Int.reduceLT, Int.reduceLE, reduceCtorEq]
 refine ⟨fun h1 => absurd (h0.symm.trans h1) (by simp), fun _ => ?_⟩
 refine ⟨_, impl_blocks_ok x y l x.length M h0'.2, ?_⟩; simp (maxSteps := 2000000) only [go_sem, Nat.reduceBEq, Nat.reduceAdd, Nat.reduceMul, Nat.reduceMod, Nat.reduceLT, Nat.reduceDiv, Nat.reduceSub, Nat.reduceLeDiff, Int.reduceToNat, Int.reduceLT, Int.reduceLE, reduceCtorEq]
theorem blkR_mem {x y : List (List Int)} {l : List Int} {i : Nat} {c : List Int} : ∀ {w : Nat}, c ∈ blkR x y l i w → ∃ v : Nat, v < w ∧ c = [(i : Int), (v : Int)] ∧ blkI x y l i v = true
 | 0, h => by simp [blkR] at h
 | w + 1, h => by
  simp only [blkR, List.mem_append] at h
  rcases h with h | h
  ·obtain ⟨v, h1, h2⟩ := blkR_mem h; exact ⟨v, by omega, h2⟩
  ·split at h
   ·rename_i hb; exact ⟨w, by omega, List.mem_singleton.1 h, hb⟩
   ·cases h
theorem blkL_mem {x y : List (List Int)} {l : List Int} {n : Nat} {c : List Int} : ∀ {k : Nat}, c ∈ blkL x y l n k → ∃ i v : Nat, i < k ∧ v < n ∧ c = [(i : Int), (v : Int)] ∧ blkI x y l i v = true
 | 0, h => by simp [blkL] at h
 | k + 1, h => by
  simp only [blkL, List.mem_append] at h
  rcases h with h | h
  ·obtain ⟨i, v, h1, h2⟩ := blkL_mem h; exact ⟨i, v, by omega, h2⟩
  ·obtain ⟨v, h1, h2⟩ := blkR_mem h; exact ⟨k, v, by omega, h1, h2⟩
end Go.Proofs.Ytgdpplhbblapgaa
