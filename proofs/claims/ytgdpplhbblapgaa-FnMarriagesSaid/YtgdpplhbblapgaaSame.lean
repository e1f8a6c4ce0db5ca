/- Own work: contracts of functions that the claim reaches. No condition beyond those that each theorem names. -/
import Derived.Test.YtgdpplhbblapgaaProg
import Derived.Test.YtgdpplhbblapgaaSmall
namespace Go.Proofs.Ytgdpplhbblapgaa
open Go Go.Vc
set_option maxRecDepth 100000
set_option linter.unusedSimpArgs false
set_option linter.unusedVariables false
def K_slices_Equal_Sint_int : List Nat := [0, 1, 4, 5, 12, 13]
def C_slices_Equal_Sint_int : C :=
 let ks := K_slices_Equal_Sint_int
 (.seq
  (.rg 0 [(none, .v 4 .mv [.k (.b false)])])
  (.cl ks (.seq
  (.seq
  (.rg 0 [(none, .v 6 .mv [.s 0]), (none, .v 7 .len [.s 6]), (none, .v 8 .mv [.s 1]), (none, .v 9 .len [.s 8]), (none, .v 10 (.bin .neq) [.s 7, .s 9])])
  (.cond (.s 10)
  (.seq
  (.rg 0 [(none, .v 4 .mv [.k (.b false)])])
  .ret)
  .skip))
  (.cl ks (.seq
  (.seq
  (.rg 0 [(none, .v 11 .mv [.s 0]), (none, .v 12 .len [.s 11]), (none, .v 13 .mv [.k (.i 0)])])
  (.cl ks (.block 0
  (.loop
  (.seq
  (.rg 0 [(none, .v 14 (.bin .lss) [.s 13, .s 12])])
  (.seq
  (.cond (.s 14)
  .skip
  (.exit 0))
  (.cl ks (.seq
  (.block 1
  (.seq
  (.rg 0 [(none, .v 15 .mv [.s 13]), (none, .tk 5 15)])
  (.cl ks (.seq
  (.rg 8 [(none, .v 16 .mv [.s 0]), (none, .v 17 .mv [.s 5]), (none, .v 18 .idx [.s 16, .s 17]), (none, .v 19 .ld [.s 18]), (none, .v 20 .mv [.s 1]), (none, .v 21 .mv [.s 5]), (none, .v 22 .idx [.s 20, .s 21]), (none, .v 23 .ld [.s 22]), (none, .v 24 (.bin .neq) [.s 19, .s 23])])
  (.cond (.s 24)
  (.seq
  (.rg 0 [(none, .v 4 .mv [.k (.b false)])])
  .ret)
  .skip)))))
  (.cl ks (.rg 0 [(none, .v 25 (.bin .add) [.s 13, .k (.i 1)]), (none, .v 13 .mv [.s 25])]))))))))))
  (.cl ks (.seq
  (.rg 0 [(none, .v 4 .mv [.k (.b true)])])
  .ret)))))))
theorem chk_slices_Equal_Sint_int : ∃ b, Try.f102.body = some b ∧ chk Try.prog Try.f102.ntmps true C_slices_Equal_Sint_int b = true := ⟨_, rfl, by kernel_rfl⟩
theorem ne_at {a b : List Int} {j : Nat} (hl : a.length = b.length) (h : a.getD j 0 ≠ b.getD j 0) : decide (a = b) = false := by
 apply decide_eq_false; intro e; subst e; exact h rfl
theorem eq_all {a b : List Int} (hl : a.length = b.length) (h : ∀ i, i < a.length → a.getD i 0 = b.getD i 0) : decide (a = b) = true := by
 apply decide_eq_true
 apply List.ext_getElem hl
 intro i h1 h2
 have := h i h1
 simpa [List.getD, h1, h2] using this
theorem Equal_ok {n1 n2 : Option Bool} (a b : List Int) (hl : a.length ≤ 1048576) (hl2 : b.length ≤ 1048576) : CallOk Try.prog 102 [.s n1 (ii a), .s n2 (ii b)] [(0, .b (decide (a = b)))] := by
 obtain ⟨code0, hcd1, hcd2⟩ := chk_slices_Equal_Sint_int; refine callOk_of Try.func102 hcd1 mo Try.call102 (rs := [4]) (by kernel_rfl) hcd2 (by rw [Try.ntmps102]; simp) (by simp) (by decide) ?_; unfold C_slices_Equal_Sint_int K_slices_Equal_Sint_int; simp (maxSteps := 2000000) only [go_sem, Nat.reduceBEq, Nat.reduceAdd, Nat.reduceMul, Nat.reduceMod, Nat.reduceLT, Nat.reduceDiv, Nat.reduceSub, Nat.reduceLeDiff, Int.reduceToNat, Int.reduceLT, Int.reduceLE, reduceCtorEq]
 refine ⟨fun h => ?_, fun h => ?_⟩
 ·rw [decide_eq_false]; intro e; subst e; omega
 ·have hlen : a.length = b.length := by omega
  refine loopN a.length (fun j => [(0, .t .arg (.s n1 (ii a))), (1, .t .arg (.s n2 (ii b))), (12, .i a.length), (13, .i (j : Nat))]) (fun j => ∀ i, i < j → a.getD i 0 = b.getD i 0) ⟨fun i hi => by omega, by simp (maxSteps := 2000000) only [go_sem, Nat.reduceBEq, Nat.reduceAdd, Nat.reduceMul, Nat.reduceMod, Nat.reduceLT, Nat.reduceDiv, Nat.reduceSub, Nat.reduceLeDiff, Int.reduceToNat, Int.reduceLT, Int.reduceLE, reduceCtorEq]; simp⟩ fun j hj hI => ?_
  simp (maxSteps := 2000000) only [go_sem, Nat.reduceBEq, Nat.reduceAdd, Nat.reduceMul, Nat.reduceMod, Nat.reduceLT, Nat.reduceDiv, Nat.reduceSub, Nat.reduceLeDiff, Int.reduceToNat, Int.reduceLT, Int.reduceLE, reduceCtorEq]
  refine ⟨fun hlt => ?_, fun hge => ?_⟩
  ·have hj' : j < a.length := by omega
   refine ⟨by omega, by omega, by omega, by omega, by omega, by omega, fun h => (ne_at hlen h).symm, fun h => ⟨inR_of (by omega) (by omega), hj', fun i hi => ?_, by omega⟩⟩
   by_cases e : i = j
   ·subst e; exact h
   ·exact hI i (by omega)
  ·have : j = a.length := by omega
   subst this
   rw [eq_all hlen hI]
end Go.Proofs.Ytgdpplhbblapgaa
