/- Own work: contracts of functions that the claim reaches. No condition beyond those that each theorem names. -/
import Derived.Test.YtgdpplhbblapgaaProg
import Derived.Test.YtgdpplhbblapgaaRot
namespace Go.Proofs.Ytgdpplhbblapgaa
open Go Go.Vc
set_option maxRecDepth 100000
set_option linter.unusedSimpArgs false
set_option linter.unusedVariables false
def K_impl_NextWoman : List Nat := [0, 1, 2, 3, 6, 1003, 2003]
def C_impl_NextWoman : C :=
 let ks := K_impl_NextWoman
 (.seq
  (.rg 0 [(none, .v 3 .boxS [.s 0]), (none, .v 6 .mv [.k (.i 0)])])
  (.cl ks (.seq
  (.seq
  (.rg 0 [(none, .v 7 (.lds 2) [.s 3]), (none, .v 8 .mv [.s 1]), (none, .co 9 47 [.s 7, .s 8]), (none, .v 10 .not [.s 9]), (none, .v 11 .mv [.s 10]), (some (11, false), .v 12 .mv [.s 2]), (some (11, false), .v 13 .mv [.s 1]), (some (11, false), .v 14 .len [.s 13]), (some (11, false), .v 15 (.bin .sub) [.s 14, .k (.i 1)]), (some (11, false), .co 16 107 [.s 12, .k (.i 0), .s 15]), (some (11, false), .v 17 .not [.s 16]), (none, .v 18 .pick [.s 11, .k (.b true), .s 17])])
  (.cond (.s 18)
  (.seq
  (.rg 0 [(none, .v 6 .mv [.k (.i (-1))])])
  .ret)
  .skip))
  (.cl ks (.seq
  (.rg 0 [(none, .v 19 (.lds 2) [.s 3]), (none, .v 20 .mv [.s 1]), (none, .v 21 .mv [.s 2]), (none, .co 22 142 [.s 19, .s 20, .s 21]), (none, .tk 6 22)])
  .ret)))))
theorem chk_impl_NextWoman : ∃ b, Try.f68.body = some b ∧ chk Try.prog Try.f68.ntmps true C_impl_NextWoman b = true := ⟨_, rfl, by kernel_rfl⟩
theorem impl_NextWoman_ok {n1 n2 n3 : Option Bool} (x y : List (List Int)) (l : List Int) (i : Nat) (hs : stabB x y l = true) (hi : i < x.length) (hx : x.length ≤ 1048576) (kx : ∀ r ∈ x, r.length ≤ 1048576) (hy : y.length ≤ 1048576) (ky : ∀ r ∈ y, r.length ≤ 1048576) (hl : l.length ≤ 1048576) :
  CallOk Try.prog 68 [.a [.s n1 (rr x), .s n2 (rr y)], .s n3 (ii l), .i i] [(0, .i (nwI x y l i))] := by
 obtain ⟨code0, hcd1, hcd2⟩ := chk_impl_NextWoman; refine callOk_of Try.func68 hcd1 mo Try.call68 (rs := [6]) (by kernel_rfl) hcd2 (by rw [Try.ntmps68]; simp) (by simp) (by decide) ?_; unfold C_impl_NextWoman K_impl_NextWoman; simp (maxSteps := 2000000) only [go_sem, Nat.reduceBEq, Nat.reduceAdd, Nat.reduceMul, Nat.reduceMod, Nat.reduceLT, Nat.reduceDiv, Nat.reduceSub, Nat.reduceLeDiff, Int.reduceToNat, Int.reduceLT, Int.reduceLE, reduceCtorEq]
 obtain ⟨_, R, M⟩ := stab_of hs
 have hll := rank_len R
 refine ⟨_, impl_IsStable_ok x y l hx kx hy ky hl, ?_⟩; simp (maxSteps := 2000000) only [go_sem, Nat.reduceBEq, Nat.reduceAdd, Nat.reduceMul, Nat.reduceMod, Nat.reduceLT, Nat.reduceDiv, Nat.reduceSub, Nat.reduceLeDiff, Int.reduceToNat, Int.reduceLT, Int.reduceLE, reduceCtorEq]
 refine ⟨fun h => ?_, fun h => by rw [hs] at h; cases h⟩
 refine ⟨inR_of (by omega) (by omega), ?_⟩
 refine ⟨_, within_ok _ _ _, ?_⟩; simp (maxSteps := 2000000) only [go_sem, Nat.reduceBEq, Nat.reduceAdd, Nat.reduceMul, Nat.reduceMod, Nat.reduceLT, Nat.reduceDiv, Nat.reduceSub, Nat.reduceLeDiff, Int.reduceToNat, Int.reduceLT, Int.reduceLE, reduceCtorEq]
 have hin : inI i 0 ((l.length : Int) - 1) = true := by simp only [inI, Bool.and_eq_true, decide_eq_true_eq]; omega
 refine ⟨fun h1 => (by rw [hin] at h1; cases h1), fun h1 => ?_⟩
 refine ⟨_, impl_Market_nextWoman_ok x y l x.length i M R hi, ?_⟩; simp (maxSteps := 2000000) only [go_sem, Nat.reduceBEq, Nat.reduceAdd, Nat.reduceMul, Nat.reduceMod, Nat.reduceLT, Nat.reduceDiv, Nat.reduceSub, Nat.reduceLeDiff, Int.reduceToNat, Int.reduceLT, Int.reduceLE, reduceCtorEq]
end Go.Proofs.Ytgdpplhbblapgaa
