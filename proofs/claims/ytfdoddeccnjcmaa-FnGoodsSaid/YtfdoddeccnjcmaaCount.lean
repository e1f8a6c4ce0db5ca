/- Own work: contracts of functions that the claim reaches. No condition beyond those that each theorem names. -/
import Derived.Test.YtfdoddeccnjcmaaProg
import Derived.Test.YtfdoddeccnjcmaaEnum
import Derived.Test.YtfdoddeccnjcmaaFacts
import Derived.Test.YtfdoddeccnjcmaaMarks
namespace Go.Proofs.Ytfdoddeccnjcmaa
open Go Go.Vc
set_option maxRecDepth 100000
set_option linter.unusedSimpArgs false
set_option linter.unusedVariables false
/-- The first c lists of k numbers. -/
def allP (b k c : Nat) : List (List Int) := (List.range c).map (sn 0 b k)
theorem allP_len {b k c : Nat} : (allP b k c).length = c := by simp [allP]
theorem allP_get {b k c j : Nat} (h : j < c) : (allP b k c).getD j [] = sn 0 b k j := by simp [allP, List.getD, h]
theorem allP_s {b k c : Nat} : allP b k (c + 1) = allP b k c ++ [sn 0 b k c] := by simp [allP, List.range_succ]
theorem sn_at {b k q i : Nat} (hi : i < b) : sn 0 b (k + 1) (q * b + i) = sn 0 b k q ++ [(i : Int)] := by
  have hb : 0 < b := by omega
  simp only [sn]
  rw [Nat.add_comm (q * b), Nat.add_mul_div_right _ _ hb, Nat.div_eq_of_lt hi, Nat.zero_add, Nat.add_mul_mod_self_right, Nat.mod_eq_of_lt hi]; simp
/- spec_l23All: not in this cut -/
/- spec_CountEnvyFree: not in this cut -/
/- spec_CountNearlyFree: not in this cut -/
def K_impl_CountEnvyFree_1 : List Nat := [0, 1, 3]
def C_impl_CountEnvyFree_1 : C :=
  let ks := K_impl_CountEnvyFree_1
  (.seq
   (.rg 0 [(none, .v 3 .mv [.k (.b false)])])
   (.cl ks (.seq
   (.rg 0 [(none, .v 4 .ld [.s 1]), (none, .v 5 .mv [.s 0]), (none, .co 6 120 [.s 4, .s 5]), (none, .tk 3 6)])
   .ret)))

theorem chk_impl_CountEnvyFree_1 : ∃ b, Try.f119.body = some b ∧ chk Try.prog Try.f119.ntmps true C_impl_CountEnvyFree_1 b = true := ⟨_, rfl, by kernel_rfl⟩
def K_impl_CountNearlyFree_1 : List Nat := [0, 1, 3]
def C_impl_CountNearlyFree_1 : C :=
  let ks := K_impl_CountNearlyFree_1
  (.seq
   (.rg 0 [(none, .v 3 .mv [.k (.b false)])])
   (.cl ks (.seq
   (.rg 0 [(none, .v 4 .ld [.s 1]), (none, .v 5 .mv [.s 0]), (none, .co 6 121 [.s 4, .s 5]), (none, .tk 3 6)])
   .ret)))

theorem chk_impl_CountNearlyFree_1 : ∃ b, Try.f122.body = some b ∧ chk Try.prog Try.f122.ntmps true C_impl_CountNearlyFree_1 b = true := ⟨_, rfl, by kernel_rfl⟩
def K_impl_CountEnvyFree : List Nat := [0, 1, 2, 1001]
def C_impl_CountEnvyFree : C :=
  let ks := K_impl_CountEnvyFree
  (.seq
   (.rg 0 [(none, .box 1 (.s 0)), (none, .v 2 .mv [.k (.i 0)])])
   (.cl ks (.seq
   (.rg 0 [(none, .v 3 .ld [.s 1]), (none, .v 4 (.clo 119) [.s 1]), (none, .co 5 118 [.s 3, .s 4]), (none, .tk 2 5)])
   .ret)))

theorem chk_impl_CountEnvyFree : ∃ b, Try.f55.body = some b ∧ chk Try.prog Try.f55.ntmps true C_impl_CountEnvyFree b = true := ⟨_, rfl, by kernel_rfl⟩
def K_impl_CountNearlyFree : List Nat := [0, 1, 2, 1001]
def C_impl_CountNearlyFree : C :=
  let ks := K_impl_CountNearlyFree
  (.seq
   (.rg 0 [(none, .box 1 (.s 0)), (none, .v 2 .mv [.k (.i 0)])])
   (.cl ks (.seq
   (.rg 0 [(none, .v 3 .ld [.s 1]), (none, .v 4 (.clo 122) [.s 1]), (none, .co 5 118 [.s 3, .s 4]), (none, .tk 2 5)])
   .ret)))

theorem chk_impl_CountNearlyFree : ∃ b, Try.f60.body = some b ∧ chk Try.prog Try.f60.ntmps true C_impl_CountNearlyFree b = true := ⟨_, rfl, by kernel_rfl⟩
theorem impl_CountEnvyFree_1_ok {n1 n2 : Option Bool} (vs : List (List Int)) (l : List Int) (V : Vals vs l.length) : CallOk Try.prog 119 [.s n2 (ii l), .q [.s n1 (rr vs)] 0] [(0, .b (freeB vs l))] := by
  obtain ⟨code0, hcd1, hcd2⟩ := chk_impl_CountEnvyFree_1; refine callOk_of Try.func119 hcd1 mo Try.call119 (rs := [3]) (by kernel_rfl) hcd2 (by rw [Try.ntmps119]; simp) (by simp) (by decide) ?_; unfold C_impl_CountEnvyFree_1 K_impl_CountEnvyFree_1; simp (config := { maxSteps := 2000000 }) only [go_sem, Nat.reduceBEq, Nat.reduceAdd, Nat.reduceMul, Nat.reduceMod, Nat.reduceLT, Nat.reduceDiv, Nat.reduceSub, Nat.reduceLeDiff, Int.reduceToNat, Int.reduceLT, Int.reduceLE, reduceCtorEq, List.take_nil, List.drop_nil]
  refine ⟨_, impl_isFree_ok vs l V, ?_⟩; simp (config := { maxSteps := 2000000 }) only [go_sem, Nat.reduceBEq, Nat.reduceAdd, Nat.reduceMul, Nat.reduceMod, Nat.reduceLT, Nat.reduceDiv, Nat.reduceSub, Nat.reduceLeDiff, Int.reduceToNat, Int.reduceLT, Int.reduceLE, reduceCtorEq, List.take_nil, List.drop_nil]
theorem impl_CountEnvyFree_ok {n1 : Option Bool} (vs : List (List Int)) (hl : vs.length ≤ 1048576) (hr : ∀ r ∈ vs, r.length ≤ 1048576) : CallOk Try.prog 55 [.s n1 (rr vs)] [(0, .i (cntF vs (freeB vs)))] := by
  obtain ⟨code0, hcd1, hcd2⟩ := chk_impl_CountEnvyFree; refine callOk_of Try.func55 hcd1 mo Try.call55 (rs := [2]) (by kernel_rfl) hcd2 (by rw [Try.ntmps55]; simp) (by simp) (by decide) ?_; unfold C_impl_CountEnvyFree K_impl_CountEnvyFree; simp (config := { maxSteps := 2000000 }) only [go_sem, Nat.reduceBEq, Nat.reduceAdd, Nat.reduceMul, Nat.reduceMod, Nat.reduceLT, Nat.reduceDiv, Nat.reduceSub, Nat.reduceLeDiff, Int.reduceToNat, Int.reduceLT, Int.reduceLE, reduceCtorEq, List.take_nil, List.drop_nil]
  refine ⟨_, countAllocations_ok vs 119 _ (freeB vs) hl hr (fun m l V e _ => impl_CountEnvyFree_1_ok vs l (by rw [e]; exact V)), ?_⟩; simp (config := { maxSteps := 2000000 }) only [go_sem, Nat.reduceBEq, Nat.reduceAdd, Nat.reduceMul, Nat.reduceMod, Nat.reduceLT, Nat.reduceDiv, Nat.reduceSub, Nat.reduceLeDiff, Int.reduceToNat, Int.reduceLT, Int.reduceLE, reduceCtorEq, List.take_nil, List.drop_nil]
theorem impl_CountNearlyFree_1_ok {n1 n2 : Option Bool} (vs : List (List Int)) (l : List Int) (V : Vals vs l.length) : CallOk Try.prog 122 [.s n2 (ii l), .q [.s n1 (rr vs)] 0] [(0, .b (nearB vs l))] := by
  obtain ⟨code0, hcd1, hcd2⟩ := chk_impl_CountNearlyFree_1; refine callOk_of Try.func122 hcd1 mo Try.call122 (rs := [3]) (by kernel_rfl) hcd2 (by rw [Try.ntmps122]; simp) (by simp) (by decide) ?_; unfold C_impl_CountNearlyFree_1 K_impl_CountNearlyFree_1; simp (config := { maxSteps := 2000000 }) only [go_sem, Nat.reduceBEq, Nat.reduceAdd, Nat.reduceMul, Nat.reduceMod, Nat.reduceLT, Nat.reduceDiv, Nat.reduceSub, Nat.reduceLeDiff, Int.reduceToNat, Int.reduceLT, Int.reduceLE, reduceCtorEq, List.take_nil, List.drop_nil]
  refine ⟨_, impl_isNearlyFree_ok vs l V, ?_⟩; simp (config := { maxSteps := 2000000 }) only [go_sem, Nat.reduceBEq, Nat.reduceAdd, Nat.reduceMul, Nat.reduceMod, Nat.reduceLT, Nat.reduceDiv, Nat.reduceSub, Nat.reduceLeDiff, Int.reduceToNat, Int.reduceLT, Int.reduceLE, reduceCtorEq, List.take_nil, List.drop_nil]
theorem impl_CountNearlyFree_ok {n1 : Option Bool} (vs : List (List Int)) (hl : vs.length ≤ 1048576) (hr : ∀ r ∈ vs, r.length ≤ 1048576) : CallOk Try.prog 60 [.s n1 (rr vs)] [(0, .i (cntF vs (nearB vs)))] := by
  obtain ⟨code0, hcd1, hcd2⟩ := chk_impl_CountNearlyFree; refine callOk_of Try.func60 hcd1 mo Try.call60 (rs := [2]) (by kernel_rfl) hcd2 (by rw [Try.ntmps60]; simp) (by simp) (by decide) ?_; unfold C_impl_CountNearlyFree K_impl_CountNearlyFree; simp (config := { maxSteps := 2000000 }) only [go_sem, Nat.reduceBEq, Nat.reduceAdd, Nat.reduceMul, Nat.reduceMod, Nat.reduceLT, Nat.reduceDiv, Nat.reduceSub, Nat.reduceLeDiff, Int.reduceToNat, Int.reduceLT, Int.reduceLE, reduceCtorEq, List.take_nil, List.drop_nil]
  refine ⟨_, countAllocations_ok vs 122 _ (nearB vs) hl hr (fun m l V e _ => impl_CountNearlyFree_1_ok vs l (by rw [e]; exact V)), ?_⟩; simp (config := { maxSteps := 2000000 }) only [go_sem, Nat.reduceBEq, Nat.reduceAdd, Nat.reduceMul, Nat.reduceMod, Nat.reduceLT, Nat.reduceDiv, Nat.reduceSub, Nat.reduceLeDiff, Int.reduceToNat, Int.reduceLT, Int.reduceLE, reduceCtorEq, List.take_nil, List.drop_nil]

end Go.Proofs.Ytfdoddeccnjcmaa
