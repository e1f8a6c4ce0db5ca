/- Own work: contracts of functions that the claim reaches. No condition beyond those that each theorem names. -/
import Derived.Test.YtelblnfnfeoapaaProg
import Derived.Test.YtelblnfnfeoapaaSlices
namespace Go.Proofs.Ytelblnfnfeoapaa
open Go Go.Vc
set_option maxRecDepth 100000
set_option linter.unusedSimpArgs false
set_option linter.unusedVariables false
def K_slices_Clone_Sint_int : List Nat := [0, 2]
def C_slices_Clone_Sint_int : C :=
  let ks := K_slices_Clone_Sint_int
  (.seq
    (.rg 0 [(none, .mkn 2)])
    (.cl ks (.seq
      (.seq
        (.rg 0 [(none, .v 3 .mv [.s 0]), (none, .v 4 .nil [.s 3])])
        (.cond (.s 4)
          (.seq
            (.rg 0 [(none, .mkn 2)])
            .ret)
          .skip))
      (.cl ks (.seq
        (.rg 0 [(none, .lit 5 [] 0), (none, .v 6 .mv [.s 0]), (none, .app 7 (.s 5) (.s 6) 0), (none, .tk 2 7)])
        .ret)))))

theorem chk_slices_Clone_Sint_int : ∃ b, Try.f31.body = some b ∧ chk Try.prog Try.f31.ntmps true C_slices_Clone_Sint_int b = true := ⟨_, rfl, by kernel_rfl⟩
theorem Clone_ok {n1 : Option Bool} (l : List Int) (h0 : 0 < l.length) (hl : l.length ≤ 1048576) (hn : n1 ≠ some true := by simp) : CallOk Try.prog 31 [.s n1 (ii l)] [(0, .own 1 none (ii l))] := by
  obtain ⟨code0, hcd1, hcd2⟩ := chk_slices_Clone_Sint_int; refine callOk_of Try.func31 hcd1 mo Try.call31 (rs := [2]) (by kernel_rfl) hcd2 (by rw [Try.ntmps31]; simp) (by simp) (by decide) ?_; unfold C_slices_Clone_Sint_int K_slices_Clone_Sint_int; simp (config := { maxSteps := 2000000 }) only [go_sem, Nat.reduceBEq, Nat.reduceAdd, Nat.reduceMul, Nat.reduceMod, Nat.reduceLT, Nat.reduceDiv, Nat.reduceSub, Nat.reduceLeDiff, Int.reduceToNat, Int.reduceLT, Int.reduceLE, reduceCtorEq, List.take_nil, List.drop_nil]
  have hne : l ≠ [] := fun e => by rw [e] at h0; simp at h0
  have hni : ii l ≠ [] := fun e => hne (List.map_eq_nil_iff.1 e)
  rcases n1 with _ | _ | _
  · simp (config := { maxSteps := 2000000 }) only [go_sem, Nat.reduceBEq, Nat.reduceAdd, Nat.reduceMul, Nat.reduceMod, Nat.reduceLT, Nat.reduceDiv, Nat.reduceSub, Nat.reduceLeDiff, Int.reduceToNat, Int.reduceLT, Int.reduceLE, reduceCtorEq, List.take_nil, List.drop_nil]
    exact ⟨hni, by omega⟩
  · simp (config := { maxSteps := 2000000 }) only [go_sem, Nat.reduceBEq, Nat.reduceAdd, Nat.reduceMul, Nat.reduceMod, Nat.reduceLT, Nat.reduceDiv, Nat.reduceSub, Nat.reduceLeDiff, Int.reduceToNat, Int.reduceLT, Int.reduceLE, reduceCtorEq, List.take_nil, List.drop_nil]
    omega
  · exact absurd rfl hn

end Go.Proofs.Ytelblnfnfeoapaa
