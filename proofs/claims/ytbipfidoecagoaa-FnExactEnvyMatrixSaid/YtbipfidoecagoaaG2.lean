/- At every input the law below returns true and leaves its arguments alone: EnvyMatrix of the program returns what that of the reference returns, in memory of its own. No condition. -/
import Derived.Test.YtbipfidoecagoaaRows
import Derived.Test.YtbipfidoecagoaaEnvy
import Derived.Test.YtbipfidoecagoaaFacts
import Derived.Test.YtbipfidoecagoaaMarks
namespace Go.Proofs.Ytbipfidoecagoaa
open Go Go.Vc
set_option maxRecDepth 100000
set_option linter.unusedSimpArgs false
set_option linter.unusedVariables false
open Go.ChangeShapes Go.WideShapes Go.RowKit
theorem tot_le {xs : List (List Int)} {n : Nat} (h : ∀ r ∈ xs, r.length ≤ n) : tot xs ≤ n * xs.length := by
  induction xs with
  | nil => simp [tot]
  | cons r rs ih =>
    have h1 := ih fun r hr => h r (by simp [hr])
    have h2 := h r (by simp)
    simp only [tot, List.map_cons, List.sum_cons, List.length_cons, Nat.mul_succ] at h1 ⊢; omega
theorem env_len {vs : List (List Int)} {l : List Int} : (envF vs l).length ≤ 1048576 ∧ (∀ r ∈ envF vs l, r.length ≤ 1048576) ∧ tot (envF vs l) ≤ 1048576 := by
  unfold envF
  by_cases h : allocB vs l = true
  · rw [if_pos h]
    have n3 := (alloc_vals h).n3
    have h1 := envM_len (vs := vs) (l := l) (n := vs.length)
    have hr : ∀ r ∈ envM vs l vs.length, r.length ≤ 3 := fun r hr => by
      obtain ⟨i, _, rfl⟩ := List.mem_map.1 hr
      rw [envR_len]; omega
    have h3 := tot_le hr
    exact ⟨by omega, fun r h => by have := hr r h; omega, by omega⟩
  · rw [if_neg h]; simp [tot]
def K_laws_FnExactEnvyMatrix : List Nat := [0, 1, 4, 5, 6, 7, 8, 9, 10, 11, 12, 13]
def C_laws_FnExactEnvyMatrix : C :=
  let ks := K_laws_FnExactEnvyMatrix
  (.seq
    (.rg 0 [(none, .v 4 .mv [.k (.b false)])])
    (.cl ks (.seq
      (.seq
        (.rg 0 [(none, .v 14 .mv [.s 1]), (none, .v 15 .len [.s 14]), (none, .v 16 (.bin .gtr) [.s 15, .k (.i 1048576)])])
        (.cond (.s 16)
          (.seq
            (.rg 0 [(none, .v 4 .mv [.k (.b true)])])
            .ret)
          .skip))
      (.cl ks (.seq
        (.rg 0 [(none, .v 5 .mv [.k (.i 1048576)])])
        (.cl ks (.seq
          (.rg 0 [(none, .v 17 .mv [.s 0]), (none, .v 18 .mv [.s 5]), (none, .co 19 5 [.s 17, .s 18]), (none, .tk 5 19)])
          (.cl ks (.seq
            (.seq
              (.rg 0 [(none, .v 20 .mv [.s 5]), (none, .v 21 (.bin .lss) [.s 20, .k (.i 0)])])
              (.cond (.s 21)
                (.seq
                  (.rg 0 [(none, .v 4 .mv [.k (.b true)])])
                  .ret)
                .skip))
            (.cl ks (.seq
              (.rg 0 [(none, .v 22 .mv [.s 0]), (none, .co 23 7 [.s 22]), (none, .v 24 .mv [.s 1]), (none, .co 25 8 [.s 24]), (none, .co 26 12 [.s 23, .s 25]), (none, .tk 6 26)])
              (.cl ks (.seq
                (.rg 0 [(none, .v 27 .mv [.s 0]), (none, .co 28 7 [.s 27]), (none, .tk 7 28)])
                (.cl ks (.seq
                  (.rg 0 [(none, .v 29 .mv [.s 1]), (none, .co 30 8 [.s 29]), (none, .tk 8 30)])
                  (.cl ks (.seq
                    (.rg 0 [(none, .v 31 .mv [.s 7]), (none, .v 32 .mv [.s 8]), (none, .co 33 13 [.s 31, .s 32]), (none, .tk 9 33)])
                    (.cl ks (.seq
                      (.seq
                        (.rg 0 [(none, .v 34 .mv [.s 9]), (none, .v 35 .mv [.s 6]), (none, .co 36 10 [.s 34, .s 35]), (none, .v 37 .not [.s 36])])
                        (.cond (.s 37)
                          (.seq
                            (.rg 0 [(none, .v 4 .mv [.k (.b false)])])
                            .ret)
                          .skip))
                      (.cl ks (.seq
                        (.seq
                          (.rg 0 [(none, .v 38 .mv [.s 7]), (none, .v 39 .mv [.s 0]), (none, .co 40 7 [.s 39]), (none, .co 41 10 [.s 38, .s 40]), (none, .v 42 .not [.s 41])])
                          (.cond (.s 42)
                            (.seq
                              (.rg 0 [(none, .v 4 .mv [.k (.b false)])])
                              .ret)
                            .skip))
                        (.cl ks (.seq
                          (.seq
                            (.rg 0 [(none, .v 43 .mv [.s 8]), (none, .v 44 .mv [.s 1]), (none, .co 45 8 [.s 44]), (none, .co 46 11 [.s 43, .s 45]), (none, .v 47 .not [.s 46])])
                            (.cond (.s 47)
                              (.seq
                                (.rg 0 [(none, .v 4 .mv [.k (.b false)])])
                                .ret)
                              .skip))
                          (.cl ks (.seq
                            (.rg 0 [(none, .v 10 .mv [.k (.i 1)])])
                            (.cl ks (.seq
                              (.rg 0 [(none, .v 48 .mv [.s 7]), (none, .v 49 .mv [.s 10]), (none, .cox (some 50) 14 [.s 48, .s 49] 0), (none, .tk 10 50)])
                              (.cl ks (.seq
                                (.rg 0 [(none, .v 51 .mv [.s 8]), (none, .v 52 .mv [.s 10]), (none, .cox (some 53) 15 [.s 51, .s 52] 0), (none, .tk 10 53)])
                                (.cl ks (.seq
                                  (.seq
                                    (.rg 0 [(none, .v 54 .mv [.s 10]), (none, .v 55 (.bin .lss) [.s 54, .k (.i 0)]), (none, .v 56 .mv [.s 55]), (some (56, false), .v 57 .mv [.s 9]), (some (56, false), .v 58 .mv [.s 6]), (some (56, false), .co 59 10 [.s 57, .s 58]), (some (56, false), .v 60 .not [.s 59]), (none, .v 61 .pick [.s 56, .k (.b true), .s 60])])
                                    (.cond (.s 61)
                                      (.seq
                                        (.rg 0 [(none, .v 4 .mv [.k (.b false)])])
                                        .ret)
                                      .skip))
                                  (.cl ks (.seq
                                    (.rg 0 [(none, .v 11 .mv [.k (.i 1)])])
                                    (.cl ks (.seq
                                      (.rg 0 [(none, .v 62 .mv [.s 9]), (none, .v 63 .mv [.s 11]), (none, .cox (some 64) 14 [.s 62, .s 63] 0), (none, .tk 11 64)])
                                      (.cl ks (.seq
                                        (.rg 0 [(none, .v 12 .mv [.k (.i 1)])])
                                        (.cl ks (.seq
                                          (.rg 0 [(none, .v 65 .mv [.s 9]), (none, .v 66 .mv [.s 12]), (none, .co 67 16 [.s 65, .s 66]), (none, .tk 12 67)])
                                          (.cl ks (.seq
                                            (.seq
                                              (.rg 0 [(none, .v 68 .mv [.s 12]), (none, .v 69 (.bin .lss) [.s 68, .k (.i 0)])])
                                              (.cond (.s 69)
                                                (.seq
                                                  (.rg 0 [(none, .v 4 .mv [.k (.b false)])])
                                                  .ret)
                                                .skip))
                                            (.cl ks (.seq
                                              (.seq
                                                (.rg 0 [(none, .v 70 .mv [.s 12]), (none, .v 71 .mv [.s 11]), (none, .v 72 (.bin .neq) [.s 70, .s 71])])
                                                (.cond (.s 72)
                                                  (.seq
                                                    (.rg 0 [(none, .v 4 .mv [.k (.b false)])])
                                                    .ret)
                                                  .skip))
                                              (.cl ks (.seq
                                                (.rg 0 [(none, .v 73 .mv [.s 0]), (none, .co 74 7 [.s 73]), (none, .v 75 .mv [.s 1]), (none, .co 76 8 [.s 75]), (none, .co 77 13 [.s 74, .s 76]), (none, .tk 13 77)])
                                                (.cl ks (.seq
                                                  (.seq
                                                    (.rg 0 [(none, .v 78 .mv [.s 13]), (none, .v 79 .mv [.s 6]), (none, .co 80 10 [.s 78, .s 79]), (none, .v 81 .not [.s 80])])
                                                    (.cond (.s 81)
                                                      (.seq
                                                        (.rg 0 [(none, .v 4 .mv [.k (.b false)])])
                                                        .ret)
                                                      .skip))
                                                  (.cl ks (.seq
                                                    (.rg 0 [(none, .v 12 .mv [.k (.i 1)])])
                                                    (.cl ks (.seq
                                                      (.rg 0 [(none, .v 82 .mv [.s 9]), (none, .v 83 .mv [.s 12]), (none, .co 84 16 [.s 82, .s 83]), (none, .tk 12 84)])
                                                      (.cl ks (.seq
                                                        (.seq
                                                          (.rg 0 [(none, .v 85 .mv [.s 12]), (none, .v 86 (.bin .lss) [.s 85, .k (.i 0)])])
                                                          (.cond (.s 86)
                                                            (.seq
                                                              (.rg 0 [(none, .v 4 .mv [.k (.b false)])])
                                                              .ret)
                                                            .skip))
                                                        (.cl ks (.seq
                                                          (.seq
                                                            (.rg 0 [(none, .v 87 .mv [.s 12]), (none, .v 88 .mv [.s 11]), (none, .v 89 (.bin .neq) [.s 87, .s 88])])
                                                            (.cond (.s 89)
                                                              (.seq
                                                                (.rg 0 [(none, .v 4 .mv [.k (.b false)])])
                                                                .ret)
                                                              .skip))
                                                          (.cl ks (.seq
                                                            (.rg 0 [(none, .v 4 .mv [.k (.b true)])])
                                                            .ret)))))))))))))))))))))))))))))))))))))))))))))))))))))))))

theorem chk_laws_FnExactEnvyMatrix : ∃ b, Try.f4.body = some b ∧ chk Try.prog Try.f4.ntmps true C_laws_FnExactEnvyMatrix b = true := ⟨_, rfl, by kernel_rfl⟩
theorem FnExactEnvyMatrix_ok (x0 : List (List Int)) (a0 : x0.length ≤ 9223372036854775807) (b0 : ∀ r ∈ x0, r.length ≤ 9223372036854775807) (x1 : List Int) (a1 : x1.length ≤ 9223372036854775807) :
    CallOk Try.prog 4 [.s none (rr x0), .s none (ii x1)] [(0, .b true)] := by
  obtain ⟨code0, hcd1, hcd2⟩ := chk_laws_FnExactEnvyMatrix; refine callOk_of Try.func4 hcd1 mo Try.call4 (rs := [4]) (by kernel_rfl) hcd2 (by rw [Try.ntmps4]; simp) (by simp) (by decide) ?_; unfold C_laws_FnExactEnvyMatrix K_laws_FnExactEnvyMatrix; simp (config := { maxSteps := 2000000 }) only [go_sem, Nat.reduceBEq, Nat.reduceAdd, Nat.reduceMul, Nat.reduceMod, Nat.reduceLT, Nat.reduceDiv, Nat.reduceSub, Nat.reduceLeDiff, Int.reduceToNat, Int.reduceLT, Int.reduceLE, reduceCtorEq, List.take_nil, List.drop_nil]
  refine ⟨fun _ => trivial, fun c1 => ?_⟩
  have h1 : x1.length ≤ 1048576 := by omega
  refine ⟨_, szIntSS_ok none x0 _ (by omega) (by omega) a0 b0, ?_⟩; simp (config := { maxSteps := 2000000 }) only [go_sem, Nat.reduceBEq, Nat.reduceAdd, Nat.reduceMul, Nat.reduceMod, Nat.reduceLT, Nat.reduceDiv, Nat.reduceSub, Nat.reduceLeDiff, Int.reduceToNat, Int.reduceLT, Int.reduceLE, reduceCtorEq, List.take_nil, List.drop_nil]
  refine ⟨fun _ => trivial, fun c0 => ?_⟩
  obtain ⟨h0, k0⟩ := szII_ok (by omega) c0
  have t0 : (tot x0 : Int) ≤ 1048576 := Int.le_trans (szII_tot c0) (by omega)
  obtain ⟨l0r, m0r, t0r⟩ : (envF x0 x1).length ≤ 1048576 ∧ (∀ r ∈ (envF x0 x1), r.length ≤ 1048576) ∧ tot (envF x0 x1) ≤ 1048576 := env_len
  refine ⟨_, toIntSS_ok none x0 h0 k0, ?_⟩; simp (config := { maxSteps := 2000000 }) only [go_sem, Nat.reduceBEq, Nat.reduceAdd, Nat.reduceMul, Nat.reduceMod, Nat.reduceLT, Nat.reduceDiv, Nat.reduceSub, Nat.reduceLeDiff, Int.reduceToNat, Int.reduceLT, Int.reduceLE, reduceCtorEq, List.take_nil, List.drop_nil]
  refine ⟨_, toIntS_ok none x1 h1, ?_⟩; simp (config := { maxSteps := 2000000 }) only [go_sem, Nat.reduceBEq, Nat.reduceAdd, Nat.reduceMul, Nat.reduceMod, Nat.reduceLT, Nat.reduceDiv, Nat.reduceSub, Nat.reduceLeDiff, Int.reduceToNat, Int.reduceLT, Int.reduceLE, reduceCtorEq, List.take_nil, List.drop_nil]
  refine ⟨_, spec_EnvyMatrix_ok x0 x1 h0 k0 h1, ?_⟩; simp (config := { maxSteps := 2000000 }) only [go_sem, Nat.reduceBEq, Nat.reduceAdd, Nat.reduceMul, Nat.reduceMod, Nat.reduceLT, Nat.reduceDiv, Nat.reduceSub, Nat.reduceLeDiff, Int.reduceToNat, Int.reduceLT, Int.reduceLE, reduceCtorEq, List.take_nil, List.drop_nil]
  refine ⟨_, toIntSS_ok none x0 h0 k0, ?_⟩; simp (config := { maxSteps := 2000000 }) only [go_sem, Nat.reduceBEq, Nat.reduceAdd, Nat.reduceMul, Nat.reduceMod, Nat.reduceLT, Nat.reduceDiv, Nat.reduceSub, Nat.reduceLeDiff, Int.reduceToNat, Int.reduceLT, Int.reduceLE, reduceCtorEq, List.take_nil, List.drop_nil]
  refine ⟨_, toIntS_ok none x1 h1, ?_⟩; simp (config := { maxSteps := 2000000 }) only [go_sem, Nat.reduceBEq, Nat.reduceAdd, Nat.reduceMul, Nat.reduceMod, Nat.reduceLT, Nat.reduceDiv, Nat.reduceSub, Nat.reduceLeDiff, Int.reduceToNat, Int.reduceLT, Int.reduceLE, reduceCtorEq, List.take_nil, List.drop_nil]
  refine ⟨_, impl_EnvyMatrix_ok x0 x1 h0 k0 h1, ?_⟩; simp (config := { maxSteps := 2000000 }) only [go_sem, Nat.reduceBEq, Nat.reduceAdd, Nat.reduceMul, Nat.reduceMod, Nat.reduceLT, Nat.reduceDiv, Nat.reduceSub, Nat.reduceLeDiff, Int.reduceToNat, Int.reduceLT, Int.reduceLE, reduceCtorEq, List.take_nil, List.drop_nil]
  refine ⟨_, eqIntSS_ok none none (envF x0 x1) (envF x0 x1) l0r m0r, ?_⟩; simp (config := { maxSteps := 2000000 }) only [go_sem, Nat.reduceBEq, Nat.reduceAdd, Nat.reduceMul, Nat.reduceMod, Nat.reduceLT, Nat.reduceDiv, Nat.reduceSub, Nat.reduceLeDiff, Int.reduceToNat, Int.reduceLT, Int.reduceLE, reduceCtorEq, List.take_nil, List.drop_nil]
  try (first | (refine ⟨fun h => ?_, fun _ => ?_⟩; focus (simp at h; done)) | (refine ⟨fun h => ?_, fun _ => ?_⟩; focus omega) | (refine ⟨fun h => ?_, ?_⟩; focus (exact absurd trivial h)) | (refine ⟨fun _ => ?_, fun h => ?_⟩; rotate_left; focus omega))
  refine ⟨_, toIntSS_ok none x0 h0 k0, ?_⟩; simp (config := { maxSteps := 2000000 }) only [go_sem, Nat.reduceBEq, Nat.reduceAdd, Nat.reduceMul, Nat.reduceMod, Nat.reduceLT, Nat.reduceDiv, Nat.reduceSub, Nat.reduceLeDiff, Int.reduceToNat, Int.reduceLT, Int.reduceLE, reduceCtorEq, List.take_nil, List.drop_nil]
  refine ⟨_, eqIntSS_ok _ _ x0 x0 h0 k0, ?_⟩; simp (config := { maxSteps := 2000000 }) only [go_sem, Nat.reduceBEq, Nat.reduceAdd, Nat.reduceMul, Nat.reduceMod, Nat.reduceLT, Nat.reduceDiv, Nat.reduceSub, Nat.reduceLeDiff, Int.reduceToNat, Int.reduceLT, Int.reduceLE, reduceCtorEq, List.take_nil, List.drop_nil]
  try (first | (refine ⟨fun h => ?_, fun _ => ?_⟩; focus (simp at h; done)) | (refine ⟨fun h => ?_, fun _ => ?_⟩; focus omega) | (refine ⟨fun h => ?_, ?_⟩; focus (exact absurd trivial h)) | (refine ⟨fun _ => ?_, fun h => ?_⟩; rotate_left; focus omega))
  refine ⟨_, toIntS_ok none x1 h1, ?_⟩; simp (config := { maxSteps := 2000000 }) only [go_sem, Nat.reduceBEq, Nat.reduceAdd, Nat.reduceMul, Nat.reduceMod, Nat.reduceLT, Nat.reduceDiv, Nat.reduceSub, Nat.reduceLeDiff, Int.reduceToNat, Int.reduceLT, Int.reduceLE, reduceCtorEq, List.take_nil, List.drop_nil]
  refine ⟨_, eqIntS_ok _ _ x1 x1 h1, ?_⟩; simp (config := { maxSteps := 2000000 }) only [go_sem, Nat.reduceBEq, Nat.reduceAdd, Nat.reduceMul, Nat.reduceMod, Nat.reduceLT, Nat.reduceDiv, Nat.reduceSub, Nat.reduceLeDiff, Int.reduceToNat, Int.reduceLT, Int.reduceLE, reduceCtorEq, List.take_nil, List.drop_nil]
  try (first | (refine ⟨fun h => ?_, fun _ => ?_⟩; focus (simp at h; done)) | (refine ⟨fun h => ?_, fun _ => ?_⟩; focus omega) | (refine ⟨fun h => ?_, ?_⟩; focus (exact absurd trivial h)) | (refine ⟨fun _ => ?_, fun h => ?_⟩; rotate_left; focus omega))
  refine ⟨_, _, _, markIntSS_ok _ x0 _ (by omega) (by omega) h0 k0, ?_⟩; simp (config := { maxSteps := 2000000 }) only [go_sem, Nat.reduceBEq, Nat.reduceAdd, Nat.reduceMul, Nat.reduceMod, Nat.reduceLT, Nat.reduceDiv, Nat.reduceSub, Nat.reduceLeDiff, Int.reduceToNat, Int.reduceLT, Int.reduceLE, reduceCtorEq, List.take_nil, List.drop_nil]
  refine ⟨_, _, _, markIntS_ok _ x1 _ (by omega) (by omega) h1, ?_⟩; simp (config := { maxSteps := 2000000 }) only [go_sem, Nat.reduceBEq, Nat.reduceAdd, Nat.reduceMul, Nat.reduceMod, Nat.reduceLT, Nat.reduceDiv, Nat.reduceSub, Nat.reduceLeDiff, Int.reduceToNat, Int.reduceLT, Int.reduceLE, reduceCtorEq, List.take_nil, List.drop_nil]
  try (first | (refine ⟨fun h => ?_, fun _ => ?_⟩; focus (simp at h; done)) | (refine ⟨fun h => ?_, fun _ => ?_⟩; focus omega) | (refine ⟨fun h => ?_, ?_⟩; focus (exact absurd trivial h)) | (refine ⟨fun _ => ?_, fun h => ?_⟩; rotate_left; focus omega))
  refine ⟨_, eqIntSS_ok none none (envF x0 x1) (envF x0 x1) l0r m0r, ?_⟩; simp (config := { maxSteps := 2000000 }) only [go_sem, Nat.reduceBEq, Nat.reduceAdd, Nat.reduceMul, Nat.reduceMod, Nat.reduceLT, Nat.reduceDiv, Nat.reduceSub, Nat.reduceLeDiff, Int.reduceToNat, Int.reduceLT, Int.reduceLE, reduceCtorEq, List.take_nil, List.drop_nil]
  try (first | (refine ⟨fun h => ?_, fun _ => ?_⟩; focus (simp at h; done)) | (refine ⟨fun h => ?_, fun _ => ?_⟩; focus omega) | (refine ⟨fun h => ?_, ?_⟩; focus (exact absurd trivial h)) | (refine ⟨fun _ => ?_, fun h => ?_⟩; rotate_left; focus omega))
  refine ⟨_, _, _, markIntSS_ok _ (envF x0 x1) _ (by omega) (by omega) l0r m0r, ?_⟩; simp (config := { maxSteps := 2000000 }) only [go_sem, Nat.reduceBEq, Nat.reduceAdd, Nat.reduceMul, Nat.reduceMod, Nat.reduceLT, Nat.reduceDiv, Nat.reduceSub, Nat.reduceLeDiff, Int.reduceToNat, Int.reduceLT, Int.reduceLE, reduceCtorEq, List.take_nil, List.drop_nil]
  refine ⟨_, heldIntSS_ok none (envF x0 x1) _ (by omega) (by omega) l0r m0r, ?_⟩; simp (config := { maxSteps := 2000000 }) only [go_sem, Nat.reduceBEq, Nat.reduceAdd, Nat.reduceMul, Nat.reduceMod, Nat.reduceLT, Nat.reduceDiv, Nat.reduceSub, Nat.reduceLeDiff, Int.reduceToNat, Int.reduceLT, Int.reduceLE, reduceCtorEq, List.take_nil, List.drop_nil]
  try (first | (refine ⟨fun h => ?_, fun _ => ?_⟩; focus (simp at h; done)) | (refine ⟨fun h => ?_, fun _ => ?_⟩; focus omega) | (refine ⟨fun h => ?_, ?_⟩; focus (exact absurd trivial h)) | (refine ⟨fun _ => ?_, fun h => ?_⟩; rotate_left; focus omega))
  try (first | (refine ⟨fun h => ?_, fun _ => ?_⟩; focus (simp at h; done)) | (refine ⟨fun h => ?_, fun _ => ?_⟩; focus omega) | (refine ⟨fun h => ?_, ?_⟩; focus (exact absurd trivial h)) | (refine ⟨fun _ => ?_, fun h => ?_⟩; rotate_left; focus omega))
  refine ⟨_, toIntSS_ok none x0 h0 k0, ?_⟩; simp (config := { maxSteps := 2000000 }) only [go_sem, Nat.reduceBEq, Nat.reduceAdd, Nat.reduceMul, Nat.reduceMod, Nat.reduceLT, Nat.reduceDiv, Nat.reduceSub, Nat.reduceLeDiff, Int.reduceToNat, Int.reduceLT, Int.reduceLE, reduceCtorEq, List.take_nil, List.drop_nil]
  refine ⟨_, toIntS_ok none x1 h1, ?_⟩; simp (config := { maxSteps := 2000000 }) only [go_sem, Nat.reduceBEq, Nat.reduceAdd, Nat.reduceMul, Nat.reduceMod, Nat.reduceLT, Nat.reduceDiv, Nat.reduceSub, Nat.reduceLeDiff, Int.reduceToNat, Int.reduceLT, Int.reduceLE, reduceCtorEq, List.take_nil, List.drop_nil]
  refine ⟨_, impl_EnvyMatrix_ok x0 x1 h0 k0 h1, ?_⟩; simp (config := { maxSteps := 2000000 }) only [go_sem, Nat.reduceBEq, Nat.reduceAdd, Nat.reduceMul, Nat.reduceMod, Nat.reduceLT, Nat.reduceDiv, Nat.reduceSub, Nat.reduceLeDiff, Int.reduceToNat, Int.reduceLT, Int.reduceLE, reduceCtorEq, List.take_nil, List.drop_nil]
  refine ⟨_, eqIntSS_ok none none (envF x0 x1) (envF x0 x1) l0r m0r, ?_⟩; simp (config := { maxSteps := 2000000 }) only [go_sem, Nat.reduceBEq, Nat.reduceAdd, Nat.reduceMul, Nat.reduceMod, Nat.reduceLT, Nat.reduceDiv, Nat.reduceSub, Nat.reduceLeDiff, Int.reduceToNat, Int.reduceLT, Int.reduceLE, reduceCtorEq, List.take_nil, List.drop_nil]
  try (first | (refine ⟨fun h => ?_, fun _ => ?_⟩; focus (simp at h; done)) | (refine ⟨fun h => ?_, fun _ => ?_⟩; focus omega) | (refine ⟨fun h => ?_, ?_⟩; focus (exact absurd trivial h)) | (refine ⟨fun _ => ?_, fun h => ?_⟩; rotate_left; focus omega))
  refine ⟨_, heldIntSS_ok none (envF x0 x1) _ (by omega) (by omega) l0r m0r, ?_⟩; simp (config := { maxSteps := 2000000 }) only [go_sem, Nat.reduceBEq, Nat.reduceAdd, Nat.reduceMul, Nat.reduceMod, Nat.reduceLT, Nat.reduceDiv, Nat.reduceSub, Nat.reduceLeDiff, Int.reduceToNat, Int.reduceLT, Int.reduceLE, reduceCtorEq, List.take_nil, List.drop_nil]
  first | exact ⟨fun h => by omega, fun _ h => absurd trivial h⟩ | trivial
theorem FnExactEnvyMatrix_lifted (os : Os) (started : os.Started) (H : Type) (enc : TypeId × Value → H) :
    ReturnsInHanded {} Try.checked os 4 .any (Rows.fnExactEnvyMatrixSpec.pre6 enc Try.prog Try.f4 Rows.fnExactEnvyMatrixRow.domain false) (Rows.fnExactEnvyMatrixSpec.post enc Try.prog Try.f4 false true false false) := by
  refine returnsInHanded_of_change (C := Try.checked) ownk started (by as_aux_lemma => kernel_rfl) Try.func4
    (ChangeSpec.witness6 (enc := enc) (C := Try.checked) false ⟨#[], #[.slice none 0 0, .slice none 0 0], []⟩ 8 (by kernel_rfl) (by kernel_rfl) (by kernel_rfl) (by kernel_rfl)) ?_
  intro W base args ds gs before hval0 hW _ _
  have hval : ∀ (j : Nat) t v, Try.f4.params[j]? = some t → args[j]? = some v → Value.okWide Try.prog W .any base t v := hval0
  have hW' := hW
  obtain ⟨p, q, hA0, _⟩ := hW
  have hA : DataW.TrodAll enc Try.prog W 0 (fun _ => true) true Try.f4.params.toList args.toList ds p := hA0
  rw [Try.params4] at hA hval
  clear hA0 hval0
  obtain ⟨v0, v1, d0, d1, p0, p1, rfl, rfl, rfl, h0, h1⟩ := trodAll_two hA
  obtain ⟨x0, a0, b0, f0⟩ := fz_rows Try.underlying22 Try.underlying23 Try.underlying3 (by kernel_rfl : Try.prog.cellsOf 23 = 1) (by kernel_rfl : Try.prog.cellsOf 3 = 1) (hval 0 22 v0 rfl rfl) h0
  obtain ⟨x1, a1, f1⟩ := fz_ints Try.underlying23 Try.underlying3 (by kernel_rfl : Try.prog.cellsOf 3 = 1) (hval 1 23 v1 rfl rfl) h1
  exact law_post (P := Try.prog) pfacts.laid (fun t ht => by rw [Try.params4] at ht; revert t; simp only [List.mem_cons, List.not_mem_nil, or_false, forall_eq_or_imp, forall_eq]; exact ⟨⟨by kernel_rfl, of_decide_eq_true (by kernel_rfl)⟩, ⟨by kernel_rfl, of_decide_eq_true (by kernel_rfl)⟩⟩) rfl (by kernel_rfl) rfl (fun ds hds => by
    have hds : ds.length = 2 := hds
    match ds, hds with
    | [d0, d1], _ => rfl) hW' (ts := [.s none (rr x0), .s none (ii x1)]) (by simp only [FzL]; exact ⟨_, _, rfl, f0, ⟨_, _, rfl, f1, rfl⟩⟩) (FnExactEnvyMatrix_ok x0 a0 b0 x1 a1)
theorem FnExactEnvyMatrix_holds : Rows.FnExactEnvyMatrixSaid :=
  OpenClaim.holds_of_wide (p := Try.pinned) (s := Rows.fnExactEnvyMatrixSpec) (c := Rows.fnExactEnvyMatrixRow) 4 Try.f4 rfl rfl rfl rfl rfl rfl rfl ⟨rfl, rfl, rfl, rfl, rfl⟩ rfl rfl rfl rfl rfl (by as_aux_lemma => kernel_rfl) Try.func4 (joined_of pfacts rfl rfl rfl (by as_aux_lemma => kernel_rfl) (by as_aux_lemma => kernel_rfl) (by as_aux_lemma => kernel_rfl) (by as_aux_lemma => kernel_rfl) (by as_aux_lemma => kernel_rfl) (by as_aux_lemma => kernel_rfl) (by as_aux_lemma => kernel_rfl) (by as_aux_lemma => kernel_rfl) (by as_aux_lemma => kernel_rfl) (by as_aux_lemma => kernel_rfl) (by as_aux_lemma => kernel_rfl) (by as_aux_lemma => kernel_rfl) (by as_aux_lemma => kernel_rfl) (by as_aux_lemma => kernel_rfl) (by as_aux_lemma => kernel_rfl) (by as_aux_lemma => kernel_rfl) (by as_aux_lemma => kernel_rfl) (by as_aux_lemma => kernel_rfl) (by as_aux_lemma => kernel_rfl) (by as_aux_lemma => kernel_rfl) (by as_aux_lemma => kernel_rfl) (by as_aux_lemma => kernel_rfl) (by as_aux_lemma => kernel_rfl))
    (of_decide_eq_true (by kernel_rfl)) (by unfold Func.isWrapper; rw [if_neg (of_decide_eq_false (by kernel_rfl))]; exact ⟨rfl, rfl⟩)
    (fun os started H enc _ => FnExactEnvyMatrix_lifted os started H enc)

end Go.Proofs.Ytbipfidoecagoaa
