/- At every input the law below returns true and leaves its arguments alone: TakeTurns of the program returns what that of the reference returns, in memory of its own. No condition. -/
import Derived.Test.YtkmklfdpomkalaaRows
import Derived.Test.YtkmklfdpomkalaaTake
import Derived.Test.YtkmklfdpomkalaaFacts
import Derived.Test.YtkmklfdpomkalaaMarks
namespace Go.Proofs.Ytkmklfdpomkalaa
open Go Go.Vc
set_option maxRecDepth 100000
set_option linter.unusedSimpArgs false
set_option linter.unusedVariables false
open Go.ChangeShapes Go.WideShapes Go.RowKit
theorem takF_len {vs : List (List Int)} {l : List Int} : (takF vs l).length ≤ 1048576 := by
  unfold takF
  split
  · rename_i h
    simp only [takB, Bool.and_eq_true] at h
    have := (vals_of h.1).m6
    rw [takN_len]; omega
  · simp
def K_laws_FnExactTakeTurns : List Nat := [0, 1, 4, 5, 6, 7, 8, 9, 10, 11, 12, 13, 14, 15, 16]
def C_laws_FnExactTakeTurns : C :=
  let ks := K_laws_FnExactTakeTurns
  (.seq
    (.rg 0 [(none, .v 4 .mv [.k (.b false)])])
    (.cl ks (.seq
      (.seq
        (.rg 0 [(none, .v 17 .mv [.s 1]), (none, .v 18 .len [.s 17]), (none, .v 19 (.bin .gtr) [.s 18, .k (.i 1048576)])])
        (.cond (.s 19)
          (.seq
            (.rg 0 [(none, .v 4 .mv [.k (.b true)])])
            .ret)
          .skip))
      (.cl ks (.seq
        (.rg 0 [(none, .v 5 .mv [.k (.i 1048576)])])
        (.cl ks (.seq
          (.rg 0 [(none, .v 20 .mv [.s 0]), (none, .v 21 .mv [.s 5]), (none, .co 22 12 [.s 20, .s 21]), (none, .tk 5 22)])
          (.cl ks (.seq
            (.seq
              (.rg 0 [(none, .v 23 .mv [.s 5]), (none, .v 24 (.bin .lss) [.s 23, .k (.i 0)])])
              (.cond (.s 24)
                (.seq
                  (.rg 0 [(none, .v 4 .mv [.k (.b true)])])
                  .ret)
                .skip))
            (.cl ks (.seq
              (.rg 0 [(none, .v 26 .mv [.s 0]), (none, .co 27 14 [.s 26]), (none, .v 28 .mv [.s 1]), (none, .co 29 34 [.s 28]), (none, .co 30 36 [.s 27, .s 29]), (none, .tk 25 30), (none, .tk 31 100025), (none, .tk 32 101025), (none, .tk 6 31), (none, .tk 7 32)])
              (.cl ks (.seq
                (.rg 0 [(none, .v 33 .mv [.s 0]), (none, .co 34 14 [.s 33]), (none, .tk 8 34)])
                (.cl ks (.seq
                  (.rg 0 [(none, .v 35 .mv [.s 1]), (none, .co 36 34 [.s 35]), (none, .tk 9 36)])
                  (.cl ks (.seq
                    (.rg 0 [(none, .v 38 .mv [.s 8]), (none, .v 39 .mv [.s 9]), (none, .co 40 37 [.s 38, .s 39]), (none, .tk 37 40), (none, .tk 41 100037), (none, .tk 42 101037), (none, .tk 10 41), (none, .tk 11 42)])
                    (.cl ks (.seq
                      (.seq
                        (.rg 0 [(none, .v 43 .mv [.s 10]), (none, .v 44 .mv [.s 6]), (none, .co 45 23 [.s 43, .s 44]), (none, .v 46 .not [.s 45]), (none, .v 47 .mv [.s 46]), (some (47, false), .v 48 .mv [.s 11]), (some (47, false), .v 49 .mv [.s 7]), (some (47, false), .v 50 .bne [.s 48, .s 49]), (none, .v 51 .pick [.s 47, .k (.b true), .s 50])])
                        (.cond (.s 51)
                          (.seq
                            (.rg 0 [(none, .v 4 .mv [.k (.b false)])])
                            .ret)
                          .skip))
                      (.cl ks (.seq
                        (.seq
                          (.rg 0 [(none, .v 52 .mv [.s 8]), (none, .v 53 .mv [.s 0]), (none, .co 54 14 [.s 53]), (none, .co 55 16 [.s 52, .s 54]), (none, .v 56 .not [.s 55])])
                          (.cond (.s 56)
                            (.seq
                              (.rg 0 [(none, .v 4 .mv [.k (.b false)])])
                              .ret)
                            .skip))
                        (.cl ks (.seq
                          (.seq
                            (.rg 0 [(none, .v 57 .mv [.s 9]), (none, .v 58 .mv [.s 1]), (none, .co 59 34 [.s 58]), (none, .co 60 23 [.s 57, .s 59]), (none, .v 61 .not [.s 60])])
                            (.cond (.s 61)
                              (.seq
                                (.rg 0 [(none, .v 4 .mv [.k (.b false)])])
                                .ret)
                              .skip))
                          (.cl ks (.seq
                            (.rg 0 [(none, .v 12 .mv [.k (.i 1)])])
                            (.cl ks (.seq
                              (.rg 0 [(none, .v 62 .mv [.s 8]), (none, .v 63 .mv [.s 12]), (none, .cox (some 64) 24 [.s 62, .s 63] 0), (none, .tk 12 64)])
                              (.cl ks (.seq
                                (.rg 0 [(none, .v 65 .mv [.s 9]), (none, .v 66 .mv [.s 12]), (none, .cox (some 67) 25 [.s 65, .s 66] 0), (none, .tk 12 67)])
                                (.cl ks (.seq
                                  (.seq
                                    (.rg 0 [(none, .v 68 .mv [.s 12]), (none, .v 69 (.bin .lss) [.s 68, .k (.i 0)]), (none, .v 70 .mv [.s 69]), (some (70, false), .v 71 .mv [.s 10]), (some (70, false), .v 72 .mv [.s 6]), (some (70, false), .co 73 23 [.s 71, .s 72]), (some (70, false), .v 74 .not [.s 73]), (none, .v 75 .pick [.s 70, .k (.b true), .s 74]), (none, .v 76 .mv [.s 75]), (some (76, false), .v 77 .mv [.s 11]), (some (76, false), .v 78 .mv [.s 7]), (some (76, false), .v 79 .bne [.s 77, .s 78]), (none, .v 80 .pick [.s 76, .k (.b true), .s 79])])
                                    (.cond (.s 80)
                                      (.seq
                                        (.rg 0 [(none, .v 4 .mv [.k (.b false)])])
                                        .ret)
                                      .skip))
                                  (.cl ks (.seq
                                    (.rg 0 [(none, .v 13 .mv [.k (.i 1)])])
                                    (.cl ks (.seq
                                      (.rg 0 [(none, .v 81 .mv [.s 10]), (none, .v 82 .mv [.s 13]), (none, .cox (some 83) 25 [.s 81, .s 82] 0), (none, .tk 13 83)])
                                      (.cl ks (.seq
                                        (.rg 0 [(none, .v 14 .mv [.k (.i 1)])])
                                        (.cl ks (.seq
                                          (.rg 0 [(none, .v 84 .mv [.s 10]), (none, .v 85 .mv [.s 14]), (none, .co 86 26 [.s 84, .s 85]), (none, .tk 14 86)])
                                          (.cl ks (.seq
                                            (.seq
                                              (.rg 0 [(none, .v 87 .mv [.s 14]), (none, .v 88 (.bin .lss) [.s 87, .k (.i 0)])])
                                              (.cond (.s 88)
                                                (.seq
                                                  (.rg 0 [(none, .v 4 .mv [.k (.b false)])])
                                                  .ret)
                                                .skip))
                                            (.cl ks (.seq
                                              (.seq
                                                (.rg 0 [(none, .v 89 .mv [.s 14]), (none, .v 90 .mv [.s 13]), (none, .v 91 (.bin .neq) [.s 89, .s 90])])
                                                (.cond (.s 91)
                                                  (.seq
                                                    (.rg 0 [(none, .v 4 .mv [.k (.b false)])])
                                                    .ret)
                                                  .skip))
                                              (.cl ks (.seq
                                                (.rg 0 [(none, .v 93 .mv [.s 0]), (none, .co 94 14 [.s 93]), (none, .v 95 .mv [.s 1]), (none, .co 96 34 [.s 95]), (none, .co 97 37 [.s 94, .s 96]), (none, .tk 92 97), (none, .tk 98 100092), (none, .tk 99 101092), (none, .tk 15 98), (none, .tk 16 99)])
                                                (.cl ks (.seq
                                                  (.seq
                                                    (.rg 0 [(none, .v 100 .mv [.s 15]), (none, .v 101 .mv [.s 6]), (none, .co 102 23 [.s 100, .s 101]), (none, .v 103 .not [.s 102]), (none, .v 104 .mv [.s 103]), (some (104, false), .v 105 .mv [.s 16]), (some (104, false), .v 106 .mv [.s 7]), (some (104, false), .v 107 .bne [.s 105, .s 106]), (none, .v 108 .pick [.s 104, .k (.b true), .s 107])])
                                                    (.cond (.s 108)
                                                      (.seq
                                                        (.rg 0 [(none, .v 4 .mv [.k (.b false)])])
                                                        .ret)
                                                      .skip))
                                                  (.cl ks (.seq
                                                    (.rg 0 [(none, .v 14 .mv [.k (.i 1)])])
                                                    (.cl ks (.seq
                                                      (.rg 0 [(none, .v 109 .mv [.s 10]), (none, .v 110 .mv [.s 14]), (none, .co 111 26 [.s 109, .s 110]), (none, .tk 14 111)])
                                                      (.cl ks (.seq
                                                        (.seq
                                                          (.rg 0 [(none, .v 112 .mv [.s 14]), (none, .v 113 (.bin .lss) [.s 112, .k (.i 0)])])
                                                          (.cond (.s 113)
                                                            (.seq
                                                              (.rg 0 [(none, .v 4 .mv [.k (.b false)])])
                                                              .ret)
                                                            .skip))
                                                        (.cl ks (.seq
                                                          (.seq
                                                            (.rg 0 [(none, .v 114 .mv [.s 14]), (none, .v 115 .mv [.s 13]), (none, .v 116 (.bin .neq) [.s 114, .s 115])])
                                                            (.cond (.s 116)
                                                              (.seq
                                                                (.rg 0 [(none, .v 4 .mv [.k (.b false)])])
                                                                .ret)
                                                              .skip))
                                                          (.cl ks (.seq
                                                            (.rg 0 [(none, .v 4 .mv [.k (.b true)])])
                                                            .ret)))))))))))))))))))))))))))))))))))))))))))))))))))))))))

theorem chk_laws_FnExactTakeTurns : ∃ b, Try.f11.body = some b ∧ chk Try.prog Try.f11.ntmps true C_laws_FnExactTakeTurns b = true := ⟨_, rfl, by kernel_rfl⟩
theorem FnExactTakeTurns_ok (x0 : List (List Int)) (a0 : x0.length ≤ 9223372036854775807) (b0 : ∀ r ∈ x0, r.length ≤ 9223372036854775807) (x1 : List Int) (a1 : x1.length ≤ 9223372036854775807) :
    CallOk Try.prog 11 [.s none (rr x0), .s none (ii x1)] [(0, .b true)] := by
  obtain ⟨code0, hcd1, hcd2⟩ := chk_laws_FnExactTakeTurns; refine callOk_of Try.func11 hcd1 mo Try.call11 (rs := [4]) (by kernel_rfl) hcd2 (by rw [Try.ntmps11]; simp) (by simp) (by decide) ?_; unfold C_laws_FnExactTakeTurns K_laws_FnExactTakeTurns; simp (config := { maxSteps := 2000000 }) only [go_sem, Nat.reduceBEq, Nat.reduceAdd, Nat.reduceMul, Nat.reduceMod, Nat.reduceLT, Nat.reduceDiv, Nat.reduceSub, Nat.reduceLeDiff, Int.reduceToNat, Int.reduceLT, Int.reduceLE, reduceCtorEq, List.take_nil, List.drop_nil]
  refine ⟨fun _ => trivial, fun c1 => ?_⟩
  have h1 : x1.length ≤ 1048576 := by omega
  refine ⟨_, szIntSS_ok none x0 _ (by omega) (by omega) a0 b0, ?_⟩; simp (config := { maxSteps := 2000000 }) only [go_sem, Nat.reduceBEq, Nat.reduceAdd, Nat.reduceMul, Nat.reduceMod, Nat.reduceLT, Nat.reduceDiv, Nat.reduceSub, Nat.reduceLeDiff, Int.reduceToNat, Int.reduceLT, Int.reduceLE, reduceCtorEq, List.take_nil, List.drop_nil]
  refine ⟨fun _ => trivial, fun c0 => ?_⟩
  obtain ⟨h0, k0⟩ := szII_ok (by omega) c0
  have t0 : (tot x0 : Int) ≤ 1048576 := Int.le_trans (szII_tot c0) (by omega)
  have l0r : (takF x0 x1).length ≤ 1048576 := takF_len
  refine ⟨_, toIntSS_ok none x0 h0 k0, ?_⟩; simp (config := { maxSteps := 2000000 }) only [go_sem, Nat.reduceBEq, Nat.reduceAdd, Nat.reduceMul, Nat.reduceMod, Nat.reduceLT, Nat.reduceDiv, Nat.reduceSub, Nat.reduceLeDiff, Int.reduceToNat, Int.reduceLT, Int.reduceLE, reduceCtorEq, List.take_nil, List.drop_nil]
  refine ⟨_, toIntS_ok none x1 h1, ?_⟩; simp (config := { maxSteps := 2000000 }) only [go_sem, Nat.reduceBEq, Nat.reduceAdd, Nat.reduceMul, Nat.reduceMod, Nat.reduceLT, Nat.reduceDiv, Nat.reduceSub, Nat.reduceLeDiff, Int.reduceToNat, Int.reduceLT, Int.reduceLE, reduceCtorEq, List.take_nil, List.drop_nil]
  refine ⟨_, spec_TakeTurns_ok x0 x1 h0 k0 h1, ?_⟩; simp (config := { maxSteps := 2000000 }) only [go_sem, Nat.reduceBEq, Nat.reduceAdd, Nat.reduceMul, Nat.reduceMod, Nat.reduceLT, Nat.reduceDiv, Nat.reduceSub, Nat.reduceLeDiff, Int.reduceToNat, Int.reduceLT, Int.reduceLE, reduceCtorEq, List.take_nil, List.drop_nil]
  refine ⟨_, toIntSS_ok none x0 h0 k0, ?_⟩; simp (config := { maxSteps := 2000000 }) only [go_sem, Nat.reduceBEq, Nat.reduceAdd, Nat.reduceMul, Nat.reduceMod, Nat.reduceLT, Nat.reduceDiv, Nat.reduceSub, Nat.reduceLeDiff, Int.reduceToNat, Int.reduceLT, Int.reduceLE, reduceCtorEq, List.take_nil, List.drop_nil]
  refine ⟨_, toIntS_ok none x1 h1, ?_⟩; simp (config := { maxSteps := 2000000 }) only [go_sem, Nat.reduceBEq, Nat.reduceAdd, Nat.reduceMul, Nat.reduceMod, Nat.reduceLT, Nat.reduceDiv, Nat.reduceSub, Nat.reduceLeDiff, Int.reduceToNat, Int.reduceLT, Int.reduceLE, reduceCtorEq, List.take_nil, List.drop_nil]
  refine ⟨_, impl_TakeTurns_ok x0 x1 h0 k0 h1, ?_⟩; simp (config := { maxSteps := 2000000 }) only [go_sem, Nat.reduceBEq, Nat.reduceAdd, Nat.reduceMul, Nat.reduceMod, Nat.reduceLT, Nat.reduceDiv, Nat.reduceSub, Nat.reduceLeDiff, Int.reduceToNat, Int.reduceLT, Int.reduceLE, reduceCtorEq, List.take_nil, List.drop_nil]
  refine ⟨_, eqIntS_ok none none (takF x0 x1) (takF x0 x1) l0r, ?_⟩; simp (config := { maxSteps := 2000000 }) only [go_sem, Nat.reduceBEq, Nat.reduceAdd, Nat.reduceMul, Nat.reduceMod, Nat.reduceLT, Nat.reduceDiv, Nat.reduceSub, Nat.reduceLeDiff, Int.reduceToNat, Int.reduceLT, Int.reduceLE, reduceCtorEq, List.take_nil, List.drop_nil]
  try (first | (refine ⟨fun h => ?_, fun _ => ?_⟩; focus (simp at h; done)) | (refine ⟨fun h => ?_, fun _ => ?_⟩; focus omega) | (refine ⟨fun h => ?_, ?_⟩; focus (exact absurd trivial h)) | (refine ⟨fun _ => ?_, fun h => ?_⟩; rotate_left; focus omega))
  try (first | (refine ⟨fun h => ?_, fun _ => ?_⟩; focus (simp at h; done)) | (refine ⟨fun h => ?_, fun _ => ?_⟩; focus omega) | (refine ⟨fun h => ?_, ?_⟩; focus (exact absurd trivial h)) | (refine ⟨fun _ => ?_, fun h => ?_⟩; rotate_left; focus omega))
  refine ⟨_, toIntSS_ok none x0 h0 k0, ?_⟩; simp (config := { maxSteps := 2000000 }) only [go_sem, Nat.reduceBEq, Nat.reduceAdd, Nat.reduceMul, Nat.reduceMod, Nat.reduceLT, Nat.reduceDiv, Nat.reduceSub, Nat.reduceLeDiff, Int.reduceToNat, Int.reduceLT, Int.reduceLE, reduceCtorEq, List.take_nil, List.drop_nil]
  refine ⟨_, eqIntSS_ok _ _ x0 x0 h0 k0, ?_⟩; simp (config := { maxSteps := 2000000 }) only [go_sem, Nat.reduceBEq, Nat.reduceAdd, Nat.reduceMul, Nat.reduceMod, Nat.reduceLT, Nat.reduceDiv, Nat.reduceSub, Nat.reduceLeDiff, Int.reduceToNat, Int.reduceLT, Int.reduceLE, reduceCtorEq, List.take_nil, List.drop_nil]
  try (first | (refine ⟨fun h => ?_, fun _ => ?_⟩; focus (simp at h; done)) | (refine ⟨fun h => ?_, fun _ => ?_⟩; focus omega) | (refine ⟨fun h => ?_, ?_⟩; focus (exact absurd trivial h)) | (refine ⟨fun _ => ?_, fun h => ?_⟩; rotate_left; focus omega))
  refine ⟨_, toIntS_ok none x1 h1, ?_⟩; simp (config := { maxSteps := 2000000 }) only [go_sem, Nat.reduceBEq, Nat.reduceAdd, Nat.reduceMul, Nat.reduceMod, Nat.reduceLT, Nat.reduceDiv, Nat.reduceSub, Nat.reduceLeDiff, Int.reduceToNat, Int.reduceLT, Int.reduceLE, reduceCtorEq, List.take_nil, List.drop_nil]
  refine ⟨_, eqIntS_ok _ _ x1 x1 h1, ?_⟩; simp (config := { maxSteps := 2000000 }) only [go_sem, Nat.reduceBEq, Nat.reduceAdd, Nat.reduceMul, Nat.reduceMod, Nat.reduceLT, Nat.reduceDiv, Nat.reduceSub, Nat.reduceLeDiff, Int.reduceToNat, Int.reduceLT, Int.reduceLE, reduceCtorEq, List.take_nil, List.drop_nil]
  try (first | (refine ⟨fun h => ?_, fun _ => ?_⟩; focus (simp at h; done)) | (refine ⟨fun h => ?_, fun _ => ?_⟩; focus omega) | (refine ⟨fun h => ?_, ?_⟩; focus (exact absurd trivial h)) | (refine ⟨fun _ => ?_, fun h => ?_⟩; rotate_left; focus omega))
  refine ⟨_, _, _, markIntSS_ok _ x0 _ (by omega) (by omega) h0 k0, ?_⟩; simp (config := { maxSteps := 2000000 }) only [go_sem, Nat.reduceBEq, Nat.reduceAdd, Nat.reduceMul, Nat.reduceMod, Nat.reduceLT, Nat.reduceDiv, Nat.reduceSub, Nat.reduceLeDiff, Int.reduceToNat, Int.reduceLT, Int.reduceLE, reduceCtorEq, List.take_nil, List.drop_nil]
  refine ⟨_, _, _, markIntS_ok _ x1 _ (by omega) (by omega) h1, ?_⟩; simp (config := { maxSteps := 2000000 }) only [go_sem, Nat.reduceBEq, Nat.reduceAdd, Nat.reduceMul, Nat.reduceMod, Nat.reduceLT, Nat.reduceDiv, Nat.reduceSub, Nat.reduceLeDiff, Int.reduceToNat, Int.reduceLT, Int.reduceLE, reduceCtorEq, List.take_nil, List.drop_nil]
  try (first | (refine ⟨fun h => ?_, fun _ => ?_⟩; focus (simp at h; done)) | (refine ⟨fun h => ?_, fun _ => ?_⟩; focus omega) | (refine ⟨fun h => ?_, ?_⟩; focus (exact absurd trivial h)) | (refine ⟨fun _ => ?_, fun h => ?_⟩; rotate_left; focus omega))
  refine ⟨_, eqIntS_ok none none (takF x0 x1) (takF x0 x1) l0r, ?_⟩; simp (config := { maxSteps := 2000000 }) only [go_sem, Nat.reduceBEq, Nat.reduceAdd, Nat.reduceMul, Nat.reduceMod, Nat.reduceLT, Nat.reduceDiv, Nat.reduceSub, Nat.reduceLeDiff, Int.reduceToNat, Int.reduceLT, Int.reduceLE, reduceCtorEq, List.take_nil, List.drop_nil]
  try (first | (refine ⟨fun h => ?_, fun _ => ?_⟩; focus (simp at h; done)) | (refine ⟨fun h => ?_, fun _ => ?_⟩; focus omega) | (refine ⟨fun h => ?_, ?_⟩; focus (exact absurd trivial h)) | (refine ⟨fun _ => ?_, fun h => ?_⟩; rotate_left; focus omega))
  try (first | (refine ⟨fun h => ?_, fun _ => ?_⟩; focus (simp at h; done)) | (refine ⟨fun h => ?_, fun _ => ?_⟩; focus omega) | (refine ⟨fun h => ?_, ?_⟩; focus (exact absurd trivial h)) | (refine ⟨fun _ => ?_, fun h => ?_⟩; rotate_left; focus omega))
  refine ⟨_, _, _, markIntS_ok _ (takF x0 x1) _ (by omega) (by omega) l0r, ?_⟩; simp (config := { maxSteps := 2000000 }) only [go_sem, Nat.reduceBEq, Nat.reduceAdd, Nat.reduceMul, Nat.reduceMod, Nat.reduceLT, Nat.reduceDiv, Nat.reduceSub, Nat.reduceLeDiff, Int.reduceToNat, Int.reduceLT, Int.reduceLE, reduceCtorEq, List.take_nil, List.drop_nil]
  refine ⟨_, heldIntS_ok none (takF x0 x1).length _ (by omega) (by omega) l0r, ?_⟩; simp (config := { maxSteps := 2000000 }) only [go_sem, Nat.reduceBEq, Nat.reduceAdd, Nat.reduceMul, Nat.reduceMod, Nat.reduceLT, Nat.reduceDiv, Nat.reduceSub, Nat.reduceLeDiff, Int.reduceToNat, Int.reduceLT, Int.reduceLE, reduceCtorEq, List.take_nil, List.drop_nil]
  try (first | (refine ⟨fun h => ?_, fun _ => ?_⟩; focus (simp at h; done)) | (refine ⟨fun h => ?_, fun _ => ?_⟩; focus omega) | (refine ⟨fun h => ?_, ?_⟩; focus (exact absurd trivial h)) | (refine ⟨fun _ => ?_, fun h => ?_⟩; rotate_left; focus omega))
  try (first | (refine ⟨fun h => ?_, fun _ => ?_⟩; focus (simp at h; done)) | (refine ⟨fun h => ?_, fun _ => ?_⟩; focus omega) | (refine ⟨fun h => ?_, ?_⟩; focus (exact absurd trivial h)) | (refine ⟨fun _ => ?_, fun h => ?_⟩; rotate_left; focus omega))
  refine ⟨_, toIntSS_ok none x0 h0 k0, ?_⟩; simp (config := { maxSteps := 2000000 }) only [go_sem, Nat.reduceBEq, Nat.reduceAdd, Nat.reduceMul, Nat.reduceMod, Nat.reduceLT, Nat.reduceDiv, Nat.reduceSub, Nat.reduceLeDiff, Int.reduceToNat, Int.reduceLT, Int.reduceLE, reduceCtorEq, List.take_nil, List.drop_nil]
  refine ⟨_, toIntS_ok none x1 h1, ?_⟩; simp (config := { maxSteps := 2000000 }) only [go_sem, Nat.reduceBEq, Nat.reduceAdd, Nat.reduceMul, Nat.reduceMod, Nat.reduceLT, Nat.reduceDiv, Nat.reduceSub, Nat.reduceLeDiff, Int.reduceToNat, Int.reduceLT, Int.reduceLE, reduceCtorEq, List.take_nil, List.drop_nil]
  refine ⟨_, impl_TakeTurns_ok x0 x1 h0 k0 h1, ?_⟩; simp (config := { maxSteps := 2000000 }) only [go_sem, Nat.reduceBEq, Nat.reduceAdd, Nat.reduceMul, Nat.reduceMod, Nat.reduceLT, Nat.reduceDiv, Nat.reduceSub, Nat.reduceLeDiff, Int.reduceToNat, Int.reduceLT, Int.reduceLE, reduceCtorEq, List.take_nil, List.drop_nil]
  refine ⟨_, eqIntS_ok none none (takF x0 x1) (takF x0 x1) l0r, ?_⟩; simp (config := { maxSteps := 2000000 }) only [go_sem, Nat.reduceBEq, Nat.reduceAdd, Nat.reduceMul, Nat.reduceMod, Nat.reduceLT, Nat.reduceDiv, Nat.reduceSub, Nat.reduceLeDiff, Int.reduceToNat, Int.reduceLT, Int.reduceLE, reduceCtorEq, List.take_nil, List.drop_nil]
  try (first | (refine ⟨fun h => ?_, fun _ => ?_⟩; focus (simp at h; done)) | (refine ⟨fun h => ?_, fun _ => ?_⟩; focus omega) | (refine ⟨fun h => ?_, ?_⟩; focus (exact absurd trivial h)) | (refine ⟨fun _ => ?_, fun h => ?_⟩; rotate_left; focus omega))
  try (first | (refine ⟨fun h => ?_, fun _ => ?_⟩; focus (simp at h; done)) | (refine ⟨fun h => ?_, fun _ => ?_⟩; focus omega) | (refine ⟨fun h => ?_, ?_⟩; focus (exact absurd trivial h)) | (refine ⟨fun _ => ?_, fun h => ?_⟩; rotate_left; focus omega))
  refine ⟨_, heldIntS_ok none (takF x0 x1).length _ (by omega) (by omega) l0r, ?_⟩; simp (config := { maxSteps := 2000000 }) only [go_sem, Nat.reduceBEq, Nat.reduceAdd, Nat.reduceMul, Nat.reduceMod, Nat.reduceLT, Nat.reduceDiv, Nat.reduceSub, Nat.reduceLeDiff, Int.reduceToNat, Int.reduceLT, Int.reduceLE, reduceCtorEq, List.take_nil, List.drop_nil]
  first | exact ⟨fun h => by omega, fun _ h => absurd trivial h⟩ | trivial
theorem FnExactTakeTurns_lifted (os : Os) (started : os.Started) (H : Type) (enc : TypeId × Value → H) :
    ReturnsInHanded {} Try.checked os 11 .any (Rows.fnExactTakeTurnsSpec.pre6 enc Try.prog Try.f11 Rows.fnExactTakeTurnsRow.domain false) (Rows.fnExactTakeTurnsSpec.post enc Try.prog Try.f11 false true false false) := by
  refine returnsInHanded_of_change (C := Try.checked) ownk started (by as_aux_lemma => kernel_rfl) Try.func11
    (ChangeSpec.witness6 (enc := enc) (C := Try.checked) false ⟨#[], #[.slice none 0 0, .slice none 0 0], []⟩ 8 (by kernel_rfl) (by kernel_rfl) (by kernel_rfl) (by kernel_rfl)) ?_
  intro W base args ds gs before hval0 hW _ _
  have hval : ∀ (j : Nat) t v, Try.f11.params[j]? = some t → args[j]? = some v → Value.okWide Try.prog W .any base t v := hval0
  have hW' := hW
  obtain ⟨p, q, hA0, _⟩ := hW
  have hA : DataW.TrodAll enc Try.prog W 0 (fun _ => true) true Try.f11.params.toList args.toList ds p := hA0
  rw [Try.params11] at hA hval
  clear hA0 hval0
  obtain ⟨v0, v1, d0, d1, p0, p1, rfl, rfl, rfl, h0, h1⟩ := trodAll_two hA
  obtain ⟨x0, a0, b0, f0⟩ := fz_rows Try.underlying22 Try.underlying28 Try.underlying3 (by kernel_rfl : Try.prog.cellsOf 28 = 1) (by kernel_rfl : Try.prog.cellsOf 3 = 1) (hval 0 22 v0 rfl rfl) h0
  obtain ⟨x1, a1, f1⟩ := fz_ints Try.underlying28 Try.underlying3 (by kernel_rfl : Try.prog.cellsOf 3 = 1) (hval 1 28 v1 rfl rfl) h1
  exact law_post (P := Try.prog) pfacts.laid (fun t ht => by rw [Try.params11] at ht; revert t; simp only [List.mem_cons, List.not_mem_nil, or_false, forall_eq_or_imp, forall_eq]; exact ⟨⟨by kernel_rfl, of_decide_eq_true (by kernel_rfl)⟩, ⟨by kernel_rfl, of_decide_eq_true (by kernel_rfl)⟩⟩) rfl (by kernel_rfl) rfl (fun ds hds => by
    have hds : ds.length = 2 := hds
    match ds, hds with
    | [d0, d1], _ => rfl) hW' (ts := [.s none (rr x0), .s none (ii x1)]) (by simp only [FzL]; exact ⟨_, _, rfl, f0, ⟨_, _, rfl, f1, rfl⟩⟩) (FnExactTakeTurns_ok x0 a0 b0 x1 a1)
theorem FnExactTakeTurns_holds : Rows.FnExactTakeTurnsSaid :=
  OpenClaim.holds_of_wide (p := Try.pinned) (s := Rows.fnExactTakeTurnsSpec) (c := Rows.fnExactTakeTurnsRow) 11 Try.f11 rfl rfl rfl rfl rfl rfl rfl ⟨rfl, rfl, rfl, rfl, rfl⟩ rfl rfl rfl rfl rfl (by as_aux_lemma => kernel_rfl) Try.func11 (joined_of pfacts rfl rfl rfl (by as_aux_lemma => kernel_rfl) (by as_aux_lemma => kernel_rfl) (by as_aux_lemma => kernel_rfl) (by as_aux_lemma => kernel_rfl) (by as_aux_lemma => kernel_rfl) (by as_aux_lemma => kernel_rfl) (by as_aux_lemma => kernel_rfl) (by as_aux_lemma => kernel_rfl) (by as_aux_lemma => kernel_rfl) (by as_aux_lemma => kernel_rfl) (by as_aux_lemma => kernel_rfl) (by as_aux_lemma => kernel_rfl) (by as_aux_lemma => kernel_rfl) (by as_aux_lemma => kernel_rfl) (by as_aux_lemma => kernel_rfl) (by as_aux_lemma => kernel_rfl) (by as_aux_lemma => kernel_rfl) (by as_aux_lemma => kernel_rfl) (by as_aux_lemma => kernel_rfl) (by as_aux_lemma => kernel_rfl) (by as_aux_lemma => kernel_rfl) (by as_aux_lemma => kernel_rfl) (by as_aux_lemma => kernel_rfl))
    (of_decide_eq_true (by kernel_rfl)) (by unfold Func.isWrapper; rw [if_neg (of_decide_eq_false (by kernel_rfl))]; exact ⟨rfl, rfl⟩)
    (fun os started H enc _ => FnExactTakeTurns_lifted os started H enc)

end Go.Proofs.Ytkmklfdpomkalaa
