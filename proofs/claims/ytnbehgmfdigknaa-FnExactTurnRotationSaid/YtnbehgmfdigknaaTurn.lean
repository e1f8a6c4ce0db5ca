/- At every input the law below returns true and leaves its arguments alone: TurnRotation of the program returns what that of the reference returns, in memory of its own. No condition. -/
import Derived.Test.YtnbehgmfdigknaaRows
import Derived.Test.YtnbehgmfdigknaaRot
import Derived.Test.YtnbehgmfdigknaaFacts
import Derived.Test.YtnbehgmfdigknaaMarks
namespace Go.Proofs.Ytnbehgmfdigknaa
open Go Go.Vc
set_option maxRecDepth 100000
set_option linter.unusedSimpArgs false
set_option linter.unusedVariables false
open Go.ChangeShapes Go.WideShapes Go.RowKit
theorem turnF_len {x y : List (List Int)} {l r : List Int} : (turnF x y l r).length ≤ 1048576 := by
  unfold turnF
  split
  · rename_i h
    obtain ⟨M, R, _, _⟩ := turn_of h
    have := M.m.n5; have := rank_len R
    rw [turnN_len]; omega
  · simp
def K_laws_FnExactTurnRotation : List Nat := [0, 1, 2, 3, 6, 7, 8, 9, 10, 11, 12, 13, 14, 15, 16, 17, 18, 19, 1003, 2003, 1010, 2010]
def C_laws_FnExactTurnRotation : C :=
  let ks := K_laws_FnExactTurnRotation
  (.seq
    (.rg 0 [(none, .v 3 .boxS [.s 0]), (none, .v 6 .mv [.k (.b false)])])
    (.cl ks (.seq
      (.seq
        (.rg 0 [(none, .v 20 .mv [.s 1]), (none, .v 21 .len [.s 20]), (none, .v 22 (.bin .gtr) [.s 21, .k (.i 1048576)])])
        (.cond (.s 22)
          (.seq
            (.rg 0 [(none, .v 6 .mv [.k (.b true)])])
            .ret)
          .skip))
      (.cl ks (.seq
        (.seq
          (.rg 0 [(none, .v 23 .mv [.s 2]), (none, .v 24 .len [.s 23]), (none, .v 25 (.bin .gtr) [.s 24, .k (.i 1048576)])])
          (.cond (.s 25)
            (.seq
              (.rg 0 [(none, .v 6 .mv [.k (.b true)])])
              .ret)
            .skip))
        (.cl ks (.seq
          (.rg 0 [(none, .v 7 .mv [.k (.i 1048576)])])
          (.cl ks (.seq
            (.rg 0 [(none, .v 26 (.lds 2) [.s 3]), (none, .v 27 .mv [.s 7]), (none, .co 28 9 [.s 26, .s 27]), (none, .tk 7 28)])
            (.cl ks (.seq
              (.seq
                (.rg 0 [(none, .v 29 .mv [.s 7]), (none, .v 30 (.bin .lss) [.s 29, .k (.i 0)])])
                (.cond (.s 30)
                  (.seq
                    (.rg 0 [(none, .v 6 .mv [.k (.b true)])])
                    .ret)
                  .skip))
              (.cl ks (.seq
                (.rg 0 [(none, .v 32 (.lds 2) [.s 3]), (none, .co 33 11 [.s 32]), (none, .v 34 .mv [.s 1]), (none, .co 35 12 [.s 34]), (none, .v 36 .mv [.s 2]), (none, .co 37 12 [.s 36]), (none, .co 38 24 [.s 33, .s 35, .s 37]), (none, .tk 31 38), (none, .tk 39 100031), (none, .tk 40 101031), (none, .tk 8 39), (none, .tk 9 40)])
                (.cl ks (.seq
                  (.rg 0 [(none, .v 41 (.lds 2) [.s 3]), (none, .co 42 11 [.s 41]), (none, .new 10 [.s (some true) [], .s (some true) []]), (none, .sts (.s 10) (.s 42) 2)])
                  (.cl ks (.seq
                    (.rg 0 [(none, .v 43 .mv [.s 1]), (none, .co 44 12 [.s 43]), (none, .tk 11 44)])
                    (.cl ks (.seq
                      (.rg 0 [(none, .v 45 .mv [.s 2]), (none, .co 46 12 [.s 45]), (none, .tk 12 46)])
                      (.cl ks (.seq
                        (.rg 0 [(none, .v 48 (.lds 2) [.s 10]), (none, .v 49 .mv [.s 11]), (none, .v 50 .mv [.s 12]), (none, .co 51 25 [.s 48, .s 49, .s 50]), (none, .tk 47 51), (none, .tk 52 100047), (none, .tk 53 101047), (none, .tk 13 52), (none, .tk 14 53)])
                        (.cl ks (.seq
                          (.seq
                            (.rg 0 [(none, .v 54 .mv [.s 13]), (none, .v 55 .mv [.s 8]), (none, .co 56 16 [.s 54, .s 55]), (none, .v 57 .not [.s 56]), (none, .v 58 .mv [.s 57]), (some (58, false), .v 59 .mv [.s 14]), (some (58, false), .v 60 .mv [.s 9]), (some (58, false), .v 61 .bne [.s 59, .s 60]), (none, .v 62 .pick [.s 58, .k (.b true), .s 61])])
                            (.cond (.s 62)
                              (.seq
                                (.rg 0 [(none, .v 6 .mv [.k (.b false)])])
                                .ret)
                              .skip))
                          (.cl ks (.seq
                            (.seq
                              (.rg 3 [(none, .v 63 (.lds 2) [.s 10]), (none, .v 64 (.lds 2) [.s 3]), (none, .v 65 (.call 11) [.s 64]), (none, .co 66 15 [.s 63, .s 65]), (none, .v 67 .not [.s 66])])
                              (.cond (.s 67)
                                (.seq
                                  (.rg 0 [(none, .v 6 .mv [.k (.b false)])])
                                  .ret)
                                .skip))
                            (.cl ks (.seq
                              (.seq
                                (.rg 0 [(none, .v 68 .mv [.s 11]), (none, .v 69 .mv [.s 1]), (none, .co 70 12 [.s 69]), (none, .co 71 16 [.s 68, .s 70]), (none, .v 72 .not [.s 71])])
                                (.cond (.s 72)
                                  (.seq
                                    (.rg 0 [(none, .v 6 .mv [.k (.b false)])])
                                    .ret)
                                  .skip))
                              (.cl ks (.seq
                                (.seq
                                  (.rg 0 [(none, .v 73 .mv [.s 12]), (none, .v 74 .mv [.s 2]), (none, .co 75 12 [.s 74]), (none, .co 76 16 [.s 73, .s 75]), (none, .v 77 .not [.s 76])])
                                  (.cond (.s 77)
                                    (.seq
                                      (.rg 0 [(none, .v 6 .mv [.k (.b false)])])
                                      .ret)
                                    .skip))
                                (.cl ks (.seq
                                  (.rg 0 [(none, .v 15 .mv [.k (.i 1)])])
                                  (.cl ks (.seq
                                    (.rg 0 [(none, .v 78 (.lds 2) [.s 10]), (none, .v 79 .mv [.s 15]), (none, .coa (some 80) 17 [.s 78, .s 79] 0), (none, .tk 15 80)])
                                    (.cl ks (.seq
                                      (.rg 0 [(none, .v 81 .mv [.s 11]), (none, .v 82 .mv [.s 15]), (none, .cox (some 83) 18 [.s 81, .s 82] 0), (none, .tk 15 83)])
                                      (.cl ks (.seq
                                        (.rg 0 [(none, .v 84 .mv [.s 12]), (none, .v 85 .mv [.s 15]), (none, .cox (some 86) 18 [.s 84, .s 85] 0), (none, .tk 15 86)])
                                        (.cl ks (.seq
                                          (.seq
                                            (.rg 0 [(none, .v 87 .mv [.s 15]), (none, .v 88 (.bin .lss) [.s 87, .k (.i 0)]), (none, .v 89 .mv [.s 88]), (some (89, false), .v 90 .mv [.s 13]), (some (89, false), .v 91 .mv [.s 8]), (some (89, false), .co 92 16 [.s 90, .s 91]), (some (89, false), .v 93 .not [.s 92]), (none, .v 94 .pick [.s 89, .k (.b true), .s 93]), (none, .v 95 .mv [.s 94]), (some (95, false), .v 96 .mv [.s 14]), (some (95, false), .v 97 .mv [.s 9]), (some (95, false), .v 98 .bne [.s 96, .s 97]), (none, .v 99 .pick [.s 95, .k (.b true), .s 98])])
                                            (.cond (.s 99)
                                              (.seq
                                                (.rg 0 [(none, .v 6 .mv [.k (.b false)])])
                                                .ret)
                                              .skip))
                                          (.cl ks (.seq
                                            (.rg 0 [(none, .v 16 .mv [.k (.i 1)])])
                                            (.cl ks (.seq
                                              (.rg 0 [(none, .v 100 .mv [.s 13]), (none, .v 101 .mv [.s 16]), (none, .cox (some 102) 18 [.s 100, .s 101] 0), (none, .tk 16 102)])
                                              (.cl ks (.seq
                                                (.rg 0 [(none, .v 17 .mv [.k (.i 1)])])
                                                (.cl ks (.seq
                                                  (.rg 0 [(none, .v 103 .mv [.s 13]), (none, .v 104 .mv [.s 17]), (none, .co 105 23 [.s 103, .s 104]), (none, .tk 17 105)])
                                                  (.cl ks (.seq
                                                    (.seq
                                                      (.rg 0 [(none, .v 106 .mv [.s 17]), (none, .v 107 (.bin .lss) [.s 106, .k (.i 0)])])
                                                      (.cond (.s 107)
                                                        (.seq
                                                          (.rg 0 [(none, .v 6 .mv [.k (.b false)])])
                                                          .ret)
                                                        .skip))
                                                    (.cl ks (.seq
                                                      (.seq
                                                        (.rg 0 [(none, .v 108 .mv [.s 17]), (none, .v 109 .mv [.s 16]), (none, .v 110 (.bin .neq) [.s 108, .s 109])])
                                                        (.cond (.s 110)
                                                          (.seq
                                                            (.rg 0 [(none, .v 6 .mv [.k (.b false)])])
                                                            .ret)
                                                          .skip))
                                                      (.cl ks (.seq
                                                        (.rg 0 [(none, .v 112 (.lds 2) [.s 3]), (none, .co 113 11 [.s 112]), (none, .v 114 .mv [.s 1]), (none, .co 115 12 [.s 114]), (none, .v 116 .mv [.s 2]), (none, .co 117 12 [.s 116]), (none, .co 118 25 [.s 113, .s 115, .s 117]), (none, .tk 111 118), (none, .tk 119 100111), (none, .tk 120 101111), (none, .tk 18 119), (none, .tk 19 120)])
                                                        (.cl ks (.seq
                                                          (.seq
                                                            (.rg 0 [(none, .v 121 .mv [.s 18]), (none, .v 122 .mv [.s 8]), (none, .co 123 16 [.s 121, .s 122]), (none, .v 124 .not [.s 123]), (none, .v 125 .mv [.s 124]), (some (125, false), .v 126 .mv [.s 19]), (some (125, false), .v 127 .mv [.s 9]), (some (125, false), .v 128 .bne [.s 126, .s 127]), (none, .v 129 .pick [.s 125, .k (.b true), .s 128])])
                                                            (.cond (.s 129)
                                                              (.seq
                                                                (.rg 0 [(none, .v 6 .mv [.k (.b false)])])
                                                                .ret)
                                                              .skip))
                                                          (.cl ks (.seq
                                                            (.rg 0 [(none, .v 17 .mv [.k (.i 1)])])
                                                            (.cl ks (.seq
                                                              (.rg 0 [(none, .v 130 .mv [.s 13]), (none, .v 131 .mv [.s 17]), (none, .co 132 23 [.s 130, .s 131]), (none, .tk 17 132)])
                                                              (.cl ks (.seq
                                                                (.seq
                                                                  (.rg 0 [(none, .v 133 .mv [.s 17]), (none, .v 134 (.bin .lss) [.s 133, .k (.i 0)])])
                                                                  (.cond (.s 134)
                                                                    (.seq
                                                                      (.rg 0 [(none, .v 6 .mv [.k (.b false)])])
                                                                      .ret)
                                                                    .skip))
                                                                (.cl ks (.seq
                                                                  (.seq
                                                                    (.rg 0 [(none, .v 135 .mv [.s 17]), (none, .v 136 .mv [.s 16]), (none, .v 137 (.bin .neq) [.s 135, .s 136])])
                                                                    (.cond (.s 137)
                                                                      (.seq
                                                                        (.rg 0 [(none, .v 6 .mv [.k (.b false)])])
                                                                        .ret)
                                                                      .skip))
                                                                  (.cl ks (.seq
                                                                    (.rg 0 [(none, .v 6 .mv [.k (.b true)])])
                                                                    .ret)))))))))))))))))))))))))))))))))))))))))))))))))))))))))))))))))

theorem chk_laws_FnExactTurnRotation : ∃ b, Try.f5.body = some b ∧ chk Try.prog Try.f5.ntmps true C_laws_FnExactTurnRotation b = true := ⟨_, rfl, by kernel_rfl⟩
theorem FnExactTurnRotation_ok (x0 y0 : List (List Int)) (a0 : x0.length ≤ 9223372036854775807) (b0 : ∀ r ∈ x0, r.length ≤ 9223372036854775807) (a0' : y0.length ≤ 9223372036854775807) (b0' : ∀ r ∈ y0, r.length ≤ 9223372036854775807) (x1 : List Int) (a1 : x1.length ≤ 9223372036854775807) (x2 : List Int) (a2 : x2.length ≤ 9223372036854775807) :
    CallOk Try.prog 5 [.a [.s none (rr x0), .s none (rr y0)], .s none (ii x1), .s none (ii x2)] [(0, .b true)] := by
  obtain ⟨code0, hcd1, hcd2⟩ := chk_laws_FnExactTurnRotation; refine callOk_of Try.func5 hcd1 mo Try.call5 (rs := [6]) (by kernel_rfl) hcd2 (by rw [Try.ntmps5]; simp) (by simp) (by decide) ?_; unfold C_laws_FnExactTurnRotation K_laws_FnExactTurnRotation; simp (config := { maxSteps := 2000000 }) only [go_sem, Nat.reduceBEq, Nat.reduceAdd, Nat.reduceMul, Nat.reduceMod, Nat.reduceLT, Nat.reduceDiv, Nat.reduceSub, Nat.reduceLeDiff, Int.reduceToNat, Int.reduceLT, Int.reduceLE, reduceCtorEq, List.take_nil, List.drop_nil]
  refine ⟨fun _ => trivial, fun c1 => ?_⟩
  have h1 : x1.length ≤ 1048576 := by omega
  refine ⟨fun _ => trivial, fun c2 => ?_⟩
  have h2 : x2.length ≤ 1048576 := by omega
  refine ⟨_, szMarket_ok x0 y0 _ (by omega) (by omega) a0 b0 a0' b0', ?_⟩; simp (config := { maxSteps := 2000000 }) only [go_sem, Nat.reduceBEq, Nat.reduceAdd, Nat.reduceMul, Nat.reduceMod, Nat.reduceLT, Nat.reduceDiv, Nat.reduceSub, Nat.reduceLeDiff, Int.reduceToNat, Int.reduceLT, Int.reduceLE, reduceCtorEq, List.take_nil, List.drop_nil]
  refine ⟨fun _ => trivial, fun c0 => ?_⟩
  obtain ⟨c0', c0'', e0'⟩ := szM_ok (by omega) c0
  obtain ⟨h0, k0⟩ := szII_ok (by omega) c0'
  obtain ⟨h0', k0'⟩ := szII_ok e0' c0''
  have t0 : (tot x0 : Int) ≤ 1048576 := Int.le_trans (szII_tot c0') (by omega)
  have t0' : (tot y0 : Int) ≤ 1048576 := Int.le_trans (szII_tot c0'') e0'
  have l0r : (turnF x0 y0 x1 x2).length ≤ 1048576 := turnF_len
  refine ⟨_, toMarket_ok x0 y0 h0 k0 h0' k0', ?_⟩; simp (config := { maxSteps := 2000000 }) only [go_sem, Nat.reduceBEq, Nat.reduceAdd, Nat.reduceMul, Nat.reduceMod, Nat.reduceLT, Nat.reduceDiv, Nat.reduceSub, Nat.reduceLeDiff, Int.reduceToNat, Int.reduceLT, Int.reduceLE, reduceCtorEq, List.take_nil, List.drop_nil]
  refine ⟨_, toIntS_ok none x1 h1, ?_⟩; simp (config := { maxSteps := 2000000 }) only [go_sem, Nat.reduceBEq, Nat.reduceAdd, Nat.reduceMul, Nat.reduceMod, Nat.reduceLT, Nat.reduceDiv, Nat.reduceSub, Nat.reduceLeDiff, Int.reduceToNat, Int.reduceLT, Int.reduceLE, reduceCtorEq, List.take_nil, List.drop_nil]
  refine ⟨_, toIntS_ok none x2 h2, ?_⟩; simp (config := { maxSteps := 2000000 }) only [go_sem, Nat.reduceBEq, Nat.reduceAdd, Nat.reduceMul, Nat.reduceMod, Nat.reduceLT, Nat.reduceDiv, Nat.reduceSub, Nat.reduceLeDiff, Int.reduceToNat, Int.reduceLT, Int.reduceLE, reduceCtorEq, List.take_nil, List.drop_nil]
  refine ⟨_, spec_TurnRotation_ok x0 y0 x1 x2 h0 k0 h0' k0' h1 h2, ?_⟩; simp (config := { maxSteps := 2000000 }) only [go_sem, Nat.reduceBEq, Nat.reduceAdd, Nat.reduceMul, Nat.reduceMod, Nat.reduceLT, Nat.reduceDiv, Nat.reduceSub, Nat.reduceLeDiff, Int.reduceToNat, Int.reduceLT, Int.reduceLE, reduceCtorEq, List.take_nil, List.drop_nil]
  refine ⟨_, toMarket_ok x0 y0 h0 k0 h0' k0', ?_⟩; simp (config := { maxSteps := 2000000 }) only [go_sem, Nat.reduceBEq, Nat.reduceAdd, Nat.reduceMul, Nat.reduceMod, Nat.reduceLT, Nat.reduceDiv, Nat.reduceSub, Nat.reduceLeDiff, Int.reduceToNat, Int.reduceLT, Int.reduceLE, reduceCtorEq, List.take_nil, List.drop_nil]
  refine ⟨_, toIntS_ok none x1 h1, ?_⟩; simp (config := { maxSteps := 2000000 }) only [go_sem, Nat.reduceBEq, Nat.reduceAdd, Nat.reduceMul, Nat.reduceMod, Nat.reduceLT, Nat.reduceDiv, Nat.reduceSub, Nat.reduceLeDiff, Int.reduceToNat, Int.reduceLT, Int.reduceLE, reduceCtorEq, List.take_nil, List.drop_nil]
  refine ⟨_, toIntS_ok none x2 h2, ?_⟩; simp (config := { maxSteps := 2000000 }) only [go_sem, Nat.reduceBEq, Nat.reduceAdd, Nat.reduceMul, Nat.reduceMod, Nat.reduceLT, Nat.reduceDiv, Nat.reduceSub, Nat.reduceLeDiff, Int.reduceToNat, Int.reduceLT, Int.reduceLE, reduceCtorEq, List.take_nil, List.drop_nil]
  refine ⟨_, impl_TurnRotation_ok x0 y0 x1 x2 h0 k0 h0' k0' h1 h2, ?_⟩; simp (config := { maxSteps := 2000000 }) only [go_sem, Nat.reduceBEq, Nat.reduceAdd, Nat.reduceMul, Nat.reduceMod, Nat.reduceLT, Nat.reduceDiv, Nat.reduceSub, Nat.reduceLeDiff, Int.reduceToNat, Int.reduceLT, Int.reduceLE, reduceCtorEq, List.take_nil, List.drop_nil]
  refine ⟨_, eqIntS_ok none none (turnF x0 y0 x1 x2) (turnF x0 y0 x1 x2) l0r, ?_⟩; simp (config := { maxSteps := 2000000 }) only [go_sem, Nat.reduceBEq, Nat.reduceAdd, Nat.reduceMul, Nat.reduceMod, Nat.reduceLT, Nat.reduceDiv, Nat.reduceSub, Nat.reduceLeDiff, Int.reduceToNat, Int.reduceLT, Int.reduceLE, reduceCtorEq, List.take_nil, List.drop_nil]
  try (first | (refine ⟨fun h => ?_, fun _ => ?_⟩; focus (simp at h; done)) | (refine ⟨fun h => ?_, fun _ => ?_⟩; focus omega) | (refine ⟨fun h => ?_, ?_⟩; focus (exact absurd trivial h)) | (refine ⟨fun _ => ?_, fun h => ?_⟩; rotate_left; focus omega))
  try (first | (refine ⟨fun h => ?_, fun _ => ?_⟩; focus (simp at h; done)) | (refine ⟨fun h => ?_, fun _ => ?_⟩; focus omega) | (refine ⟨fun h => ?_, ?_⟩; focus (exact absurd trivial h)) | (refine ⟨fun _ => ?_, fun h => ?_⟩; rotate_left; focus omega))
  refine ⟨_, toMarket_ok x0 y0 h0 k0 h0' k0', ?_⟩; simp (config := { maxSteps := 2000000 }) only [go_sem, Nat.reduceBEq, Nat.reduceAdd, Nat.reduceMul, Nat.reduceMod, Nat.reduceLT, Nat.reduceDiv, Nat.reduceSub, Nat.reduceLeDiff, Int.reduceToNat, Int.reduceLT, Int.reduceLE, reduceCtorEq, List.take_nil, List.drop_nil]
  refine ⟨_, eqMarket_ok x0 y0 h0 k0 h0' k0', ?_⟩; simp (config := { maxSteps := 2000000 }) only [go_sem, Nat.reduceBEq, Nat.reduceAdd, Nat.reduceMul, Nat.reduceMod, Nat.reduceLT, Nat.reduceDiv, Nat.reduceSub, Nat.reduceLeDiff, Int.reduceToNat, Int.reduceLT, Int.reduceLE, reduceCtorEq, List.take_nil, List.drop_nil]
  try (first | (refine ⟨fun h => ?_, fun _ => ?_⟩; focus (simp at h; done)) | (refine ⟨fun h => ?_, fun _ => ?_⟩; focus omega) | (refine ⟨fun h => ?_, ?_⟩; focus (exact absurd trivial h)) | (refine ⟨fun _ => ?_, fun h => ?_⟩; rotate_left; focus omega))
  refine ⟨_, toIntS_ok none x1 h1, ?_⟩; simp (config := { maxSteps := 2000000 }) only [go_sem, Nat.reduceBEq, Nat.reduceAdd, Nat.reduceMul, Nat.reduceMod, Nat.reduceLT, Nat.reduceDiv, Nat.reduceSub, Nat.reduceLeDiff, Int.reduceToNat, Int.reduceLT, Int.reduceLE, reduceCtorEq, List.take_nil, List.drop_nil]
  refine ⟨_, eqIntS_ok _ _ x1 x1 h1, ?_⟩; simp (config := { maxSteps := 2000000 }) only [go_sem, Nat.reduceBEq, Nat.reduceAdd, Nat.reduceMul, Nat.reduceMod, Nat.reduceLT, Nat.reduceDiv, Nat.reduceSub, Nat.reduceLeDiff, Int.reduceToNat, Int.reduceLT, Int.reduceLE, reduceCtorEq, List.take_nil, List.drop_nil]
  try (first | (refine ⟨fun h => ?_, fun _ => ?_⟩; focus (simp at h; done)) | (refine ⟨fun h => ?_, fun _ => ?_⟩; focus omega) | (refine ⟨fun h => ?_, ?_⟩; focus (exact absurd trivial h)) | (refine ⟨fun _ => ?_, fun h => ?_⟩; rotate_left; focus omega))
  refine ⟨_, toIntS_ok none x2 h2, ?_⟩; simp (config := { maxSteps := 2000000 }) only [go_sem, Nat.reduceBEq, Nat.reduceAdd, Nat.reduceMul, Nat.reduceMod, Nat.reduceLT, Nat.reduceDiv, Nat.reduceSub, Nat.reduceLeDiff, Int.reduceToNat, Int.reduceLT, Int.reduceLE, reduceCtorEq, List.take_nil, List.drop_nil]
  refine ⟨_, eqIntS_ok _ _ x2 x2 h2, ?_⟩; simp (config := { maxSteps := 2000000 }) only [go_sem, Nat.reduceBEq, Nat.reduceAdd, Nat.reduceMul, Nat.reduceMod, Nat.reduceLT, Nat.reduceDiv, Nat.reduceSub, Nat.reduceLeDiff, Int.reduceToNat, Int.reduceLT, Int.reduceLE, reduceCtorEq, List.take_nil, List.drop_nil]
  try (first | (refine ⟨fun h => ?_, fun _ => ?_⟩; focus (simp at h; done)) | (refine ⟨fun h => ?_, fun _ => ?_⟩; focus omega) | (refine ⟨fun h => ?_, ?_⟩; focus (exact absurd trivial h)) | (refine ⟨fun _ => ?_, fun h => ?_⟩; rotate_left; focus omega))
  refine ⟨_, markMarket_ok x0 y0 _ (by omega) (by omega) h0 k0 h0' k0', ?_⟩; simp (config := { maxSteps := 2000000 }) only [go_sem, Nat.reduceBEq, Nat.reduceAdd, Nat.reduceMul, Nat.reduceMod, Nat.reduceLT, Nat.reduceDiv, Nat.reduceSub, Nat.reduceLeDiff, Int.reduceToNat, Int.reduceLT, Int.reduceLE, reduceCtorEq, List.take_nil, List.drop_nil]
  refine ⟨_, _, _, markIntS_ok _ x1 _ (by omega) (by omega) h1, ?_⟩; simp (config := { maxSteps := 2000000 }) only [go_sem, Nat.reduceBEq, Nat.reduceAdd, Nat.reduceMul, Nat.reduceMod, Nat.reduceLT, Nat.reduceDiv, Nat.reduceSub, Nat.reduceLeDiff, Int.reduceToNat, Int.reduceLT, Int.reduceLE, reduceCtorEq, List.take_nil, List.drop_nil]
  refine ⟨_, _, _, markIntS_ok _ x2 _ (by omega) (by omega) h2, ?_⟩; simp (config := { maxSteps := 2000000 }) only [go_sem, Nat.reduceBEq, Nat.reduceAdd, Nat.reduceMul, Nat.reduceMod, Nat.reduceLT, Nat.reduceDiv, Nat.reduceSub, Nat.reduceLeDiff, Int.reduceToNat, Int.reduceLT, Int.reduceLE, reduceCtorEq, List.take_nil, List.drop_nil]
  try (first | (refine ⟨fun h => ?_, fun _ => ?_⟩; focus (simp at h; done)) | (refine ⟨fun h => ?_, fun _ => ?_⟩; focus omega) | (refine ⟨fun h => ?_, ?_⟩; focus (exact absurd trivial h)) | (refine ⟨fun _ => ?_, fun h => ?_⟩; rotate_left; focus omega))
  refine ⟨_, eqIntS_ok none none (turnF x0 y0 x1 x2) (turnF x0 y0 x1 x2) l0r, ?_⟩; simp (config := { maxSteps := 2000000 }) only [go_sem, Nat.reduceBEq, Nat.reduceAdd, Nat.reduceMul, Nat.reduceMod, Nat.reduceLT, Nat.reduceDiv, Nat.reduceSub, Nat.reduceLeDiff, Int.reduceToNat, Int.reduceLT, Int.reduceLE, reduceCtorEq, List.take_nil, List.drop_nil]
  try (first | (refine ⟨fun h => ?_, fun _ => ?_⟩; focus (simp at h; done)) | (refine ⟨fun h => ?_, fun _ => ?_⟩; focus omega) | (refine ⟨fun h => ?_, ?_⟩; focus (exact absurd trivial h)) | (refine ⟨fun _ => ?_, fun h => ?_⟩; rotate_left; focus omega))
  try (first | (refine ⟨fun h => ?_, fun _ => ?_⟩; focus (simp at h; done)) | (refine ⟨fun h => ?_, fun _ => ?_⟩; focus omega) | (refine ⟨fun h => ?_, ?_⟩; focus (exact absurd trivial h)) | (refine ⟨fun _ => ?_, fun h => ?_⟩; rotate_left; focus omega))
  refine ⟨_, _, _, markIntS_ok _ (turnF x0 y0 x1 x2) _ (by omega) (by omega) l0r, ?_⟩; simp (config := { maxSteps := 2000000 }) only [go_sem, Nat.reduceBEq, Nat.reduceAdd, Nat.reduceMul, Nat.reduceMod, Nat.reduceLT, Nat.reduceDiv, Nat.reduceSub, Nat.reduceLeDiff, Int.reduceToNat, Int.reduceLT, Int.reduceLE, reduceCtorEq, List.take_nil, List.drop_nil]
  refine ⟨_, heldIntS_ok none (turnF x0 y0 x1 x2).length _ (by omega) (by omega) l0r, ?_⟩; simp (config := { maxSteps := 2000000 }) only [go_sem, Nat.reduceBEq, Nat.reduceAdd, Nat.reduceMul, Nat.reduceMod, Nat.reduceLT, Nat.reduceDiv, Nat.reduceSub, Nat.reduceLeDiff, Int.reduceToNat, Int.reduceLT, Int.reduceLE, reduceCtorEq, List.take_nil, List.drop_nil]
  try (first | (refine ⟨fun h => ?_, fun _ => ?_⟩; focus (simp at h; done)) | (refine ⟨fun h => ?_, fun _ => ?_⟩; focus omega) | (refine ⟨fun h => ?_, ?_⟩; focus (exact absurd trivial h)) | (refine ⟨fun _ => ?_, fun h => ?_⟩; rotate_left; focus omega))
  try (first | (refine ⟨fun h => ?_, fun _ => ?_⟩; focus (simp at h; done)) | (refine ⟨fun h => ?_, fun _ => ?_⟩; focus omega) | (refine ⟨fun h => ?_, ?_⟩; focus (exact absurd trivial h)) | (refine ⟨fun _ => ?_, fun h => ?_⟩; rotate_left; focus omega))
  refine ⟨_, toMarket_ok x0 y0 h0 k0 h0' k0', ?_⟩; simp (config := { maxSteps := 2000000 }) only [go_sem, Nat.reduceBEq, Nat.reduceAdd, Nat.reduceMul, Nat.reduceMod, Nat.reduceLT, Nat.reduceDiv, Nat.reduceSub, Nat.reduceLeDiff, Int.reduceToNat, Int.reduceLT, Int.reduceLE, reduceCtorEq, List.take_nil, List.drop_nil]
  refine ⟨_, toIntS_ok none x1 h1, ?_⟩; simp (config := { maxSteps := 2000000 }) only [go_sem, Nat.reduceBEq, Nat.reduceAdd, Nat.reduceMul, Nat.reduceMod, Nat.reduceLT, Nat.reduceDiv, Nat.reduceSub, Nat.reduceLeDiff, Int.reduceToNat, Int.reduceLT, Int.reduceLE, reduceCtorEq, List.take_nil, List.drop_nil]
  refine ⟨_, toIntS_ok none x2 h2, ?_⟩; simp (config := { maxSteps := 2000000 }) only [go_sem, Nat.reduceBEq, Nat.reduceAdd, Nat.reduceMul, Nat.reduceMod, Nat.reduceLT, Nat.reduceDiv, Nat.reduceSub, Nat.reduceLeDiff, Int.reduceToNat, Int.reduceLT, Int.reduceLE, reduceCtorEq, List.take_nil, List.drop_nil]
  refine ⟨_, impl_TurnRotation_ok x0 y0 x1 x2 h0 k0 h0' k0' h1 h2, ?_⟩; simp (config := { maxSteps := 2000000 }) only [go_sem, Nat.reduceBEq, Nat.reduceAdd, Nat.reduceMul, Nat.reduceMod, Nat.reduceLT, Nat.reduceDiv, Nat.reduceSub, Nat.reduceLeDiff, Int.reduceToNat, Int.reduceLT, Int.reduceLE, reduceCtorEq, List.take_nil, List.drop_nil]
  refine ⟨_, eqIntS_ok none none (turnF x0 y0 x1 x2) (turnF x0 y0 x1 x2) l0r, ?_⟩; simp (config := { maxSteps := 2000000 }) only [go_sem, Nat.reduceBEq, Nat.reduceAdd, Nat.reduceMul, Nat.reduceMod, Nat.reduceLT, Nat.reduceDiv, Nat.reduceSub, Nat.reduceLeDiff, Int.reduceToNat, Int.reduceLT, Int.reduceLE, reduceCtorEq, List.take_nil, List.drop_nil]
  try (first | (refine ⟨fun h => ?_, fun _ => ?_⟩; focus (simp at h; done)) | (refine ⟨fun h => ?_, fun _ => ?_⟩; focus omega) | (refine ⟨fun h => ?_, ?_⟩; focus (exact absurd trivial h)) | (refine ⟨fun _ => ?_, fun h => ?_⟩; rotate_left; focus omega))
  try (first | (refine ⟨fun h => ?_, fun _ => ?_⟩; focus (simp at h; done)) | (refine ⟨fun h => ?_, fun _ => ?_⟩; focus omega) | (refine ⟨fun h => ?_, ?_⟩; focus (exact absurd trivial h)) | (refine ⟨fun _ => ?_, fun h => ?_⟩; rotate_left; focus omega))
  refine ⟨_, heldIntS_ok none (turnF x0 y0 x1 x2).length _ (by omega) (by omega) l0r, ?_⟩; simp (config := { maxSteps := 2000000 }) only [go_sem, Nat.reduceBEq, Nat.reduceAdd, Nat.reduceMul, Nat.reduceMod, Nat.reduceLT, Nat.reduceDiv, Nat.reduceSub, Nat.reduceLeDiff, Int.reduceToNat, Int.reduceLT, Int.reduceLE, reduceCtorEq, List.take_nil, List.drop_nil]
  first | exact ⟨fun h => by omega, fun _ h => absurd trivial h⟩ | trivial
theorem FnExactTurnRotation_lifted (os : Os) (started : os.Started) (H : Type) (enc : TypeId × Value → H) :
    ReturnsInHanded {} Try.checked os 5 .any (Rows.fnExactTurnRotationSpec.pre6 enc Try.prog Try.f5 Rows.fnExactTurnRotationRow.domain false) (Rows.fnExactTurnRotationSpec.post enc Try.prog Try.f5 false true false false) := by
  refine returnsInHanded_of_change (C := Try.checked) ownk started (by as_aux_lemma => kernel_rfl) Try.func5
    (ChangeSpec.witness6 (enc := enc) (C := Try.checked) false ⟨#[], #[.agg #[.slice none 0 0, .slice none 0 0], .slice none 0 0, .slice none 0 0], []⟩ 8 (by kernel_rfl) (by kernel_rfl) (by kernel_rfl) (by kernel_rfl)) ?_
  intro W base args ds gs before hval0 hW _ _
  have hval : ∀ (j : Nat) t v, Try.f5.params[j]? = some t → args[j]? = some v → Value.okWide Try.prog W .any base t v := hval0
  have hW' := hW
  obtain ⟨p, q, hA0, _⟩ := hW
  have hA : DataW.TrodAll enc Try.prog W 0 (fun _ => true) true Try.f5.params.toList args.toList ds p := hA0
  rw [Try.params5] at hA hval
  clear hA0 hval0
  obtain ⟨v0, v1, v2, d0, d1, d2, p0, p1, p2, rfl, rfl, rfl, h0, h1, h2⟩ := trodAll_three hA
  obtain ⟨x0, y0, a0, b0, a0', b0', f0⟩ := fz_rows2 Try.underlying24 (by kernel_rfl : Try.prog.cellsOf 24 = 2) rfl rfl (by kernel_rfl : Try.prog.cellsOf 22 = 1) (by kernel_rfl : Try.prog.cellsOf 22 = 1) Try.underlying22 Try.underlying22 Try.underlying25 Try.underlying3 (by kernel_rfl : Try.prog.cellsOf 25 = 1) (by kernel_rfl : Try.prog.cellsOf 3 = 1) (hval 0 24 v0 rfl rfl) h0
  obtain ⟨x1, a1, f1⟩ := fz_ints Try.underlying25 Try.underlying3 (by kernel_rfl : Try.prog.cellsOf 3 = 1) (hval 1 25 v1 rfl rfl) h1
  obtain ⟨x2, a2, f2⟩ := fz_ints Try.underlying25 Try.underlying3 (by kernel_rfl : Try.prog.cellsOf 3 = 1) (hval 2 25 v2 rfl rfl) h2
  exact law_post (P := Try.prog) pfacts.laid (fun t ht => by rw [Try.params5] at ht; revert t; simp only [List.mem_cons, List.not_mem_nil, or_false, forall_eq_or_imp, forall_eq]; exact ⟨⟨by kernel_rfl, of_decide_eq_true (by kernel_rfl)⟩, ⟨by kernel_rfl, of_decide_eq_true (by kernel_rfl)⟩, ⟨by kernel_rfl, of_decide_eq_true (by kernel_rfl)⟩⟩) rfl (by kernel_rfl) rfl (fun ds hds => by
    have hds : ds.length = 3 := hds
    match ds, hds with
    | [d0, d1, d2], _ => rfl) hW' (ts := [.a [.s none (rr x0), .s none (rr y0)], .s none (ii x1), .s none (ii x2)]) (by simp only [FzL]; exact ⟨_, _, rfl, f0, ⟨_, _, rfl, f1, ⟨_, _, rfl, f2, rfl⟩⟩⟩) (FnExactTurnRotation_ok x0 y0 a0 b0 a0' b0' x1 a1 x2 a2)
theorem FnExactTurnRotation_holds : Rows.FnExactTurnRotationSaid :=
  OpenClaim.holds_of_wide (p := Try.pinned) (s := Rows.fnExactTurnRotationSpec) (c := Rows.fnExactTurnRotationRow) 5 Try.f5 rfl rfl rfl rfl rfl rfl rfl ⟨rfl, rfl, rfl, rfl, rfl⟩ rfl rfl rfl rfl rfl (by as_aux_lemma => kernel_rfl) Try.func5 (joined_of pfacts rfl rfl rfl (by as_aux_lemma => kernel_rfl) (by as_aux_lemma => kernel_rfl) (by as_aux_lemma => kernel_rfl) (by as_aux_lemma => kernel_rfl) (by as_aux_lemma => kernel_rfl) (by as_aux_lemma => kernel_rfl) (by as_aux_lemma => kernel_rfl) (by as_aux_lemma => kernel_rfl) (by as_aux_lemma => kernel_rfl) (by as_aux_lemma => kernel_rfl) (by as_aux_lemma => kernel_rfl) (by as_aux_lemma => kernel_rfl) (by as_aux_lemma => kernel_rfl) (by as_aux_lemma => kernel_rfl) (by as_aux_lemma => kernel_rfl) (by as_aux_lemma => kernel_rfl) (by as_aux_lemma => kernel_rfl) (by as_aux_lemma => kernel_rfl) (by as_aux_lemma => kernel_rfl) (by as_aux_lemma => kernel_rfl) (by as_aux_lemma => kernel_rfl) (by as_aux_lemma => kernel_rfl) (by as_aux_lemma => kernel_rfl))
    (of_decide_eq_true (by kernel_rfl)) (by unfold Func.isWrapper; rw [if_neg (of_decide_eq_false (by kernel_rfl))]; exact ⟨rfl, rfl⟩)
    (fun os started H enc _ => FnExactTurnRotation_lifted os started H enc)

end Go.Proofs.Ytnbehgmfdigknaa
