/- At every input the law below returns true and leaves its arguments alone: RotationsIn of the program returns what that of the reference returns, in memory of its own. No condition. -/
import Derived.Test.YtnbehgmfdigknaaRows
import Derived.Test.YtnbehgmfdigknaaRot
import Derived.Test.YtnbehgmfdigknaaFacts
import Derived.Test.YtnbehgmfdigknaaMarks
namespace Go.Proofs.Ytnbehgmfdigknaa
open Go Go.Vc
set_option maxRecDepth 100000
set_option linter.unusedSimpArgs false
set_option linter.unusedVariables false
open Go.ChangeShapes Go.WideShapes Go.RowKit
theorem tot_le {A : List (List Int)} {B : Nat} (h : ∀ r ∈ A, r.length ≤ B) : tot A ≤ B * A.length := by
  induction A with
  | nil => simp [tot]
  | cons r A ih =>
    have h1 := ih fun q hq => h q (List.mem_cons_of_mem _ hq)
    have h2 := h r List.mem_cons_self
    simp only [tot, List.map_cons, List.sum_cons, List.length_cons, Nat.mul_succ] at h1 ⊢; omega
theorem rotsF_bd {x y : List (List Int)} {l : List Int} : (rotsF x y l).length ≤ 1048576 ∧ (∀ r ∈ rotsF x y l, r.length ≤ 1048576) ∧ tot (rotsF x y l) ≤ 1048576 := by
  have h := rotsF_len (x := x) (y := y) (l := l)
  have h3 := tot_le h.2
  exact ⟨by omega, fun r hr => by have := h.2 r hr; omega, by omega⟩
def K_laws_FnExactRotationsIn : List Nat := [0, 1, 2, 4, 5, 6, 7, 8, 9, 10, 11, 12, 13, 1002, 2002, 1007, 2007]
def C_laws_FnExactRotationsIn : C :=
  let ks := K_laws_FnExactRotationsIn
  (.seq
    (.rg 0 [(none, .v 2 .boxS [.s 0]), (none, .v 4 .mv [.k (.b false)])])
    (.cl ks (.seq
      (.seq
        (.rg 0 [(none, .v 14 .mv [.s 1]), (none, .v 15 .len [.s 14]), (none, .v 16 (.bin .gtr) [.s 15, .k (.i 1048576)])])
        (.cond (.s 16)
          (.seq
            (.rg 0 [(none, .v 4 .mv [.k (.b true)])])
            .ret)
          .skip))
      (.cl ks (.seq
        (.rg 0 [(none, .v 5 .mv [.k (.i 1048576)])])
        (.cl ks (.seq
          (.rg 0 [(none, .v 17 (.lds 2) [.s 2]), (none, .v 18 .mv [.s 5]), (none, .co 19 9 [.s 17, .s 18]), (none, .tk 5 19)])
          (.cl ks (.seq
            (.seq
              (.rg 0 [(none, .v 20 .mv [.s 5]), (none, .v 21 (.bin .lss) [.s 20, .k (.i 0)])])
              (.cond (.s 21)
                (.seq
                  (.rg 0 [(none, .v 4 .mv [.k (.b true)])])
                  .ret)
                .skip))
            (.cl ks (.seq
              (.rg 0 [(none, .v 22 (.lds 2) [.s 2]), (none, .co 23 11 [.s 22]), (none, .v 24 .mv [.s 1]), (none, .co 25 12 [.s 24]), (none, .co 26 10 [.s 23, .s 25]), (none, .tk 6 26)])
              (.cl ks (.seq
                (.rg 0 [(none, .v 27 (.lds 2) [.s 2]), (none, .co 28 11 [.s 27]), (none, .new 7 [.s (some true) [], .s (some true) []]), (none, .sts (.s 7) (.s 28) 2)])
                (.cl ks (.seq
                  (.rg 0 [(none, .v 29 .mv [.s 1]), (none, .co 30 12 [.s 29]), (none, .tk 8 30)])
                  (.cl ks (.seq
                    (.rg 0 [(none, .v 31 (.lds 2) [.s 7]), (none, .v 32 .mv [.s 8]), (none, .co 33 13 [.s 31, .s 32]), (none, .tk 9 33)])
                    (.cl ks (.seq
                      (.seq
                        (.rg 0 [(none, .v 34 .mv [.s 9]), (none, .v 35 .mv [.s 6]), (none, .co 36 14 [.s 34, .s 35]), (none, .v 37 .not [.s 36])])
                        (.cond (.s 37)
                          (.seq
                            (.rg 0 [(none, .v 4 .mv [.k (.b false)])])
                            .ret)
                          .skip))
                      (.cl ks (.seq
                        (.seq
                          (.rg 3 [(none, .v 38 (.lds 2) [.s 7]), (none, .v 39 (.lds 2) [.s 2]), (none, .v 40 (.call 11) [.s 39]), (none, .co 41 15 [.s 38, .s 40]), (none, .v 42 .not [.s 41])])
                          (.cond (.s 42)
                            (.seq
                              (.rg 0 [(none, .v 4 .mv [.k (.b false)])])
                              .ret)
                            .skip))
                        (.cl ks (.seq
                          (.seq
                            (.rg 0 [(none, .v 43 .mv [.s 8]), (none, .v 44 .mv [.s 1]), (none, .co 45 12 [.s 44]), (none, .co 46 16 [.s 43, .s 45]), (none, .v 47 .not [.s 46])])
                            (.cond (.s 47)
                              (.seq
                                (.rg 0 [(none, .v 4 .mv [.k (.b false)])])
                                .ret)
                              .skip))
                          (.cl ks (.seq
                            (.rg 0 [(none, .v 10 .mv [.k (.i 1)])])
                            (.cl ks (.seq
                              (.rg 0 [(none, .v 48 (.lds 2) [.s 7]), (none, .v 49 .mv [.s 10]), (none, .coa (some 50) 17 [.s 48, .s 49] 0), (none, .tk 10 50)])
                              (.cl ks (.seq
                                (.rg 0 [(none, .v 51 .mv [.s 8]), (none, .v 52 .mv [.s 10]), (none, .cox (some 53) 18 [.s 51, .s 52] 0), (none, .tk 10 53)])
                                (.cl ks (.seq
                                  (.seq
                                    (.rg 0 [(none, .v 54 .mv [.s 10]), (none, .v 55 (.bin .lss) [.s 54, .k (.i 0)]), (none, .v 56 .mv [.s 55]), (some (56, false), .v 57 .mv [.s 9]), (some (56, false), .v 58 .mv [.s 6]), (some (56, false), .co 59 14 [.s 57, .s 58]), (some (56, false), .v 60 .not [.s 59]), (none, .v 61 .pick [.s 56, .k (.b true), .s 60])])
                                    (.cond (.s 61)
                                      (.seq
                                        (.rg 0 [(none, .v 4 .mv [.k (.b false)])])
                                        .ret)
                                      .skip))
                                  (.cl ks (.seq
                                    (.rg 0 [(none, .v 11 .mv [.k (.i 1)])])
                                    (.cl ks (.seq
                                      (.rg 0 [(none, .v 62 .mv [.s 9]), (none, .v 63 .mv [.s 11]), (none, .cox (some 64) 19 [.s 62, .s 63] 0), (none, .tk 11 64)])
                                      (.cl ks (.seq
                                        (.rg 0 [(none, .v 12 .mv [.k (.i 1)])])
                                        (.cl ks (.seq
                                          (.rg 0 [(none, .v 65 .mv [.s 9]), (none, .v 66 .mv [.s 12]), (none, .co 67 20 [.s 65, .s 66]), (none, .tk 12 67)])
                                          (.cl ks (.seq
                                            (.seq
                                              (.rg 0 [(none, .v 68 .mv [.s 12]), (none, .v 69 (.bin .lss) [.s 68, .k (.i 0)])])
                                              (.cond (.s 69)
                                                (.seq
                                                  (.rg 0 [(none, .v 4 .mv [.k (.b false)])])
                                                  .ret)
                                                .skip))
                                            (.cl ks (.seq
                                              (.seq
                                                (.rg 0 [(none, .v 70 .mv [.s 12]), (none, .v 71 .mv [.s 11]), (none, .v 72 (.bin .neq) [.s 70, .s 71])])
                                                (.cond (.s 72)
                                                  (.seq
                                                    (.rg 0 [(none, .v 4 .mv [.k (.b false)])])
                                                    .ret)
                                                  .skip))
                                              (.cl ks (.seq
                                                (.rg 0 [(none, .v 73 (.lds 2) [.s 2]), (none, .co 74 11 [.s 73]), (none, .v 75 .mv [.s 1]), (none, .co 76 12 [.s 75]), (none, .co 77 13 [.s 74, .s 76]), (none, .tk 13 77)])
                                                (.cl ks (.seq
                                                  (.seq
                                                    (.rg 0 [(none, .v 78 .mv [.s 13]), (none, .v 79 .mv [.s 6]), (none, .co 80 14 [.s 78, .s 79]), (none, .v 81 .not [.s 80])])
                                                    (.cond (.s 81)
                                                      (.seq
                                                        (.rg 0 [(none, .v 4 .mv [.k (.b false)])])
                                                        .ret)
                                                      .skip))
                                                  (.cl ks (.seq
                                                    (.rg 0 [(none, .v 12 .mv [.k (.i 1)])])
                                                    (.cl ks (.seq
                                                      (.rg 0 [(none, .v 82 .mv [.s 9]), (none, .v 83 .mv [.s 12]), (none, .co 84 20 [.s 82, .s 83]), (none, .tk 12 84)])
                                                      (.cl ks (.seq
                                                        (.seq
                                                          (.rg 0 [(none, .v 85 .mv [.s 12]), (none, .v 86 (.bin .lss) [.s 85, .k (.i 0)])])
                                                          (.cond (.s 86)
                                                            (.seq
                                                              (.rg 0 [(none, .v 4 .mv [.k (.b false)])])
                                                              .ret)
                                                            .skip))
                                                        (.cl ks (.seq
                                                          (.seq
                                                            (.rg 0 [(none, .v 87 .mv [.s 12]), (none, .v 88 .mv [.s 11]), (none, .v 89 (.bin .neq) [.s 87, .s 88])])
                                                            (.cond (.s 89)
                                                              (.seq
                                                                (.rg 0 [(none, .v 4 .mv [.k (.b false)])])
                                                                .ret)
                                                              .skip))
                                                          (.cl ks (.seq
                                                            (.rg 0 [(none, .v 4 .mv [.k (.b true)])])
                                                            .ret)))))))))))))))))))))))))))))))))))))))))))))))))))))))))

theorem chk_laws_FnExactRotationsIn : ∃ b, Try.f3.body = some b ∧ chk Try.prog Try.f3.ntmps true C_laws_FnExactRotationsIn b = true := ⟨_, rfl, by kernel_rfl⟩
theorem FnExactRotationsIn_ok (x0 y0 : List (List Int)) (a0 : x0.length ≤ 9223372036854775807) (b0 : ∀ r ∈ x0, r.length ≤ 9223372036854775807) (a0' : y0.length ≤ 9223372036854775807) (b0' : ∀ r ∈ y0, r.length ≤ 9223372036854775807) (x1 : List Int) (a1 : x1.length ≤ 9223372036854775807) :
    CallOk Try.prog 3 [.a [.s none (rr x0), .s none (rr y0)], .s none (ii x1)] [(0, .b true)] := by
  obtain ⟨code0, hcd1, hcd2⟩ := chk_laws_FnExactRotationsIn; refine callOk_of Try.func3 hcd1 mo Try.call3 (rs := [4]) (by kernel_rfl) hcd2 (by rw [Try.ntmps3]; simp) (by simp) (by decide) ?_; unfold C_laws_FnExactRotationsIn K_laws_FnExactRotationsIn; simp (config := { maxSteps := 2000000 }) only [go_sem, Nat.reduceBEq, Nat.reduceAdd, Nat.reduceMul, Nat.reduceMod, Nat.reduceLT, Nat.reduceDiv, Nat.reduceSub, Nat.reduceLeDiff, Int.reduceToNat, Int.reduceLT, Int.reduceLE, reduceCtorEq, List.take_nil, List.drop_nil]
  refine ⟨fun _ => trivial, fun c1 => ?_⟩
  have h1 : x1.length ≤ 1048576 := by omega
  refine ⟨_, szMarket_ok x0 y0 _ (by omega) (by omega) a0 b0 a0' b0', ?_⟩; simp (config := { maxSteps := 2000000 }) only [go_sem, Nat.reduceBEq, Nat.reduceAdd, Nat.reduceMul, Nat.reduceMod, Nat.reduceLT, Nat.reduceDiv, Nat.reduceSub, Nat.reduceLeDiff, Int.reduceToNat, Int.reduceLT, Int.reduceLE, reduceCtorEq, List.take_nil, List.drop_nil]
  refine ⟨fun _ => trivial, fun c0 => ?_⟩
  obtain ⟨c0', c0'', e0'⟩ := szM_ok (by omega) c0
  obtain ⟨h0, k0⟩ := szII_ok (by omega) c0'
  obtain ⟨h0', k0'⟩ := szII_ok e0' c0''
  have t0 : (tot x0 : Int) ≤ 1048576 := Int.le_trans (szII_tot c0') (by omega)
  have t0' : (tot y0 : Int) ≤ 1048576 := Int.le_trans (szII_tot c0'') e0'
  obtain ⟨l0r, m0r, t0r⟩ : (rotsF x0 y0 x1).length ≤ 1048576 ∧ (∀ r ∈ (rotsF x0 y0 x1), r.length ≤ 1048576) ∧ tot (rotsF x0 y0 x1) ≤ 1048576 := rotsF_bd
  refine ⟨_, toMarket_ok x0 y0 h0 k0 h0' k0', ?_⟩; simp (config := { maxSteps := 2000000 }) only [go_sem, Nat.reduceBEq, Nat.reduceAdd, Nat.reduceMul, Nat.reduceMod, Nat.reduceLT, Nat.reduceDiv, Nat.reduceSub, Nat.reduceLeDiff, Int.reduceToNat, Int.reduceLT, Int.reduceLE, reduceCtorEq, List.take_nil, List.drop_nil]
  refine ⟨_, toIntS_ok none x1 h1, ?_⟩; simp (config := { maxSteps := 2000000 }) only [go_sem, Nat.reduceBEq, Nat.reduceAdd, Nat.reduceMul, Nat.reduceMod, Nat.reduceLT, Nat.reduceDiv, Nat.reduceSub, Nat.reduceLeDiff, Int.reduceToNat, Int.reduceLT, Int.reduceLE, reduceCtorEq, List.take_nil, List.drop_nil]
  refine ⟨_, spec_RotationsIn_ok x0 y0 x1 h0 k0 h0' k0' h1, ?_⟩; simp (config := { maxSteps := 2000000 }) only [go_sem, Nat.reduceBEq, Nat.reduceAdd, Nat.reduceMul, Nat.reduceMod, Nat.reduceLT, Nat.reduceDiv, Nat.reduceSub, Nat.reduceLeDiff, Int.reduceToNat, Int.reduceLT, Int.reduceLE, reduceCtorEq, List.take_nil, List.drop_nil]
  refine ⟨_, toMarket_ok x0 y0 h0 k0 h0' k0', ?_⟩; simp (config := { maxSteps := 2000000 }) only [go_sem, Nat.reduceBEq, Nat.reduceAdd, Nat.reduceMul, Nat.reduceMod, Nat.reduceLT, Nat.reduceDiv, Nat.reduceSub, Nat.reduceLeDiff, Int.reduceToNat, Int.reduceLT, Int.reduceLE, reduceCtorEq, List.take_nil, List.drop_nil]
  refine ⟨_, toIntS_ok none x1 h1, ?_⟩; simp (config := { maxSteps := 2000000 }) only [go_sem, Nat.reduceBEq, Nat.reduceAdd, Nat.reduceMul, Nat.reduceMod, Nat.reduceLT, Nat.reduceDiv, Nat.reduceSub, Nat.reduceLeDiff, Int.reduceToNat, Int.reduceLT, Int.reduceLE, reduceCtorEq, List.take_nil, List.drop_nil]
  refine ⟨_, impl_RotationsIn_ok x0 y0 x1 h0 k0 h0' k0' h1, ?_⟩; simp (config := { maxSteps := 2000000 }) only [go_sem, Nat.reduceBEq, Nat.reduceAdd, Nat.reduceMul, Nat.reduceMod, Nat.reduceLT, Nat.reduceDiv, Nat.reduceSub, Nat.reduceLeDiff, Int.reduceToNat, Int.reduceLT, Int.reduceLE, reduceCtorEq, List.take_nil, List.drop_nil]
  refine ⟨_, eqIntSS_ok none none (rotsF x0 y0 x1) (rotsF x0 y0 x1) l0r m0r, ?_⟩; simp (config := { maxSteps := 2000000 }) only [go_sem, Nat.reduceBEq, Nat.reduceAdd, Nat.reduceMul, Nat.reduceMod, Nat.reduceLT, Nat.reduceDiv, Nat.reduceSub, Nat.reduceLeDiff, Int.reduceToNat, Int.reduceLT, Int.reduceLE, reduceCtorEq, List.take_nil, List.drop_nil]
  try (first | (refine ⟨fun h => ?_, fun _ => ?_⟩; focus (simp at h; done)) | (refine ⟨fun h => ?_, fun _ => ?_⟩; focus omega) | (refine ⟨fun h => ?_, ?_⟩; focus (exact absurd trivial h)) | (refine ⟨fun _ => ?_, fun h => ?_⟩; rotate_left; focus omega))
  refine ⟨_, toMarket_ok x0 y0 h0 k0 h0' k0', ?_⟩; simp (config := { maxSteps := 2000000 }) only [go_sem, Nat.reduceBEq, Nat.reduceAdd, Nat.reduceMul, Nat.reduceMod, Nat.reduceLT, Nat.reduceDiv, Nat.reduceSub, Nat.reduceLeDiff, Int.reduceToNat, Int.reduceLT, Int.reduceLE, reduceCtorEq, List.take_nil, List.drop_nil]
  refine ⟨_, eqMarket_ok x0 y0 h0 k0 h0' k0', ?_⟩; simp (config := { maxSteps := 2000000 }) only [go_sem, Nat.reduceBEq, Nat.reduceAdd, Nat.reduceMul, Nat.reduceMod, Nat.reduceLT, Nat.reduceDiv, Nat.reduceSub, Nat.reduceLeDiff, Int.reduceToNat, Int.reduceLT, Int.reduceLE, reduceCtorEq, List.take_nil, List.drop_nil]
  try (first | (refine ⟨fun h => ?_, fun _ => ?_⟩; focus (simp at h; done)) | (refine ⟨fun h => ?_, fun _ => ?_⟩; focus omega) | (refine ⟨fun h => ?_, ?_⟩; focus (exact absurd trivial h)) | (refine ⟨fun _ => ?_, fun h => ?_⟩; rotate_left; focus omega))
  refine ⟨_, toIntS_ok none x1 h1, ?_⟩; simp (config := { maxSteps := 2000000 }) only [go_sem, Nat.reduceBEq, Nat.reduceAdd, Nat.reduceMul, Nat.reduceMod, Nat.reduceLT, Nat.reduceDiv, Nat.reduceSub, Nat.reduceLeDiff, Int.reduceToNat, Int.reduceLT, Int.reduceLE, reduceCtorEq, List.take_nil, List.drop_nil]
  refine ⟨_, eqIntS_ok _ _ x1 x1 h1, ?_⟩; simp (config := { maxSteps := 2000000 }) only [go_sem, Nat.reduceBEq, Nat.reduceAdd, Nat.reduceMul, Nat.reduceMod, Nat.reduceLT, Nat.reduceDiv, Nat.reduceSub, Nat.reduceLeDiff, Int.reduceToNat, Int.reduceLT, Int.reduceLE, reduceCtorEq, List.take_nil, List.drop_nil]
  try (first | (refine ⟨fun h => ?_, fun _ => ?_⟩; focus (simp at h; done)) | (refine ⟨fun h => ?_, fun _ => ?_⟩; focus omega) | (refine ⟨fun h => ?_, ?_⟩; focus (exact absurd trivial h)) | (refine ⟨fun _ => ?_, fun h => ?_⟩; rotate_left; focus omega))
  refine ⟨_, markMarket_ok x0 y0 _ (by omega) (by omega) h0 k0 h0' k0', ?_⟩; simp (config := { maxSteps := 2000000 }) only [go_sem, Nat.reduceBEq, Nat.reduceAdd, Nat.reduceMul, Nat.reduceMod, Nat.reduceLT, Nat.reduceDiv, Nat.reduceSub, Nat.reduceLeDiff, Int.reduceToNat, Int.reduceLT, Int.reduceLE, reduceCtorEq, List.take_nil, List.drop_nil]
  refine ⟨_, _, _, markIntS_ok _ x1 _ (by omega) (by omega) h1, ?_⟩; simp (config := { maxSteps := 2000000 }) only [go_sem, Nat.reduceBEq, Nat.reduceAdd, Nat.reduceMul, Nat.reduceMod, Nat.reduceLT, Nat.reduceDiv, Nat.reduceSub, Nat.reduceLeDiff, Int.reduceToNat, Int.reduceLT, Int.reduceLE, reduceCtorEq, List.take_nil, List.drop_nil]
  try (first | (refine ⟨fun h => ?_, fun _ => ?_⟩; focus (simp at h; done)) | (refine ⟨fun h => ?_, fun _ => ?_⟩; focus omega) | (refine ⟨fun h => ?_, ?_⟩; focus (exact absurd trivial h)) | (refine ⟨fun _ => ?_, fun h => ?_⟩; rotate_left; focus omega))
  refine ⟨_, eqIntSS_ok none none (rotsF x0 y0 x1) (rotsF x0 y0 x1) l0r m0r, ?_⟩; simp (config := { maxSteps := 2000000 }) only [go_sem, Nat.reduceBEq, Nat.reduceAdd, Nat.reduceMul, Nat.reduceMod, Nat.reduceLT, Nat.reduceDiv, Nat.reduceSub, Nat.reduceLeDiff, Int.reduceToNat, Int.reduceLT, Int.reduceLE, reduceCtorEq, List.take_nil, List.drop_nil]
  try (first | (refine ⟨fun h => ?_, fun _ => ?_⟩; focus (simp at h; done)) | (refine ⟨fun h => ?_, fun _ => ?_⟩; focus omega) | (refine ⟨fun h => ?_, ?_⟩; focus (exact absurd trivial h)) | (refine ⟨fun _ => ?_, fun h => ?_⟩; rotate_left; focus omega))
  refine ⟨_, _, _, markIntSS_ok _ (rotsF x0 y0 x1) _ (by omega) (by omega) l0r m0r, ?_⟩; simp (config := { maxSteps := 2000000 }) only [go_sem, Nat.reduceBEq, Nat.reduceAdd, Nat.reduceMul, Nat.reduceMod, Nat.reduceLT, Nat.reduceDiv, Nat.reduceSub, Nat.reduceLeDiff, Int.reduceToNat, Int.reduceLT, Int.reduceLE, reduceCtorEq, List.take_nil, List.drop_nil]
  refine ⟨_, heldIntSS_ok none (rotsF x0 y0 x1) _ (by omega) (by omega) l0r m0r, ?_⟩; simp (config := { maxSteps := 2000000 }) only [go_sem, Nat.reduceBEq, Nat.reduceAdd, Nat.reduceMul, Nat.reduceMod, Nat.reduceLT, Nat.reduceDiv, Nat.reduceSub, Nat.reduceLeDiff, Int.reduceToNat, Int.reduceLT, Int.reduceLE, reduceCtorEq, List.take_nil, List.drop_nil]
  try (first | (refine ⟨fun h => ?_, fun _ => ?_⟩; focus (simp at h; done)) | (refine ⟨fun h => ?_, fun _ => ?_⟩; focus omega) | (refine ⟨fun h => ?_, ?_⟩; focus (exact absurd trivial h)) | (refine ⟨fun _ => ?_, fun h => ?_⟩; rotate_left; focus omega))
  try (first | (refine ⟨fun h => ?_, fun _ => ?_⟩; focus (simp at h; done)) | (refine ⟨fun h => ?_, fun _ => ?_⟩; focus omega) | (refine ⟨fun h => ?_, ?_⟩; focus (exact absurd trivial h)) | (refine ⟨fun _ => ?_, fun h => ?_⟩; rotate_left; focus omega))
  refine ⟨_, toMarket_ok x0 y0 h0 k0 h0' k0', ?_⟩; simp (config := { maxSteps := 2000000 }) only [go_sem, Nat.reduceBEq, Nat.reduceAdd, Nat.reduceMul, Nat.reduceMod, Nat.reduceLT, Nat.reduceDiv, Nat.reduceSub, Nat.reduceLeDiff, Int.reduceToNat, Int.reduceLT, Int.reduceLE, reduceCtorEq, List.take_nil, List.drop_nil]
  refine ⟨_, toIntS_ok none x1 h1, ?_⟩; simp (config := { maxSteps := 2000000 }) only [go_sem, Nat.reduceBEq, Nat.reduceAdd, Nat.reduceMul, Nat.reduceMod, Nat.reduceLT, Nat.reduceDiv, Nat.reduceSub, Nat.reduceLeDiff, Int.reduceToNat, Int.reduceLT, Int.reduceLE, reduceCtorEq, List.take_nil, List.drop_nil]
  refine ⟨_, impl_RotationsIn_ok x0 y0 x1 h0 k0 h0' k0' h1, ?_⟩; simp (config := { maxSteps := 2000000 }) only [go_sem, Nat.reduceBEq, Nat.reduceAdd, Nat.reduceMul, Nat.reduceMod, Nat.reduceLT, Nat.reduceDiv, Nat.reduceSub, Nat.reduceLeDiff, Int.reduceToNat, Int.reduceLT, Int.reduceLE, reduceCtorEq, List.take_nil, List.drop_nil]
  refine ⟨_, eqIntSS_ok none none (rotsF x0 y0 x1) (rotsF x0 y0 x1) l0r m0r, ?_⟩; simp (config := { maxSteps := 2000000 }) only [go_sem, Nat.reduceBEq, Nat.reduceAdd, Nat.reduceMul, Nat.reduceMod, Nat.reduceLT, Nat.reduceDiv, Nat.reduceSub, Nat.reduceLeDiff, Int.reduceToNat, Int.reduceLT, Int.reduceLE, reduceCtorEq, List.take_nil, List.drop_nil]
  try (first | (refine ⟨fun h => ?_, fun _ => ?_⟩; focus (simp at h; done)) | (refine ⟨fun h => ?_, fun _ => ?_⟩; focus omega) | (refine ⟨fun h => ?_, ?_⟩; focus (exact absurd trivial h)) | (refine ⟨fun _ => ?_, fun h => ?_⟩; rotate_left; focus omega))
  refine ⟨_, heldIntSS_ok none (rotsF x0 y0 x1) _ (by omega) (by omega) l0r m0r, ?_⟩; simp (config := { maxSteps := 2000000 }) only [go_sem, Nat.reduceBEq, Nat.reduceAdd, Nat.reduceMul, Nat.reduceMod, Nat.reduceLT, Nat.reduceDiv, Nat.reduceSub, Nat.reduceLeDiff, Int.reduceToNat, Int.reduceLT, Int.reduceLE, reduceCtorEq, List.take_nil, List.drop_nil]
  first | exact ⟨fun h => by omega, fun _ h => absurd trivial h⟩ | trivial
theorem FnExactRotationsIn_lifted (os : Os) (started : os.Started) (H : Type) (enc : TypeId × Value → H) :
    ReturnsInHanded {} Try.checked os 3 .any (Rows.fnExactRotationsInSpec.pre6 enc Try.prog Try.f3 Rows.fnExactRotationsInRow.domain false) (Rows.fnExactRotationsInSpec.post enc Try.prog Try.f3 false true false false) := by
  refine returnsInHanded_of_change (C := Try.checked) ownk started (by as_aux_lemma => kernel_rfl) Try.func3
    (ChangeSpec.witness6 (enc := enc) (C := Try.checked) false ⟨#[], #[.agg #[.slice none 0 0, .slice none 0 0], .slice none 0 0], []⟩ 8 (by kernel_rfl) (by kernel_rfl) (by kernel_rfl) (by kernel_rfl)) ?_
  intro W base args ds gs before hval0 hW _ _
  have hval : ∀ (j : Nat) t v, Try.f3.params[j]? = some t → args[j]? = some v → Value.okWide Try.prog W .any base t v := hval0
  have hW' := hW
  obtain ⟨p, q, hA0, _⟩ := hW
  have hA : DataW.TrodAll enc Try.prog W 0 (fun _ => true) true Try.f3.params.toList args.toList ds p := hA0
  rw [Try.params3] at hA hval
  clear hA0 hval0
  obtain ⟨v0, v1, d0, d1, p0, p1, rfl, rfl, rfl, h0, h1⟩ := trodAll_two hA
  obtain ⟨x0, y0, a0, b0, a0', b0', f0⟩ := fz_rows2 Try.underlying24 (by kernel_rfl : Try.prog.cellsOf 24 = 2) rfl rfl (by kernel_rfl : Try.prog.cellsOf 22 = 1) (by kernel_rfl : Try.prog.cellsOf 22 = 1) Try.underlying22 Try.underlying22 Try.underlying25 Try.underlying3 (by kernel_rfl : Try.prog.cellsOf 25 = 1) (by kernel_rfl : Try.prog.cellsOf 3 = 1) (hval 0 24 v0 rfl rfl) h0
  obtain ⟨x1, a1, f1⟩ := fz_ints Try.underlying25 Try.underlying3 (by kernel_rfl : Try.prog.cellsOf 3 = 1) (hval 1 25 v1 rfl rfl) h1
  exact law_post (P := Try.prog) pfacts.laid (fun t ht => by rw [Try.params3] at ht; revert t; simp only [List.mem_cons, List.not_mem_nil, or_false, forall_eq_or_imp, forall_eq]; exact ⟨⟨by kernel_rfl, of_decide_eq_true (by kernel_rfl)⟩, ⟨by kernel_rfl, of_decide_eq_true (by kernel_rfl)⟩⟩) rfl (by kernel_rfl) rfl (fun ds hds => by
    have hds : ds.length = 2 := hds
    match ds, hds with
    | [d0, d1], _ => rfl) hW' (ts := [.a [.s none (rr x0), .s none (rr y0)], .s none (ii x1)]) (by simp only [FzL]; exact ⟨_, _, rfl, f0, ⟨_, _, rfl, f1, rfl⟩⟩) (FnExactRotationsIn_ok x0 y0 a0 b0 a0' b0' x1 a1)
theorem FnExactRotationsIn_holds : Rows.FnExactRotationsInSaid :=
  OpenClaim.holds_of_wide (p := Try.pinned) (s := Rows.fnExactRotationsInSpec) (c := Rows.fnExactRotationsInRow) 3 Try.f3 rfl rfl rfl rfl rfl rfl rfl ⟨rfl, rfl, rfl, rfl, rfl⟩ rfl rfl rfl rfl rfl (by as_aux_lemma => kernel_rfl) Try.func3 (joined_of pfacts rfl rfl rfl (by as_aux_lemma => kernel_rfl) (by as_aux_lemma => kernel_rfl) (by as_aux_lemma => kernel_rfl) (by as_aux_lemma => kernel_rfl) (by as_aux_lemma => kernel_rfl) (by as_aux_lemma => kernel_rfl) (by as_aux_lemma => kernel_rfl) (by as_aux_lemma => kernel_rfl) (by as_aux_lemma => kernel_rfl) (by as_aux_lemma => kernel_rfl) (by as_aux_lemma => kernel_rfl) (by as_aux_lemma => kernel_rfl) (by as_aux_lemma => kernel_rfl) (by as_aux_lemma => kernel_rfl) (by as_aux_lemma => kernel_rfl) (by as_aux_lemma => kernel_rfl) (by as_aux_lemma => kernel_rfl) (by as_aux_lemma => kernel_rfl) (by as_aux_lemma => kernel_rfl) (by as_aux_lemma => kernel_rfl) (by as_aux_lemma => kernel_rfl) (by as_aux_lemma => kernel_rfl) (by as_aux_lemma => kernel_rfl))
    (of_decide_eq_true (by kernel_rfl)) (by unfold Func.isWrapper; rw [if_neg (of_decide_eq_false (by kernel_rfl))]; exact ⟨rfl, rfl⟩)
    (fun os started H enc _ => FnExactRotationsIn_lifted os started H enc)

end Go.Proofs.Ytnbehgmfdigknaa
