/- At every input the law below returns true and leaves its arguments alone: ShareCut of the program returns what that of the reference returns, in memory of its own. No condition. -/
import Derived.Test.YtkmklfdpomkalaaRows
import Derived.Test.YtkmklfdpomkalaaShare
import Derived.Test.YtkmklfdpomkalaaFacts
import Derived.Test.YtkmklfdpomkalaaMarks
namespace Go.Proofs.Ytkmklfdpomkalaa
open Go Go.Vc
set_option maxRecDepth 100000
set_option linter.unusedSimpArgs false
set_option linter.unusedVariables false
open Go.ChangeShapes Go.WideShapes Go.RowKit
def K_laws_FnExactShareCut : List Nat := [0, 1, 4, 5, 6, 7, 8, 9, 10, 11, 12, 13, 14, 15]
def C_laws_FnExactShareCut : C :=
  let ks := K_laws_FnExactShareCut
  (.seq
    (.rg 0 [(none, .v 4 .mv [.k (.b false)])])
    (.cl ks (.seq
      (.rg 0 [(none, .v 5 .mv [.k (.i 1048576)])])
      (.cl ks (.seq
        (.rg 0 [(none, .v 16 .mv [.s 0]), (none, .v 17 .mv [.s 5]), (none, .co 18 12 [.s 16, .s 17]), (none, .tk 5 18)])
        (.cl ks (.seq
          (.seq
            (.rg 0 [(none, .v 19 .mv [.s 5]), (none, .v 20 (.bin .lss) [.s 19, .k (.i 0)])])
            (.cond (.s 20)
              (.seq
                (.rg 0 [(none, .v 4 .mv [.k (.b true)])])
                .ret)
              .skip))
          (.cl ks (.seq
            (.rg 0 [(none, .v 22 .mv [.s 0]), (none, .co 23 14 [.s 22]), (none, .v 24 .mv [.s 1]), (none, .co 25 21 [.s 23, .s 24]), (none, .tk 21 25), (none, .tk 26 100021), (none, .tk 27 101021), (none, .tk 6 26), (none, .tk 7 27)])
            (.cl ks (.seq
              (.rg 0 [(none, .v 28 .mv [.s 0]), (none, .co 29 14 [.s 28]), (none, .tk 8 29)])
              (.cl ks (.seq
                (.rg 0 [(none, .v 31 .mv [.s 8]), (none, .v 32 .mv [.s 1]), (none, .co 33 22 [.s 31, .s 32]), (none, .tk 30 33), (none, .tk 34 100030), (none, .tk 35 101030), (none, .tk 9 34), (none, .tk 10 35)])
                (.cl ks (.seq
                  (.seq
                    (.rg 0 [(none, .v 36 .mv [.s 9]), (none, .v 37 .mv [.s 6]), (none, .co 38 23 [.s 36, .s 37]), (none, .v 39 .not [.s 38]), (none, .v 40 .mv [.s 39]), (some (40, false), .v 41 .mv [.s 10]), (some (40, false), .v 42 .mv [.s 7]), (some (40, false), .v 43 .bne [.s 41, .s 42]), (none, .v 44 .pick [.s 40, .k (.b true), .s 43])])
                    (.cond (.s 44)
                      (.seq
                        (.rg 0 [(none, .v 4 .mv [.k (.b false)])])
                        .ret)
                      .skip))
                  (.cl ks (.seq
                    (.seq
                      (.rg 0 [(none, .v 45 .mv [.s 8]), (none, .v 46 .mv [.s 0]), (none, .co 47 14 [.s 46]), (none, .co 48 16 [.s 45, .s 47]), (none, .v 49 .not [.s 48])])
                      (.cond (.s 49)
                        (.seq
                          (.rg 0 [(none, .v 4 .mv [.k (.b false)])])
                          .ret)
                        .skip))
                    (.cl ks (.seq
                      (.rg 0 [(none, .v 11 .mv [.k (.i 1)])])
                      (.cl ks (.seq
                        (.rg 0 [(none, .v 50 .mv [.s 8]), (none, .v 51 .mv [.s 11]), (none, .cox (some 52) 24 [.s 50, .s 51] 0), (none, .tk 11 52)])
                        (.cl ks (.seq
                          (.seq
                            (.rg 0 [(none, .v 53 .mv [.s 11]), (none, .v 54 (.bin .lss) [.s 53, .k (.i 0)]), (none, .v 55 .mv [.s 54]), (some (55, false), .v 56 .mv [.s 9]), (some (55, false), .v 57 .mv [.s 6]), (some (55, false), .co 58 23 [.s 56, .s 57]), (some (55, false), .v 59 .not [.s 58]), (none, .v 60 .pick [.s 55, .k (.b true), .s 59]), (none, .v 61 .mv [.s 60]), (some (61, false), .v 62 .mv [.s 10]), (some (61, false), .v 63 .mv [.s 7]), (some (61, false), .v 64 .bne [.s 62, .s 63]), (none, .v 65 .pick [.s 61, .k (.b true), .s 64])])
                            (.cond (.s 65)
                              (.seq
                                (.rg 0 [(none, .v 4 .mv [.k (.b false)])])
                                .ret)
                              .skip))
                          (.cl ks (.seq
                            (.rg 0 [(none, .v 12 .mv [.k (.i 1)])])
                            (.cl ks (.seq
                              (.rg 0 [(none, .v 66 .mv [.s 9]), (none, .v 67 .mv [.s 12]), (none, .cox (some 68) 25 [.s 66, .s 67] 0), (none, .tk 12 68)])
                              (.cl ks (.seq
                                (.rg 0 [(none, .v 13 .mv [.k (.i 1)])])
                                (.cl ks (.seq
                                  (.rg 0 [(none, .v 69 .mv [.s 9]), (none, .v 70 .mv [.s 13]), (none, .co 71 26 [.s 69, .s 70]), (none, .tk 13 71)])
                                  (.cl ks (.seq
                                    (.seq
                                      (.rg 0 [(none, .v 72 .mv [.s 13]), (none, .v 73 (.bin .lss) [.s 72, .k (.i 0)])])
                                      (.cond (.s 73)
                                        (.seq
                                          (.rg 0 [(none, .v 4 .mv [.k (.b false)])])
                                          .ret)
                                        .skip))
                                    (.cl ks (.seq
                                      (.seq
                                        (.rg 0 [(none, .v 74 .mv [.s 13]), (none, .v 75 .mv [.s 12]), (none, .v 76 (.bin .neq) [.s 74, .s 75])])
                                        (.cond (.s 76)
                                          (.seq
                                            (.rg 0 [(none, .v 4 .mv [.k (.b false)])])
                                            .ret)
                                          .skip))
                                      (.cl ks (.seq
                                        (.rg 0 [(none, .v 78 .mv [.s 0]), (none, .co 79 14 [.s 78]), (none, .v 80 .mv [.s 1]), (none, .co 81 22 [.s 79, .s 80]), (none, .tk 77 81), (none, .tk 82 100077), (none, .tk 83 101077), (none, .tk 14 82), (none, .tk 15 83)])
                                        (.cl ks (.seq
                                          (.seq
                                            (.rg 0 [(none, .v 84 .mv [.s 14]), (none, .v 85 .mv [.s 6]), (none, .co 86 23 [.s 84, .s 85]), (none, .v 87 .not [.s 86]), (none, .v 88 .mv [.s 87]), (some (88, false), .v 89 .mv [.s 15]), (some (88, false), .v 90 .mv [.s 7]), (some (88, false), .v 91 .bne [.s 89, .s 90]), (none, .v 92 .pick [.s 88, .k (.b true), .s 91])])
                                            (.cond (.s 92)
                                              (.seq
                                                (.rg 0 [(none, .v 4 .mv [.k (.b false)])])
                                                .ret)
                                              .skip))
                                          (.cl ks (.seq
                                            (.rg 0 [(none, .v 13 .mv [.k (.i 1)])])
                                            (.cl ks (.seq
                                              (.rg 0 [(none, .v 93 .mv [.s 9]), (none, .v 94 .mv [.s 13]), (none, .co 95 26 [.s 93, .s 94]), (none, .tk 13 95)])
                                              (.cl ks (.seq
                                                (.seq
                                                  (.rg 0 [(none, .v 96 .mv [.s 13]), (none, .v 97 (.bin .lss) [.s 96, .k (.i 0)])])
                                                  (.cond (.s 97)
                                                    (.seq
                                                      (.rg 0 [(none, .v 4 .mv [.k (.b false)])])
                                                      .ret)
                                                    .skip))
                                                (.cl ks (.seq
                                                  (.seq
                                                    (.rg 0 [(none, .v 98 .mv [.s 13]), (none, .v 99 .mv [.s 12]), (none, .v 100 (.bin .neq) [.s 98, .s 99])])
                                                    (.cond (.s 100)
                                                      (.seq
                                                        (.rg 0 [(none, .v 4 .mv [.k (.b false)])])
                                                        .ret)
                                                      .skip))
                                                  (.cl ks (.seq
                                                    (.rg 0 [(none, .v 4 .mv [.k (.b true)])])
                                                    .ret)))))))))))))))))))))))))))))))))))))))))))))))))

theorem chk_laws_FnExactShareCut : ∃ b, Try.f6.body = some b ∧ chk Try.prog Try.f6.ntmps true C_laws_FnExactShareCut b = true := ⟨_, rfl, by kernel_rfl⟩
theorem FnExactShareCut_ok (x0 : List (List Int)) (a0 : x0.length ≤ 9223372036854775807) (b0 : ∀ r ∈ x0, r.length ≤ 9223372036854775807) (x1 : Int) (a1 : inR x1) :
    CallOk Try.prog 6 [.s none (rr x0), .i x1] [(0, .b true)] := by
  obtain ⟨code0, hcd1, hcd2⟩ := chk_laws_FnExactShareCut; refine callOk_of Try.func6 hcd1 mo Try.call6 (rs := [4]) (by kernel_rfl) hcd2 (by rw [Try.ntmps6]; simp) (by simp) (by decide) ?_; unfold C_laws_FnExactShareCut K_laws_FnExactShareCut; simp (config := { maxSteps := 2000000 }) only [go_sem, Nat.reduceBEq, Nat.reduceAdd, Nat.reduceMul, Nat.reduceMod, Nat.reduceLT, Nat.reduceDiv, Nat.reduceSub, Nat.reduceLeDiff, Int.reduceToNat, Int.reduceLT, Int.reduceLE, reduceCtorEq, List.take_nil, List.drop_nil]
  refine ⟨_, szIntSS_ok none x0 _ (by omega) (by omega) a0 b0, ?_⟩; simp (config := { maxSteps := 2000000 }) only [go_sem, Nat.reduceBEq, Nat.reduceAdd, Nat.reduceMul, Nat.reduceMod, Nat.reduceLT, Nat.reduceDiv, Nat.reduceSub, Nat.reduceLeDiff, Int.reduceToNat, Int.reduceLT, Int.reduceLE, reduceCtorEq, List.take_nil, List.drop_nil]
  refine ⟨fun _ => trivial, fun c0 => ?_⟩
  obtain ⟨h0, k0⟩ := szII_ok (by omega) c0
  have t0 : (tot x0 : Int) ≤ 1048576 := Int.le_trans (szII_tot c0) (by omega)
  have l0r : (cutF x0 x1).length ≤ 1048576 := cut_bd
  refine ⟨_, toIntSS_ok none x0 h0 k0, ?_⟩; simp (config := { maxSteps := 2000000 }) only [go_sem, Nat.reduceBEq, Nat.reduceAdd, Nat.reduceMul, Nat.reduceMod, Nat.reduceLT, Nat.reduceDiv, Nat.reduceSub, Nat.reduceLeDiff, Int.reduceToNat, Int.reduceLT, Int.reduceLE, reduceCtorEq, List.take_nil, List.drop_nil]
  refine ⟨_, spec_ShareCut_ok x0 x1 h0 k0, ?_⟩; simp (config := { maxSteps := 2000000 }) only [go_sem, Nat.reduceBEq, Nat.reduceAdd, Nat.reduceMul, Nat.reduceMod, Nat.reduceLT, Nat.reduceDiv, Nat.reduceSub, Nat.reduceLeDiff, Int.reduceToNat, Int.reduceLT, Int.reduceLE, reduceCtorEq, List.take_nil, List.drop_nil]
  refine ⟨_, toIntSS_ok none x0 h0 k0, ?_⟩; simp (config := { maxSteps := 2000000 }) only [go_sem, Nat.reduceBEq, Nat.reduceAdd, Nat.reduceMul, Nat.reduceMod, Nat.reduceLT, Nat.reduceDiv, Nat.reduceSub, Nat.reduceLeDiff, Int.reduceToNat, Int.reduceLT, Int.reduceLE, reduceCtorEq, List.take_nil, List.drop_nil]
  refine ⟨_, impl_ShareCut_ok x0 x1 h0 k0, ?_⟩; simp (config := { maxSteps := 2000000 }) only [go_sem, Nat.reduceBEq, Nat.reduceAdd, Nat.reduceMul, Nat.reduceMod, Nat.reduceLT, Nat.reduceDiv, Nat.reduceSub, Nat.reduceLeDiff, Int.reduceToNat, Int.reduceLT, Int.reduceLE, reduceCtorEq, List.take_nil, List.drop_nil]
  refine ⟨_, eqIntS_ok none none (cutF x0 x1) (cutF x0 x1) l0r, ?_⟩; simp (config := { maxSteps := 2000000 }) only [go_sem, Nat.reduceBEq, Nat.reduceAdd, Nat.reduceMul, Nat.reduceMod, Nat.reduceLT, Nat.reduceDiv, Nat.reduceSub, Nat.reduceLeDiff, Int.reduceToNat, Int.reduceLT, Int.reduceLE, reduceCtorEq, List.take_nil, List.drop_nil]
  try (first | (refine ⟨fun h => ?_, fun _ => ?_⟩; focus (simp at h; done)) | (refine ⟨fun h => ?_, fun _ => ?_⟩; focus omega) | (refine ⟨fun h => ?_, ?_⟩; focus (exact absurd trivial h)) | (refine ⟨fun _ => ?_, fun h => ?_⟩; rotate_left; focus omega))
  try (first | (refine ⟨fun h => ?_, fun _ => ?_⟩; focus (simp at h; done)) | (refine ⟨fun h => ?_, fun _ => ?_⟩; focus omega) | (refine ⟨fun h => ?_, ?_⟩; focus (exact absurd trivial h)) | (refine ⟨fun _ => ?_, fun h => ?_⟩; rotate_left; focus omega))
  refine ⟨_, toIntSS_ok none x0 h0 k0, ?_⟩; simp (config := { maxSteps := 2000000 }) only [go_sem, Nat.reduceBEq, Nat.reduceAdd, Nat.reduceMul, Nat.reduceMod, Nat.reduceLT, Nat.reduceDiv, Nat.reduceSub, Nat.reduceLeDiff, Int.reduceToNat, Int.reduceLT, Int.reduceLE, reduceCtorEq, List.take_nil, List.drop_nil]
  refine ⟨_, eqIntSS_ok _ _ x0 x0 h0 k0, ?_⟩; simp (config := { maxSteps := 2000000 }) only [go_sem, Nat.reduceBEq, Nat.reduceAdd, Nat.reduceMul, Nat.reduceMod, Nat.reduceLT, Nat.reduceDiv, Nat.reduceSub, Nat.reduceLeDiff, Int.reduceToNat, Int.reduceLT, Int.reduceLE, reduceCtorEq, List.take_nil, List.drop_nil]
  try (first | (refine ⟨fun h => ?_, fun _ => ?_⟩; focus (simp at h; done)) | (refine ⟨fun h => ?_, fun _ => ?_⟩; focus omega) | (refine ⟨fun h => ?_, ?_⟩; focus (exact absurd trivial h)) | (refine ⟨fun _ => ?_, fun h => ?_⟩; rotate_left; focus omega))
  refine ⟨_, _, _, markIntSS_ok _ x0 _ (by omega) (by omega) h0 k0, ?_⟩; simp (config := { maxSteps := 2000000 }) only [go_sem, Nat.reduceBEq, Nat.reduceAdd, Nat.reduceMul, Nat.reduceMod, Nat.reduceLT, Nat.reduceDiv, Nat.reduceSub, Nat.reduceLeDiff, Int.reduceToNat, Int.reduceLT, Int.reduceLE, reduceCtorEq, List.take_nil, List.drop_nil]
  try (first | (refine ⟨fun h => ?_, fun _ => ?_⟩; focus (simp at h; done)) | (refine ⟨fun h => ?_, fun _ => ?_⟩; focus omega) | (refine ⟨fun h => ?_, ?_⟩; focus (exact absurd trivial h)) | (refine ⟨fun _ => ?_, fun h => ?_⟩; rotate_left; focus omega))
  refine ⟨_, eqIntS_ok none none (cutF x0 x1) (cutF x0 x1) l0r, ?_⟩; simp (config := { maxSteps := 2000000 }) only [go_sem, Nat.reduceBEq, Nat.reduceAdd, Nat.reduceMul, Nat.reduceMod, Nat.reduceLT, Nat.reduceDiv, Nat.reduceSub, Nat.reduceLeDiff, Int.reduceToNat, Int.reduceLT, Int.reduceLE, reduceCtorEq, List.take_nil, List.drop_nil]
  try (first | (refine ⟨fun h => ?_, fun _ => ?_⟩; focus (simp at h; done)) | (refine ⟨fun h => ?_, fun _ => ?_⟩; focus omega) | (refine ⟨fun h => ?_, ?_⟩; focus (exact absurd trivial h)) | (refine ⟨fun _ => ?_, fun h => ?_⟩; rotate_left; focus omega))
  try (first | (refine ⟨fun h => ?_, fun _ => ?_⟩; focus (simp at h; done)) | (refine ⟨fun h => ?_, fun _ => ?_⟩; focus omega) | (refine ⟨fun h => ?_, ?_⟩; focus (exact absurd trivial h)) | (refine ⟨fun _ => ?_, fun h => ?_⟩; rotate_left; focus omega))
  refine ⟨_, _, _, markIntS_ok _ (cutF x0 x1) _ (by omega) (by omega) l0r, ?_⟩; simp (config := { maxSteps := 2000000 }) only [go_sem, Nat.reduceBEq, Nat.reduceAdd, Nat.reduceMul, Nat.reduceMod, Nat.reduceLT, Nat.reduceDiv, Nat.reduceSub, Nat.reduceLeDiff, Int.reduceToNat, Int.reduceLT, Int.reduceLE, reduceCtorEq, List.take_nil, List.drop_nil]
  refine ⟨_, heldIntS_ok none (cutF x0 x1).length _ (by omega) (by omega) l0r, ?_⟩; simp (config := { maxSteps := 2000000 }) only [go_sem, Nat.reduceBEq, Nat.reduceAdd, Nat.reduceMul, Nat.reduceMod, Nat.reduceLT, Nat.reduceDiv, Nat.reduceSub, Nat.reduceLeDiff, Int.reduceToNat, Int.reduceLT, Int.reduceLE, reduceCtorEq, List.take_nil, List.drop_nil]
  try (first | (refine ⟨fun h => ?_, fun _ => ?_⟩; focus (simp at h; done)) | (refine ⟨fun h => ?_, fun _ => ?_⟩; focus omega) | (refine ⟨fun h => ?_, ?_⟩; focus (exact absurd trivial h)) | (refine ⟨fun _ => ?_, fun h => ?_⟩; rotate_left; focus omega))
  try (first | (refine ⟨fun h => ?_, fun _ => ?_⟩; focus (simp at h; done)) | (refine ⟨fun h => ?_, fun _ => ?_⟩; focus omega) | (refine ⟨fun h => ?_, ?_⟩; focus (exact absurd trivial h)) | (refine ⟨fun _ => ?_, fun h => ?_⟩; rotate_left; focus omega))
  refine ⟨_, toIntSS_ok none x0 h0 k0, ?_⟩; simp (config := { maxSteps := 2000000 }) only [go_sem, Nat.reduceBEq, Nat.reduceAdd, Nat.reduceMul, Nat.reduceMod, Nat.reduceLT, Nat.reduceDiv, Nat.reduceSub, Nat.reduceLeDiff, Int.reduceToNat, Int.reduceLT, Int.reduceLE, reduceCtorEq, List.take_nil, List.drop_nil]
  refine ⟨_, impl_ShareCut_ok x0 x1 h0 k0, ?_⟩; simp (config := { maxSteps := 2000000 }) only [go_sem, Nat.reduceBEq, Nat.reduceAdd, Nat.reduceMul, Nat.reduceMod, Nat.reduceLT, Nat.reduceDiv, Nat.reduceSub, Nat.reduceLeDiff, Int.reduceToNat, Int.reduceLT, Int.reduceLE, reduceCtorEq, List.take_nil, List.drop_nil]
  refine ⟨_, eqIntS_ok none none (cutF x0 x1) (cutF x0 x1) l0r, ?_⟩; simp (config := { maxSteps := 2000000 }) only [go_sem, Nat.reduceBEq, Nat.reduceAdd, Nat.reduceMul, Nat.reduceMod, Nat.reduceLT, Nat.reduceDiv, Nat.reduceSub, Nat.reduceLeDiff, Int.reduceToNat, Int.reduceLT, Int.reduceLE, reduceCtorEq, List.take_nil, List.drop_nil]
  try (first | (refine ⟨fun h => ?_, fun _ => ?_⟩; focus (simp at h; done)) | (refine ⟨fun h => ?_, fun _ => ?_⟩; focus omega) | (refine ⟨fun h => ?_, ?_⟩; focus (exact absurd trivial h)) | (refine ⟨fun _ => ?_, fun h => ?_⟩; rotate_left; focus omega))
  try (first | (refine ⟨fun h => ?_, fun _ => ?_⟩; focus (simp at h; done)) | (refine ⟨fun h => ?_, fun _ => ?_⟩; focus omega) | (refine ⟨fun h => ?_, ?_⟩; focus (exact absurd trivial h)) | (refine ⟨fun _ => ?_, fun h => ?_⟩; rotate_left; focus omega))
  refine ⟨_, heldIntS_ok none (cutF x0 x1).length _ (by omega) (by omega) l0r, ?_⟩; simp (config := { maxSteps := 2000000 }) only [go_sem, Nat.reduceBEq, Nat.reduceAdd, Nat.reduceMul, Nat.reduceMod, Nat.reduceLT, Nat.reduceDiv, Nat.reduceSub, Nat.reduceLeDiff, Int.reduceToNat, Int.reduceLT, Int.reduceLE, reduceCtorEq, List.take_nil, List.drop_nil]
  first | exact ⟨fun h => by omega, fun _ h => absurd trivial h⟩ | trivial
theorem FnExactShareCut_lifted (os : Os) (started : os.Started) (H : Type) (enc : TypeId × Value → H) :
    ReturnsInHanded {} Try.checked os 6 .any (Rows.fnExactShareCutSpec.pre6 enc Try.prog Try.f6 Rows.fnExactShareCutRow.domain false) (Rows.fnExactShareCutSpec.post enc Try.prog Try.f6 false true false false) := by
  refine returnsInHanded_of_change (C := Try.checked) ownk started (by as_aux_lemma => kernel_rfl) Try.func6
    (ChangeSpec.witness6 (enc := enc) (C := Try.checked) false ⟨#[], #[.slice none 0 0, .int .i64 0], []⟩ 8 (by kernel_rfl) (by kernel_rfl) (by kernel_rfl) (by kernel_rfl)) ?_
  intro W base args ds gs before hval0 hW _ _
  have hval : ∀ (j : Nat) t v, Try.f6.params[j]? = some t → args[j]? = some v → Value.okWide Try.prog W .any base t v := hval0
  have hW' := hW
  obtain ⟨p, q, hA0, _⟩ := hW
  have hA : DataW.TrodAll enc Try.prog W 0 (fun _ => true) true Try.f6.params.toList args.toList ds p := hA0
  rw [Try.params6] at hA hval
  clear hA0 hval0
  obtain ⟨v0, v1, d0, d1, p0, p1, rfl, rfl, rfl, h0, h1⟩ := trodAll_two hA
  obtain ⟨x0, a0, b0, f0⟩ := fz_rows Try.underlying22 Try.underlying28 Try.underlying3 (by kernel_rfl : Try.prog.cellsOf 28 = 1) (by kernel_rfl : Try.prog.cellsOf 3 = 1) (hval 0 22 v0 rfl rfl) h0
  obtain ⟨x1, a1, f1⟩ := fz_int Try.underlying3 (hval 1 3 v1 rfl rfl) h1
  exact law_post (P := Try.prog) pfacts.laid (fun t ht => by rw [Try.params6] at ht; revert t; simp only [List.mem_cons, List.not_mem_nil, or_false, forall_eq_or_imp, forall_eq]; exact ⟨⟨by kernel_rfl, of_decide_eq_true (by kernel_rfl)⟩, ⟨by kernel_rfl, of_decide_eq_true (by kernel_rfl)⟩⟩) rfl (by kernel_rfl) rfl (fun ds hds => by
    have hds : ds.length = 2 := hds
    match ds, hds with
    | [d0, d1], _ => rfl) hW' (ts := [.s none (rr x0), .i x1]) (by simp only [FzL]; exact ⟨_, _, rfl, f0, ⟨_, _, rfl, f1, rfl⟩⟩) (FnExactShareCut_ok x0 a0 b0 x1 a1)
theorem FnExactShareCut_holds : Rows.FnExactShareCutSaid :=
  OpenClaim.holds_of_wide (p := Try.pinned) (s := Rows.fnExactShareCutSpec) (c := Rows.fnExactShareCutRow) 6 Try.f6 rfl rfl rfl rfl rfl rfl rfl ⟨rfl, rfl, rfl, rfl, rfl⟩ rfl rfl rfl rfl rfl (by as_aux_lemma => kernel_rfl) Try.func6 (joined_of pfacts rfl rfl rfl (by as_aux_lemma => kernel_rfl) (by as_aux_lemma => kernel_rfl) (by as_aux_lemma => kernel_rfl) (by as_aux_lemma => kernel_rfl) (by as_aux_lemma => kernel_rfl) (by as_aux_lemma => kernel_rfl) (by as_aux_lemma => kernel_rfl) (by as_aux_lemma => kernel_rfl) (by as_aux_lemma => kernel_rfl) (by as_aux_lemma => kernel_rfl) (by as_aux_lemma => kernel_rfl) (by as_aux_lemma => kernel_rfl) (by as_aux_lemma => kernel_rfl) (by as_aux_lemma => kernel_rfl) (by as_aux_lemma => kernel_rfl) (by as_aux_lemma => kernel_rfl) (by as_aux_lemma => kernel_rfl) (by as_aux_lemma => kernel_rfl) (by as_aux_lemma => kernel_rfl) (by as_aux_lemma => kernel_rfl) (by as_aux_lemma => kernel_rfl) (by as_aux_lemma => kernel_rfl) (by as_aux_lemma => kernel_rfl))
    (of_decide_eq_true (by kernel_rfl)) (by unfold Func.isWrapper; rw [if_neg (of_decide_eq_false (by kernel_rfl))]; exact ⟨rfl, rfl⟩)
    (fun os started H enc _ => FnExactShareCut_lifted os started H enc)

end Go.Proofs.Ytkmklfdpomkalaa
