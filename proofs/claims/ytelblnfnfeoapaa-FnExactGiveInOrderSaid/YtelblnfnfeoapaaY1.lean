/- At every input the law below returns true and leaves its arguments alone: GiveInOrder of the program returns what that of the reference returns, in memory of its own. No condition. -/
import Derived.Test.YtelblnfnfeoapaaRows
import Derived.Test.YtelblnfnfeoapaaGord
import Derived.Test.YtelblnfnfeoapaaFacts
import Derived.Test.YtelblnfnfeoapaaMarks
namespace Go.Proofs.Ytelblnfnfeoapaa
open Go Go.Vc
set_option maxRecDepth 100000
set_option linter.unusedSimpArgs false
set_option linter.unusedVariables false
open Go.ChangeShapes Go.WideShapes Go.RowKit
def K_laws_FnExactGiveInOrder : List Nat := [0, 2, 3, 4, 5, 6, 7, 8, 9, 10, 11, 12, 13]
def C_laws_FnExactGiveInOrder : C :=
  let ks := K_laws_FnExactGiveInOrder
  (.seq
    (.rg 0 [(none, .v 2 .mv [.k (.b false)])])
    (.cl ks (.seq
      (.rg 0 [(none, .v 3 .mv [.k (.i 1048576)])])
      (.cl ks (.seq
        (.rg 0 [(none, .v 14 .mv [.s 0]), (none, .v 15 .mv [.s 3]), (none, .co 16 19 [.s 14, .s 15]), (none, .tk 3 16)])
        (.cl ks (.seq
          (.seq
            (.rg 0 [(none, .v 17 .mv [.s 3]), (none, .v 18 (.bin .lss) [.s 17, .k (.i 0)])])
            (.cond (.s 18)
              (.seq
                (.rg 0 [(none, .v 2 .mv [.k (.b true)])])
                .ret)
              .skip))
          (.cl ks (.seq
            (.rg 0 [(none, .v 20 .mv [.s 0]), (none, .co 21 21 [.s 20]), (none, .co 22 20 [.s 21]), (none, .tk 19 22), (none, .tk 23 100019), (none, .tk 24 101019), (none, .tk 4 23), (none, .tk 5 24)])
            (.cl ks (.seq
              (.rg 0 [(none, .v 25 .mv [.s 0]), (none, .co 26 21 [.s 25]), (none, .tk 6 26)])
              (.cl ks (.seq
                (.rg 0 [(none, .v 28 .mv [.s 6]), (none, .co 29 22 [.s 28]), (none, .tk 27 29), (none, .tk 30 100027), (none, .tk 31 101027), (none, .tk 7 30), (none, .tk 8 31)])
                (.cl ks (.seq
                  (.seq
                    (.rg 0 [(none, .v 32 .mv [.s 7]), (none, .v 33 .mv [.s 4]), (none, .co 34 18 [.s 32, .s 33]), (none, .v 35 .not [.s 34]), (none, .v 36 .mv [.s 35]), (some (36, false), .v 37 .mv [.s 8]), (some (36, false), .v 38 .mv [.s 5]), (some (36, false), .v 39 .bne [.s 37, .s 38]), (none, .v 40 .pick [.s 36, .k (.b true), .s 39])])
                    (.cond (.s 40)
                      (.seq
                        (.rg 0 [(none, .v 2 .mv [.k (.b false)])])
                        .ret)
                      .skip))
                  (.cl ks (.seq
                    (.seq
                      (.rg 0 [(none, .v 41 .mv [.s 6]), (none, .v 42 .mv [.s 0]), (none, .co 43 21 [.s 42]), (none, .co 44 10 [.s 41, .s 43]), (none, .v 45 .not [.s 44])])
                      (.cond (.s 45)
                        (.seq
                          (.rg 0 [(none, .v 2 .mv [.k (.b false)])])
                          .ret)
                        .skip))
                    (.cl ks (.seq
                      (.rg 0 [(none, .v 9 .mv [.k (.i 1)])])
                      (.cl ks (.seq
                        (.rg 0 [(none, .v 46 .mv [.s 6]), (none, .v 47 .mv [.s 9]), (none, .cox (some 48) 13 [.s 46, .s 47] 0), (none, .tk 9 48)])
                        (.cl ks (.seq
                          (.seq
                            (.rg 0 [(none, .v 49 .mv [.s 9]), (none, .v 50 (.bin .lss) [.s 49, .k (.i 0)]), (none, .v 51 .mv [.s 50]), (some (51, false), .v 52 .mv [.s 7]), (some (51, false), .v 53 .mv [.s 4]), (some (51, false), .co 54 18 [.s 52, .s 53]), (some (51, false), .v 55 .not [.s 54]), (none, .v 56 .pick [.s 51, .k (.b true), .s 55]), (none, .v 57 .mv [.s 56]), (some (57, false), .v 58 .mv [.s 8]), (some (57, false), .v 59 .mv [.s 5]), (some (57, false), .v 60 .bne [.s 58, .s 59]), (none, .v 61 .pick [.s 57, .k (.b true), .s 60])])
                            (.cond (.s 61)
                              (.seq
                                (.rg 0 [(none, .v 2 .mv [.k (.b false)])])
                                .ret)
                              .skip))
                          (.cl ks (.seq
                            (.rg 0 [(none, .v 10 .mv [.k (.i 1)])])
                            (.cl ks (.seq
                              (.rg 0 [(none, .v 62 .mv [.s 7]), (none, .v 63 .mv [.s 10]), (none, .cox (some 64) 23 [.s 62, .s 63] 0), (none, .tk 10 64)])
                              (.cl ks (.seq
                                (.rg 0 [(none, .v 11 .mv [.k (.i 1)])])
                                (.cl ks (.seq
                                  (.rg 0 [(none, .v 65 .mv [.s 7]), (none, .v 66 .mv [.s 11]), (none, .co 67 24 [.s 65, .s 66]), (none, .tk 11 67)])
                                  (.cl ks (.seq
                                    (.seq
                                      (.rg 0 [(none, .v 68 .mv [.s 11]), (none, .v 69 (.bin .lss) [.s 68, .k (.i 0)])])
                                      (.cond (.s 69)
                                        (.seq
                                          (.rg 0 [(none, .v 2 .mv [.k (.b false)])])
                                          .ret)
                                        .skip))
                                    (.cl ks (.seq
                                      (.seq
                                        (.rg 0 [(none, .v 70 .mv [.s 11]), (none, .v 71 .mv [.s 10]), (none, .v 72 (.bin .neq) [.s 70, .s 71])])
                                        (.cond (.s 72)
                                          (.seq
                                            (.rg 0 [(none, .v 2 .mv [.k (.b false)])])
                                            .ret)
                                          .skip))
                                      (.cl ks (.seq
                                        (.rg 0 [(none, .v 74 .mv [.s 0]), (none, .co 75 21 [.s 74]), (none, .co 76 22 [.s 75]), (none, .tk 73 76), (none, .tk 77 100073), (none, .tk 78 101073), (none, .tk 12 77), (none, .tk 13 78)])
                                        (.cl ks (.seq
                                          (.seq
                                            (.rg 0 [(none, .v 79 .mv [.s 12]), (none, .v 80 .mv [.s 4]), (none, .co 81 18 [.s 79, .s 80]), (none, .v 82 .not [.s 81]), (none, .v 83 .mv [.s 82]), (some (83, false), .v 84 .mv [.s 13]), (some (83, false), .v 85 .mv [.s 5]), (some (83, false), .v 86 .bne [.s 84, .s 85]), (none, .v 87 .pick [.s 83, .k (.b true), .s 86])])
                                            (.cond (.s 87)
                                              (.seq
                                                (.rg 0 [(none, .v 2 .mv [.k (.b false)])])
                                                .ret)
                                              .skip))
                                          (.cl ks (.seq
                                            (.rg 0 [(none, .v 11 .mv [.k (.i 1)])])
                                            (.cl ks (.seq
                                              (.rg 0 [(none, .v 88 .mv [.s 7]), (none, .v 89 .mv [.s 11]), (none, .co 90 24 [.s 88, .s 89]), (none, .tk 11 90)])
                                              (.cl ks (.seq
                                                (.seq
                                                  (.rg 0 [(none, .v 91 .mv [.s 11]), (none, .v 92 (.bin .lss) [.s 91, .k (.i 0)])])
                                                  (.cond (.s 92)
                                                    (.seq
                                                      (.rg 0 [(none, .v 2 .mv [.k (.b false)])])
                                                      .ret)
                                                    .skip))
                                                (.cl ks (.seq
                                                  (.seq
                                                    (.rg 0 [(none, .v 93 .mv [.s 11]), (none, .v 94 .mv [.s 10]), (none, .v 95 (.bin .neq) [.s 93, .s 94])])
                                                    (.cond (.s 95)
                                                      (.seq
                                                        (.rg 0 [(none, .v 2 .mv [.k (.b false)])])
                                                        .ret)
                                                      .skip))
                                                  (.cl ks (.seq
                                                    (.rg 0 [(none, .v 2 .mv [.k (.b true)])])
                                                    .ret)))))))))))))))))))))))))))))))))))))))))))))))))

theorem chk_laws_FnExactGiveInOrder : ∃ b, Try.f5.body = some b ∧ chk Try.prog Try.f5.ntmps true C_laws_FnExactGiveInOrder b = true := ⟨_, rfl, by kernel_rfl⟩
theorem FnExactGiveInOrder_ok (x0 : List (List Int)) (a0 : x0.length ≤ 9223372036854775807) (b0 : ∀ r ∈ x0, r.length ≤ 9223372036854775807) :
    CallOk Try.prog 5 [.s none (rr x0)] [(0, .b true)] := by
  obtain ⟨code0, hcd1, hcd2⟩ := chk_laws_FnExactGiveInOrder; refine callOk_of Try.func5 hcd1 mo Try.call5 (rs := [2]) (by kernel_rfl) hcd2 (by rw [Try.ntmps5]; simp) (by simp) (by decide) ?_; unfold C_laws_FnExactGiveInOrder K_laws_FnExactGiveInOrder; simp (config := { maxSteps := 2000000 }) only [go_sem, Nat.reduceBEq, Nat.reduceAdd, Nat.reduceMul, Nat.reduceMod, Nat.reduceLT, Nat.reduceDiv, Nat.reduceSub, Nat.reduceLeDiff, Int.reduceToNat, Int.reduceLT, Int.reduceLE, reduceCtorEq, List.take_nil, List.drop_nil]
  refine ⟨_, szIntSS_ok none x0 _ (by omega) (by omega) a0 b0, ?_⟩; simp (config := { maxSteps := 2000000 }) only [go_sem, Nat.reduceBEq, Nat.reduceAdd, Nat.reduceMul, Nat.reduceMod, Nat.reduceLT, Nat.reduceDiv, Nat.reduceSub, Nat.reduceLeDiff, Int.reduceToNat, Int.reduceLT, Int.reduceLE, reduceCtorEq, List.take_nil, List.drop_nil]
  refine ⟨fun _ => trivial, fun c0 => ?_⟩
  obtain ⟨h0, k0⟩ := szII_ok (by omega) c0
  have t0 : (tot x0 : Int) ≤ 1048576 := Int.le_trans (szII_tot c0) (by omega)
  have l0r : (givF x0).length ≤ 1048576 := givF_len
  refine ⟨_, toIntSS_ok none x0 h0 k0, ?_⟩; simp (config := { maxSteps := 2000000 }) only [go_sem, Nat.reduceBEq, Nat.reduceAdd, Nat.reduceMul, Nat.reduceMod, Nat.reduceLT, Nat.reduceDiv, Nat.reduceSub, Nat.reduceLeDiff, Int.reduceToNat, Int.reduceLT, Int.reduceLE, reduceCtorEq, List.take_nil, List.drop_nil]
  refine ⟨_, spec_GiveInOrder_ok x0 h0 k0, ?_⟩; simp (config := { maxSteps := 2000000 }) only [go_sem, Nat.reduceBEq, Nat.reduceAdd, Nat.reduceMul, Nat.reduceMod, Nat.reduceLT, Nat.reduceDiv, Nat.reduceSub, Nat.reduceLeDiff, Int.reduceToNat, Int.reduceLT, Int.reduceLE, reduceCtorEq, List.take_nil, List.drop_nil]
  refine ⟨_, toIntSS_ok none x0 h0 k0, ?_⟩; simp (config := { maxSteps := 2000000 }) only [go_sem, Nat.reduceBEq, Nat.reduceAdd, Nat.reduceMul, Nat.reduceMod, Nat.reduceLT, Nat.reduceDiv, Nat.reduceSub, Nat.reduceLeDiff, Int.reduceToNat, Int.reduceLT, Int.reduceLE, reduceCtorEq, List.take_nil, List.drop_nil]
  refine ⟨_, impl_GiveInOrder_ok x0 h0 k0, ?_⟩; simp (config := { maxSteps := 2000000 }) only [go_sem, Nat.reduceBEq, Nat.reduceAdd, Nat.reduceMul, Nat.reduceMod, Nat.reduceLT, Nat.reduceDiv, Nat.reduceSub, Nat.reduceLeDiff, Int.reduceToNat, Int.reduceLT, Int.reduceLE, reduceCtorEq, List.take_nil, List.drop_nil]
  refine ⟨_, eqIntS_ok none none (givF x0) (givF x0) l0r, ?_⟩; simp (config := { maxSteps := 2000000 }) only [go_sem, Nat.reduceBEq, Nat.reduceAdd, Nat.reduceMul, Nat.reduceMod, Nat.reduceLT, Nat.reduceDiv, Nat.reduceSub, Nat.reduceLeDiff, Int.reduceToNat, Int.reduceLT, Int.reduceLE, reduceCtorEq, List.take_nil, List.drop_nil]
  try (first | (refine ⟨fun h => ?_, fun _ => ?_⟩; focus (simp at h; done)) | (refine ⟨fun h => ?_, fun _ => ?_⟩; focus omega) | (refine ⟨fun h => ?_, ?_⟩; focus (exact absurd trivial h)) | (refine ⟨fun _ => ?_, fun h => ?_⟩; rotate_left; focus omega))
  try (first | (refine ⟨fun h => ?_, fun _ => ?_⟩; focus (simp at h; done)) | (refine ⟨fun h => ?_, fun _ => ?_⟩; focus omega) | (refine ⟨fun h => ?_, ?_⟩; focus (exact absurd trivial h)) | (refine ⟨fun _ => ?_, fun h => ?_⟩; rotate_left; focus omega))
  refine ⟨_, toIntSS_ok none x0 h0 k0, ?_⟩; simp (config := { maxSteps := 2000000 }) only [go_sem, Nat.reduceBEq, Nat.reduceAdd, Nat.reduceMul, Nat.reduceMod, Nat.reduceLT, Nat.reduceDiv, Nat.reduceSub, Nat.reduceLeDiff, Int.reduceToNat, Int.reduceLT, Int.reduceLE, reduceCtorEq, List.take_nil, List.drop_nil]
  refine ⟨_, eqIntSS_ok _ _ x0 x0 h0 k0, ?_⟩; simp (config := { maxSteps := 2000000 }) only [go_sem, Nat.reduceBEq, Nat.reduceAdd, Nat.reduceMul, Nat.reduceMod, Nat.reduceLT, Nat.reduceDiv, Nat.reduceSub, Nat.reduceLeDiff, Int.reduceToNat, Int.reduceLT, Int.reduceLE, reduceCtorEq, List.take_nil, List.drop_nil]
  try (first | (refine ⟨fun h => ?_, fun _ => ?_⟩; focus (simp at h; done)) | (refine ⟨fun h => ?_, fun _ => ?_⟩; focus omega) | (refine ⟨fun h => ?_, ?_⟩; focus (exact absurd trivial h)) | (refine ⟨fun _ => ?_, fun h => ?_⟩; rotate_left; focus omega))
  refine ⟨_, _, _, markIntSS_ok _ x0 _ (by omega) (by omega) h0 k0, ?_⟩; simp (config := { maxSteps := 2000000 }) only [go_sem, Nat.reduceBEq, Nat.reduceAdd, Nat.reduceMul, Nat.reduceMod, Nat.reduceLT, Nat.reduceDiv, Nat.reduceSub, Nat.reduceLeDiff, Int.reduceToNat, Int.reduceLT, Int.reduceLE, reduceCtorEq, List.take_nil, List.drop_nil]
  try (first | (refine ⟨fun h => ?_, fun _ => ?_⟩; focus (simp at h; done)) | (refine ⟨fun h => ?_, fun _ => ?_⟩; focus omega) | (refine ⟨fun h => ?_, ?_⟩; focus (exact absurd trivial h)) | (refine ⟨fun _ => ?_, fun h => ?_⟩; rotate_left; focus omega))
  refine ⟨_, eqIntS_ok none none (givF x0) (givF x0) l0r, ?_⟩; simp (config := { maxSteps := 2000000 }) only [go_sem, Nat.reduceBEq, Nat.reduceAdd, Nat.reduceMul, Nat.reduceMod, Nat.reduceLT, Nat.reduceDiv, Nat.reduceSub, Nat.reduceLeDiff, Int.reduceToNat, Int.reduceLT, Int.reduceLE, reduceCtorEq, List.take_nil, List.drop_nil]
  try (first | (refine ⟨fun h => ?_, fun _ => ?_⟩; focus (simp at h; done)) | (refine ⟨fun h => ?_, fun _ => ?_⟩; focus omega) | (refine ⟨fun h => ?_, ?_⟩; focus (exact absurd trivial h)) | (refine ⟨fun _ => ?_, fun h => ?_⟩; rotate_left; focus omega))
  try (first | (refine ⟨fun h => ?_, fun _ => ?_⟩; focus (simp at h; done)) | (refine ⟨fun h => ?_, fun _ => ?_⟩; focus omega) | (refine ⟨fun h => ?_, ?_⟩; focus (exact absurd trivial h)) | (refine ⟨fun _ => ?_, fun h => ?_⟩; rotate_left; focus omega))
  refine ⟨_, _, _, markIntS_ok _ (givF x0) _ (by omega) (by omega) l0r, ?_⟩; simp (config := { maxSteps := 2000000 }) only [go_sem, Nat.reduceBEq, Nat.reduceAdd, Nat.reduceMul, Nat.reduceMod, Nat.reduceLT, Nat.reduceDiv, Nat.reduceSub, Nat.reduceLeDiff, Int.reduceToNat, Int.reduceLT, Int.reduceLE, reduceCtorEq, List.take_nil, List.drop_nil]
  refine ⟨_, heldIntS_ok none (givF x0).length _ (by omega) (by omega) l0r, ?_⟩; simp (config := { maxSteps := 2000000 }) only [go_sem, Nat.reduceBEq, Nat.reduceAdd, Nat.reduceMul, Nat.reduceMod, Nat.reduceLT, Nat.reduceDiv, Nat.reduceSub, Nat.reduceLeDiff, Int.reduceToNat, Int.reduceLT, Int.reduceLE, reduceCtorEq, List.take_nil, List.drop_nil]
  try (first | (refine ⟨fun h => ?_, fun _ => ?_⟩; focus (simp at h; done)) | (refine ⟨fun h => ?_, fun _ => ?_⟩; focus omega) | (refine ⟨fun h => ?_, ?_⟩; focus (exact absurd trivial h)) | (refine ⟨fun _ => ?_, fun h => ?_⟩; rotate_left; focus omega))
  try (first | (refine ⟨fun h => ?_, fun _ => ?_⟩; focus (simp at h; done)) | (refine ⟨fun h => ?_, fun _ => ?_⟩; focus omega) | (refine ⟨fun h => ?_, ?_⟩; focus (exact absurd trivial h)) | (refine ⟨fun _ => ?_, fun h => ?_⟩; rotate_left; focus omega))
  refine ⟨_, toIntSS_ok none x0 h0 k0, ?_⟩; simp (config := { maxSteps := 2000000 }) only [go_sem, Nat.reduceBEq, Nat.reduceAdd, Nat.reduceMul, Nat.reduceMod, Nat.reduceLT, Nat.reduceDiv, Nat.reduceSub, Nat.reduceLeDiff, Int.reduceToNat, Int.reduceLT, Int.reduceLE, reduceCtorEq, List.take_nil, List.drop_nil]
  refine ⟨_, impl_GiveInOrder_ok x0 h0 k0, ?_⟩; simp (config := { maxSteps := 2000000 }) only [go_sem, Nat.reduceBEq, Nat.reduceAdd, Nat.reduceMul, Nat.reduceMod, Nat.reduceLT, Nat.reduceDiv, Nat.reduceSub, Nat.reduceLeDiff, Int.reduceToNat, Int.reduceLT, Int.reduceLE, reduceCtorEq, List.take_nil, List.drop_nil]
  refine ⟨_, eqIntS_ok none none (givF x0) (givF x0) l0r, ?_⟩; simp (config := { maxSteps := 2000000 }) only [go_sem, Nat.reduceBEq, Nat.reduceAdd, Nat.reduceMul, Nat.reduceMod, Nat.reduceLT, Nat.reduceDiv, Nat.reduceSub, Nat.reduceLeDiff, Int.reduceToNat, Int.reduceLT, Int.reduceLE, reduceCtorEq, List.take_nil, List.drop_nil]
  try (first | (refine ⟨fun h => ?_, fun _ => ?_⟩; focus (simp at h; done)) | (refine ⟨fun h => ?_, fun _ => ?_⟩; focus omega) | (refine ⟨fun h => ?_, ?_⟩; focus (exact absurd trivial h)) | (refine ⟨fun _ => ?_, fun h => ?_⟩; rotate_left; focus omega))
  try (first | (refine ⟨fun h => ?_, fun _ => ?_⟩; focus (simp at h; done)) | (refine ⟨fun h => ?_, fun _ => ?_⟩; focus omega) | (refine ⟨fun h => ?_, ?_⟩; focus (exact absurd trivial h)) | (refine ⟨fun _ => ?_, fun h => ?_⟩; rotate_left; focus omega))
  refine ⟨_, heldIntS_ok none (givF x0).length _ (by omega) (by omega) l0r, ?_⟩; simp (config := { maxSteps := 2000000 }) only [go_sem, Nat.reduceBEq, Nat.reduceAdd, Nat.reduceMul, Nat.reduceMod, Nat.reduceLT, Nat.reduceDiv, Nat.reduceSub, Nat.reduceLeDiff, Int.reduceToNat, Int.reduceLT, Int.reduceLE, reduceCtorEq, List.take_nil, List.drop_nil]
  first | exact ⟨fun h => by omega, fun _ h => absurd trivial h⟩ | trivial
theorem FnExactGiveInOrder_lifted (os : Os) (started : os.Started) (H : Type) (enc : TypeId × Value → H) :
    ReturnsInHanded {} Try.checked os 5 .any (Rows.fnExactGiveInOrderSpec.pre6 enc Try.prog Try.f5 Rows.fnExactGiveInOrderRow.domain false) (Rows.fnExactGiveInOrderSpec.post enc Try.prog Try.f5 false true false false) := by
  refine returnsInHanded_of_change (C := Try.checked) ownk started (by as_aux_lemma => kernel_rfl) Try.func5
    (ChangeSpec.witness6 (enc := enc) (C := Try.checked) false ⟨#[], #[.slice none 0 0], []⟩ 8 (by kernel_rfl) (by kernel_rfl) (by kernel_rfl) (by kernel_rfl)) ?_
  intro W base args ds gs before hval0 hW _ _
  have hval : ∀ (j : Nat) t v, Try.f5.params[j]? = some t → args[j]? = some v → Value.okWide Try.prog W .any base t v := hval0
  have hW' := hW
  obtain ⟨p, q, hA0, _⟩ := hW
  have hA : DataW.TrodAll enc Try.prog W 0 (fun _ => true) true Try.f5.params.toList args.toList ds p := hA0
  rw [Try.params5] at hA hval
  clear hA0 hval0
  obtain ⟨v0, d0, rfl, rfl, h0⟩ := trodAll_one hA
  obtain ⟨x0, a0, b0, f0⟩ := fz_rows Try.underlying22 Try.underlying23 Try.underlying3 (by kernel_rfl : Try.prog.cellsOf 23 = 1) (by kernel_rfl : Try.prog.cellsOf 3 = 1) (hval 0 22 v0 rfl rfl) h0
  exact law_post (P := Try.prog) pfacts.laid (fun t ht => by rw [Try.params5] at ht; revert t; simp only [List.mem_cons, List.not_mem_nil, or_false, forall_eq_or_imp, forall_eq]; exact ⟨by kernel_rfl, of_decide_eq_true (by kernel_rfl)⟩) rfl (by kernel_rfl) rfl (fun ds hds => by
    have hds : ds.length = 1 := hds
    match ds, hds with
    | [d0], _ => rfl) hW' (ts := [.s none (rr x0)]) (by simp only [FzL]; exact ⟨_, _, rfl, f0, rfl⟩) (FnExactGiveInOrder_ok x0 a0 b0)
theorem FnExactGiveInOrder_holds : Rows.FnExactGiveInOrderSaid :=
  OpenClaim.holds_of_wide (p := Try.pinned) (s := Rows.fnExactGiveInOrderSpec) (c := Rows.fnExactGiveInOrderRow) 5 Try.f5 rfl rfl rfl rfl rfl rfl rfl ⟨rfl, rfl, rfl, rfl, rfl⟩ rfl rfl rfl rfl rfl (by as_aux_lemma => kernel_rfl) Try.func5 (joined_of pfacts rfl rfl rfl (by as_aux_lemma => kernel_rfl) (by as_aux_lemma => kernel_rfl) (by as_aux_lemma => kernel_rfl) (by as_aux_lemma => kernel_rfl) (by as_aux_lemma => kernel_rfl) (by as_aux_lemma => kernel_rfl) (by as_aux_lemma => kernel_rfl) (by as_aux_lemma => kernel_rfl) (by as_aux_lemma => kernel_rfl) (by as_aux_lemma => kernel_rfl) (by as_aux_lemma => kernel_rfl) (by as_aux_lemma => kernel_rfl) (by as_aux_lemma => kernel_rfl) (by as_aux_lemma => kernel_rfl) (by as_aux_lemma => kernel_rfl) (by as_aux_lemma => kernel_rfl) (by as_aux_lemma => kernel_rfl) (by as_aux_lemma => kernel_rfl) (by as_aux_lemma => kernel_rfl) (by as_aux_lemma => kernel_rfl) (by as_aux_lemma => kernel_rfl) (by as_aux_lemma => kernel_rfl) (by as_aux_lemma => kernel_rfl))
    (of_decide_eq_true (by kernel_rfl)) (by unfold Func.isWrapper; rw [if_neg (of_decide_eq_false (by kernel_rfl))]; exact ⟨rfl, rfl⟩)
    (fun os started H enc _ => FnExactGiveInOrder_lifted os started H enc)

end Go.Proofs.Ytelblnfnfeoapaa
