/- At every input the law below returns true and leaves its arguments alone: LeastRaises of the program returns what that of the reference returns, in memory of its own. No condition. -/
import Derived.Test.YtkkhikpbnjbalaaRows
import Derived.Test.YtkkhikpbnjbalaaLraise2
import Derived.Test.YtkkhikpbnjbalaaFacts
import Derived.Test.YtkkhikpbnjbalaaMarks
namespace Go.Proofs.Ytkkhikpbnjbalaa
open Go Go.Vc
set_option maxRecDepth 100000
set_option linter.unusedSimpArgs false
set_option linter.unusedVariables false
open Go.ChangeShapes Go.WideShapes Go.RowKit
def K_laws_FnExactLeastRaises : List Nat := [0, 1, 4, 5, 6, 7, 8, 9, 10, 11, 12, 13, 14, 15, 16]
def C_laws_FnExactLeastRaises : C :=
  let ks := K_laws_FnExactLeastRaises
  (.seq
    (.rg 0 [(none, .v 4 .mv [.k (.b false)])])
    (.cl ks (.seq
      (.seq
        (.rg 0 [(none, .v 17 .mv [.s 1]), (none, .v 18 .len [.s 17]), (none, .v 19 (.bin .gtr) [.s 18, .k (.i 1048576)])])
        (.cond (.s 19)
          (.seq
            (.rg 0 [(none, .v 4 .mv [.k (.b true)])])
            .ret)
          .skip))
      (.cl ks (.seq
        (.rg 0 [(none, .v 5 .mv [.k (.i 1048576)])])
        (.cl ks (.seq
          (.rg 0 [(none, .v 20 .mv [.s 0]), (none, .v 21 .mv [.s 5]), (none, .co 22 16 [.s 20, .s 21]), (none, .tk 5 22)])
          (.cl ks (.seq
            (.seq
              (.rg 0 [(none, .v 23 .mv [.s 5]), (none, .v 24 (.bin .lss) [.s 23, .k (.i 0)])])
              (.cond (.s 24)
                (.seq
                  (.rg 0 [(none, .v 4 .mv [.k (.b true)])])
                  .ret)
                .skip))
            (.cl ks (.seq
              (.rg 0 [(none, .v 26 .mv [.s 0]), (none, .co 27 18 [.s 26]), (none, .v 28 .mv [.s 1]), (none, .co 29 24 [.s 28]), (none, .co 30 29 [.s 27, .s 29]), (none, .tk 25 30), (none, .tk 31 100025), (none, .tk 32 101025), (none, .tk 6 31), (none, .tk 7 32)])
              (.cl ks (.seq
                (.rg 0 [(none, .v 33 .mv [.s 0]), (none, .co 34 18 [.s 33]), (none, .tk 8 34)])
                (.cl ks (.seq
                  (.rg 0 [(none, .v 35 .mv [.s 1]), (none, .co 36 24 [.s 35]), (none, .tk 9 36)])
                  (.cl ks (.seq
                    (.rg 0 [(none, .v 38 .mv [.s 8]), (none, .v 39 .mv [.s 9]), (none, .co 40 30 [.s 38, .s 39]), (none, .tk 37 40), (none, .tk 41 100037), (none, .tk 42 101037), (none, .tk 10 41), (none, .tk 11 42)])
                    (.cl ks (.seq
                      (.seq
                        (.rg 0 [(none, .v 43 .mv [.s 10]), (none, .v 44 .mv [.s 6]), (none, .co 45 26 [.s 43, .s 44]), (none, .v 46 .not [.s 45]), (none, .v 47 .mv [.s 46]), (some (47, false), .v 48 .mv [.s 11]), (some (47, false), .v 49 .mv [.s 7]), (some (47, false), .v 50 .bne [.s 48, .s 49]), (none, .v 51 .pick [.s 47, .k (.b true), .s 50])])
                        (.cond (.s 51)
                          (.seq
                            (.rg 0 [(none, .v 4 .mv [.k (.b false)])])
                            .ret)
                          .skip))
                      (.cl ks (.seq
                        (.seq
                          (.rg 0 [(none, .v 52 .mv [.s 8]), (none, .v 53 .mv [.s 0]), (none, .co 54 18 [.s 53]), (none, .co 55 20 [.s 52, .s 54]), (none, .v 56 .not [.s 55])])
                          (.cond (.s 56)
                            (.seq
                              (.rg 0 [(none, .v 4 .mv [.k (.b false)])])
                              .ret)
                            .skip))
                        (.cl ks (.seq
                          (.seq
                            (.rg 0 [(none, .v 57 .mv [.s 9]), (none, .v 58 .mv [.s 1]), (none, .co 59 24 [.s 58]), (none, .co 60 26 [.s 57, .s 59]), (none, .v 61 .not [.s 60])])
                            (.cond (.s 61)
                              (.seq
                                (.rg 0 [(none, .v 4 .mv [.k (.b false)])])
                                .ret)
                              .skip))
                          (.cl ks (.seq
                            (.rg 0 [(none, .v 12 .mv [.k (.i 1)])])
                            (.cl ks (.seq
                              (.rg 0 [(none, .v 62 .mv [.s 8]), (none, .v 63 .mv [.s 12]), (none, .cox (some 64) 31 [.s 62, .s 63] 0), (none, .tk 12 64)])
                              (.cl ks (.seq
                                (.rg 0 [(none, .v 65 .mv [.s 9]), (none, .v 66 .mv [.s 12]), (none, .cox (some 67) 32 [.s 65, .s 66] 0), (none, .tk 12 67)])
                                (.cl ks (.seq
                                  (.seq
                                    (.rg 0 [(none, .v 68 .mv [.s 12]), (none, .v 69 (.bin .lss) [.s 68, .k (.i 0)]), (none, .v 70 .mv [.s 69]), (some (70, false), .v 71 .mv [.s 10]), (some (70, false), .v 72 .mv [.s 6]), (some (70, false), .co 73 26 [.s 71, .s 72]), (some (70, false), .v 74 .not [.s 73]), (none, .v 75 .pick [.s 70, .k (.b true), .s 74]), (none, .v 76 .mv [.s 75]), (some (76, false), .v 77 .mv [.s 11]), (some (76, false), .v 78 .mv [.s 7]), (some (76, false), .v 79 .bne [.s 77, .s 78]), (none, .v 80 .pick [.s 76, .k (.b true), .s 79])])
                                    (.cond (.s 80)
                                      (.seq
                                        (.rg 0 [(none, .v 4 .mv [.k (.b false)])])
                                        .ret)
                                      .skip))
                                  (.cl ks (.seq
                                    (.rg 0 [(none, .v 13 .mv [.k (.i 1)])])
                                    (.cl ks (.seq
                                      (.rg 0 [(none, .v 81 .mv [.s 10]), (none, .v 82 .mv [.s 13]), (none, .cox (some 83) 32 [.s 81, .s 82] 0), (none, .tk 13 83)])
                                      (.cl ks (.seq
                                        (.rg 0 [(none, .v 14 .mv [.k (.i 1)])])
                                        (.cl ks (.seq
                                          (.rg 0 [(none, .v 84 .mv [.s 10]), (none, .v 85 .mv [.s 14]), (none, .co 86 33 [.s 84, .s 85]), (none, .tk 14 86)])
                                          (.cl ks (.seq
                                            (.seq
                                              (.rg 0 [(none, .v 87 .mv [.s 14]), (none, .v 88 (.bin .lss) [.s 87, .k (.i 0)])])
                                              (.cond (.s 88)
                                                (.seq
                                                  (.rg 0 [(none, .v 4 .mv [.k (.b false)])])
                                                  .ret)
                                                .skip))
                                            (.cl ks (.seq
                                              (.seq
                                                (.rg 0 [(none, .v 89 .mv [.s 14]), (none, .v 90 .mv [.s 13]), (none, .v 91 (.bin .neq) [.s 89, .s 90])])
                                                (.cond (.s 91)
                                                  (.seq
                                                    (.rg 0 [(none, .v 4 .mv [.k (.b false)])])
                                                    .ret)
                                                  .skip))
                                              (.cl ks (.seq
                                                (.rg 0 [(none, .v 93 .mv [.s 0]), (none, .co 94 18 [.s 93]), (none, .v 95 .mv [.s 1]), (none, .co 96 24 [.s 95]), (none, .co 97 30 [.s 94, .s 96]), (none, .tk 92 97), (none, .tk 98 100092), (none, .tk 99 101092), (none, .tk 15 98), (none, .tk 16 99)])
                                                (.cl ks (.seq
                                                  (.seq
                                                    (.rg 0 [(none, .v 100 .mv [.s 15]), (none, .v 101 .mv [.s 6]), (none, .co 102 26 [.s 100, .s 101]), (none, .v 103 .not [.s 102]), (none, .v 104 .mv [.s 103]), (some (104, false), .v 105 .mv [.s 16]), (some (104, false), .v 106 .mv [.s 7]), (some (104, false), .v 107 .bne [.s 105, .s 106]), (none, .v 108 .pick [.s 104, .k (.b true), .s 107])])
                                                    (.cond (.s 108)
                                                      (.seq
                                                        (.rg 0 [(none, .v 4 .mv [.k (.b false)])])
                                                        .ret)
                                                      .skip))
                                                  (.cl ks (.seq
                                                    (.rg 0 [(none, .v 14 .mv [.k (.i 1)])])
                                                    (.cl ks (.seq
                                                      (.rg 0 [(none, .v 109 .mv [.s 10]), (none, .v 110 .mv [.s 14]), (none, .co 111 33 [.s 109, .s 110]), (none, .tk 14 111)])
                                                      (.cl ks (.seq
                                                        (.seq
                                                          (.rg 0 [(none, .v 112 .mv [.s 14]), (none, .v 113 (.bin .lss) [.s 112, .k (.i 0)])])
                                                          (.cond (.s 113)
                                                            (.seq
                                                              (.rg 0 [(none, .v 4 .mv [.k (.b false)])])
                                                              .ret)
                                                            .skip))
                                                        (.cl ks (.seq
                                                          (.seq
                                                            (.rg 0 [(none, .v 114 .mv [.s 14]), (none, .v 115 .mv [.s 13]), (none, .v 116 (.bin .neq) [.s 114, .s 115])])
                                                            (.cond (.s 116)
                                                              (.seq
                                                                (.rg 0 [(none, .v 4 .mv [.k (.b false)])])
                                                                .ret)
                                                              .skip))
                                                          (.cl ks (.seq
                                                            (.rg 0 [(none, .v 4 .mv [.k (.b true)])])
                                                            .ret)))))))))))))))))))))))))))))))))))))))))))))))))))))))))

theorem chk_laws_FnExactLeastRaises : ∃ b, Try.f7.body = some b ∧ chk Try.prog Try.f7.ntmps true C_laws_FnExactLeastRaises b = true := ⟨_, rfl, by kernel_rfl⟩
theorem FnExactLeastRaises_ok (x0 : List (List Int)) (a0 : x0.length ≤ 9223372036854775807) (b0 : ∀ r ∈ x0, r.length ≤ 9223372036854775807) (x1 : List Int) (a1 : x1.length ≤ 9223372036854775807) :
    CallOk Try.prog 7 [.s none (rr x0), .s none (ii x1)] [(0, .b true)] := by
  obtain ⟨code0, hcd1, hcd2⟩ := chk_laws_FnExactLeastRaises; refine callOk_of Try.func7 hcd1 mo Try.call7 (rs := [4]) (by kernel_rfl) hcd2 (by rw [Try.ntmps7]; simp) (by simp) (by decide) ?_; unfold C_laws_FnExactLeastRaises K_laws_FnExactLeastRaises; simp (config := { maxSteps := 2000000 }) only [go_sem, Nat.reduceBEq, Nat.reduceAdd, Nat.reduceMul, Nat.reduceMod, Nat.reduceLT, Nat.reduceDiv, Nat.reduceSub, Nat.reduceLeDiff, Int.reduceToNat, Int.reduceLT, Int.reduceLE, reduceCtorEq]
  refine ⟨fun _ => trivial, fun c1 => ?_⟩
  have h1 : x1.length ≤ 1048576 := by omega
  refine ⟨_, szIntSS_ok none x0 _ (by omega) (by omega) a0 b0, ?_⟩; simp (config := { maxSteps := 2000000 }) only [go_sem, Nat.reduceBEq, Nat.reduceAdd, Nat.reduceMul, Nat.reduceMod, Nat.reduceLT, Nat.reduceDiv, Nat.reduceSub, Nat.reduceLeDiff, Int.reduceToNat, Int.reduceLT, Int.reduceLE, reduceCtorEq]
  refine ⟨fun _ => trivial, fun c0 => ?_⟩
  obtain ⟨h0, k0⟩ := szII_ok (by omega) c0
  refine ⟨_, toIntSS_ok none x0 h0 k0, ?_⟩; simp (config := { maxSteps := 2000000 }) only [go_sem, Nat.reduceBEq, Nat.reduceAdd, Nat.reduceMul, Nat.reduceMod, Nat.reduceLT, Nat.reduceDiv, Nat.reduceSub, Nat.reduceLeDiff, Int.reduceToNat, Int.reduceLT, Int.reduceLE, reduceCtorEq]
  refine ⟨_, toIntS_ok none x1 h1, ?_⟩; simp (config := { maxSteps := 2000000 }) only [go_sem, Nat.reduceBEq, Nat.reduceAdd, Nat.reduceMul, Nat.reduceMod, Nat.reduceLT, Nat.reduceDiv, Nat.reduceSub, Nat.reduceLeDiff, Int.reduceToNat, Int.reduceLT, Int.reduceLE, reduceCtorEq]
  refine ⟨_, spec_LeastRaises_ok x0 x1 h0 k0 h1, ?_⟩; simp (config := { maxSteps := 2000000 }) only [go_sem, Nat.reduceBEq, Nat.reduceAdd, Nat.reduceMul, Nat.reduceMod, Nat.reduceLT, Nat.reduceDiv, Nat.reduceSub, Nat.reduceLeDiff, Int.reduceToNat, Int.reduceLT, Int.reduceLE, reduceCtorEq]
  refine ⟨_, toIntSS_ok none x0 h0 k0, ?_⟩; simp (config := { maxSteps := 2000000 }) only [go_sem, Nat.reduceBEq, Nat.reduceAdd, Nat.reduceMul, Nat.reduceMod, Nat.reduceLT, Nat.reduceDiv, Nat.reduceSub, Nat.reduceLeDiff, Int.reduceToNat, Int.reduceLT, Int.reduceLE, reduceCtorEq]
  refine ⟨_, toIntS_ok none x1 h1, ?_⟩; simp (config := { maxSteps := 2000000 }) only [go_sem, Nat.reduceBEq, Nat.reduceAdd, Nat.reduceMul, Nat.reduceMod, Nat.reduceLT, Nat.reduceDiv, Nat.reduceSub, Nat.reduceLeDiff, Int.reduceToNat, Int.reduceLT, Int.reduceLE, reduceCtorEq]
  refine ⟨_, impl_LeastRaises_ok x0 x1 h0 k0 h1, ?_⟩; simp (config := { maxSteps := 2000000 }) only [go_sem, Nat.reduceBEq, Nat.reduceAdd, Nat.reduceMul, Nat.reduceMod, Nat.reduceLT, Nat.reduceDiv, Nat.reduceSub, Nat.reduceLeDiff, Int.reduceToNat, Int.reduceLT, Int.reduceLE, reduceCtorEq]
  refine ⟨_, eqIntS_ok none none (lrRes x0 x1).1 (lrRes x0 x1).1 (lr_len h0), ?_⟩; simp (config := { maxSteps := 2000000 }) only [go_sem, Nat.reduceBEq, Nat.reduceAdd, Nat.reduceMul, Nat.reduceMod, Nat.reduceLT, Nat.reduceDiv, Nat.reduceSub, Nat.reduceLeDiff, Int.reduceToNat, Int.reduceLT, Int.reduceLE, reduceCtorEq]
  refine ⟨fun h => by simp at h, fun _ => ?_⟩
  refine ⟨_, toIntSS_ok none x0 h0 k0, ?_⟩; simp (config := { maxSteps := 2000000 }) only [go_sem, Nat.reduceBEq, Nat.reduceAdd, Nat.reduceMul, Nat.reduceMod, Nat.reduceLT, Nat.reduceDiv, Nat.reduceSub, Nat.reduceLeDiff, Int.reduceToNat, Int.reduceLT, Int.reduceLE, reduceCtorEq]
  refine ⟨_, eqIntSS_ok _ _ x0 x0 h0 k0, ?_⟩; simp (config := { maxSteps := 2000000 }) only [go_sem, Nat.reduceBEq, Nat.reduceAdd, Nat.reduceMul, Nat.reduceMod, Nat.reduceLT, Nat.reduceDiv, Nat.reduceSub, Nat.reduceLeDiff, Int.reduceToNat, Int.reduceLT, Int.reduceLE, reduceCtorEq]
  refine ⟨_, toIntS_ok none x1 h1, ?_⟩; simp (config := { maxSteps := 2000000 }) only [go_sem, Nat.reduceBEq, Nat.reduceAdd, Nat.reduceMul, Nat.reduceMod, Nat.reduceLT, Nat.reduceDiv, Nat.reduceSub, Nat.reduceLeDiff, Int.reduceToNat, Int.reduceLT, Int.reduceLE, reduceCtorEq]
  refine ⟨_, eqIntS_ok _ _ x1 x1 h1, ?_⟩; simp (config := { maxSteps := 2000000 }) only [go_sem, Nat.reduceBEq, Nat.reduceAdd, Nat.reduceMul, Nat.reduceMod, Nat.reduceLT, Nat.reduceDiv, Nat.reduceSub, Nat.reduceLeDiff, Int.reduceToNat, Int.reduceLT, Int.reduceLE, reduceCtorEq]
  have t0 : (tot x0 : Int) ≤ 1048576 := szII_tot c0
  refine ⟨_, _, _, markIntSS_ok _ x0 1 (by omega) (by omega) h0 k0, ?_⟩; simp (config := { maxSteps := 2000000 }) only [go_sem, Nat.reduceBEq, Nat.reduceAdd, Nat.reduceMul, Nat.reduceMod, Nat.reduceLT, Nat.reduceDiv, Nat.reduceSub, Nat.reduceLeDiff, Int.reduceToNat, Int.reduceLT, Int.reduceLE, reduceCtorEq]
  refine ⟨_, _, _, markIntS_ok _ x1 _ (by omega) (by omega) h1, ?_⟩; simp (config := { maxSteps := 2000000 }) only [go_sem, Nat.reduceBEq, Nat.reduceAdd, Nat.reduceMul, Nat.reduceMod, Nat.reduceLT, Nat.reduceDiv, Nat.reduceSub, Nat.reduceLeDiff, Int.reduceToNat, Int.reduceLT, Int.reduceLE, reduceCtorEq]
  refine ⟨fun _ => ?_, fun h => by omega⟩
  refine ⟨_, eqIntS_ok none none (lrRes x0 x1).1 (lrRes x0 x1).1 (lr_len h0), ?_⟩; simp (config := { maxSteps := 2000000 }) only [go_sem, Nat.reduceBEq, Nat.reduceAdd, Nat.reduceMul, Nat.reduceMod, Nat.reduceLT, Nat.reduceDiv, Nat.reduceSub, Nat.reduceLeDiff, Int.reduceToNat, Int.reduceLT, Int.reduceLE, reduceCtorEq]
  refine ⟨fun h => by simp at h, fun _ => ?_⟩
  have l0 : (lrRes x0 x1).1.length ≤ 1048576 := lr_len h0
  refine ⟨_, _, _, markIntS_ok _ (lrRes x0 x1).1 1 (by omega) (by omega) l0, ?_⟩; simp (config := { maxSteps := 2000000 }) only [go_sem, Nat.reduceBEq, Nat.reduceAdd, Nat.reduceMul, Nat.reduceMod, Nat.reduceLT, Nat.reduceDiv, Nat.reduceSub, Nat.reduceLeDiff, Int.reduceToNat, Int.reduceLT, Int.reduceLE, reduceCtorEq]
  refine ⟨_, heldIntS_ok none (lrRes x0 x1).1.length 1 (by omega) (by omega) l0, ?_⟩; simp (config := { maxSteps := 2000000 }) only [go_sem, Nat.reduceBEq, Nat.reduceAdd, Nat.reduceMul, Nat.reduceMod, Nat.reduceLT, Nat.reduceDiv, Nat.reduceSub, Nat.reduceLeDiff, Int.reduceToNat, Int.reduceLT, Int.reduceLE, reduceCtorEq]
  refine ⟨fun h => by omega, fun _ => ?_⟩
  refine ⟨fun h => absurd trivial h, ?_⟩
  refine ⟨_, toIntSS_ok none x0 h0 k0, ?_⟩; simp (config := { maxSteps := 2000000 }) only [go_sem, Nat.reduceBEq, Nat.reduceAdd, Nat.reduceMul, Nat.reduceMod, Nat.reduceLT, Nat.reduceDiv, Nat.reduceSub, Nat.reduceLeDiff, Int.reduceToNat, Int.reduceLT, Int.reduceLE, reduceCtorEq]
  refine ⟨_, toIntS_ok none x1 h1, ?_⟩; simp (config := { maxSteps := 2000000 }) only [go_sem, Nat.reduceBEq, Nat.reduceAdd, Nat.reduceMul, Nat.reduceMod, Nat.reduceLT, Nat.reduceDiv, Nat.reduceSub, Nat.reduceLeDiff, Int.reduceToNat, Int.reduceLT, Int.reduceLE, reduceCtorEq]
  refine ⟨_, impl_LeastRaises_ok x0 x1 h0 k0 h1, ?_⟩; simp (config := { maxSteps := 2000000 }) only [go_sem, Nat.reduceBEq, Nat.reduceAdd, Nat.reduceMul, Nat.reduceMod, Nat.reduceLT, Nat.reduceDiv, Nat.reduceSub, Nat.reduceLeDiff, Int.reduceToNat, Int.reduceLT, Int.reduceLE, reduceCtorEq]
  refine ⟨_, eqIntS_ok none none (lrRes x0 x1).1 (lrRes x0 x1).1 (lr_len h0), ?_⟩; simp (config := { maxSteps := 2000000 }) only [go_sem, Nat.reduceBEq, Nat.reduceAdd, Nat.reduceMul, Nat.reduceMod, Nat.reduceLT, Nat.reduceDiv, Nat.reduceSub, Nat.reduceLeDiff, Int.reduceToNat, Int.reduceLT, Int.reduceLE, reduceCtorEq]
  refine ⟨fun h => by simp at h, fun _ => ?_⟩
  refine ⟨_, heldIntS_ok none (lrRes x0 x1).1.length 1 (by omega) (by omega) l0, ?_⟩; simp (config := { maxSteps := 2000000 }) only [go_sem, Nat.reduceBEq, Nat.reduceAdd, Nat.reduceMul, Nat.reduceMod, Nat.reduceLT, Nat.reduceDiv, Nat.reduceSub, Nat.reduceLeDiff, Int.reduceToNat, Int.reduceLT, Int.reduceLE, reduceCtorEq]
  exact ⟨fun h => by omega, fun _ h => absurd trivial h⟩
theorem FnExactLeastRaises_lifted (os : Os) (started : os.Started) (H : Type) (enc : TypeId × Value → H) :
    ReturnsInHanded {} Try.checked os 7 .any (Rows.fnExactLeastRaisesSpec.pre6 enc Try.prog Try.f7 Rows.fnExactLeastRaisesRow.domain false) (Rows.fnExactLeastRaisesSpec.post enc Try.prog Try.f7 false true false false) := by
  refine returnsInHanded_of_change (C := Try.checked) ownk started (by as_aux_lemma => kernel_rfl) Try.func7
    (ChangeSpec.witness6 (enc := enc) (C := Try.checked) false ⟨#[], #[.slice none 0 0, .slice none 0 0], []⟩ 8 (by kernel_rfl) (by kernel_rfl) (by kernel_rfl) (by kernel_rfl)) ?_
  intro W base args ds gs before hval0 hW _ _
  have hval : ∀ (j : Nat) t v, Try.f7.params[j]? = some t → args[j]? = some v → Value.okWide Try.prog W .any base t v := hval0
  have hW' := hW
  obtain ⟨p, q, hA0, _⟩ := hW
  have hA : DataW.TrodAll enc Try.prog W 0 (fun _ => true) true Try.f7.params.toList args.toList ds p := hA0
  rw [Try.params7] at hA hval
  clear hA0 hval0
  obtain ⟨v0, v1, d0, d1, p0, p1, rfl, rfl, rfl, h0, h1⟩ := trodAll_two hA
  obtain ⟨x0, a0, b0, f0⟩ := fz_rows Try.underlying22 Try.underlying27 Try.underlying3 (by kernel_rfl : Try.prog.cellsOf 27 = 1) (by kernel_rfl : Try.prog.cellsOf 3 = 1) (hval 0 22 v0 rfl rfl) h0
  obtain ⟨x1, a1, f1⟩ := fz_ints Try.underlying27 Try.underlying3 (by kernel_rfl : Try.prog.cellsOf 3 = 1) (hval 1 27 v1 rfl rfl) h1
  exact law_post (P := Try.prog) pfacts.laid (fun t ht => by rw [Try.params7] at ht; revert t; simp only [List.mem_cons, List.not_mem_nil, or_false, forall_eq_or_imp, forall_eq]; exact ⟨⟨by kernel_rfl, of_decide_eq_true (by kernel_rfl)⟩, ⟨by kernel_rfl, of_decide_eq_true (by kernel_rfl)⟩⟩) rfl (by kernel_rfl) rfl (fun ds hds => by
    have hds : ds.length = 2 := hds
    match ds, hds with
    | [d0, d1], _ => rfl) hW' (ts := [.s none (rr x0), .s none (ii x1)]) (by simp only [FzL]; exact ⟨_, _, rfl, f0, ⟨_, _, rfl, f1, rfl⟩⟩) (FnExactLeastRaises_ok x0 a0 b0 x1 a1)
theorem FnExactLeastRaises_holds : Rows.FnExactLeastRaisesSaid :=
  OpenClaim.holds_of_wide (p := Try.pinned) (s := Rows.fnExactLeastRaisesSpec) (c := Rows.fnExactLeastRaisesRow) 7 Try.f7 rfl rfl rfl rfl rfl rfl rfl ⟨rfl, rfl, rfl, rfl, rfl⟩ rfl rfl rfl rfl rfl (by as_aux_lemma => kernel_rfl) Try.func7 (joined_of pfacts rfl rfl rfl (by as_aux_lemma => kernel_rfl) (by as_aux_lemma => kernel_rfl) (by as_aux_lemma => kernel_rfl) (by as_aux_lemma => kernel_rfl) (by as_aux_lemma => kernel_rfl) (by as_aux_lemma => kernel_rfl) (by as_aux_lemma => kernel_rfl) (by as_aux_lemma => kernel_rfl) (by as_aux_lemma => kernel_rfl) (by as_aux_lemma => kernel_rfl) (by as_aux_lemma => kernel_rfl) (by as_aux_lemma => kernel_rfl) (by as_aux_lemma => kernel_rfl) (by as_aux_lemma => kernel_rfl) (by as_aux_lemma => kernel_rfl) (by as_aux_lemma => kernel_rfl) (by as_aux_lemma => kernel_rfl) (by as_aux_lemma => kernel_rfl) (by as_aux_lemma => kernel_rfl) (by as_aux_lemma => kernel_rfl) (by as_aux_lemma => kernel_rfl) (by as_aux_lemma => kernel_rfl) (by as_aux_lemma => kernel_rfl))
    (of_decide_eq_true (by kernel_rfl)) (by unfold Func.isWrapper; rw [if_neg (of_decide_eq_false (by kernel_rfl))]; exact ⟨rfl, rfl⟩)
    (fun os started H enc _ => FnExactLeastRaises_lifted os started H enc)

end Go.Proofs.Ytkkhikpbnjbalaa
