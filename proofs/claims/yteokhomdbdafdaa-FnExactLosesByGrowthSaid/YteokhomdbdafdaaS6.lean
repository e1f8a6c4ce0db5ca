/- At every input the law below returns true and leaves its arguments alone: LosesByGrowth of the program returns what that of the reference returns. No condition. -/
import Derived.Test.YteokhomdbdafdaaRows
import Derived.Test.YteokhomdbdafdaaGrowth
import Derived.Test.YteokhomdbdafdaaFacts
import Derived.Test.YteokhomdbdafdaaLaws
namespace Go.Proofs.Yteokhomdbdafdaa
open Go Go.Vc
set_option maxRecDepth 100000
set_option linter.unusedSimpArgs false
set_option linter.unusedVariables false
open Go.ChangeShapes Go.WideShapes Go.RowKit
def K_laws_FnExactLosesByGrowth : List Nat := [0, 1, 2, 3, 8, 9, 10, 11, 12, 13, 14]
def C_laws_FnExactLosesByGrowth : C :=
  let ks := K_laws_FnExactLosesByGrowth
  (.seq
    (.rg 0 [(none, .v 8 .mv [.k (.b false)])])
    (.cl ks (.seq
      (.seq
        (.rg 0 [(none, .v 15 .mv [.s 1]), (none, .v 16 .len [.s 15]), (none, .v 17 (.bin .gtr) [.s 16, .k (.i 1048576)])])
        (.cond (.s 17)
          (.seq
            (.rg 0 [(none, .v 8 .mv [.k (.b true)])])
            .ret)
          .skip))
      (.cl ks (.seq
        (.seq
          (.rg 0 [(none, .v 18 .mv [.s 2]), (none, .v 19 .len [.s 18]), (none, .v 20 (.bin .gtr) [.s 19, .k (.i 1048576)])])
          (.cond (.s 20)
            (.seq
              (.rg 0 [(none, .v 8 .mv [.k (.b true)])])
              .ret)
            .skip))
        (.cl ks (.seq
          (.rg 0 [(none, .v 22 .mv [.s 0]), (none, .v 23 .mv [.s 1]), (none, .co 24 39 [.s 23]), (none, .v 25 .mv [.s 2]), (none, .co 26 39 [.s 25]), (none, .v 27 .mv [.s 3]), (none, .co 28 44 [.s 22, .s 24, .s 26, .s 27]), (none, .tk 21 28), (none, .tk 29 100021), (none, .tk 30 101021), (none, .tk 9 29), (none, .tk 10 30)])
          (.cl ks (.seq
            (.rg 0 [(none, .v 31 .mv [.s 1]), (none, .co 32 39 [.s 31]), (none, .tk 11 32)])
            (.cl ks (.seq
              (.rg 0 [(none, .v 33 .mv [.s 2]), (none, .co 34 39 [.s 33]), (none, .tk 12 34)])
              (.cl ks (.seq
                (.rg 0 [(none, .v 36 .mv [.s 0]), (none, .v 37 .mv [.s 11]), (none, .v 38 .mv [.s 12]), (none, .v 39 .mv [.s 3]), (none, .co 40 15 [.s 36, .s 37, .s 38, .s 39]), (none, .tk 35 40), (none, .tk 41 100035), (none, .tk 42 101035), (none, .tk 13 41), (none, .tk 14 42)])
                (.cl ks (.seq
                  (.seq
                    (.rg 0 [(none, .v 43 .mv [.s 13]), (none, .v 44 .mv [.s 9]), (none, .v 45 (.bin .neq) [.s 43, .s 44]), (none, .v 46 .mv [.s 45]), (some (46, false), .v 47 .mv [.s 14]), (some (46, false), .v 48 .mv [.s 10]), (some (46, false), .v 49 (.bin .neq) [.s 47, .s 48]), (none, .v 50 .pick [.s 46, .k (.b true), .s 49])])
                    (.cond (.s 50)
                      (.seq
                        (.rg 0 [(none, .v 8 .mv [.k (.b false)])])
                        .ret)
                      .skip))
                  (.cl ks (.seq
                    (.seq
                      (.rg 0 [(none, .v 51 .mv [.s 11]), (none, .v 52 .mv [.s 1]), (none, .co 53 39 [.s 52]), (none, .co 54 40 [.s 51, .s 53]), (none, .v 55 .not [.s 54])])
                      (.cond (.s 55)
                        (.seq
                          (.rg 0 [(none, .v 8 .mv [.k (.b false)])])
                          .ret)
                        .skip))
                    (.cl ks (.seq
                      (.seq
                        (.rg 0 [(none, .v 56 .mv [.s 12]), (none, .v 57 .mv [.s 2]), (none, .co 58 39 [.s 57]), (none, .co 59 40 [.s 56, .s 58]), (none, .v 60 .not [.s 59])])
                        (.cond (.s 60)
                          (.seq
                            (.rg 0 [(none, .v 8 .mv [.k (.b false)])])
                            .ret)
                          .skip))
                      (.cl ks (.seq
                        (.rg 0 [(none, .v 8 .mv [.k (.b true)])])
                        .ret)))))))))))))))))))))

theorem chk_laws_FnExactLosesByGrowth : ∃ b, Try.f7.body = some b ∧ chk Try.prog Try.f7.ntmps true C_laws_FnExactLosesByGrowth b = true := ⟨_, rfl, by kernel_rfl⟩
theorem FnExactLosesByGrowth_ok (x0 : Int) (a0 : inR x0) (x1 : List Int) (a1 : x1.length ≤ 9223372036854775807) (x2 : List Int) (a2 : x2.length ≤ 9223372036854775807) (x3 : Int) (a3 : inR x3) :
    CallOk Try.prog 7 [.i x0, .s none (ii x1), .s none (ii x2), .i x3] [(0, .b true)] := by
  obtain ⟨code0, hcd1, hcd2⟩ := chk_laws_FnExactLosesByGrowth; refine callOk_of Try.func7 hcd1 mo Try.call7 (rs := [8]) (by kernel_rfl) hcd2 (by rw [Try.ntmps7]; simp) (by simp) (by decide) ?_; unfold C_laws_FnExactLosesByGrowth K_laws_FnExactLosesByGrowth; simp (config := { maxSteps := 2000000 }) only [go_sem, Nat.reduceBEq, Nat.reduceAdd, Nat.reduceMul, Nat.reduceMod, Nat.reduceLT, Nat.reduceDiv, Nat.reduceSub, Nat.reduceLeDiff, Int.reduceToNat, Int.reduceLT, Int.reduceLE, reduceCtorEq, List.take_nil, List.drop_nil]
  refine ⟨fun _ => trivial, fun c1 => ?_⟩
  have h1 : x1.length ≤ 1048576 := by omega
  refine ⟨fun _ => trivial, fun c2 => ?_⟩
  have h2 : x2.length ≤ 1048576 := by omega
  refine ⟨_, toIntS_ok none x1 h1, ?_⟩; simp (config := { maxSteps := 2000000 }) only [go_sem, Nat.reduceBEq, Nat.reduceAdd, Nat.reduceMul, Nat.reduceMod, Nat.reduceLT, Nat.reduceDiv, Nat.reduceSub, Nat.reduceLeDiff, Int.reduceToNat, Int.reduceLT, Int.reduceLE, reduceCtorEq, List.take_nil, List.drop_nil]
  refine ⟨_, toIntS_ok none x2 h2, ?_⟩; simp (config := { maxSteps := 2000000 }) only [go_sem, Nat.reduceBEq, Nat.reduceAdd, Nat.reduceMul, Nat.reduceMod, Nat.reduceLT, Nat.reduceDiv, Nat.reduceSub, Nat.reduceLeDiff, Int.reduceToNat, Int.reduceLT, Int.reduceLE, reduceCtorEq, List.take_nil, List.drop_nil]
  refine ⟨_, spec_LosesByGrowth_ok x0 x1 x2 x3 h1 h2, ?_⟩; simp (config := { maxSteps := 2000000 }) only [go_sem, Nat.reduceBEq, Nat.reduceAdd, Nat.reduceMul, Nat.reduceMod, Nat.reduceLT, Nat.reduceDiv, Nat.reduceSub, Nat.reduceLeDiff, Int.reduceToNat, Int.reduceLT, Int.reduceLE, reduceCtorEq, List.take_nil, List.drop_nil]
  refine ⟨_, toIntS_ok none x1 h1, ?_⟩; simp (config := { maxSteps := 2000000 }) only [go_sem, Nat.reduceBEq, Nat.reduceAdd, Nat.reduceMul, Nat.reduceMod, Nat.reduceLT, Nat.reduceDiv, Nat.reduceSub, Nat.reduceLeDiff, Int.reduceToNat, Int.reduceLT, Int.reduceLE, reduceCtorEq, List.take_nil, List.drop_nil]
  refine ⟨_, toIntS_ok none x2 h2, ?_⟩; simp (config := { maxSteps := 2000000 }) only [go_sem, Nat.reduceBEq, Nat.reduceAdd, Nat.reduceMul, Nat.reduceMod, Nat.reduceLT, Nat.reduceDiv, Nat.reduceSub, Nat.reduceLeDiff, Int.reduceToNat, Int.reduceLT, Int.reduceLE, reduceCtorEq, List.take_nil, List.drop_nil]
  refine ⟨_, impl_LosesByGrowth_ok x0 x1 x2 x3 h1 h2, ?_⟩; simp (config := { maxSteps := 2000000 }) only [go_sem, Nat.reduceBEq, Nat.reduceAdd, Nat.reduceMul, Nat.reduceMod, Nat.reduceLT, Nat.reduceDiv, Nat.reduceSub, Nat.reduceLeDiff, Int.reduceToNat, Int.reduceLT, Int.reduceLE, reduceCtorEq, List.take_nil, List.drop_nil]
  first | refine ⟨⟨fun h => absurd trivial h, ?_⟩, fun h => absurd trivial h⟩ | refine ⟨fun h => by simp at h, ?_⟩
  try intro _
  refine ⟨_, toIntS_ok none x1 h1, ?_⟩; simp (config := { maxSteps := 2000000 }) only [go_sem, Nat.reduceBEq, Nat.reduceAdd, Nat.reduceMul, Nat.reduceMod, Nat.reduceLT, Nat.reduceDiv, Nat.reduceSub, Nat.reduceLeDiff, Int.reduceToNat, Int.reduceLT, Int.reduceLE, reduceCtorEq, List.take_nil, List.drop_nil]
  refine ⟨_, eqIntS_ok _ _ x1 x1 h1, ?_⟩; simp (config := { maxSteps := 2000000 }) only [go_sem, Nat.reduceBEq, Nat.reduceAdd, Nat.reduceMul, Nat.reduceMod, Nat.reduceLT, Nat.reduceDiv, Nat.reduceSub, Nat.reduceLeDiff, Int.reduceToNat, Int.reduceLT, Int.reduceLE, reduceCtorEq, List.take_nil, List.drop_nil]
  refine ⟨_, toIntS_ok none x2 h2, ?_⟩; simp (config := { maxSteps := 2000000 }) only [go_sem, Nat.reduceBEq, Nat.reduceAdd, Nat.reduceMul, Nat.reduceMod, Nat.reduceLT, Nat.reduceDiv, Nat.reduceSub, Nat.reduceLeDiff, Int.reduceToNat, Int.reduceLT, Int.reduceLE, reduceCtorEq, List.take_nil, List.drop_nil]
  refine ⟨_, eqIntS_ok _ _ x2 x2 h2, ?_⟩; simp (config := { maxSteps := 2000000 }) only [go_sem, Nat.reduceBEq, Nat.reduceAdd, Nat.reduceMul, Nat.reduceMod, Nat.reduceLT, Nat.reduceDiv, Nat.reduceSub, Nat.reduceLeDiff, Int.reduceToNat, Int.reduceLT, Int.reduceLE, reduceCtorEq, List.take_nil, List.drop_nil]
theorem FnExactLosesByGrowth_lifted (os : Os) (started : os.Started) (H : Type) (enc : TypeId × Value → H) :
    ReturnsInHanded {} Try.checked os 7 .any (Rows.fnExactLosesByGrowthSpec.pre6 enc Try.prog Try.f7 Rows.fnExactLosesByGrowthRow.domain false) (Rows.fnExactLosesByGrowthSpec.post enc Try.prog Try.f7 false true false false) := by
  refine returnsInHanded_of_change (C := Try.checked) ownk started (by as_aux_lemma => kernel_rfl) Try.func7
    (ChangeSpec.witness6 (enc := enc) (C := Try.checked) false ⟨#[], #[.int .i64 0, .slice none 0 0, .slice none 0 0, .int .i64 0], []⟩ 8 (by kernel_rfl) (by kernel_rfl) (by kernel_rfl) (by kernel_rfl)) ?_
  intro W base args ds gs before hval0 hW _ _
  have hval : ∀ (j : Nat) t v, Try.f7.params[j]? = some t → args[j]? = some v → Value.okWide Try.prog W .any base t v := hval0
  have hW' := hW
  obtain ⟨p, q, hA0, _⟩ := hW
  have hA : DataW.TrodAll enc Try.prog W 0 (fun _ => true) true Try.f7.params.toList args.toList ds p := hA0
  rw [Try.params7] at hA hval
  clear hA0 hval0
  obtain ⟨v0, v1, v2, v3, d0, d1, d2, d3, p0, p1, p2, p3, rfl, rfl, rfl, h0, h1, h2, h3⟩ := trodAll_four hA
  obtain ⟨x0, a0, f0⟩ := fz_int Try.underlying3 (hval 0 3 v0 rfl rfl) h0
  obtain ⟨x1, a1, f1⟩ := fz_ints Try.underlying23 Try.underlying3 (by kernel_rfl : Try.prog.cellsOf 3 = 1) (hval 1 23 v1 rfl rfl) h1
  obtain ⟨x2, a2, f2⟩ := fz_ints Try.underlying23 Try.underlying3 (by kernel_rfl : Try.prog.cellsOf 3 = 1) (hval 2 23 v2 rfl rfl) h2
  obtain ⟨x3, a3, f3⟩ := fz_int Try.underlying3 (hval 3 3 v3 rfl rfl) h3
  exact law_post (P := Try.prog) pfacts.laid (fun t ht => by rw [Try.params7] at ht; revert t; simp only [List.mem_cons, List.not_mem_nil, or_false, forall_eq_or_imp, forall_eq]; exact ⟨⟨by kernel_rfl, of_decide_eq_true (by kernel_rfl)⟩, ⟨by kernel_rfl, of_decide_eq_true (by kernel_rfl)⟩, ⟨by kernel_rfl, of_decide_eq_true (by kernel_rfl)⟩, ⟨by kernel_rfl, of_decide_eq_true (by kernel_rfl)⟩⟩) rfl (by kernel_rfl) rfl (fun ds hds => by
    have hds : ds.length = 4 := hds
    match ds, hds with
    | [d0, d1, d2, d3], _ => rfl) hW' (ts := [.i x0, .s none (ii x1), .s none (ii x2), .i x3]) (by simp only [FzL]; exact ⟨_, _, rfl, f0, ⟨_, _, rfl, f1, ⟨_, _, rfl, f2, ⟨_, _, rfl, f3, rfl⟩⟩⟩⟩) (FnExactLosesByGrowth_ok x0 a0 x1 a1 x2 a2 x3 a3)
theorem FnExactLosesByGrowth_holds : Rows.FnExactLosesByGrowthSaid :=
  OpenClaim.holds_of_wide (p := Try.pinned) (s := Rows.fnExactLosesByGrowthSpec) (c := Rows.fnExactLosesByGrowthRow) 7 Try.f7 rfl rfl rfl rfl rfl rfl rfl ⟨rfl, rfl, rfl, rfl, rfl⟩ rfl rfl rfl rfl rfl (by as_aux_lemma => kernel_rfl) Try.func7 (joined_of pfacts rfl rfl rfl (by as_aux_lemma => kernel_rfl) (by as_aux_lemma => kernel_rfl) (by as_aux_lemma => kernel_rfl) (by as_aux_lemma => kernel_rfl) (by as_aux_lemma => kernel_rfl) (by as_aux_lemma => kernel_rfl) (by as_aux_lemma => kernel_rfl) (by as_aux_lemma => kernel_rfl) (by as_aux_lemma => kernel_rfl) (by as_aux_lemma => kernel_rfl) (by as_aux_lemma => kernel_rfl) (by as_aux_lemma => kernel_rfl) (by as_aux_lemma => kernel_rfl) (by as_aux_lemma => kernel_rfl) (by as_aux_lemma => kernel_rfl) (by as_aux_lemma => kernel_rfl) (by as_aux_lemma => kernel_rfl) (by as_aux_lemma => kernel_rfl) (by as_aux_lemma => kernel_rfl) (by as_aux_lemma => kernel_rfl) (by as_aux_lemma => kernel_rfl) (by as_aux_lemma => kernel_rfl) (by as_aux_lemma => kernel_rfl))
    (of_decide_eq_true (by kernel_rfl)) (by unfold Func.isWrapper; rw [if_neg (of_decide_eq_false (by kernel_rfl))]; exact ⟨rfl, rfl⟩)
    (fun os started H enc _ => FnExactLosesByGrowth_lifted os started H enc)

end Go.Proofs.Yteokhomdbdafdaa
