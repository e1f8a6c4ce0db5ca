/- At every input the law below returns true and leaves its arguments alone: FirstLoss of the program returns what that of the reference returns. No condition. -/
import Derived.Test.YteokhomdbdafdaaRows
import Derived.Test.YteokhomdbdafdaaShifts
import Derived.Test.YteokhomdbdafdaaFacts
import Derived.Test.YteokhomdbdafdaaLaws
namespace Go.Proofs.Yteokhomdbdafdaa
open Go Go.Vc
set_option maxRecDepth 100000
set_option linter.unusedSimpArgs false
set_option linter.unusedVariables false
open Go.ChangeShapes Go.WideShapes Go.RowKit
def K_laws_FnExactFirstLoss : List Nat := [0, 1, 2, 6, 7, 8, 9]
def C_laws_FnExactFirstLoss : C :=
  let ks := K_laws_FnExactFirstLoss
  (.seq
    (.rg 0 [(none, .v 6 .mv [.k (.b false)])])
    (.cl ks (.seq
      (.seq
        (.rg 0 [(none, .v 10 .mv [.s 1]), (none, .v 11 .len [.s 10]), (none, .v 12 (.bin .gtr) [.s 11, .k (.i 1048576)])])
        (.cond (.s 12)
          (.seq
            (.rg 0 [(none, .v 6 .mv [.k (.b true)])])
            .ret)
          .skip))
      (.cl ks (.seq
        (.rg 0 [(none, .v 13 .mv [.s 0]), (none, .v 14 .mv [.s 1]), (none, .co 15 39 [.s 14]), (none, .v 16 .mv [.s 2]), (none, .co 17 46 [.s 13, .s 15, .s 16]), (none, .tk 7 17)])
        (.cl ks (.seq
          (.rg 0 [(none, .v 18 .mv [.s 1]), (none, .co 19 39 [.s 18]), (none, .tk 8 19)])
          (.cl ks (.seq
            (.rg 0 [(none, .v 20 .mv [.s 0]), (none, .v 21 .mv [.s 8]), (none, .v 22 .mv [.s 2]), (none, .co 23 16 [.s 20, .s 21, .s 22]), (none, .tk 9 23)])
            (.cl ks (.seq
              (.seq
                (.rg 0 [(none, .v 24 .mv [.s 9]), (none, .v 25 .mv [.s 7]), (none, .v 26 (.bin .neq) [.s 24, .s 25])])
                (.cond (.s 26)
                  (.seq
                    (.rg 0 [(none, .v 6 .mv [.k (.b false)])])
                    .ret)
                  .skip))
              (.cl ks (.seq
                (.seq
                  (.rg 0 [(none, .v 27 .mv [.s 8]), (none, .v 28 .mv [.s 1]), (none, .co 29 39 [.s 28]), (none, .co 30 40 [.s 27, .s 29]), (none, .v 31 .not [.s 30])])
                  (.cond (.s 31)
                    (.seq
                      (.rg 0 [(none, .v 6 .mv [.k (.b false)])])
                      .ret)
                    .skip))
                (.cl ks (.seq
                  (.rg 0 [(none, .v 6 .mv [.k (.b true)])])
                  .ret)))))))))))))))

theorem chk_laws_FnExactFirstLoss : ∃ b, Try.f9.body = some b ∧ chk Try.prog Try.f9.ntmps true C_laws_FnExactFirstLoss b = true := ⟨_, rfl, by kernel_rfl⟩
theorem FnExactFirstLoss_ok (x0 : Int) (a0 : inR x0) (x1 : List Int) (a1 : x1.length ≤ 9223372036854775807) (x2 : Int) (a2 : inR x2) :
    CallOk Try.prog 9 [.i x0, .s none (ii x1), .i x2] [(0, .b true)] := by
  obtain ⟨code0, hcd1, hcd2⟩ := chk_laws_FnExactFirstLoss; refine callOk_of Try.func9 hcd1 mo Try.call9 (rs := [6]) (by kernel_rfl) hcd2 (by rw [Try.ntmps9]; simp) (by simp) (by decide) ?_; unfold C_laws_FnExactFirstLoss K_laws_FnExactFirstLoss; simp (config := { maxSteps := 2000000 }) only [go_sem, Nat.reduceBEq, Nat.reduceAdd, Nat.reduceMul, Nat.reduceMod, Nat.reduceLT, Nat.reduceDiv, Nat.reduceSub, Nat.reduceLeDiff, Int.reduceToNat, Int.reduceLT, Int.reduceLE, reduceCtorEq, List.take_nil, List.drop_nil]
  refine ⟨fun _ => trivial, fun c1 => ?_⟩
  have h1 : x1.length ≤ 1048576 := by omega
  refine ⟨_, toIntS_ok none x1 h1, ?_⟩; simp (config := { maxSteps := 2000000 }) only [go_sem, Nat.reduceBEq, Nat.reduceAdd, Nat.reduceMul, Nat.reduceMod, Nat.reduceLT, Nat.reduceDiv, Nat.reduceSub, Nat.reduceLeDiff, Int.reduceToNat, Int.reduceLT, Int.reduceLE, reduceCtorEq, List.take_nil, List.drop_nil]
  refine ⟨_, spec_FirstLoss_ok x0 x1 x2 h1, ?_⟩; simp (config := { maxSteps := 2000000 }) only [go_sem, Nat.reduceBEq, Nat.reduceAdd, Nat.reduceMul, Nat.reduceMod, Nat.reduceLT, Nat.reduceDiv, Nat.reduceSub, Nat.reduceLeDiff, Int.reduceToNat, Int.reduceLT, Int.reduceLE, reduceCtorEq, List.take_nil, List.drop_nil]
  refine ⟨_, toIntS_ok none x1 h1, ?_⟩; simp (config := { maxSteps := 2000000 }) only [go_sem, Nat.reduceBEq, Nat.reduceAdd, Nat.reduceMul, Nat.reduceMod, Nat.reduceLT, Nat.reduceDiv, Nat.reduceSub, Nat.reduceLeDiff, Int.reduceToNat, Int.reduceLT, Int.reduceLE, reduceCtorEq, List.take_nil, List.drop_nil]
  refine ⟨_, impl_FirstLoss_ok x0 x1 x2 h1, ?_⟩; simp (config := { maxSteps := 2000000 }) only [go_sem, Nat.reduceBEq, Nat.reduceAdd, Nat.reduceMul, Nat.reduceMod, Nat.reduceLT, Nat.reduceDiv, Nat.reduceSub, Nat.reduceLeDiff, Int.reduceToNat, Int.reduceLT, Int.reduceLE, reduceCtorEq, List.take_nil, List.drop_nil]
  refine ⟨fun h => by simp at h, ?_⟩
  try intro _
  refine ⟨_, toIntS_ok none x1 h1, ?_⟩; simp (config := { maxSteps := 2000000 }) only [go_sem, Nat.reduceBEq, Nat.reduceAdd, Nat.reduceMul, Nat.reduceMod, Nat.reduceLT, Nat.reduceDiv, Nat.reduceSub, Nat.reduceLeDiff, Int.reduceToNat, Int.reduceLT, Int.reduceLE, reduceCtorEq, List.take_nil, List.drop_nil]
  refine ⟨_, eqIntS_ok _ _ x1 x1 h1, ?_⟩; simp (config := { maxSteps := 2000000 }) only [go_sem, Nat.reduceBEq, Nat.reduceAdd, Nat.reduceMul, Nat.reduceMod, Nat.reduceLT, Nat.reduceDiv, Nat.reduceSub, Nat.reduceLeDiff, Int.reduceToNat, Int.reduceLT, Int.reduceLE, reduceCtorEq, List.take_nil, List.drop_nil]
theorem FnExactFirstLoss_lifted (os : Os) (started : os.Started) (H : Type) (enc : TypeId × Value → H) :
    ReturnsInHanded {} Try.checked os 9 .any (Rows.fnExactFirstLossSpec.pre6 enc Try.prog Try.f9 Rows.fnExactFirstLossRow.domain false) (Rows.fnExactFirstLossSpec.post enc Try.prog Try.f9 false true false false) := by
  refine returnsInHanded_of_change (C := Try.checked) ownk started (by as_aux_lemma => kernel_rfl) Try.func9
    (ChangeSpec.witness6 (enc := enc) (C := Try.checked) false ⟨#[], #[.int .i64 0, .slice none 0 0, .int .i64 0], []⟩ 8 (by kernel_rfl) (by kernel_rfl) (by kernel_rfl) (by kernel_rfl)) ?_
  intro W base args ds gs before hval0 hW _ _
  have hval : ∀ (j : Nat) t v, Try.f9.params[j]? = some t → args[j]? = some v → Value.okWide Try.prog W .any base t v := hval0
  have hW' := hW
  obtain ⟨p, q, hA0, _⟩ := hW
  have hA : DataW.TrodAll enc Try.prog W 0 (fun _ => true) true Try.f9.params.toList args.toList ds p := hA0
  rw [Try.params9] at hA hval
  clear hA0 hval0
  obtain ⟨v0, v1, v2, d0, d1, d2, p0, p1, p2, rfl, rfl, rfl, h0, h1, h2⟩ := trodAll_three hA
  obtain ⟨x0, a0, f0⟩ := fz_int Try.underlying3 (hval 0 3 v0 rfl rfl) h0
  obtain ⟨x1, a1, f1⟩ := fz_ints Try.underlying23 Try.underlying3 (by kernel_rfl : Try.prog.cellsOf 3 = 1) (hval 1 23 v1 rfl rfl) h1
  obtain ⟨x2, a2, f2⟩ := fz_int Try.underlying3 (hval 2 3 v2 rfl rfl) h2
  exact law_post (P := Try.prog) pfacts.laid (fun t ht => by rw [Try.params9] at ht; revert t; simp only [List.mem_cons, List.not_mem_nil, or_false, forall_eq_or_imp, forall_eq]; exact ⟨⟨by kernel_rfl, of_decide_eq_true (by kernel_rfl)⟩, ⟨by kernel_rfl, of_decide_eq_true (by kernel_rfl)⟩, ⟨by kernel_rfl, of_decide_eq_true (by kernel_rfl)⟩⟩) rfl (by kernel_rfl) rfl (fun ds hds => by
    have hds : ds.length = 3 := hds
    match ds, hds with
    | [d0, d1, d2], _ => rfl) hW' (ts := [.i x0, .s none (ii x1), .i x2]) (by simp only [FzL]; exact ⟨_, _, rfl, f0, ⟨_, _, rfl, f1, ⟨_, _, rfl, f2, rfl⟩⟩⟩) (FnExactFirstLoss_ok x0 a0 x1 a1 x2 a2)
theorem FnExactFirstLoss_holds : Rows.FnExactFirstLossSaid :=
  OpenClaim.holds_of_wide (p := Try.pinned) (s := Rows.fnExactFirstLossSpec) (c := Rows.fnExactFirstLossRow) 9 Try.f9 rfl rfl rfl rfl rfl rfl rfl ⟨rfl, rfl, rfl, rfl, rfl⟩ rfl rfl rfl rfl rfl (by as_aux_lemma => kernel_rfl) Try.func9 (joined_of pfacts rfl rfl rfl (by as_aux_lemma => kernel_rfl) (by as_aux_lemma => kernel_rfl) (by as_aux_lemma => kernel_rfl) (by as_aux_lemma => kernel_rfl) (by as_aux_lemma => kernel_rfl) (by as_aux_lemma => kernel_rfl) (by as_aux_lemma => kernel_rfl) (by as_aux_lemma => kernel_rfl) (by as_aux_lemma => kernel_rfl) (by as_aux_lemma => kernel_rfl) (by as_aux_lemma => kernel_rfl) (by as_aux_lemma => kernel_rfl) (by as_aux_lemma => kernel_rfl) (by as_aux_lemma => kernel_rfl) (by as_aux_lemma => kernel_rfl) (by as_aux_lemma => kernel_rfl) (by as_aux_lemma => kernel_rfl) (by as_aux_lemma => kernel_rfl) (by as_aux_lemma => kernel_rfl) (by as_aux_lemma => kernel_rfl) (by as_aux_lemma => kernel_rfl) (by as_aux_lemma => kernel_rfl) (by as_aux_lemma => kernel_rfl))
    (of_decide_eq_true (by kernel_rfl)) (by unfold Func.isWrapper; rw [if_neg (of_decide_eq_false (by kernel_rfl))]; exact ⟨rfl, rfl⟩)
    (fun os started H enc _ => FnExactFirstLoss_lifted os started H enc)

end Go.Proofs.Yteokhomdbdafdaa
