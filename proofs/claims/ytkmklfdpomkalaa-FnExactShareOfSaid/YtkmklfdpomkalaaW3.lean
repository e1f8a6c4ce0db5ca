/- At every input the law below returns true and leaves its arguments alone: ShareOf of the program returns what that of the reference returns. No condition. -/
import Derived.Test.YtkmklfdpomkalaaRows
import Derived.Test.YtkmklfdpomkalaaShare
import Derived.Test.YtkmklfdpomkalaaFacts
import Derived.Test.YtkmklfdpomkalaaMarks
namespace Go.Proofs.Ytkmklfdpomkalaa
open Go Go.Vc
set_option maxRecDepth 100000
set_option linter.unusedSimpArgs false
set_option linter.unusedVariables false
open Go.ChangeShapes Go.WideShapes Go.RowKit
def K_laws_FnExactShareOf : List Nat := [0, 1, 4, 5, 6, 7, 8]
def C_laws_FnExactShareOf : C :=
  let ks := K_laws_FnExactShareOf
  (.seq
    (.rg 0 [(none, .v 4 .mv [.k (.b false)])])
    (.cl ks (.seq
      (.rg 0 [(none, .v 5 .mv [.k (.i 1048576)])])
      (.cl ks (.seq
        (.rg 0 [(none, .v 9 .mv [.s 0]), (none, .v 10 .mv [.s 5]), (none, .co 11 12 [.s 9, .s 10]), (none, .tk 5 11)])
        (.cl ks (.seq
          (.seq
            (.rg 0 [(none, .v 12 .mv [.s 5]), (none, .v 13 (.bin .lss) [.s 12, .k (.i 0)])])
            (.cond (.s 13)
              (.seq
                (.rg 0 [(none, .v 4 .mv [.k (.b true)])])
                .ret)
              .skip))
          (.cl ks (.seq
            (.rg 0 [(none, .v 14 .mv [.s 0]), (none, .co 15 14 [.s 14]), (none, .v 16 .mv [.s 1]), (none, .co 17 27 [.s 15, .s 16]), (none, .tk 6 17)])
            (.cl ks (.seq
              (.rg 0 [(none, .v 18 .mv [.s 0]), (none, .co 19 14 [.s 18]), (none, .tk 7 19)])
              (.cl ks (.seq
                (.rg 0 [(none, .v 20 .mv [.s 7]), (none, .v 21 .mv [.s 1]), (none, .co 22 28 [.s 20, .s 21]), (none, .tk 8 22)])
                (.cl ks (.seq
                  (.seq
                    (.rg 0 [(none, .v 23 .mv [.s 8]), (none, .v 24 .mv [.s 6]), (none, .v 25 (.bin .neq) [.s 23, .s 24])])
                    (.cond (.s 25)
                      (.seq
                        (.rg 0 [(none, .v 4 .mv [.k (.b false)])])
                        .ret)
                      .skip))
                  (.cl ks (.seq
                    (.seq
                      (.rg 0 [(none, .v 26 .mv [.s 7]), (none, .v 27 .mv [.s 0]), (none, .co 28 14 [.s 27]), (none, .co 29 16 [.s 26, .s 28]), (none, .v 30 .not [.s 29])])
                      (.cond (.s 30)
                        (.seq
                          (.rg 0 [(none, .v 4 .mv [.k (.b false)])])
                          .ret)
                        .skip))
                    (.cl ks (.seq
                      (.rg 0 [(none, .v 4 .mv [.k (.b true)])])
                      .ret)))))))))))))))))))

theorem chk_laws_FnExactShareOf : ∃ b, Try.f7.body = some b ∧ chk Try.prog Try.f7.ntmps true C_laws_FnExactShareOf b = true := ⟨_, rfl, by kernel_rfl⟩
theorem FnExactShareOf_ok (x0 : List (List Int)) (a0 : x0.length ≤ 9223372036854775807) (b0 : ∀ r ∈ x0, r.length ≤ 9223372036854775807) (x1 : Int) (a1 : inR x1) :
    CallOk Try.prog 7 [.s none (rr x0), .i x1] [(0, .b true)] := by
  obtain ⟨code0, hcd1, hcd2⟩ := chk_laws_FnExactShareOf; refine callOk_of Try.func7 hcd1 mo Try.call7 (rs := [4]) (by kernel_rfl) hcd2 (by rw [Try.ntmps7]; simp) (by simp) (by decide) ?_; unfold C_laws_FnExactShareOf K_laws_FnExactShareOf; simp (config := { maxSteps := 2000000 }) only [go_sem, Nat.reduceBEq, Nat.reduceAdd, Nat.reduceMul, Nat.reduceMod, Nat.reduceLT, Nat.reduceDiv, Nat.reduceSub, Nat.reduceLeDiff, Int.reduceToNat, Int.reduceLT, Int.reduceLE, reduceCtorEq, List.take_nil, List.drop_nil]
  refine ⟨_, szIntSS_ok none x0 _ (by omega) (by omega) a0 b0, ?_⟩; simp (config := { maxSteps := 2000000 }) only [go_sem, Nat.reduceBEq, Nat.reduceAdd, Nat.reduceMul, Nat.reduceMod, Nat.reduceLT, Nat.reduceDiv, Nat.reduceSub, Nat.reduceLeDiff, Int.reduceToNat, Int.reduceLT, Int.reduceLE, reduceCtorEq, List.take_nil, List.drop_nil]
  refine ⟨fun _ => trivial, fun c0 => ?_⟩
  obtain ⟨h0, k0⟩ := szII_ok (by omega) c0
  refine ⟨_, toIntSS_ok none x0 h0 k0, ?_⟩; simp (config := { maxSteps := 2000000 }) only [go_sem, Nat.reduceBEq, Nat.reduceAdd, Nat.reduceMul, Nat.reduceMod, Nat.reduceLT, Nat.reduceDiv, Nat.reduceSub, Nat.reduceLeDiff, Int.reduceToNat, Int.reduceLT, Int.reduceLE, reduceCtorEq, List.take_nil, List.drop_nil]
  refine ⟨_, spec_ShareOf_ok x0 x1 h0 k0, ?_⟩; simp (config := { maxSteps := 2000000 }) only [go_sem, Nat.reduceBEq, Nat.reduceAdd, Nat.reduceMul, Nat.reduceMod, Nat.reduceLT, Nat.reduceDiv, Nat.reduceSub, Nat.reduceLeDiff, Int.reduceToNat, Int.reduceLT, Int.reduceLE, reduceCtorEq, List.take_nil, List.drop_nil]
  refine ⟨_, toIntSS_ok none x0 h0 k0, ?_⟩; simp (config := { maxSteps := 2000000 }) only [go_sem, Nat.reduceBEq, Nat.reduceAdd, Nat.reduceMul, Nat.reduceMod, Nat.reduceLT, Nat.reduceDiv, Nat.reduceSub, Nat.reduceLeDiff, Int.reduceToNat, Int.reduceLT, Int.reduceLE, reduceCtorEq, List.take_nil, List.drop_nil]
  refine ⟨_, impl_ShareOf_ok x0 x1 h0 k0, ?_⟩; simp (config := { maxSteps := 2000000 }) only [go_sem, Nat.reduceBEq, Nat.reduceAdd, Nat.reduceMul, Nat.reduceMod, Nat.reduceLT, Nat.reduceDiv, Nat.reduceSub, Nat.reduceLeDiff, Int.reduceToNat, Int.reduceLT, Int.reduceLE, reduceCtorEq, List.take_nil, List.drop_nil]
  first | refine ⟨⟨fun h => absurd trivial h, ?_⟩, fun h => absurd trivial h⟩ | refine ⟨fun h => by simp at h, ?_⟩
  try intro _
  refine ⟨_, toIntSS_ok none x0 h0 k0, ?_⟩; simp (config := { maxSteps := 2000000 }) only [go_sem, Nat.reduceBEq, Nat.reduceAdd, Nat.reduceMul, Nat.reduceMod, Nat.reduceLT, Nat.reduceDiv, Nat.reduceSub, Nat.reduceLeDiff, Int.reduceToNat, Int.reduceLT, Int.reduceLE, reduceCtorEq, List.take_nil, List.drop_nil]
  refine ⟨_, eqIntSS_ok _ _ x0 x0 h0 k0, ?_⟩; simp (config := { maxSteps := 2000000 }) only [go_sem, Nat.reduceBEq, Nat.reduceAdd, Nat.reduceMul, Nat.reduceMod, Nat.reduceLT, Nat.reduceDiv, Nat.reduceSub, Nat.reduceLeDiff, Int.reduceToNat, Int.reduceLT, Int.reduceLE, reduceCtorEq, List.take_nil, List.drop_nil]
theorem FnExactShareOf_lifted (os : Os) (started : os.Started) (H : Type) (enc : TypeId × Value → H) :
    ReturnsInHanded {} Try.checked os 7 .any (Rows.fnExactShareOfSpec.pre6 enc Try.prog Try.f7 Rows.fnExactShareOfRow.domain false) (Rows.fnExactShareOfSpec.post enc Try.prog Try.f7 false true false false) := by
  refine returnsInHanded_of_change (C := Try.checked) ownk started (by as_aux_lemma => kernel_rfl) Try.func7
    (ChangeSpec.witness6 (enc := enc) (C := Try.checked) false ⟨#[], #[.slice none 0 0, .int .i64 0], []⟩ 8 (by kernel_rfl) (by kernel_rfl) (by kernel_rfl) (by kernel_rfl)) ?_
  intro W base args ds gs before hval0 hW _ _
  have hval : ∀ (j : Nat) t v, Try.f7.params[j]? = some t → args[j]? = some v → Value.okWide Try.prog W .any base t v := hval0
  have hW' := hW
  obtain ⟨p, q, hA0, _⟩ := hW
  have hA : DataW.TrodAll enc Try.prog W 0 (fun _ => true) true Try.f7.params.toList args.toList ds p := hA0
  rw [Try.params7] at hA hval
  clear hA0 hval0
  obtain ⟨v0, v1, d0, d1, p0, p1, rfl, rfl, rfl, h0, h1⟩ := trodAll_two hA
  obtain ⟨x0, a0, b0, f0⟩ := fz_rows Try.underlying22 Try.underlying28 Try.underlying3 (by kernel_rfl : Try.prog.cellsOf 28 = 1) (by kernel_rfl : Try.prog.cellsOf 3 = 1) (hval 0 22 v0 rfl rfl) h0
  obtain ⟨x1, a1, f1⟩ := fz_int Try.underlying3 (hval 1 3 v1 rfl rfl) h1
  exact law_post (P := Try.prog) pfacts.laid (fun t ht => by rw [Try.params7] at ht; revert t; simp only [List.mem_cons, List.not_mem_nil, or_false, forall_eq_or_imp, forall_eq]; exact ⟨⟨by kernel_rfl, of_decide_eq_true (by kernel_rfl)⟩, ⟨by kernel_rfl, of_decide_eq_true (by kernel_rfl)⟩⟩) rfl (by kernel_rfl) rfl (fun ds hds => by
    have hds : ds.length = 2 := hds
    match ds, hds with
    | [d0, d1], _ => rfl) hW' (ts := [.s none (rr x0), .i x1]) (by simp only [FzL]; exact ⟨_, _, rfl, f0, ⟨_, _, rfl, f1, rfl⟩⟩) (FnExactShareOf_ok x0 a0 b0 x1 a1)
theorem FnExactShareOf_holds : Rows.FnExactShareOfSaid :=
  OpenClaim.holds_of_wide (p := Try.pinned) (s := Rows.fnExactShareOfSpec) (c := Rows.fnExactShareOfRow) 7 Try.f7 rfl rfl rfl rfl rfl rfl rfl ⟨rfl, rfl, rfl, rfl, rfl⟩ rfl rfl rfl rfl rfl (by as_aux_lemma => kernel_rfl) Try.func7 (joined_of pfacts rfl rfl rfl (by as_aux_lemma => kernel_rfl) (by as_aux_lemma => kernel_rfl) (by as_aux_lemma => kernel_rfl) (by as_aux_lemma => kernel_rfl) (by as_aux_lemma => kernel_rfl) (by as_aux_lemma => kernel_rfl) (by as_aux_lemma => kernel_rfl) (by as_aux_lemma => kernel_rfl) (by as_aux_lemma => kernel_rfl) (by as_aux_lemma => kernel_rfl) (by as_aux_lemma => kernel_rfl) (by as_aux_lemma => kernel_rfl) (by as_aux_lemma => kernel_rfl) (by as_aux_lemma => kernel_rfl) (by as_aux_lemma => kernel_rfl) (by as_aux_lemma => kernel_rfl) (by as_aux_lemma => kernel_rfl) (by as_aux_lemma => kernel_rfl) (by as_aux_lemma => kernel_rfl) (by as_aux_lemma => kernel_rfl) (by as_aux_lemma => kernel_rfl) (by as_aux_lemma => kernel_rfl) (by as_aux_lemma => kernel_rfl))
    (of_decide_eq_true (by kernel_rfl)) (by unfold Func.isWrapper; rw [if_neg (of_decide_eq_false (by kernel_rfl))]; exact ⟨rfl, rfl⟩)
    (fun os started H enc _ => FnExactShareOf_lifted os started H enc)

end Go.Proofs.Ytkmklfdpomkalaa
