/- At every input the law below returns true and leaves its arguments alone: LongestRotation of the program returns what that of the reference returns. No condition. -/
import Derived.Test.YtolofcljdcnmkaaRows
import Derived.Test.YtolofcljdcnmkaaChain
import Derived.Test.YtolofcljdcnmkaaFacts
import Derived.Test.YtolofcljdcnmkaaMarks
namespace Go.Proofs.Ytolofcljdcnmkaa
open Go Go.Vc
set_option maxRecDepth 100000
set_option linter.unusedSimpArgs false
set_option linter.unusedVariables false
open Go.ChangeShapes Go.WideShapes Go.RowKit
def K_laws_FnExactLongestRotation : List Nat := [0, 1, 2, 3, 4, 5, 6, 1001, 2001, 1005, 2005]
def C_laws_FnExactLongestRotation : C :=
  let ks := K_laws_FnExactLongestRotation
  (.seq
    (.rg 0 [(none, .v 1 .boxS [.s 0]), (none, .v 2 .mv [.k (.b false)])])
    (.cl ks (.seq
      (.rg 0 [(none, .v 3 .mv [.k (.i 1048576)])])
      (.cl ks (.seq
        (.rg 0 [(none, .v 7 (.lds 2) [.s 1]), (none, .v 8 .mv [.s 3]), (none, .co 9 6 [.s 7, .s 8]), (none, .tk 3 9)])
        (.cl ks (.seq
          (.seq
            (.rg 0 [(none, .v 10 .mv [.s 3]), (none, .v 11 (.bin .lss) [.s 10, .k (.i 0)])])
            (.cond (.s 11)
              (.seq
                (.rg 0 [(none, .v 2 .mv [.k (.b true)])])
                .ret)
              .skip))
          (.cl ks (.seq
            (.rg 0 [(none, .v 12 (.lds 2) [.s 1]), (none, .co 13 8 [.s 12]), (none, .co 14 17 [.s 13]), (none, .tk 4 14)])
            (.cl ks (.seq
              (.rg 0 [(none, .v 15 (.lds 2) [.s 1]), (none, .co 16 8 [.s 15]), (none, .new 5 [.s (some true) [], .s (some true) []]), (none, .sts (.s 5) (.s 16) 2)])
              (.cl ks (.seq
                (.rg 0 [(none, .v 17 (.lds 2) [.s 5]), (none, .co 18 18 [.s 17]), (none, .tk 6 18)])
                (.cl ks (.seq
                  (.seq
                    (.rg 0 [(none, .v 19 .mv [.s 6]), (none, .v 20 .mv [.s 4]), (none, .v 21 (.bin .neq) [.s 19, .s 20])])
                    (.cond (.s 21)
                      (.seq
                        (.rg 0 [(none, .v 2 .mv [.k (.b false)])])
                        .ret)
                      .skip))
                  (.cl ks (.seq
                    (.seq
                      (.rg 3 [(none, .v 22 (.lds 2) [.s 5]), (none, .v 23 (.lds 2) [.s 1]), (none, .v 24 (.call 8) [.s 23]), (none, .co 25 11 [.s 22, .s 24]), (none, .v 26 .not [.s 25])])
                      (.cond (.s 26)
                        (.seq
                          (.rg 0 [(none, .v 2 .mv [.k (.b false)])])
                          .ret)
                        .skip))
                    (.cl ks (.seq
                      (.rg 0 [(none, .v 2 .mv [.k (.b true)])])
                      .ret)))))))))))))))))))

theorem chk_laws_FnExactLongestRotation : ∃ b, Try.f5.body = some b ∧ chk Try.prog Try.f5.ntmps true C_laws_FnExactLongestRotation b = true := ⟨_, rfl, by kernel_rfl⟩
theorem FnExactLongestRotation_ok (x0 y0 : List (List Int)) (a0 : x0.length ≤ 9223372036854775807) (b0 : ∀ r ∈ x0, r.length ≤ 9223372036854775807) (a0' : y0.length ≤ 9223372036854775807) (b0' : ∀ r ∈ y0, r.length ≤ 9223372036854775807) :
    CallOk Try.prog 5 [.a [.s none (rr x0), .s none (rr y0)]] [(0, .b true)] := by
  obtain ⟨code0, hcd1, hcd2⟩ := chk_laws_FnExactLongestRotation; refine callOk_of Try.func5 hcd1 mo Try.call5 (rs := [2]) (by kernel_rfl) hcd2 (by rw [Try.ntmps5]; simp) (by simp) (by decide) ?_; unfold C_laws_FnExactLongestRotation K_laws_FnExactLongestRotation; simp (config := { maxSteps := 2000000 }) only [go_sem, Nat.reduceBEq, Nat.reduceAdd, Nat.reduceMul, Nat.reduceMod, Nat.reduceLT, Nat.reduceDiv, Nat.reduceSub, Nat.reduceLeDiff, Int.reduceToNat, Int.reduceLT, Int.reduceLE, reduceCtorEq, List.take_nil, List.drop_nil]
  refine ⟨_, szMarket_ok x0 y0 _ (by omega) (by omega) a0 b0 a0' b0', ?_⟩; simp (config := { maxSteps := 2000000 }) only [go_sem, Nat.reduceBEq, Nat.reduceAdd, Nat.reduceMul, Nat.reduceMod, Nat.reduceLT, Nat.reduceDiv, Nat.reduceSub, Nat.reduceLeDiff, Int.reduceToNat, Int.reduceLT, Int.reduceLE, reduceCtorEq, List.take_nil, List.drop_nil]
  refine ⟨fun _ => trivial, fun c0 => ?_⟩
  obtain ⟨c0', c0'', e0'⟩ := szM_ok (by omega) c0
  obtain ⟨h0, k0⟩ := szII_ok (by omega) c0'
  obtain ⟨h0', k0'⟩ := szII_ok e0' c0''
  have t0 : (tot x0 : Int) ≤ 1048576 := Int.le_trans (szII_tot c0') (by omega)
  have t0' : (tot y0 : Int) ≤ 1048576 := Int.le_trans (szII_tot c0'') e0'
  refine ⟨_, toMarket_ok x0 y0 h0 k0 h0' k0', ?_⟩; simp (config := { maxSteps := 2000000 }) only [go_sem, Nat.reduceBEq, Nat.reduceAdd, Nat.reduceMul, Nat.reduceMod, Nat.reduceLT, Nat.reduceDiv, Nat.reduceSub, Nat.reduceLeDiff, Int.reduceToNat, Int.reduceLT, Int.reduceLE, reduceCtorEq, List.take_nil, List.drop_nil]
  refine ⟨_, spec_LongestRotation_ok x0 y0 h0 k0 h0' k0', ?_⟩; simp (config := { maxSteps := 2000000 }) only [go_sem, Nat.reduceBEq, Nat.reduceAdd, Nat.reduceMul, Nat.reduceMod, Nat.reduceLT, Nat.reduceDiv, Nat.reduceSub, Nat.reduceLeDiff, Int.reduceToNat, Int.reduceLT, Int.reduceLE, reduceCtorEq, List.take_nil, List.drop_nil]
  refine ⟨_, toMarket_ok x0 y0 h0 k0 h0' k0', ?_⟩; simp (config := { maxSteps := 2000000 }) only [go_sem, Nat.reduceBEq, Nat.reduceAdd, Nat.reduceMul, Nat.reduceMod, Nat.reduceLT, Nat.reduceDiv, Nat.reduceSub, Nat.reduceLeDiff, Int.reduceToNat, Int.reduceLT, Int.reduceLE, reduceCtorEq, List.take_nil, List.drop_nil]
  refine ⟨_, impl_LongestRotation_ok x0 y0 h0 k0 h0' k0', ?_⟩; simp (config := { maxSteps := 2000000 }) only [go_sem, Nat.reduceBEq, Nat.reduceAdd, Nat.reduceMul, Nat.reduceMod, Nat.reduceLT, Nat.reduceDiv, Nat.reduceSub, Nat.reduceLeDiff, Int.reduceToNat, Int.reduceLT, Int.reduceLE, reduceCtorEq, List.take_nil, List.drop_nil]
  try (first | (refine ⟨fun h => ?_, fun _ => ?_⟩; focus (simp at h; done)) | (refine ⟨fun h => ?_, fun _ => ?_⟩; focus omega) | (refine ⟨fun h => ?_, ?_⟩; focus (exact absurd trivial h)) | (refine ⟨fun _ => ?_, fun h => ?_⟩; rotate_left; focus omega))
  refine ⟨_, toMarket_ok x0 y0 h0 k0 h0' k0', ?_⟩; simp (config := { maxSteps := 2000000 }) only [go_sem, Nat.reduceBEq, Nat.reduceAdd, Nat.reduceMul, Nat.reduceMod, Nat.reduceLT, Nat.reduceDiv, Nat.reduceSub, Nat.reduceLeDiff, Int.reduceToNat, Int.reduceLT, Int.reduceLE, reduceCtorEq, List.take_nil, List.drop_nil]
  refine ⟨_, eqMarket_ok x0 y0 h0 k0 h0' k0', ?_⟩; simp (config := { maxSteps := 2000000 }) only [go_sem, Nat.reduceBEq, Nat.reduceAdd, Nat.reduceMul, Nat.reduceMod, Nat.reduceLT, Nat.reduceDiv, Nat.reduceSub, Nat.reduceLeDiff, Int.reduceToNat, Int.reduceLT, Int.reduceLE, reduceCtorEq, List.take_nil, List.drop_nil]
  all_goals (first | trivial | exact ⟨fun h => absurd h (by simp), fun _ => trivial⟩ | simp)
theorem FnExactLongestRotation_lifted (os : Os) (started : os.Started) (H : Type) (enc : TypeId × Value → H) :
    ReturnsInHanded {} Try.checked os 5 .any (Rows.fnExactLongestRotationSpec.pre6 enc Try.prog Try.f5 Rows.fnExactLongestRotationRow.domain false) (Rows.fnExactLongestRotationSpec.post enc Try.prog Try.f5 false true false false) := by
  refine returnsInHanded_of_change (C := Try.checked) ownk started (by as_aux_lemma => kernel_rfl) Try.func5
    (ChangeSpec.witness6 (enc := enc) (C := Try.checked) false ⟨#[], #[.agg #[.slice none 0 0, .slice none 0 0]], []⟩ 8 (by kernel_rfl) (by kernel_rfl) (by kernel_rfl) (by kernel_rfl)) ?_
  intro W base args ds gs before hval0 hW _ _
  have hval : ∀ (j : Nat) t v, Try.f5.params[j]? = some t → args[j]? = some v → Value.okWide Try.prog W .any base t v := hval0
  have hW' := hW
  obtain ⟨p, q, hA0, _⟩ := hW
  have hA : DataW.TrodAll enc Try.prog W 0 (fun _ => true) true Try.f5.params.toList args.toList ds p := hA0
  rw [Try.params5] at hA hval
  clear hA0 hval0
  obtain ⟨v0, d0, rfl, rfl, h0⟩ := trodAll_one hA
  obtain ⟨x0, y0, a0, b0, a0', b0', f0⟩ := fz_rows2 Try.underlying24 (by kernel_rfl : Try.prog.cellsOf 24 = 2) rfl rfl (by kernel_rfl : Try.prog.cellsOf 22 = 1) (by kernel_rfl : Try.prog.cellsOf 22 = 1) Try.underlying22 Try.underlying22 Try.underlying36 Try.underlying3 (by kernel_rfl : Try.prog.cellsOf 36 = 1) (by kernel_rfl : Try.prog.cellsOf 3 = 1) (hval 0 24 v0 rfl rfl) h0
  exact law_post (P := Try.prog) pfacts.laid (fun t ht => by rw [Try.params5] at ht; revert t; simp only [List.mem_cons, List.not_mem_nil, or_false, forall_eq_or_imp, forall_eq]; exact ⟨by kernel_rfl, of_decide_eq_true (by kernel_rfl)⟩) rfl (by kernel_rfl) rfl (fun ds hds => by
    have hds : ds.length = 1 := hds
    match ds, hds with
    | [d0], _ => rfl) hW' (ts := [.a [.s none (rr x0), .s none (rr y0)]]) (by simp only [FzL]; exact ⟨_, _, rfl, f0, rfl⟩) (FnExactLongestRotation_ok x0 y0 a0 b0 a0' b0')
theorem FnExactLongestRotation_holds : Rows.FnExactLongestRotationSaid :=
  OpenClaim.holds_of_wide (p := Try.pinned) (s := Rows.fnExactLongestRotationSpec) (c := Rows.fnExactLongestRotationRow) 5 Try.f5 rfl rfl rfl rfl rfl rfl rfl ⟨rfl, rfl, rfl, rfl, rfl⟩ rfl rfl rfl rfl rfl (by as_aux_lemma => kernel_rfl) Try.func5 (joined_of pfacts rfl rfl rfl (by as_aux_lemma => kernel_rfl) (by as_aux_lemma => kernel_rfl) (by as_aux_lemma => kernel_rfl) (by as_aux_lemma => kernel_rfl) (by as_aux_lemma => kernel_rfl) (by as_aux_lemma => kernel_rfl) (by as_aux_lemma => kernel_rfl) (by as_aux_lemma => kernel_rfl) (by as_aux_lemma => kernel_rfl) (by as_aux_lemma => kernel_rfl) (by as_aux_lemma => kernel_rfl) (by as_aux_lemma => kernel_rfl) (by as_aux_lemma => kernel_rfl) (by as_aux_lemma => kernel_rfl) (by as_aux_lemma => kernel_rfl) (by as_aux_lemma => kernel_rfl) (by as_aux_lemma => kernel_rfl) (by as_aux_lemma => kernel_rfl) (by as_aux_lemma => kernel_rfl) (by as_aux_lemma => kernel_rfl) (by as_aux_lemma => kernel_rfl) (by as_aux_lemma => kernel_rfl) (by as_aux_lemma => kernel_rfl))
    (of_decide_eq_true (by kernel_rfl)) (by unfold Func.isWrapper; rw [if_neg (of_decide_eq_false (by kernel_rfl))]; exact ⟨rfl, rfl⟩)
    (fun os started H enc _ => FnExactLongestRotation_lifted os started H enc)

end Go.Proofs.Ytolofcljdcnmkaa
