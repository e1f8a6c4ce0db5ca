/- At every input the law below returns true and leaves its arguments alone: StepsTo of the program returns what that of the reference returns. No condition: every stable matching is reached from the men's best one by turns of rotations, so the reference's search ends. -/
import Derived.Test.YtgdpplhbblapgaaRows
import Derived.Test.YtgdpplhbblapgaaSteps
import Derived.Test.YtgdpplhbblapgaaFacts
import Derived.Test.YtgdpplhbblapgaaMarks
namespace Go.Proofs.Ytgdpplhbblapgaa
open Go Go.Vc
set_option maxRecDepth 100000
set_option linter.unusedSimpArgs false
set_option linter.unusedVariables false
open Go.ChangeShapes Go.WideShapes Go.RowKit
def K_laws_FnExactStepsTo : List Nat := [0, 1, 2, 4, 5, 6, 7, 8, 9, 1002, 2002, 1007, 2007]
def C_laws_FnExactStepsTo : C :=
  let ks := K_laws_FnExactStepsTo
  (.seq
   (.rg 0 [(none, .v 2 .boxS [.s 0]), (none, .v 4 .mv [.k (.b false)])])
   (.cl ks (.seq
   (.seq
   (.rg 0 [(none, .v 10 .mv [.s 1]), (none, .v 11 .len [.s 10]), (none, .v 12 (.bin .gtr) [.s 11, .k (.i 1048576)])])
   (.cond (.s 12)
   (.seq
   (.rg 0 [(none, .v 4 .mv [.k (.b true)])])
   .ret)
   .skip))
   (.cl ks (.seq
   (.rg 0 [(none, .v 5 .mv [.k (.i 1048576)])])
   (.cl ks (.seq
   (.rg 0 [(none, .v 13 (.lds 2) [.s 2]), (none, .v 14 .mv [.s 5]), (none, .co 15 23 [.s 13, .s 14]), (none, .tk 5 15)])
   (.cl ks (.seq
   (.seq
   (.rg 0 [(none, .v 16 .mv [.s 5]), (none, .v 17 (.bin .lss) [.s 16, .k (.i 0)])])
   (.cond (.s 17)
   (.seq
   (.rg 0 [(none, .v 4 .mv [.k (.b true)])])
   .ret)
   .skip))
   (.cl ks (.seq
   (.rg 0 [(none, .v 18 (.lds 2) [.s 2]), (none, .co 19 25 [.s 18]), (none, .v 20 .mv [.s 1]), (none, .co 21 26 [.s 20]), (none, .co 22 24 [.s 19, .s 21]), (none, .tk 6 22)])
   (.cl ks (.seq
   (.rg 0 [(none, .v 23 (.lds 2) [.s 2]), (none, .co 24 25 [.s 23]), (none, .new 7 [.s (some true) [], .s (some true) []]), (none, .sts (.s 7) (.s 24) 2)])
   (.cl ks (.seq
   (.rg 0 [(none, .v 25 .mv [.s 1]), (none, .co 26 26 [.s 25]), (none, .tk 8 26)])
   (.cl ks (.seq
   (.rg 0 [(none, .v 27 (.lds 2) [.s 7]), (none, .v 28 .mv [.s 8]), (none, .co 29 27 [.s 27, .s 28]), (none, .tk 9 29)])
   (.cl ks (.seq
   (.seq
   (.rg 0 [(none, .v 30 .mv [.s 9]), (none, .v 31 .mv [.s 6]), (none, .v 32 (.bin .neq) [.s 30, .s 31])])
   (.cond (.s 32)
   (.seq
   (.rg 0 [(none, .v 4 .mv [.k (.b false)])])
   .ret)
   .skip))
   (.cl ks (.seq
   (.seq
   (.rg 3 [(none, .v 33 (.lds 2) [.s 7]), (none, .v 34 (.lds 2) [.s 2]), (none, .v 35 (.call 25) [.s 34]), (none, .co 36 28 [.s 33, .s 35]), (none, .v 37 .not [.s 36])])
   (.cond (.s 37)
   (.seq
   (.rg 0 [(none, .v 4 .mv [.k (.b false)])])
   .ret)
   .skip))
   (.cl ks (.seq
   (.seq
   (.rg 0 [(none, .v 38 .mv [.s 8]), (none, .v 39 .mv [.s 1]), (none, .co 40 26 [.s 39]), (none, .co 41 16 [.s 38, .s 40]), (none, .v 42 .not [.s 41])])
   (.cond (.s 42)
   (.seq
   (.rg 0 [(none, .v 4 .mv [.k (.b false)])])
   .ret)
   .skip))
   (.cl ks (.seq
   (.rg 0 [(none, .v 4 .mv [.k (.b true)])])
   .ret)))))))))))))))))))))))))

theorem chk_laws_FnExactStepsTo : ∃ b, Try.f5.body = some b ∧ chk Try.prog Try.f5.ntmps true C_laws_FnExactStepsTo b = true := ⟨_, rfl, by kernel_rfl⟩
theorem FnExactStepsTo_ok (x0 y0 : List (List Int)) (a0 : x0.length ≤ 9223372036854775807) (b0 : ∀ r ∈ x0, r.length ≤ 9223372036854775807) (a0' : y0.length ≤ 9223372036854775807) (b0' : ∀ r ∈ y0, r.length ≤ 9223372036854775807) (x1 : List Int) (a1 : x1.length ≤ 9223372036854775807) :
    CallOk Try.prog 5 [.a [.s none (rr x0), .s none (rr y0)], .s none (ii x1)] [(0, .b true)] := by
  obtain ⟨code0, hcd1, hcd2⟩ := chk_laws_FnExactStepsTo; refine callOk_of Try.func5 hcd1 mo Try.call5 (rs := [4]) (by kernel_rfl) hcd2 (by rw [Try.ntmps5]; simp) (by simp) (by decide) ?_; unfold C_laws_FnExactStepsTo K_laws_FnExactStepsTo; simp (config := { maxSteps := 2000000 }) only [go_sem, Nat.reduceBEq, Nat.reduceAdd, Nat.reduceMul, Nat.reduceMod, Nat.reduceLT, Nat.reduceDiv, Nat.reduceSub, Nat.reduceLeDiff, Int.reduceToNat, Int.reduceLT, Int.reduceLE, reduceCtorEq, List.take_nil, List.drop_nil]
  refine ⟨fun _ => trivial, fun c1 => ?_⟩
  have h1 : x1.length ≤ 1048576 := by omega
  refine ⟨_, szMarket_ok x0 y0 _ (by omega) (by omega) a0 b0 a0' b0', ?_⟩; simp (config := { maxSteps := 2000000 }) only [go_sem, Nat.reduceBEq, Nat.reduceAdd, Nat.reduceMul, Nat.reduceMod, Nat.reduceLT, Nat.reduceDiv, Nat.reduceSub, Nat.reduceLeDiff, Int.reduceToNat, Int.reduceLT, Int.reduceLE, reduceCtorEq, List.take_nil, List.drop_nil]
  refine ⟨fun _ => trivial, fun c0 => ?_⟩
  obtain ⟨c0', c0'', e0'⟩ := szM_ok (by omega) c0
  obtain ⟨h0, k0⟩ := szII_ok (by omega) c0'
  obtain ⟨h0', k0'⟩ := szII_ok e0' c0''
  have t0 : (tot x0 : Int) ≤ 1048576 := Int.le_trans (szII_tot c0') (by omega)
  have t0' : (tot y0 : Int) ≤ 1048576 := Int.le_trans (szII_tot c0'') e0'
  refine ⟨_, toMarket_ok x0 y0 h0 k0 h0' k0', ?_⟩; simp (config := { maxSteps := 2000000 }) only [go_sem, Nat.reduceBEq, Nat.reduceAdd, Nat.reduceMul, Nat.reduceMod, Nat.reduceLT, Nat.reduceDiv, Nat.reduceSub, Nat.reduceLeDiff, Int.reduceToNat, Int.reduceLT, Int.reduceLE, reduceCtorEq, List.take_nil, List.drop_nil]
  refine ⟨_, toIntS_ok none x1 h1, ?_⟩; simp (config := { maxSteps := 2000000 }) only [go_sem, Nat.reduceBEq, Nat.reduceAdd, Nat.reduceMul, Nat.reduceMod, Nat.reduceLT, Nat.reduceDiv, Nat.reduceSub, Nat.reduceLeDiff, Int.reduceToNat, Int.reduceLT, Int.reduceLE, reduceCtorEq, List.take_nil, List.drop_nil]
  refine ⟨_, spec_StepsTo_ok x0 y0 x1 h0 k0 h0' k0' h1, ?_⟩; simp (config := { maxSteps := 2000000 }) only [go_sem, Nat.reduceBEq, Nat.reduceAdd, Nat.reduceMul, Nat.reduceMod, Nat.reduceLT, Nat.reduceDiv, Nat.reduceSub, Nat.reduceLeDiff, Int.reduceToNat, Int.reduceLT, Int.reduceLE, reduceCtorEq, List.take_nil, List.drop_nil]
  refine ⟨_, toMarket_ok x0 y0 h0 k0 h0' k0', ?_⟩; simp (config := { maxSteps := 2000000 }) only [go_sem, Nat.reduceBEq, Nat.reduceAdd, Nat.reduceMul, Nat.reduceMod, Nat.reduceLT, Nat.reduceDiv, Nat.reduceSub, Nat.reduceLeDiff, Int.reduceToNat, Int.reduceLT, Int.reduceLE, reduceCtorEq, List.take_nil, List.drop_nil]
  refine ⟨_, toIntS_ok none x1 h1, ?_⟩; simp (config := { maxSteps := 2000000 }) only [go_sem, Nat.reduceBEq, Nat.reduceAdd, Nat.reduceMul, Nat.reduceMod, Nat.reduceLT, Nat.reduceDiv, Nat.reduceSub, Nat.reduceLeDiff, Int.reduceToNat, Int.reduceLT, Int.reduceLE, reduceCtorEq, List.take_nil, List.drop_nil]
  refine ⟨_, impl_StepsTo_ok x0 y0 x1 h0 k0 h0' k0' h1, ?_⟩; simp (config := { maxSteps := 2000000 }) only [go_sem, Nat.reduceBEq, Nat.reduceAdd, Nat.reduceMul, Nat.reduceMod, Nat.reduceLT, Nat.reduceDiv, Nat.reduceSub, Nat.reduceLeDiff, Int.reduceToNat, Int.reduceLT, Int.reduceLE, reduceCtorEq, List.take_nil, List.drop_nil]
  try (first | (refine ⟨fun h => ?_, fun _ => ?_⟩; focus (simp at h; done)) | (refine ⟨fun h => ?_, fun _ => ?_⟩; focus omega) | (refine ⟨fun h => ?_, ?_⟩; focus (exact absurd trivial h)) | (refine ⟨fun _ => ?_, fun h => ?_⟩; rotate_left; focus omega))
  refine ⟨_, toMarket_ok x0 y0 h0 k0 h0' k0', ?_⟩; simp (config := { maxSteps := 2000000 }) only [go_sem, Nat.reduceBEq, Nat.reduceAdd, Nat.reduceMul, Nat.reduceMod, Nat.reduceLT, Nat.reduceDiv, Nat.reduceSub, Nat.reduceLeDiff, Int.reduceToNat, Int.reduceLT, Int.reduceLE, reduceCtorEq, List.take_nil, List.drop_nil]
  refine ⟨_, eqMarket_ok x0 y0 h0 k0 h0' k0', ?_⟩; simp (config := { maxSteps := 2000000 }) only [go_sem, Nat.reduceBEq, Nat.reduceAdd, Nat.reduceMul, Nat.reduceMod, Nat.reduceLT, Nat.reduceDiv, Nat.reduceSub, Nat.reduceLeDiff, Int.reduceToNat, Int.reduceLT, Int.reduceLE, reduceCtorEq, List.take_nil, List.drop_nil]
  try (first | (refine ⟨fun h => ?_, fun _ => ?_⟩; focus (simp at h; done)) | (refine ⟨fun h => ?_, fun _ => ?_⟩; focus omega) | (refine ⟨fun h => ?_, ?_⟩; focus (exact absurd trivial h)) | (refine ⟨fun _ => ?_, fun h => ?_⟩; rotate_left; focus omega))
  refine ⟨_, toIntS_ok none x1 h1, ?_⟩; simp (config := { maxSteps := 2000000 }) only [go_sem, Nat.reduceBEq, Nat.reduceAdd, Nat.reduceMul, Nat.reduceMod, Nat.reduceLT, Nat.reduceDiv, Nat.reduceSub, Nat.reduceLeDiff, Int.reduceToNat, Int.reduceLT, Int.reduceLE, reduceCtorEq, List.take_nil, List.drop_nil]
  refine ⟨_, eqIntS_ok _ _ x1 x1 h1, ?_⟩; simp (config := { maxSteps := 2000000 }) only [go_sem, Nat.reduceBEq, Nat.reduceAdd, Nat.reduceMul, Nat.reduceMod, Nat.reduceLT, Nat.reduceDiv, Nat.reduceSub, Nat.reduceLeDiff, Int.reduceToNat, Int.reduceLT, Int.reduceLE, reduceCtorEq, List.take_nil, List.drop_nil]
  all_goals (first | trivial | exact ⟨fun h => absurd h (by simp), fun _ => trivial⟩ | simp)
theorem FnExactStepsTo_lifted (os : Os) (started : os.Started) (H : Type) (enc : TypeId × Value → H) :
    ReturnsInHanded {} Try.checked os 5 .any (Rows.fnExactStepsToSpec.pre6 enc Try.prog Try.f5 Rows.fnExactStepsToRow.domain false) (Rows.fnExactStepsToSpec.post enc Try.prog Try.f5 false true false false) := by
  refine returnsInHanded_of_change (C := Try.checked) ownk started (by as_aux_lemma => kernel_rfl) Try.func5
    (ChangeSpec.witness6 (enc := enc) (C := Try.checked) false ⟨#[], #[.agg #[.slice none 0 0, .slice none 0 0], .slice none 0 0], []⟩ 8 (by kernel_rfl) (by kernel_rfl) (by kernel_rfl) (by kernel_rfl)) ?_
  intro W base args ds gs before hval0 hW _ _
  have hval : ∀ (j : Nat) t v, Try.f5.params[j]? = some t → args[j]? = some v → Value.okWide Try.prog W .any base t v := hval0
  have hW' := hW
  obtain ⟨p, q, hA0, _⟩ := hW
  have hA : DataW.TrodAll enc Try.prog W 0 (fun _ => true) true Try.f5.params.toList args.toList ds p := hA0
  rw [Try.params5] at hA hval
  clear hA0 hval0
  obtain ⟨v0, v1, d0, d1, p0, p1, rfl, rfl, rfl, h0, h1⟩ := trodAll_two hA
  obtain ⟨x0, y0, a0, b0, a0', b0', f0⟩ := fz_rows2 Try.underlying36 (by kernel_rfl : Try.prog.cellsOf 36 = 2) rfl rfl (by kernel_rfl : Try.prog.cellsOf 22 = 1) (by kernel_rfl : Try.prog.cellsOf 22 = 1) Try.underlying22 Try.underlying22 Try.underlying23 Try.underlying3 (by kernel_rfl : Try.prog.cellsOf 23 = 1) (by kernel_rfl : Try.prog.cellsOf 3 = 1) (hval 0 36 v0 rfl rfl) h0
  obtain ⟨x1, a1, f1⟩ := fz_ints Try.underlying23 Try.underlying3 (by kernel_rfl : Try.prog.cellsOf 3 = 1) (hval 1 23 v1 rfl rfl) h1
  exact law_post (P := Try.prog) pfacts.laid (fun t ht => by rw [Try.params5] at ht; revert t; simp only [List.mem_cons, List.not_mem_nil, or_false, forall_eq_or_imp, forall_eq]; exact ⟨⟨by kernel_rfl, of_decide_eq_true (by kernel_rfl)⟩, ⟨by kernel_rfl, of_decide_eq_true (by kernel_rfl)⟩⟩) rfl (by kernel_rfl) rfl (fun ds hds => by
    have hds : ds.length = 2 := hds
    match ds, hds with
    | [d0, d1], _ => rfl) hW' (ts := [.a [.s none (rr x0), .s none (rr y0)], .s none (ii x1)]) (by simp only [FzL]; exact ⟨_, _, rfl, f0, ⟨_, _, rfl, f1, rfl⟩⟩) (FnExactStepsTo_ok x0 y0 a0 b0 a0' b0' x1 a1)
set_option maxHeartbeats 4000000 in
theorem FnExactStepsTo_holds : Rows.FnExactStepsToSaid :=
  OpenClaim.holds_of_wide (p := Try.pinned) (s := Rows.fnExactStepsToSpec) (c := Rows.fnExactStepsToRow) 5 Try.f5 rfl rfl rfl rfl rfl rfl rfl ⟨rfl, rfl, rfl, rfl, rfl⟩ rfl rfl rfl rfl rfl (by as_aux_lemma => kernel_rfl) Try.func5 (joined_of pfacts rfl rfl rfl (by as_aux_lemma => kernel_rfl) (by as_aux_lemma => kernel_rfl) (by as_aux_lemma => kernel_rfl) (by as_aux_lemma => kernel_rfl) (by as_aux_lemma => kernel_rfl) (by as_aux_lemma => kernel_rfl) (by as_aux_lemma => kernel_rfl) (by as_aux_lemma => kernel_rfl) (by as_aux_lemma => kernel_rfl) (by as_aux_lemma => kernel_rfl) (by as_aux_lemma => kernel_rfl) (by as_aux_lemma => kernel_rfl) (by as_aux_lemma => kernel_rfl) (by as_aux_lemma => kernel_rfl) (by as_aux_lemma => kernel_rfl) (by as_aux_lemma => kernel_rfl) (by as_aux_lemma => kernel_rfl) (by as_aux_lemma => kernel_rfl) (by as_aux_lemma => kernel_rfl) (by as_aux_lemma => kernel_rfl) (by as_aux_lemma => kernel_rfl) (by as_aux_lemma => kernel_rfl) (by as_aux_lemma => kernel_rfl))
    (of_decide_eq_true (by kernel_rfl)) (by unfold Func.isWrapper; rw [if_neg (of_decide_eq_false (by kernel_rfl))]; exact ⟨rfl, rfl⟩)
    (fun os started H enc _ => FnExactStepsTo_lifted os started H enc)

end Go.Proofs.Ytgdpplhbblapgaa
