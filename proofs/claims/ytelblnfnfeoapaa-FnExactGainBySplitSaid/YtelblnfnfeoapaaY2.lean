/- At every input the law below returns true and leaves its arguments alone: GainBySplit of the program returns what that of the reference returns. No condition. -/
import Derived.Test.YtelblnfnfeoapaaRows
import Derived.Test.YtelblnfnfeoapaaSplit
import Derived.Test.YtelblnfnfeoapaaFacts
import Derived.Test.YtelblnfnfeoapaaLaws
namespace Go.Proofs.Ytelblnfnfeoapaa
open Go Go.Vc
set_option maxRecDepth 100000
set_option linter.unusedSimpArgs false
set_option linter.unusedVariables false
open Go.ChangeShapes Go.WideShapes Go.RowKit
section
variable {H : Type} {enc : TypeId × Value → H} {P : Program} {w : World} {base : Nat} {spare : Nat → Bool} {held : Bool}
theorem trodAll_five {t0 t1 t2 t3 t4 : TypeId} {args : Array Value} {ds : List (DataW H)} {ps : List MemPlace} (h : DataW.TrodAll enc P w base spare held [t0, t1, t2, t3, t4] args.toList ds ps) :
    ∃ v0 v1 v2 v3 v4 d0 d1 d2 d3 d4 p0 p1 p2 p3 p4, args = #[v0, v1, v2, v3, v4] ∧ ds = [d0, d1, d2, d3, d4] ∧ ps = p0 ++ p1 ++ p2 ++ p3 ++ p4 ∧ DataW.Trod enc P w base spare held t0 v0 d0 p0 ∧ DataW.Trod enc P w base spare held t1 v1 d1 p1 ∧ DataW.Trod enc P w base spare held t2 v2 d2 p2 ∧ DataW.Trod enc P w base spare held t3 v3 d3 p3 ∧ DataW.Trod enc P w base spare held t4 v4 d4 p4 := by
  obtain ⟨v0, vs, d0, ds0, p0, q0, hargs, rfl, rfl, h0, hr⟩ := trodAll_cons h
  obtain ⟨v1, vs1, d1, ds1, p1, q1, rfl, rfl, rfl, h1, hr⟩ := trodAll_cons hr
  obtain ⟨v2, vs2, d2, ds2, p2, q2, rfl, rfl, rfl, h2, hr⟩ := trodAll_cons hr
  obtain ⟨v3, vs3, d3, ds3, p3, q3, rfl, rfl, rfl, h3, hr⟩ := trodAll_cons hr
  obtain ⟨v4, vs4, d4, ds4, p4, q4, rfl, rfl, rfl, h4, hr⟩ := trodAll_cons hr
  obtain ⟨rfl, rfl, rfl⟩ := trodAll_nil hr
  exact ⟨v0, v1, v2, v3, v4, d0, d1, d2, d3, d4, p0, p1, p2, p3, p4, by cases args; simp_all, rfl, by simp, h0, h1, h2, h3, h4⟩
end
def K_laws_FnExactGainBySplit : List Nat := [0, 1, 2, 3, 4, 10, 11, 12, 13, 14, 15]
def C_laws_FnExactGainBySplit : C :=
  let ks := K_laws_FnExactGainBySplit
  (.seq
    (.rg 0 [(none, .v 10 .mv [.k (.b false)])])
    (.cl ks (.seq
      (.seq
        (.rg 0 [(none, .v 16 .mv [.s 1]), (none, .v 17 .len [.s 16]), (none, .v 18 (.bin .gtr) [.s 17, .k (.i 1048576)])])
        (.cond (.s 18)
          (.seq
            (.rg 0 [(none, .v 10 .mv [.k (.b true)])])
            .ret)
          .skip))
      (.cl ks (.seq
        (.rg 0 [(none, .v 20 .mv [.s 0]), (none, .v 21 .mv [.s 1]), (none, .co 22 16 [.s 21]), (none, .v 23 .mv [.s 2]), (none, .v 24 .mv [.s 3]), (none, .v 25 .mv [.s 4]), (none, .co 26 15 [.s 20, .s 22, .s 23, .s 24, .s 25]), (none, .tk 19 26), (none, .tk 27 100019), (none, .tk 28 101019), (none, .tk 11 27), (none, .tk 12 28)])
        (.cl ks (.seq
          (.rg 0 [(none, .v 29 .mv [.s 1]), (none, .co 30 16 [.s 29]), (none, .tk 13 30)])
          (.cl ks (.seq
            (.rg 0 [(none, .v 32 .mv [.s 0]), (none, .v 33 .mv [.s 13]), (none, .v 34 .mv [.s 2]), (none, .v 35 .mv [.s 3]), (none, .v 36 .mv [.s 4]), (none, .co 37 17 [.s 32, .s 33, .s 34, .s 35, .s 36]), (none, .tk 31 37), (none, .tk 38 100031), (none, .tk 39 101031), (none, .tk 14 38), (none, .tk 15 39)])
            (.cl ks (.seq
              (.seq
                (.rg 0 [(none, .v 40 .mv [.s 14]), (none, .v 41 .mv [.s 11]), (none, .v 42 (.bin .neq) [.s 40, .s 41]), (none, .v 43 .mv [.s 42]), (some (43, false), .v 44 .mv [.s 15]), (some (43, false), .v 45 .mv [.s 12]), (some (43, false), .v 46 .bne [.s 44, .s 45]), (none, .v 47 .pick [.s 43, .k (.b true), .s 46])])
                (.cond (.s 47)
                  (.seq
                    (.rg 0 [(none, .v 10 .mv [.k (.b false)])])
                    .ret)
                  .skip))
              (.cl ks (.seq
                (.seq
                  (.rg 0 [(none, .v 48 .mv [.s 13]), (none, .v 49 .mv [.s 1]), (none, .co 50 16 [.s 49]), (none, .co 51 18 [.s 48, .s 50]), (none, .v 52 .not [.s 51])])
                  (.cond (.s 52)
                    (.seq
                      (.rg 0 [(none, .v 10 .mv [.k (.b false)])])
                      .ret)
                    .skip))
                (.cl ks (.seq
                  (.rg 0 [(none, .v 10 .mv [.k (.b true)])])
                  .ret)))))))))))))))

theorem chk_laws_FnExactGainBySplit : ∃ b, Try.f4.body = some b ∧ chk Try.prog Try.f4.ntmps true C_laws_FnExactGainBySplit b = true := ⟨_, rfl, by kernel_rfl⟩
theorem FnExactGainBySplit_ok (x0 : Int) (a0 : inR x0) (x1 : List Int) (a1 : x1.length ≤ 9223372036854775807) (x2 : Int) (a2 : inR x2) (x3 : Int) (a3 : inR x3) (x4 : Int) (a4 : inR x4) :
    CallOk Try.prog 4 [.i x0, .s none (ii x1), .i x2, .i x3, .i x4] [(0, .b true)] := by
  obtain ⟨code0, hcd1, hcd2⟩ := chk_laws_FnExactGainBySplit; refine callOk_of Try.func4 hcd1 mo Try.call4 (rs := [10]) (by kernel_rfl) hcd2 (by rw [Try.ntmps4]; simp) (by simp) (by decide) ?_; unfold C_laws_FnExactGainBySplit K_laws_FnExactGainBySplit; simp (config := { maxSteps := 2000000 }) only [go_sem, Nat.reduceBEq, Nat.reduceAdd, Nat.reduceMul, Nat.reduceMod, Nat.reduceLT, Nat.reduceDiv, Nat.reduceSub, Nat.reduceLeDiff, Int.reduceToNat, Int.reduceLT, Int.reduceLE, reduceCtorEq, List.take_nil, List.drop_nil]
  refine ⟨fun _ => trivial, fun c1 => ?_⟩
  have h1 : x1.length ≤ 1048576 := by omega
  refine ⟨_, toIntS_ok none x1 h1, ?_⟩; simp (config := { maxSteps := 2000000 }) only [go_sem, Nat.reduceBEq, Nat.reduceAdd, Nat.reduceMul, Nat.reduceMod, Nat.reduceLT, Nat.reduceDiv, Nat.reduceSub, Nat.reduceLeDiff, Int.reduceToNat, Int.reduceLT, Int.reduceLE, reduceCtorEq, List.take_nil, List.drop_nil]
  refine ⟨_, spec_GainBySplit_ok x0 x1 x2 x3 x4 h1, ?_⟩; simp (config := { maxSteps := 2000000 }) only [go_sem, Nat.reduceBEq, Nat.reduceAdd, Nat.reduceMul, Nat.reduceMod, Nat.reduceLT, Nat.reduceDiv, Nat.reduceSub, Nat.reduceLeDiff, Int.reduceToNat, Int.reduceLT, Int.reduceLE, reduceCtorEq, List.take_nil, List.drop_nil]
  refine ⟨_, toIntS_ok none x1 h1, ?_⟩; simp (config := { maxSteps := 2000000 }) only [go_sem, Nat.reduceBEq, Nat.reduceAdd, Nat.reduceMul, Nat.reduceMod, Nat.reduceLT, Nat.reduceDiv, Nat.reduceSub, Nat.reduceLeDiff, Int.reduceToNat, Int.reduceLT, Int.reduceLE, reduceCtorEq, List.take_nil, List.drop_nil]
  refine ⟨_, impl_GainBySplit_ok x0 x1 x2 x3 x4 h1, ?_⟩; simp (config := { maxSteps := 2000000 }) only [go_sem, Nat.reduceBEq, Nat.reduceAdd, Nat.reduceMul, Nat.reduceMod, Nat.reduceLT, Nat.reduceDiv, Nat.reduceSub, Nat.reduceLeDiff, Int.reduceToNat, Int.reduceLT, Int.reduceLE, reduceCtorEq, List.take_nil, List.drop_nil]
  first | refine ⟨⟨fun h => absurd trivial h, ?_⟩, fun h => absurd trivial h⟩ | refine ⟨⟨fun h => (by simp at h), fun _ => ?_⟩, fun h => (by simp at h)⟩ | refine ⟨fun h => by simp at h, ?_⟩
  try intro _
  refine ⟨_, toIntS_ok none x1 h1, ?_⟩; simp (config := { maxSteps := 2000000 }) only [go_sem, Nat.reduceBEq, Nat.reduceAdd, Nat.reduceMul, Nat.reduceMod, Nat.reduceLT, Nat.reduceDiv, Nat.reduceSub, Nat.reduceLeDiff, Int.reduceToNat, Int.reduceLT, Int.reduceLE, reduceCtorEq, List.take_nil, List.drop_nil]
  refine ⟨_, eqIntS_ok _ _ x1 x1 h1, ?_⟩; simp (config := { maxSteps := 2000000 }) only [go_sem, Nat.reduceBEq, Nat.reduceAdd, Nat.reduceMul, Nat.reduceMod, Nat.reduceLT, Nat.reduceDiv, Nat.reduceSub, Nat.reduceLeDiff, Int.reduceToNat, Int.reduceLT, Int.reduceLE, reduceCtorEq, List.take_nil, List.drop_nil]
theorem FnExactGainBySplit_lifted (os : Os) (started : os.Started) (H : Type) (enc : TypeId × Value → H) :
    ReturnsInHanded {} Try.checked os 4 .any (Rows.fnExactGainBySplitSpec.pre6 enc Try.prog Try.f4 Rows.fnExactGainBySplitRow.domain false) (Rows.fnExactGainBySplitSpec.post enc Try.prog Try.f4 false true false false) := by
  refine returnsInHanded_of_change (C := Try.checked) ownk started (by as_aux_lemma => kernel_rfl) Try.func4
    (ChangeSpec.witness6 (enc := enc) (C := Try.checked) false ⟨#[], #[.int .i64 0, .slice none 0 0, .int .i64 0, .int .i64 0, .int .i64 0], []⟩ 8 (by kernel_rfl) (by kernel_rfl) (by kernel_rfl) (by kernel_rfl)) ?_
  intro W base args ds gs before hval0 hW _ _
  have hval : ∀ (j : Nat) t v, Try.f4.params[j]? = some t → args[j]? = some v → Value.okWide Try.prog W .any base t v := hval0
  have hW' := hW
  obtain ⟨p, q, hA0, _⟩ := hW
  have hA : DataW.TrodAll enc Try.prog W 0 (fun _ => true) true Try.f4.params.toList args.toList ds p := hA0
  rw [Try.params4] at hA hval
  clear hA0 hval0
  obtain ⟨v0, v1, v2, v3, v4, d0, d1, d2, d3, d4, p0, p1, p2, p3, p4, rfl, rfl, rfl, h0, h1, h2, h3, h4⟩ := trodAll_five hA
  obtain ⟨x0, a0, f0⟩ := fz_int Try.underlying3 (hval 0 3 v0 rfl rfl) h0
  obtain ⟨x1, a1, f1⟩ := fz_ints Try.underlying23 Try.underlying3 (by kernel_rfl : Try.prog.cellsOf 3 = 1) (hval 1 23 v1 rfl rfl) h1
  obtain ⟨x2, a2, f2⟩ := fz_int Try.underlying3 (hval 2 3 v2 rfl rfl) h2
  obtain ⟨x3, a3, f3⟩ := fz_int Try.underlying3 (hval 3 3 v3 rfl rfl) h3
  obtain ⟨x4, a4, f4⟩ := fz_int Try.underlying3 (hval 4 3 v4 rfl rfl) h4
  exact law_post (P := Try.prog) pfacts.laid (fun t ht => by rw [Try.params4] at ht; revert t; simp only [List.mem_cons, List.not_mem_nil, or_false, forall_eq_or_imp, forall_eq]; exact ⟨⟨by kernel_rfl, of_decide_eq_true (by kernel_rfl)⟩, ⟨by kernel_rfl, of_decide_eq_true (by kernel_rfl)⟩, ⟨by kernel_rfl, of_decide_eq_true (by kernel_rfl)⟩, ⟨by kernel_rfl, of_decide_eq_true (by kernel_rfl)⟩, ⟨by kernel_rfl, of_decide_eq_true (by kernel_rfl)⟩⟩) rfl (by kernel_rfl) rfl (fun ds hds => by
    have hds : ds.length = 5 := hds
    match ds, hds with
    | [d0, d1, d2, d3, d4], _ => rfl) hW' (ts := [.i x0, .s none (ii x1), .i x2, .i x3, .i x4]) (by simp only [FzL]; exact ⟨_, _, rfl, f0, ⟨_, _, rfl, f1, ⟨_, _, rfl, f2, ⟨_, _, rfl, f3, ⟨_, _, rfl, f4, rfl⟩⟩⟩⟩⟩) (FnExactGainBySplit_ok x0 a0 x1 a1 x2 a2 x3 a3 x4 a4)
theorem FnExactGainBySplit_holds : Rows.FnExactGainBySplitSaid :=
  OpenClaim.holds_of_wide (p := Try.pinned) (s := Rows.fnExactGainBySplitSpec) (c := Rows.fnExactGainBySplitRow) 4 Try.f4 rfl rfl rfl rfl rfl rfl rfl ⟨rfl, rfl, rfl, rfl, rfl⟩ rfl rfl rfl rfl rfl (by as_aux_lemma => kernel_rfl) Try.func4 (joined_of pfacts rfl rfl rfl (by as_aux_lemma => kernel_rfl) (by as_aux_lemma => kernel_rfl) (by as_aux_lemma => kernel_rfl) (by as_aux_lemma => kernel_rfl) (by as_aux_lemma => kernel_rfl) (by as_aux_lemma => kernel_rfl) (by as_aux_lemma => kernel_rfl) (by as_aux_lemma => kernel_rfl) (by as_aux_lemma => kernel_rfl) (by as_aux_lemma => kernel_rfl) (by as_aux_lemma => kernel_rfl) (by as_aux_lemma => kernel_rfl) (by as_aux_lemma => kernel_rfl) (by as_aux_lemma => kernel_rfl) (by as_aux_lemma => kernel_rfl) (by as_aux_lemma => kernel_rfl) (by as_aux_lemma => kernel_rfl) (by as_aux_lemma => kernel_rfl) (by as_aux_lemma => kernel_rfl) (by as_aux_lemma => kernel_rfl) (by as_aux_lemma => kernel_rfl) (by as_aux_lemma => kernel_rfl) (by as_aux_lemma => kernel_rfl))
    (of_decide_eq_true (by kernel_rfl)) (by unfold Func.isWrapper; rw [if_neg (of_decide_eq_false (by kernel_rfl))]; exact ⟨rfl, rfl⟩)
    (fun os started H enc _ => FnExactGainBySplit_lifted os started H enc)

end Go.Proofs.Ytelblnfnfeoapaa
