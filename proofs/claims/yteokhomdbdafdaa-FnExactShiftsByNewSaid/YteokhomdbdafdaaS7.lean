/- At every input the law below returns true and leaves its arguments alone: ShiftsByNew of the program returns what that of the reference returns. No condition. -/
import Derived.Test.YteokhomdbdafdaaRows
import Derived.Test.YteokhomdbdafdaaNewp
import Derived.Test.YteokhomdbdafdaaFacts
import Derived.Test.YteokhomdbdafdaaLaws
namespace Go.Proofs.Yteokhomdbdafdaa
open Go Go.Vc
set_option maxRecDepth 100000
set_option linter.unusedSimpArgs false
set_option linter.unusedVariables false
open Go.ChangeShapes Go.WideShapes Go.RowKit
section
variable {H : Type} {enc : TypeId × Value → H} {P : Program} {w : World} {base : Nat} {spare : Nat → Bool} {held : Bool}
theorem trodAll_five {t0 t1 t2 t3 t4 : TypeId} {args : Array Value} {ds : List (DataW H)} {ps : List MemPlace} (h : DataW.TrodAll enc P w base spare held [t0, t1, t2, t3, t4] args.toList ds ps) :
    ∃ v0 v1 v2 v3 v4 d0 d1 d2 d3 d4 p0 p1 p2 p3 p4, args = #[v0, v1, v2, v3, v4] ∧ ds = [d0, d1, d2, d3, d4] ∧ ps = p0 ++ p1 ++ p2 ++ p3 ++ p4 ∧ DataW.Trod enc P w base spare held t0 v0 d0 p0 ∧ DataW.Trod enc P w base spare held t1 v1 d1 p1 ∧ DataW.Trod enc P w base spare held t2 v2 d2 p2 ∧ DataW.Trod enc P w base spare held t3 v3 d3 p3 ∧ DataW.Trod enc P w base spare held t4 v4 d4 p4 := by
  obtain ⟨v0, vs, d0, ds0, p0, q0, hargs, rfl, rfl, h0, hr⟩ := trodAll_cons h
  obtain ⟨v1, vs1, d1, ds1, p1, q1, rfl, rfl, rfl, h1, hr⟩ := trodAll_cons hr
  obtain ⟨v2, vs2, d2, ds2, p2, q2, rfl, rfl, rfl, h2, hr⟩ := trodAll_cons hr
  obtain ⟨v3, vs3, d3, ds3, p3, q3, rfl, rfl, rfl, h3, hr⟩ := trodAll_cons hr
  obtain ⟨v4, vs4, d4, ds4, p4, q4, rfl, rfl, rfl, h4, hr⟩ := trodAll_cons hr
  obtain ⟨rfl, rfl, rfl⟩ := trodAll_nil hr
  exact ⟨v0, v1, v2, v3, v4, d0, d1, d2, d3, d4, p0, p1, p2, p3, p4, by cases args; simp_all, rfl, by simp, h0, h1, h2, h3, h4⟩
end
def K_laws_FnExactShiftsByNew : List Nat := [0, 1, 2, 3, 4, 10, 11, 12, 13]
def C_laws_FnExactShiftsByNew : C :=
  let ks := K_laws_FnExactShiftsByNew
  (.seq
    (.rg 0 [(none, .v 10 .mv [.k (.b false)])])
    (.cl ks (.seq
      (.seq
        (.rg 0 [(none, .v 14 .mv [.s 1]), (none, .v 15 .len [.s 14]), (none, .v 16 (.bin .gtr) [.s 15, .k (.i 1048576)])])
        (.cond (.s 16)
          (.seq
            (.rg 0 [(none, .v 10 .mv [.k (.b true)])])
            .ret)
          .skip))
      (.cl ks (.seq
        (.rg 0 [(none, .v 17 .mv [.s 0]), (none, .v 18 .mv [.s 1]), (none, .co 19 39 [.s 18]), (none, .v 20 .mv [.s 2]), (none, .v 21 .mv [.s 3]), (none, .v 22 .mv [.s 4]), (none, .co 23 52 [.s 17, .s 19, .s 20, .s 21, .s 22]), (none, .tk 11 23)])
        (.cl ks (.seq
          (.rg 0 [(none, .v 24 .mv [.s 1]), (none, .co 25 39 [.s 24]), (none, .tk 12 25)])
          (.cl ks (.seq
            (.rg 0 [(none, .v 26 .mv [.s 0]), (none, .v 27 .mv [.s 12]), (none, .v 28 .mv [.s 2]), (none, .v 29 .mv [.s 3]), (none, .v 30 .mv [.s 4]), (none, .co 31 18 [.s 26, .s 27, .s 28, .s 29, .s 30]), (none, .tk 13 31)])
            (.cl ks (.seq
              (.seq
                (.rg 0 [(none, .v 32 .mv [.s 13]), (none, .v 33 .mv [.s 11]), (none, .v 34 .bne [.s 32, .s 33])])
                (.cond (.s 34)
                  (.seq
                    (.rg 0 [(none, .v 10 .mv [.k (.b false)])])
                    .ret)
                  .skip))
              (.cl ks (.seq
                (.seq
                  (.rg 0 [(none, .v 35 .mv [.s 12]), (none, .v 36 .mv [.s 1]), (none, .co 37 39 [.s 36]), (none, .co 38 40 [.s 35, .s 37]), (none, .v 39 .not [.s 38])])
                  (.cond (.s 39)
                    (.seq
                      (.rg 0 [(none, .v 10 .mv [.k (.b false)])])
                      .ret)
                    .skip))
                (.cl ks (.seq
                  (.rg 0 [(none, .v 10 .mv [.k (.b true)])])
                  .ret)))))))))))))))

theorem chk_laws_FnExactShiftsByNew : ∃ b, Try.f12.body = some b ∧ chk Try.prog Try.f12.ntmps true C_laws_FnExactShiftsByNew b = true := ⟨_, rfl, by kernel_rfl⟩
theorem FnExactShiftsByNew_ok (x0 : Int) (a0 : inR x0) (x1 : List Int) (a1 : x1.length ≤ 9223372036854775807) (x2 : Int) (a2 : inR x2) (x3 : Int) (a3 : inR x3) (x4 : Int) (a4 : inR x4) :
    CallOk Try.prog 12 [.i x0, .s none (ii x1), .i x2, .i x3, .i x4] [(0, .b true)] := by
  obtain ⟨code0, hcd1, hcd2⟩ := chk_laws_FnExactShiftsByNew; refine callOk_of Try.func12 hcd1 mo Try.call12 (rs := [10]) (by kernel_rfl) hcd2 (by rw [Try.ntmps12]; simp) (by simp) (by decide) ?_; unfold C_laws_FnExactShiftsByNew K_laws_FnExactShiftsByNew; simp (config := { maxSteps := 2000000 }) only [go_sem, Nat.reduceBEq, Nat.reduceAdd, Nat.reduceMul, Nat.reduceMod, Nat.reduceLT, Nat.reduceDiv, Nat.reduceSub, Nat.reduceLeDiff, Int.reduceToNat, Int.reduceLT, Int.reduceLE, reduceCtorEq, List.take_nil, List.drop_nil]
  refine ⟨fun _ => trivial, fun c1 => ?_⟩
  have h1 : x1.length ≤ 1048576 := by omega
  refine ⟨_, toIntS_ok none x1 h1, ?_⟩; simp (config := { maxSteps := 2000000 }) only [go_sem, Nat.reduceBEq, Nat.reduceAdd, Nat.reduceMul, Nat.reduceMod, Nat.reduceLT, Nat.reduceDiv, Nat.reduceSub, Nat.reduceLeDiff, Int.reduceToNat, Int.reduceLT, Int.reduceLE, reduceCtorEq, List.take_nil, List.drop_nil]
  refine ⟨_, spec_ShiftsByNew_ok x0 x1 x2 x3 x4 h1, ?_⟩; simp (config := { maxSteps := 2000000 }) only [go_sem, Nat.reduceBEq, Nat.reduceAdd, Nat.reduceMul, Nat.reduceMod, Nat.reduceLT, Nat.reduceDiv, Nat.reduceSub, Nat.reduceLeDiff, Int.reduceToNat, Int.reduceLT, Int.reduceLE, reduceCtorEq, List.take_nil, List.drop_nil]
  refine ⟨_, toIntS_ok none x1 h1, ?_⟩; simp (config := { maxSteps := 2000000 }) only [go_sem, Nat.reduceBEq, Nat.reduceAdd, Nat.reduceMul, Nat.reduceMod, Nat.reduceLT, Nat.reduceDiv, Nat.reduceSub, Nat.reduceLeDiff, Int.reduceToNat, Int.reduceLT, Int.reduceLE, reduceCtorEq, List.take_nil, List.drop_nil]
  refine ⟨_, impl_ShiftsByNew_ok x0 x1 x2 x3 x4 h1, ?_⟩; simp (config := { maxSteps := 2000000 }) only [go_sem, Nat.reduceBEq, Nat.reduceAdd, Nat.reduceMul, Nat.reduceMod, Nat.reduceLT, Nat.reduceDiv, Nat.reduceSub, Nat.reduceLeDiff, Int.reduceToNat, Int.reduceLT, Int.reduceLE, reduceCtorEq, List.take_nil, List.drop_nil]
  first | refine ⟨⟨fun h => absurd trivial h, ?_⟩, fun h => absurd trivial h⟩ | refine ⟨fun h => by simp at h, ?_⟩
  try intro _
  refine ⟨_, toIntS_ok none x1 h1, ?_⟩; simp (config := { maxSteps := 2000000 }) only [go_sem, Nat.reduceBEq, Nat.reduceAdd, Nat.reduceMul, Nat.reduceMod, Nat.reduceLT, Nat.reduceDiv, Nat.reduceSub, Nat.reduceLeDiff, Int.reduceToNat, Int.reduceLT, Int.reduceLE, reduceCtorEq, List.take_nil, List.drop_nil]
  refine ⟨_, eqIntS_ok _ _ x1 x1 h1, ?_⟩; simp (config := { maxSteps := 2000000 }) only [go_sem, Nat.reduceBEq, Nat.reduceAdd, Nat.reduceMul, Nat.reduceMod, Nat.reduceLT, Nat.reduceDiv, Nat.reduceSub, Nat.reduceLeDiff, Int.reduceToNat, Int.reduceLT, Int.reduceLE, reduceCtorEq, List.take_nil, List.drop_nil]
theorem FnExactShiftsByNew_lifted (os : Os) (started : os.Started) (H : Type) (enc : TypeId × Value → H) :
    ReturnsInHanded {} Try.checked os 12 .any (Rows.fnExactShiftsByNewSpec.pre6 enc Try.prog Try.f12 Rows.fnExactShiftsByNewRow.domain false) (Rows.fnExactShiftsByNewSpec.post enc Try.prog Try.f12 false true false false) := by
  refine returnsInHanded_of_change (C := Try.checked) ownk started (by as_aux_lemma => kernel_rfl) Try.func12
    (ChangeSpec.witness6 (enc := enc) (C := Try.checked) false ⟨#[], #[.int .i64 0, .slice none 0 0, .int .i64 0, .int .i64 0, .int .i64 0], []⟩ 8 (by kernel_rfl) (by kernel_rfl) (by kernel_rfl) (by kernel_rfl)) ?_
  intro W base args ds gs before hval0 hW _ _
  have hval : ∀ (j : Nat) t v, Try.f12.params[j]? = some t → args[j]? = some v → Value.okWide Try.prog W .any base t v := hval0
  have hW' := hW
  obtain ⟨p, q, hA0, _⟩ := hW
  have hA : DataW.TrodAll enc Try.prog W 0 (fun _ => true) true Try.f12.params.toList args.toList ds p := hA0
  rw [Try.params12] at hA hval
  clear hA0 hval0
  obtain ⟨v0, v1, v2, v3, v4, d0, d1, d2, d3, d4, p0, p1, p2, p3, p4, rfl, rfl, rfl, h0, h1, h2, h3, h4⟩ := trodAll_five hA
  obtain ⟨x0, a0, f0⟩ := fz_int Try.underlying3 (hval 0 3 v0 rfl rfl) h0
  obtain ⟨x1, a1, f1⟩ := fz_ints Try.underlying23 Try.underlying3 (by kernel_rfl : Try.prog.cellsOf 3 = 1) (hval 1 23 v1 rfl rfl) h1
  obtain ⟨x2, a2, f2⟩ := fz_int Try.underlying3 (hval 2 3 v2 rfl rfl) h2
  obtain ⟨x3, a3, f3⟩ := fz_int Try.underlying3 (hval 3 3 v3 rfl rfl) h3
  obtain ⟨x4, a4, f4⟩ := fz_int Try.underlying3 (hval 4 3 v4 rfl rfl) h4
  exact law_post (P := Try.prog) pfacts.laid (fun t ht => by rw [Try.params12] at ht; revert t; simp only [List.mem_cons, List.not_mem_nil, or_false, forall_eq_or_imp, forall_eq]; exact ⟨⟨by kernel_rfl, of_decide_eq_true (by kernel_rfl)⟩, ⟨by kernel_rfl, of_decide_eq_true (by kernel_rfl)⟩, ⟨by kernel_rfl, of_decide_eq_true (by kernel_rfl)⟩, ⟨by kernel_rfl, of_decide_eq_true (by kernel_rfl)⟩, ⟨by kernel_rfl, of_decide_eq_true (by kernel_rfl)⟩⟩) rfl (by kernel_rfl) rfl (fun ds hds => by
    have hds : ds.length = 5 := hds
    match ds, hds with
    | [d0, d1, d2, d3, d4], _ => rfl) hW' (ts := [.i x0, .s none (ii x1), .i x2, .i x3, .i x4]) (by simp only [FzL]; exact ⟨_, _, rfl, f0, ⟨_, _, rfl, f1, ⟨_, _, rfl, f2, ⟨_, _, rfl, f3, ⟨_, _, rfl, f4, rfl⟩⟩⟩⟩⟩) (FnExactShiftsByNew_ok x0 a0 x1 a1 x2 a2 x3 a3 x4 a4)
theorem FnExactShiftsByNew_holds : Rows.FnExactShiftsByNewSaid :=
  OpenClaim.holds_of_wide (p := Try.pinned) (s := Rows.fnExactShiftsByNewSpec) (c := Rows.fnExactShiftsByNewRow) 12 Try.f12 rfl rfl rfl rfl rfl rfl rfl ⟨rfl, rfl, rfl, rfl, rfl⟩ rfl rfl rfl rfl rfl (by as_aux_lemma => kernel_rfl) Try.func12 (joined_of pfacts rfl rfl rfl (by as_aux_lemma => kernel_rfl) (by as_aux_lemma => kernel_rfl) (by as_aux_lemma => kernel_rfl) (by as_aux_lemma => kernel_rfl) (by as_aux_lemma => kernel_rfl) (by as_aux_lemma => kernel_rfl) (by as_aux_lemma => kernel_rfl) (by as_aux_lemma => kernel_rfl) (by as_aux_lemma => kernel_rfl) (by as_aux_lemma => kernel_rfl) (by as_aux_lemma => kernel_rfl) (by as_aux_lemma => kernel_rfl) (by as_aux_lemma => kernel_rfl) (by as_aux_lemma => kernel_rfl) (by as_aux_lemma => kernel_rfl) (by as_aux_lemma => kernel_rfl) (by as_aux_lemma => kernel_rfl) (by as_aux_lemma => kernel_rfl) (by as_aux_lemma => kernel_rfl) (by as_aux_lemma => kernel_rfl) (by as_aux_lemma => kernel_rfl) (by as_aux_lemma => kernel_rfl) (by as_aux_lemma => kernel_rfl))
    (of_decide_eq_true (by kernel_rfl)) (by unfold Func.isWrapper; rw [if_neg (of_decide_eq_false (by kernel_rfl))]; exact ⟨rfl, rfl⟩)
    (fun os started H enc _ => FnExactShiftsByNew_lifted os started H enc)

end Go.Proofs.Yteokhomdbdafdaa
