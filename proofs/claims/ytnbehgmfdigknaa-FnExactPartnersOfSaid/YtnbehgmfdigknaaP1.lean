/- At every input the law below returns true and leaves its arguments alone: PartnersOf of the program returns what that of the reference returns, in memory of its own. No condition. -/
import Derived.Test.YtnbehgmfdigknaaRows
import Derived.Test.YtnbehgmfdigknaaPartn
import Derived.Test.YtnbehgmfdigknaaFacts
import Derived.Test.YtnbehgmfdigknaaMarks
namespace Go.Proofs.Ytnbehgmfdigknaa
open Go Go.Vc
set_option maxRecDepth 100000
set_option linter.unusedSimpArgs false
set_option linter.unusedVariables false
open Go.ChangeShapes Go.WideShapes Go.RowKit
theorem partF_len {x y : List (List Int)} {i : Int} (kx : ∀ r ∈ x, r.length ≤ 1048576) : (partF x y i).length ≤ 1048576 := by
  unfold partF
  by_cases h : partB x y i = true
  · rw [if_pos h]
    have h1 := partK_len (x := x) (y := y) (i := i.toNat) (k := (x.getD i.toNat []).length)
    by_cases h2 : i.toNat < x.length
    · have := kx _ (getD_mem (d := []) h2); omega
    · have e : x.getD i.toNat [] = [] := by rw [List.getD, List.getElem?_eq_none (by omega)]; rfl
      exact Nat.le_trans h1 (by rw [e]; simp)
  · rw [if_neg h]; simp
def K_laws_FnExactPartnersOf : List Nat := [0, 1, 2, 4, 5, 6, 7, 8, 9, 10, 11, 12, 1002, 2002, 1007, 2007]
def C_laws_FnExactPartnersOf : C :=
  let ks := K_laws_FnExactPartnersOf
  (.seq
    (.rg 0 [(none, .v 2 .boxS [.s 0]), (none, .v 4 .mv [.k (.b false)])])
    (.cl ks (.seq
      (.rg 0 [(none, .v 5 .mv [.k (.i 1048576)])])
      (.cl ks (.seq
        (.rg 0 [(none, .v 13 (.lds 2) [.s 2]), (none, .v 14 .mv [.s 5]), (none, .co 15 9 [.s 13, .s 14]), (none, .tk 5 15)])
        (.cl ks (.seq
          (.seq
            (.rg 0 [(none, .v 16 .mv [.s 5]), (none, .v 17 (.bin .lss) [.s 16, .k (.i 0)])])
            (.cond (.s 17)
              (.seq
                (.rg 0 [(none, .v 4 .mv [.k (.b true)])])
                .ret)
              .skip))
          (.cl ks (.seq
            (.rg 0 [(none, .v 18 (.lds 2) [.s 2]), (none, .co 19 11 [.s 18]), (none, .v 20 .mv [.s 1]), (none, .co 21 21 [.s 19, .s 20]), (none, .tk 6 21)])
            (.cl ks (.seq
              (.rg 0 [(none, .v 22 (.lds 2) [.s 2]), (none, .co 23 11 [.s 22]), (none, .new 7 [.s (some true) [], .s (some true) []]), (none, .sts (.s 7) (.s 23) 2)])
              (.cl ks (.seq
                (.rg 0 [(none, .v 24 (.lds 2) [.s 7]), (none, .v 25 .mv [.s 1]), (none, .co 26 22 [.s 24, .s 25]), (none, .tk 8 26)])
                (.cl ks (.seq
                  (.seq
                    (.rg 0 [(none, .v 27 .mv [.s 8]), (none, .v 28 .mv [.s 6]), (none, .co 29 16 [.s 27, .s 28]), (none, .v 30 .not [.s 29])])
                    (.cond (.s 30)
                      (.seq
                        (.rg 0 [(none, .v 4 .mv [.k (.b false)])])
                        .ret)
                      .skip))
                  (.cl ks (.seq
                    (.seq
                      (.rg 3 [(none, .v 31 (.lds 2) [.s 7]), (none, .v 32 (.lds 2) [.s 2]), (none, .v 33 (.call 11) [.s 32]), (none, .co 34 15 [.s 31, .s 33]), (none, .v 35 .not [.s 34])])
                      (.cond (.s 35)
                        (.seq
                          (.rg 0 [(none, .v 4 .mv [.k (.b false)])])
                          .ret)
                        .skip))
                    (.cl ks (.seq
                      (.rg 0 [(none, .v 9 .mv [.k (.i 1)])])
                      (.cl ks (.seq
                        (.rg 0 [(none, .v 36 (.lds 2) [.s 7]), (none, .v 37 .mv [.s 9]), (none, .coa (some 38) 17 [.s 36, .s 37] 0), (none, .tk 9 38)])
                        (.cl ks (.seq
                          (.seq
                            (.rg 0 [(none, .v 39 .mv [.s 9]), (none, .v 40 (.bin .lss) [.s 39, .k (.i 0)]), (none, .v 41 .mv [.s 40]), (some (41, false), .v 42 .mv [.s 8]), (some (41, false), .v 43 .mv [.s 6]), (some (41, false), .co 44 16 [.s 42, .s 43]), (some (41, false), .v 45 .not [.s 44]), (none, .v 46 .pick [.s 41, .k (.b true), .s 45])])
                            (.cond (.s 46)
                              (.seq
                                (.rg 0 [(none, .v 4 .mv [.k (.b false)])])
                                .ret)
                              .skip))
                          (.cl ks (.seq
                            (.rg 0 [(none, .v 10 .mv [.k (.i 1)])])
                            (.cl ks (.seq
                              (.rg 0 [(none, .v 47 .mv [.s 8]), (none, .v 48 .mv [.s 10]), (none, .cox (some 49) 18 [.s 47, .s 48] 0), (none, .tk 10 49)])
                              (.cl ks (.seq
                                (.rg 0 [(none, .v 11 .mv [.k (.i 1)])])
                                (.cl ks (.seq
                                  (.rg 0 [(none, .v 50 .mv [.s 8]), (none, .v 51 .mv [.s 11]), (none, .co 52 23 [.s 50, .s 51]), (none, .tk 11 52)])
                                  (.cl ks (.seq
                                    (.seq
                                      (.rg 0 [(none, .v 53 .mv [.s 11]), (none, .v 54 (.bin .lss) [.s 53, .k (.i 0)])])
                                      (.cond (.s 54)
                                        (.seq
                                          (.rg 0 [(none, .v 4 .mv [.k (.b false)])])
                                          .ret)
                                        .skip))
                                    (.cl ks (.seq
                                      (.seq
                                        (.rg 0 [(none, .v 55 .mv [.s 11]), (none, .v 56 .mv [.s 10]), (none, .v 57 (.bin .neq) [.s 55, .s 56])])
                                        (.cond (.s 57)
                                          (.seq
                                            (.rg 0 [(none, .v 4 .mv [.k (.b false)])])
                                            .ret)
                                          .skip))
                                      (.cl ks (.seq
                                        (.rg 0 [(none, .v 58 (.lds 2) [.s 2]), (none, .co 59 11 [.s 58]), (none, .v 60 .mv [.s 1]), (none, .co 61 22 [.s 59, .s 60]), (none, .tk 12 61)])
                                        (.cl ks (.seq
                                          (.seq
                                            (.rg 0 [(none, .v 62 .mv [.s 12]), (none, .v 63 .mv [.s 6]), (none, .co 64 16 [.s 62, .s 63]), (none, .v 65 .not [.s 64])])
                                            (.cond (.s 65)
                                              (.seq
                                                (.rg 0 [(none, .v 4 .mv [.k (.b false)])])
                                                .ret)
                                              .skip))
                                          (.cl ks (.seq
                                            (.rg 0 [(none, .v 11 .mv [.k (.i 1)])])
                                            (.cl ks (.seq
                                              (.rg 0 [(none, .v 66 .mv [.s 8]), (none, .v 67 .mv [.s 11]), (none, .co 68 23 [.s 66, .s 67]), (none, .tk 11 68)])
                                              (.cl ks (.seq
                                                (.seq
                                                  (.rg 0 [(none, .v 69 .mv [.s 11]), (none, .v 70 (.bin .lss) [.s 69, .k (.i 0)])])
                                                  (.cond (.s 70)
                                                    (.seq
                                                      (.rg 0 [(none, .v 4 .mv [.k (.b false)])])
                                                      .ret)
                                                    .skip))
                                                (.cl ks (.seq
                                                  (.seq
                                                    (.rg 0 [(none, .v 71 .mv [.s 11]), (none, .v 72 .mv [.s 10]), (none, .v 73 (.bin .neq) [.s 71, .s 72])])
                                                    (.cond (.s 73)
                                                      (.seq
                                                        (.rg 0 [(none, .v 4 .mv [.k (.b false)])])
                                                        .ret)
                                                      .skip))
                                                  (.cl ks (.seq
                                                    (.rg 0 [(none, .v 4 .mv [.k (.b true)])])
                                                    .ret)))))))))))))))))))))))))))))))))))))))))))))))))

theorem chk_laws_FnExactPartnersOf : ∃ b, Try.f4.body = some b ∧ chk Try.prog Try.f4.ntmps true C_laws_FnExactPartnersOf b = true := ⟨_, rfl, by kernel_rfl⟩
theorem FnExactPartnersOf_ok (x0 y0 : List (List Int)) (a0 : x0.length ≤ 9223372036854775807) (b0 : ∀ r ∈ x0, r.length ≤ 9223372036854775807) (a0' : y0.length ≤ 9223372036854775807) (b0' : ∀ r ∈ y0, r.length ≤ 9223372036854775807) (x1 : Int) (a1 : inR x1) :
    CallOk Try.prog 4 [.a [.s none (rr x0), .s none (rr y0)], .i x1] [(0, .b true)] := by
  obtain ⟨code0, hcd1, hcd2⟩ := chk_laws_FnExactPartnersOf; refine callOk_of Try.func4 hcd1 mo Try.call4 (rs := [4]) (by kernel_rfl) hcd2 (by rw [Try.ntmps4]; simp) (by simp) (by decide) ?_; unfold C_laws_FnExactPartnersOf K_laws_FnExactPartnersOf; simp (config := { maxSteps := 2000000 }) only [go_sem, Nat.reduceBEq, Nat.reduceAdd, Nat.reduceMul, Nat.reduceMod, Nat.reduceLT, Nat.reduceDiv, Nat.reduceSub, Nat.reduceLeDiff, Int.reduceToNat, Int.reduceLT, Int.reduceLE, reduceCtorEq, List.take_nil, List.drop_nil]
  refine ⟨_, szMarket_ok x0 y0 _ (by omega) (by omega) a0 b0 a0' b0', ?_⟩; simp (config := { maxSteps := 2000000 }) only [go_sem, Nat.reduceBEq, Nat.reduceAdd, Nat.reduceMul, Nat.reduceMod, Nat.reduceLT, Nat.reduceDiv, Nat.reduceSub, Nat.reduceLeDiff, Int.reduceToNat, Int.reduceLT, Int.reduceLE, reduceCtorEq, List.take_nil, List.drop_nil]
  refine ⟨fun _ => trivial, fun c0 => ?_⟩
  obtain ⟨c0', c0'', e0'⟩ := szM_ok (by omega) c0
  obtain ⟨h0, k0⟩ := szII_ok (by omega) c0'
  obtain ⟨h0', k0'⟩ := szII_ok e0' c0''
  have t0 : (tot x0 : Int) ≤ 1048576 := Int.le_trans (szII_tot c0') (by omega)
  have t0' : (tot y0 : Int) ≤ 1048576 := Int.le_trans (szII_tot c0'') e0'
  have l0r : (partF x0 y0 x1).length ≤ 1048576 := partF_len k0
  refine ⟨_, toMarket_ok x0 y0 h0 k0 h0' k0', ?_⟩; simp (config := { maxSteps := 2000000 }) only [go_sem, Nat.reduceBEq, Nat.reduceAdd, Nat.reduceMul, Nat.reduceMod, Nat.reduceLT, Nat.reduceDiv, Nat.reduceSub, Nat.reduceLeDiff, Int.reduceToNat, Int.reduceLT, Int.reduceLE, reduceCtorEq, List.take_nil, List.drop_nil]
  refine ⟨_, spec_PartnersOf_ok x0 y0 x1 h0 k0 h0' k0', ?_⟩; simp (config := { maxSteps := 2000000 }) only [go_sem, Nat.reduceBEq, Nat.reduceAdd, Nat.reduceMul, Nat.reduceMod, Nat.reduceLT, Nat.reduceDiv, Nat.reduceSub, Nat.reduceLeDiff, Int.reduceToNat, Int.reduceLT, Int.reduceLE, reduceCtorEq, List.take_nil, List.drop_nil]
  refine ⟨_, toMarket_ok x0 y0 h0 k0 h0' k0', ?_⟩; simp (config := { maxSteps := 2000000 }) only [go_sem, Nat.reduceBEq, Nat.reduceAdd, Nat.reduceMul, Nat.reduceMod, Nat.reduceLT, Nat.reduceDiv, Nat.reduceSub, Nat.reduceLeDiff, Int.reduceToNat, Int.reduceLT, Int.reduceLE, reduceCtorEq, List.take_nil, List.drop_nil]
  refine ⟨_, impl_PartnersOf_ok x0 y0 x1 h0 k0 h0' k0', ?_⟩; simp (config := { maxSteps := 2000000 }) only [go_sem, Nat.reduceBEq, Nat.reduceAdd, Nat.reduceMul, Nat.reduceMod, Nat.reduceLT, Nat.reduceDiv, Nat.reduceSub, Nat.reduceLeDiff, Int.reduceToNat, Int.reduceLT, Int.reduceLE, reduceCtorEq, List.take_nil, List.drop_nil]
  refine ⟨_, eqIntS_ok none none (partF x0 y0 x1) (partF x0 y0 x1) l0r, ?_⟩; simp (config := { maxSteps := 2000000 }) only [go_sem, Nat.reduceBEq, Nat.reduceAdd, Nat.reduceMul, Nat.reduceMod, Nat.reduceLT, Nat.reduceDiv, Nat.reduceSub, Nat.reduceLeDiff, Int.reduceToNat, Int.reduceLT, Int.reduceLE, reduceCtorEq, List.take_nil, List.drop_nil]
  try (first | (refine ⟨fun h => ?_, fun _ => ?_⟩; focus (simp at h; done)) | (refine ⟨fun h => ?_, fun _ => ?_⟩; focus omega) | (refine ⟨fun h => ?_, ?_⟩; focus (exact absurd trivial h)) | (refine ⟨fun _ => ?_, fun h => ?_⟩; rotate_left; focus omega))
  refine ⟨_, toMarket_ok x0 y0 h0 k0 h0' k0', ?_⟩; simp (config := { maxSteps := 2000000 }) only [go_sem, Nat.reduceBEq, Nat.reduceAdd, Nat.reduceMul, Nat.reduceMod, Nat.reduceLT, Nat.reduceDiv, Nat.reduceSub, Nat.reduceLeDiff, Int.reduceToNat, Int.reduceLT, Int.reduceLE, reduceCtorEq, List.take_nil, List.drop_nil]
  refine ⟨_, eqMarket_ok x0 y0 h0 k0 h0' k0', ?_⟩; simp (config := { maxSteps := 2000000 }) only [go_sem, Nat.reduceBEq, Nat.reduceAdd, Nat.reduceMul, Nat.reduceMod, Nat.reduceLT, Nat.reduceDiv, Nat.reduceSub, Nat.reduceLeDiff, Int.reduceToNat, Int.reduceLT, Int.reduceLE, reduceCtorEq, List.take_nil, List.drop_nil]
  try (first | (refine ⟨fun h => ?_, fun _ => ?_⟩; focus (simp at h; done)) | (refine ⟨fun h => ?_, fun _ => ?_⟩; focus omega) | (refine ⟨fun h => ?_, ?_⟩; focus (exact absurd trivial h)) | (refine ⟨fun _ => ?_, fun h => ?_⟩; rotate_left; focus omega))
  refine ⟨_, markMarket_ok x0 y0 _ (by omega) (by omega) h0 k0 h0' k0', ?_⟩; simp (config := { maxSteps := 2000000 }) only [go_sem, Nat.reduceBEq, Nat.reduceAdd, Nat.reduceMul, Nat.reduceMod, Nat.reduceLT, Nat.reduceDiv, Nat.reduceSub, Nat.reduceLeDiff, Int.reduceToNat, Int.reduceLT, Int.reduceLE, reduceCtorEq, List.take_nil, List.drop_nil]
  try (first | (refine ⟨fun h => ?_, fun _ => ?_⟩; focus (simp at h; done)) | (refine ⟨fun h => ?_, fun _ => ?_⟩; focus omega) | (refine ⟨fun h => ?_, ?_⟩; focus (exact absurd trivial h)) | (refine ⟨fun _ => ?_, fun h => ?_⟩; rotate_left; focus omega))
  refine ⟨_, eqIntS_ok none none (partF x0 y0 x1) (partF x0 y0 x1) l0r, ?_⟩; simp (config := { maxSteps := 2000000 }) only [go_sem, Nat.reduceBEq, Nat.reduceAdd, Nat.reduceMul, Nat.reduceMod, Nat.reduceLT, Nat.reduceDiv, Nat.reduceSub, Nat.reduceLeDiff, Int.reduceToNat, Int.reduceLT, Int.reduceLE, reduceCtorEq, List.take_nil, List.drop_nil]
  try (first | (refine ⟨fun h => ?_, fun _ => ?_⟩; focus (simp at h; done)) | (refine ⟨fun h => ?_, fun _ => ?_⟩; focus omega) | (refine ⟨fun h => ?_, ?_⟩; focus (exact absurd trivial h)) | (refine ⟨fun _ => ?_, fun h => ?_⟩; rotate_left; focus omega))
  refine ⟨_, _, _, markIntS_ok _ (partF x0 y0 x1) _ (by omega) (by omega) l0r, ?_⟩; simp (config := { maxSteps := 2000000 }) only [go_sem, Nat.reduceBEq, Nat.reduceAdd, Nat.reduceMul, Nat.reduceMod, Nat.reduceLT, Nat.reduceDiv, Nat.reduceSub, Nat.reduceLeDiff, Int.reduceToNat, Int.reduceLT, Int.reduceLE, reduceCtorEq, List.take_nil, List.drop_nil]
  refine ⟨_, heldIntS_ok none (partF x0 y0 x1).length _ (by omega) (by omega) l0r, ?_⟩; simp (config := { maxSteps := 2000000 }) only [go_sem, Nat.reduceBEq, Nat.reduceAdd, Nat.reduceMul, Nat.reduceMod, Nat.reduceLT, Nat.reduceDiv, Nat.reduceSub, Nat.reduceLeDiff, Int.reduceToNat, Int.reduceLT, Int.reduceLE, reduceCtorEq, List.take_nil, List.drop_nil]
  try (first | (refine ⟨fun h => ?_, fun _ => ?_⟩; focus (simp at h; done)) | (refine ⟨fun h => ?_, fun _ => ?_⟩; focus omega) | (refine ⟨fun h => ?_, ?_⟩; focus (exact absurd trivial h)) | (refine ⟨fun _ => ?_, fun h => ?_⟩; rotate_left; focus omega))
  try (first | (refine ⟨fun h => ?_, fun _ => ?_⟩; focus (simp at h; done)) | (refine ⟨fun h => ?_, fun _ => ?_⟩; focus omega) | (refine ⟨fun h => ?_, ?_⟩; focus (exact absurd trivial h)) | (refine ⟨fun _ => ?_, fun h => ?_⟩; rotate_left; focus omega))
  refine ⟨_, toMarket_ok x0 y0 h0 k0 h0' k0', ?_⟩; simp (config := { maxSteps := 2000000 }) only [go_sem, Nat.reduceBEq, Nat.reduceAdd, Nat.reduceMul, Nat.reduceMod, Nat.reduceLT, Nat.reduceDiv, Nat.reduceSub, Nat.reduceLeDiff, Int.reduceToNat, Int.reduceLT, Int.reduceLE, reduceCtorEq, List.take_nil, List.drop_nil]
  refine ⟨_, impl_PartnersOf_ok x0 y0 x1 h0 k0 h0' k0', ?_⟩; simp (config := { maxSteps := 2000000 }) only [go_sem, Nat.reduceBEq, Nat.reduceAdd, Nat.reduceMul, Nat.reduceMod, Nat.reduceLT, Nat.reduceDiv, Nat.reduceSub, Nat.reduceLeDiff, Int.reduceToNat, Int.reduceLT, Int.reduceLE, reduceCtorEq, List.take_nil, List.drop_nil]
  refine ⟨_, eqIntS_ok none none (partF x0 y0 x1) (partF x0 y0 x1) l0r, ?_⟩; simp (config := { maxSteps := 2000000 }) only [go_sem, Nat.reduceBEq, Nat.reduceAdd, Nat.reduceMul, Nat.reduceMod, Nat.reduceLT, Nat.reduceDiv, Nat.reduceSub, Nat.reduceLeDiff, Int.reduceToNat, Int.reduceLT, Int.reduceLE, reduceCtorEq, List.take_nil, List.drop_nil]
  try (first | (refine ⟨fun h => ?_, fun _ => ?_⟩; focus (simp at h; done)) | (refine ⟨fun h => ?_, fun _ => ?_⟩; focus omega) | (refine ⟨fun h => ?_, ?_⟩; focus (exact absurd trivial h)) | (refine ⟨fun _ => ?_, fun h => ?_⟩; rotate_left; focus omega))
  refine ⟨_, heldIntS_ok none (partF x0 y0 x1).length _ (by omega) (by omega) l0r, ?_⟩; simp (config := { maxSteps := 2000000 }) only [go_sem, Nat.reduceBEq, Nat.reduceAdd, Nat.reduceMul, Nat.reduceMod, Nat.reduceLT, Nat.reduceDiv, Nat.reduceSub, Nat.reduceLeDiff, Int.reduceToNat, Int.reduceLT, Int.reduceLE, reduceCtorEq, List.take_nil, List.drop_nil]
  first | exact ⟨fun h => by omega, fun _ h => absurd trivial h⟩ | trivial
theorem FnExactPartnersOf_lifted (os : Os) (started : os.Started) (H : Type) (enc : TypeId × Value → H) :
    ReturnsInHanded {} Try.checked os 4 .any (Rows.fnExactPartnersOfSpec.pre6 enc Try.prog Try.f4 Rows.fnExactPartnersOfRow.domain false) (Rows.fnExactPartnersOfSpec.post enc Try.prog Try.f4 false true false false) := by
  refine returnsInHanded_of_change (C := Try.checked) ownk started (by as_aux_lemma => kernel_rfl) Try.func4
    (ChangeSpec.witness6 (enc := enc) (C := Try.checked) false ⟨#[], #[.agg #[.slice none 0 0, .slice none 0 0], .int .i64 0], []⟩ 8 (by kernel_rfl) (by kernel_rfl) (by kernel_rfl) (by kernel_rfl)) ?_
  intro W base args ds gs before hval0 hW _ _
  have hval : ∀ (j : Nat) t v, Try.f4.params[j]? = some t → args[j]? = some v → Value.okWide Try.prog W .any base t v := hval0
  have hW' := hW
  obtain ⟨p, q, hA0, _⟩ := hW
  have hA : DataW.TrodAll enc Try.prog W 0 (fun _ => true) true Try.f4.params.toList args.toList ds p := hA0
  rw [Try.params4] at hA hval
  clear hA0 hval0
  obtain ⟨v0, v1, d0, d1, p0, p1, rfl, rfl, rfl, h0, h1⟩ := trodAll_two hA
  obtain ⟨x0, y0, a0, b0, a0', b0', f0⟩ := fz_rows2 Try.underlying24 (by kernel_rfl : Try.prog.cellsOf 24 = 2) rfl rfl (by kernel_rfl : Try.prog.cellsOf 22 = 1) (by kernel_rfl : Try.prog.cellsOf 22 = 1) Try.underlying22 Try.underlying22 Try.underlying25 Try.underlying3 (by kernel_rfl : Try.prog.cellsOf 25 = 1) (by kernel_rfl : Try.prog.cellsOf 3 = 1) (hval 0 24 v0 rfl rfl) h0
  obtain ⟨x1, a1, f1⟩ := fz_int Try.underlying3 (hval 1 3 v1 rfl rfl) h1
  exact law_post (P := Try.prog) pfacts.laid (fun t ht => by rw [Try.params4] at ht; revert t; simp only [List.mem_cons, List.not_mem_nil, or_false, forall_eq_or_imp, forall_eq]; exact ⟨⟨by kernel_rfl, of_decide_eq_true (by kernel_rfl)⟩, ⟨by kernel_rfl, of_decide_eq_true (by kernel_rfl)⟩⟩) rfl (by kernel_rfl) rfl (fun ds hds => by
    have hds : ds.length = 2 := hds
    match ds, hds with
    | [d0, d1], _ => rfl) hW' (ts := [.a [.s none (rr x0), .s none (rr y0)], .i x1]) (by simp only [FzL]; exact ⟨_, _, rfl, f0, ⟨_, _, rfl, f1, rfl⟩⟩) (FnExactPartnersOf_ok x0 y0 a0 b0 a0' b0' x1 a1)
theorem FnExactPartnersOf_holds : Rows.FnExactPartnersOfSaid :=
  OpenClaim.holds_of_wide (p := Try.pinned) (s := Rows.fnExactPartnersOfSpec) (c := Rows.fnExactPartnersOfRow) 4 Try.f4 rfl rfl rfl rfl rfl rfl rfl ⟨rfl, rfl, rfl, rfl, rfl⟩ rfl rfl rfl rfl rfl (by as_aux_lemma => kernel_rfl) Try.func4 (joined_of pfacts rfl rfl rfl (by as_aux_lemma => kernel_rfl) (by as_aux_lemma => kernel_rfl) (by as_aux_lemma => kernel_rfl) (by as_aux_lemma => kernel_rfl) (by as_aux_lemma => kernel_rfl) (by as_aux_lemma => kernel_rfl) (by as_aux_lemma => kernel_rfl) (by as_aux_lemma => kernel_rfl) (by as_aux_lemma => kernel_rfl) (by as_aux_lemma => kernel_rfl) (by as_aux_lemma => kernel_rfl) (by as_aux_lemma => kernel_rfl) (by as_aux_lemma => kernel_rfl) (by as_aux_lemma => kernel_rfl) (by as_aux_lemma => kernel_rfl) (by as_aux_lemma => kernel_rfl) (by as_aux_lemma => kernel_rfl) (by as_aux_lemma => kernel_rfl) (by as_aux_lemma => kernel_rfl) (by as_aux_lemma => kernel_rfl) (by as_aux_lemma => kernel_rfl) (by as_aux_lemma => kernel_rfl) (by as_aux_lemma => kernel_rfl))
    (of_decide_eq_true (by kernel_rfl)) (by unfold Func.isWrapper; rw [if_neg (of_decide_eq_false (by kernel_rfl))]; exact ⟨rfl, rfl⟩)
    (fun os started H enc _ => FnExactPartnersOf_lifted os started H enc)

end Go.Proofs.Ytnbehgmfdigknaa
