/- At every input the law below returns true and leaves its arguments alone: SeatTable of the program returns what that of the reference returns, in memory of its own. No condition. -/
import Derived.Test.YteokhomdbdafdaaRows
import Derived.Test.YteokhomdbdafdaaTable
import Derived.Test.YteokhomdbdafdaaFacts
import Derived.Test.YteokhomdbdafdaaMarks
namespace Go.Proofs.Yteokhomdbdafdaa
open Go Go.Vc
set_option maxRecDepth 100000
set_option linter.unusedSimpArgs false
set_option linter.unusedVariables false
open Go.ChangeShapes Go.WideShapes Go.RowKit
theorem tab_len {m : Int} {cs : List Int} {t : Int} : (tabF m cs t).length ≤ 1048576 ∧ (∀ r ∈ tabF m cs t, r.length ≤ 1048576) ∧ tot (tabF m cs t) ≤ 1048576 := by
  unfold tabF
  by_cases h : inI t 0 30 = true ∧ giveB m cs 0 = true
  · rw [if_pos h]
    have ht : 0 ≤ t ∧ t ≤ 30 := by simpa [inI] using h.1
    have row : ∀ j : Nat, j ≤ 30 → (giveF m cs (j : Nat)).length ≤ 6 := fun j hj => by
      have G := give_of (m := m) (cs := cs) (n := (j : Nat)) (by rw [giveB_mono (by omega) (by omega)]; exact h.2)
      rw [G.len]; exact G.ask.l6
    have tt : ∀ k : Nat, k ≤ 31 → tot (tabL m cs k) ≤ 6 * k := fun k => by
      induction k with
      | zero => intro _; simp [tabL, tot]
      | succ k ih => intro hk; rw [tabL_s, tot_snoc]; have := ih (by omega); have := row k (by omega); omega
    refine ⟨by rw [tabL_len]; omega, fun r hr => ?_, by have := tt (t.toNat + 1) (by omega); omega⟩
    obtain ⟨j, hj, rfl⟩ := List.mem_map.1 hr
    have := row j (by have := List.mem_range.1 hj; omega)
    omega
  · rw [if_neg h]; simp [tot]
def K_laws_FnExactSeatTable : List Nat := [0, 1, 2, 6, 7, 8, 9, 10, 11, 12, 13]
def C_laws_FnExactSeatTable : C :=
  let ks := K_laws_FnExactSeatTable
  (.seq
    (.rg 0 [(none, .v 6 .mv [.k (.b false)])])
    (.cl ks (.seq
      (.seq
        (.rg 0 [(none, .v 14 .mv [.s 1]), (none, .v 15 .len [.s 14]), (none, .v 16 (.bin .gtr) [.s 15, .k (.i 1048576)])])
        (.cond (.s 16)
          (.seq
            (.rg 0 [(none, .v 6 .mv [.k (.b true)])])
            .ret)
          .skip))
      (.cl ks (.seq
        (.rg 0 [(none, .v 17 .mv [.s 0]), (none, .v 18 .mv [.s 1]), (none, .co 19 39 [.s 18]), (none, .v 20 .mv [.s 2]), (none, .co 21 48 [.s 17, .s 19, .s 20]), (none, .tk 7 21)])
        (.cl ks (.seq
          (.rg 0 [(none, .v 22 .mv [.s 1]), (none, .co 23 39 [.s 22]), (none, .tk 8 23)])
          (.cl ks (.seq
            (.rg 0 [(none, .v 24 .mv [.s 0]), (none, .v 25 .mv [.s 8]), (none, .v 26 .mv [.s 2]), (none, .co 27 21 [.s 24, .s 25, .s 26]), (none, .tk 9 27)])
            (.cl ks (.seq
              (.seq
                (.rg 0 [(none, .v 28 .mv [.s 9]), (none, .v 29 .mv [.s 7]), (none, .co 30 49 [.s 28, .s 29]), (none, .v 31 .not [.s 30])])
                (.cond (.s 31)
                  (.seq
                    (.rg 0 [(none, .v 6 .mv [.k (.b false)])])
                    .ret)
                  .skip))
              (.cl ks (.seq
                (.seq
                  (.rg 0 [(none, .v 32 .mv [.s 8]), (none, .v 33 .mv [.s 1]), (none, .co 34 39 [.s 33]), (none, .co 35 40 [.s 32, .s 34]), (none, .v 36 .not [.s 35])])
                  (.cond (.s 36)
                    (.seq
                      (.rg 0 [(none, .v 6 .mv [.k (.b false)])])
                      .ret)
                    .skip))
                (.cl ks (.seq
                  (.rg 0 [(none, .v 10 .mv [.k (.i 1)])])
                  (.cl ks (.seq
                    (.rg 0 [(none, .v 37 .mv [.s 8]), (none, .v 38 .mv [.s 10]), (none, .cox (some 39) 41 [.s 37, .s 38] 0), (none, .tk 10 39)])
                    (.cl ks (.seq
                      (.seq
                        (.rg 0 [(none, .v 40 .mv [.s 10]), (none, .v 41 (.bin .lss) [.s 40, .k (.i 0)]), (none, .v 42 .mv [.s 41]), (some (42, false), .v 43 .mv [.s 9]), (some (42, false), .v 44 .mv [.s 7]), (some (42, false), .co 45 49 [.s 43, .s 44]), (some (42, false), .v 46 .not [.s 45]), (none, .v 47 .pick [.s 42, .k (.b true), .s 46])])
                        (.cond (.s 47)
                          (.seq
                            (.rg 0 [(none, .v 6 .mv [.k (.b false)])])
                            .ret)
                          .skip))
                      (.cl ks (.seq
                        (.rg 0 [(none, .v 11 .mv [.k (.i 1)])])
                        (.cl ks (.seq
                          (.rg 0 [(none, .v 48 .mv [.s 9]), (none, .v 49 .mv [.s 11]), (none, .cox (some 50) 50 [.s 48, .s 49] 0), (none, .tk 11 50)])
                          (.cl ks (.seq
                            (.rg 0 [(none, .v 12 .mv [.k (.i 1)])])
                            (.cl ks (.seq
                              (.rg 0 [(none, .v 51 .mv [.s 9]), (none, .v 52 .mv [.s 12]), (none, .co 53 51 [.s 51, .s 52]), (none, .tk 12 53)])
                              (.cl ks (.seq
                                (.seq
                                  (.rg 0 [(none, .v 54 .mv [.s 12]), (none, .v 55 (.bin .lss) [.s 54, .k (.i 0)])])
                                  (.cond (.s 55)
                                    (.seq
                                      (.rg 0 [(none, .v 6 .mv [.k (.b false)])])
                                      .ret)
                                    .skip))
                                (.cl ks (.seq
                                  (.seq
                                    (.rg 0 [(none, .v 56 .mv [.s 12]), (none, .v 57 .mv [.s 11]), (none, .v 58 (.bin .neq) [.s 56, .s 57])])
                                    (.cond (.s 58)
                                      (.seq
                                        (.rg 0 [(none, .v 6 .mv [.k (.b false)])])
                                        .ret)
                                      .skip))
                                  (.cl ks (.seq
                                    (.rg 0 [(none, .v 59 .mv [.s 0]), (none, .v 60 .mv [.s 1]), (none, .co 61 39 [.s 60]), (none, .v 62 .mv [.s 2]), (none, .co 63 21 [.s 59, .s 61, .s 62]), (none, .tk 13 63)])
                                    (.cl ks (.seq
                                      (.seq
                                        (.rg 0 [(none, .v 64 .mv [.s 13]), (none, .v 65 .mv [.s 7]), (none, .co 66 49 [.s 64, .s 65]), (none, .v 67 .not [.s 66])])
                                        (.cond (.s 67)
                                          (.seq
                                            (.rg 0 [(none, .v 6 .mv [.k (.b false)])])
                                            .ret)
                                          .skip))
                                      (.cl ks (.seq
                                        (.rg 0 [(none, .v 12 .mv [.k (.i 1)])])
                                        (.cl ks (.seq
                                          (.rg 0 [(none, .v 68 .mv [.s 9]), (none, .v 69 .mv [.s 12]), (none, .co 70 51 [.s 68, .s 69]), (none, .tk 12 70)])
                                          (.cl ks (.seq
                                            (.seq
                                              (.rg 0 [(none, .v 71 .mv [.s 12]), (none, .v 72 (.bin .lss) [.s 71, .k (.i 0)])])
                                              (.cond (.s 72)
                                                (.seq
                                                  (.rg 0 [(none, .v 6 .mv [.k (.b false)])])
                                                  .ret)
                                                .skip))
                                            (.cl ks (.seq
                                              (.seq
                                                (.rg 0 [(none, .v 73 .mv [.s 12]), (none, .v 74 .mv [.s 11]), (none, .v 75 (.bin .neq) [.s 73, .s 74])])
                                                (.cond (.s 75)
                                                  (.seq
                                                    (.rg 0 [(none, .v 6 .mv [.k (.b false)])])
                                                    .ret)
                                                  .skip))
                                              (.cl ks (.seq
                                                (.rg 0 [(none, .v 6 .mv [.k (.b true)])])
                                                .ret)))))))))))))))))))))))))))))))))))))))))))))

theorem chk_laws_FnExactSeatTable : ∃ b, Try.f11.body = some b ∧ chk Try.prog Try.f11.ntmps true C_laws_FnExactSeatTable b = true := ⟨_, rfl, by kernel_rfl⟩
theorem FnExactSeatTable_ok (x0 : Int) (a0 : inR x0) (x1 : List Int) (a1 : x1.length ≤ 9223372036854775807) (x2 : Int) (a2 : inR x2) :
    CallOk Try.prog 11 [.i x0, .s none (ii x1), .i x2] [(0, .b true)] := by
  obtain ⟨code0, hcd1, hcd2⟩ := chk_laws_FnExactSeatTable; refine callOk_of Try.func11 hcd1 mo Try.call11 (rs := [6]) (by kernel_rfl) hcd2 (by rw [Try.ntmps11]; simp) (by simp) (by decide) ?_; unfold C_laws_FnExactSeatTable K_laws_FnExactSeatTable; simp (config := { maxSteps := 2000000 }) only [go_sem, Nat.reduceBEq, Nat.reduceAdd, Nat.reduceMul, Nat.reduceMod, Nat.reduceLT, Nat.reduceDiv, Nat.reduceSub, Nat.reduceLeDiff, Int.reduceToNat, Int.reduceLT, Int.reduceLE, reduceCtorEq, List.take_nil, List.drop_nil]
  refine ⟨fun _ => trivial, fun c1 => ?_⟩
  have h1 : x1.length ≤ 1048576 := by omega
  obtain ⟨l0r, m0r, t0r⟩ : (tabF x0 x1 x2).length ≤ 1048576 ∧ (∀ r ∈ (tabF x0 x1 x2), r.length ≤ 1048576) ∧ tot (tabF x0 x1 x2) ≤ 1048576 := tab_len
  refine ⟨_, toIntS_ok none x1 h1, ?_⟩; simp (config := { maxSteps := 2000000 }) only [go_sem, Nat.reduceBEq, Nat.reduceAdd, Nat.reduceMul, Nat.reduceMod, Nat.reduceLT, Nat.reduceDiv, Nat.reduceSub, Nat.reduceLeDiff, Int.reduceToNat, Int.reduceLT, Int.reduceLE, reduceCtorEq, List.take_nil, List.drop_nil]
  refine ⟨_, spec_SeatTable_ok x0 x1 x2 h1, ?_⟩; simp (config := { maxSteps := 2000000 }) only [go_sem, Nat.reduceBEq, Nat.reduceAdd, Nat.reduceMul, Nat.reduceMod, Nat.reduceLT, Nat.reduceDiv, Nat.reduceSub, Nat.reduceLeDiff, Int.reduceToNat, Int.reduceLT, Int.reduceLE, reduceCtorEq, List.take_nil, List.drop_nil]
  refine ⟨_, toIntS_ok none x1 h1, ?_⟩; simp (config := { maxSteps := 2000000 }) only [go_sem, Nat.reduceBEq, Nat.reduceAdd, Nat.reduceMul, Nat.reduceMod, Nat.reduceLT, Nat.reduceDiv, Nat.reduceSub, Nat.reduceLeDiff, Int.reduceToNat, Int.reduceLT, Int.reduceLE, reduceCtorEq, List.take_nil, List.drop_nil]
  refine ⟨_, impl_SeatTable_ok x0 x1 x2 h1, ?_⟩; simp (config := { maxSteps := 2000000 }) only [go_sem, Nat.reduceBEq, Nat.reduceAdd, Nat.reduceMul, Nat.reduceMod, Nat.reduceLT, Nat.reduceDiv, Nat.reduceSub, Nat.reduceLeDiff, Int.reduceToNat, Int.reduceLT, Int.reduceLE, reduceCtorEq, List.take_nil, List.drop_nil]
  refine ⟨_, eqIntSS_ok none none (tabF x0 x1 x2) (tabF x0 x1 x2) l0r m0r, ?_⟩; simp (config := { maxSteps := 2000000 }) only [go_sem, Nat.reduceBEq, Nat.reduceAdd, Nat.reduceMul, Nat.reduceMod, Nat.reduceLT, Nat.reduceDiv, Nat.reduceSub, Nat.reduceLeDiff, Int.reduceToNat, Int.reduceLT, Int.reduceLE, reduceCtorEq, List.take_nil, List.drop_nil]
  try (first | (refine ⟨fun h => ?_, fun _ => ?_⟩; focus (simp at h; done)) | (refine ⟨fun h => ?_, fun _ => ?_⟩; focus omega) | (refine ⟨fun h => ?_, ?_⟩; focus (exact absurd trivial h)) | (refine ⟨fun _ => ?_, fun h => ?_⟩; rotate_left; focus omega))
  refine ⟨_, toIntS_ok none x1 h1, ?_⟩; simp (config := { maxSteps := 2000000 }) only [go_sem, Nat.reduceBEq, Nat.reduceAdd, Nat.reduceMul, Nat.reduceMod, Nat.reduceLT, Nat.reduceDiv, Nat.reduceSub, Nat.reduceLeDiff, Int.reduceToNat, Int.reduceLT, Int.reduceLE, reduceCtorEq, List.take_nil, List.drop_nil]
  refine ⟨_, eqIntS_ok _ _ x1 x1 h1, ?_⟩; simp (config := { maxSteps := 2000000 }) only [go_sem, Nat.reduceBEq, Nat.reduceAdd, Nat.reduceMul, Nat.reduceMod, Nat.reduceLT, Nat.reduceDiv, Nat.reduceSub, Nat.reduceLeDiff, Int.reduceToNat, Int.reduceLT, Int.reduceLE, reduceCtorEq, List.take_nil, List.drop_nil]
  try (first | (refine ⟨fun h => ?_, fun _ => ?_⟩; focus (simp at h; done)) | (refine ⟨fun h => ?_, fun _ => ?_⟩; focus omega) | (refine ⟨fun h => ?_, ?_⟩; focus (exact absurd trivial h)) | (refine ⟨fun _ => ?_, fun h => ?_⟩; rotate_left; focus omega))
  refine ⟨_, _, _, markIntS_ok _ x1 _ (by omega) (by omega) h1, ?_⟩; simp (config := { maxSteps := 2000000 }) only [go_sem, Nat.reduceBEq, Nat.reduceAdd, Nat.reduceMul, Nat.reduceMod, Nat.reduceLT, Nat.reduceDiv, Nat.reduceSub, Nat.reduceLeDiff, Int.reduceToNat, Int.reduceLT, Int.reduceLE, reduceCtorEq, List.take_nil, List.drop_nil]
  try (first | (refine ⟨fun h => ?_, fun _ => ?_⟩; focus (simp at h; done)) | (refine ⟨fun h => ?_, fun _ => ?_⟩; focus omega) | (refine ⟨fun h => ?_, ?_⟩; focus (exact absurd trivial h)) | (refine ⟨fun _ => ?_, fun h => ?_⟩; rotate_left; focus omega))
  refine ⟨_, eqIntSS_ok none none (tabF x0 x1 x2) (tabF x0 x1 x2) l0r m0r, ?_⟩; simp (config := { maxSteps := 2000000 }) only [go_sem, Nat.reduceBEq, Nat.reduceAdd, Nat.reduceMul, Nat.reduceMod, Nat.reduceLT, Nat.reduceDiv, Nat.reduceSub, Nat.reduceLeDiff, Int.reduceToNat, Int.reduceLT, Int.reduceLE, reduceCtorEq, List.take_nil, List.drop_nil]
  try (first | (refine ⟨fun h => ?_, fun _ => ?_⟩; focus (simp at h; done)) | (refine ⟨fun h => ?_, fun _ => ?_⟩; focus omega) | (refine ⟨fun h => ?_, ?_⟩; focus (exact absurd trivial h)) | (refine ⟨fun _ => ?_, fun h => ?_⟩; rotate_left; focus omega))
  refine ⟨_, _, _, markIntSS_ok _ (tabF x0 x1 x2) _ (by omega) (by omega) l0r m0r, ?_⟩; simp (config := { maxSteps := 2000000 }) only [go_sem, Nat.reduceBEq, Nat.reduceAdd, Nat.reduceMul, Nat.reduceMod, Nat.reduceLT, Nat.reduceDiv, Nat.reduceSub, Nat.reduceLeDiff, Int.reduceToNat, Int.reduceLT, Int.reduceLE, reduceCtorEq, List.take_nil, List.drop_nil]
  refine ⟨_, heldIntSS_ok none (tabF x0 x1 x2) _ (by omega) (by omega) l0r m0r, ?_⟩; simp (config := { maxSteps := 2000000 }) only [go_sem, Nat.reduceBEq, Nat.reduceAdd, Nat.reduceMul, Nat.reduceMod, Nat.reduceLT, Nat.reduceDiv, Nat.reduceSub, Nat.reduceLeDiff, Int.reduceToNat, Int.reduceLT, Int.reduceLE, reduceCtorEq, List.take_nil, List.drop_nil]
  try (first | (refine ⟨fun h => ?_, fun _ => ?_⟩; focus (simp at h; done)) | (refine ⟨fun h => ?_, fun _ => ?_⟩; focus omega) | (refine ⟨fun h => ?_, ?_⟩; focus (exact absurd trivial h)) | (refine ⟨fun _ => ?_, fun h => ?_⟩; rotate_left; focus omega))
  try (first | (refine ⟨fun h => ?_, fun _ => ?_⟩; focus (simp at h; done)) | (refine ⟨fun h => ?_, fun _ => ?_⟩; focus omega) | (refine ⟨fun h => ?_, ?_⟩; focus (exact absurd trivial h)) | (refine ⟨fun _ => ?_, fun h => ?_⟩; rotate_left; focus omega))
  refine ⟨_, toIntS_ok none x1 h1, ?_⟩; simp (config := { maxSteps := 2000000 }) only [go_sem, Nat.reduceBEq, Nat.reduceAdd, Nat.reduceMul, Nat.reduceMod, Nat.reduceLT, Nat.reduceDiv, Nat.reduceSub, Nat.reduceLeDiff, Int.reduceToNat, Int.reduceLT, Int.reduceLE, reduceCtorEq, List.take_nil, List.drop_nil]
  refine ⟨_, impl_SeatTable_ok x0 x1 x2 h1, ?_⟩; simp (config := { maxSteps := 2000000 }) only [go_sem, Nat.reduceBEq, Nat.reduceAdd, Nat.reduceMul, Nat.reduceMod, Nat.reduceLT, Nat.reduceDiv, Nat.reduceSub, Nat.reduceLeDiff, Int.reduceToNat, Int.reduceLT, Int.reduceLE, reduceCtorEq, List.take_nil, List.drop_nil]
  refine ⟨_, eqIntSS_ok none none (tabF x0 x1 x2) (tabF x0 x1 x2) l0r m0r, ?_⟩; simp (config := { maxSteps := 2000000 }) only [go_sem, Nat.reduceBEq, Nat.reduceAdd, Nat.reduceMul, Nat.reduceMod, Nat.reduceLT, Nat.reduceDiv, Nat.reduceSub, Nat.reduceLeDiff, Int.reduceToNat, Int.reduceLT, Int.reduceLE, reduceCtorEq, List.take_nil, List.drop_nil]
  try (first | (refine ⟨fun h => ?_, fun _ => ?_⟩; focus (simp at h; done)) | (refine ⟨fun h => ?_, fun _ => ?_⟩; focus omega) | (refine ⟨fun h => ?_, ?_⟩; focus (exact absurd trivial h)) | (refine ⟨fun _ => ?_, fun h => ?_⟩; rotate_left; focus omega))
  refine ⟨_, heldIntSS_ok none (tabF x0 x1 x2) _ (by omega) (by omega) l0r m0r, ?_⟩; simp (config := { maxSteps := 2000000 }) only [go_sem, Nat.reduceBEq, Nat.reduceAdd, Nat.reduceMul, Nat.reduceMod, Nat.reduceLT, Nat.reduceDiv, Nat.reduceSub, Nat.reduceLeDiff, Int.reduceToNat, Int.reduceLT, Int.reduceLE, reduceCtorEq, List.take_nil, List.drop_nil]
  first | exact ⟨fun h => by omega, fun _ h => absurd trivial h⟩ | trivial
theorem FnExactSeatTable_lifted (os : Os) (started : os.Started) (H : Type) (enc : TypeId × Value → H) :
    ReturnsInHanded {} Try.checked os 11 .any (Rows.fnExactSeatTableSpec.pre6 enc Try.prog Try.f11 Rows.fnExactSeatTableRow.domain false) (Rows.fnExactSeatTableSpec.post enc Try.prog Try.f11 false true false false) := by
  refine returnsInHanded_of_change (C := Try.checked) ownk started (by as_aux_lemma => kernel_rfl) Try.func11
    (ChangeSpec.witness6 (enc := enc) (C := Try.checked) false ⟨#[], #[.int .i64 0, .slice none 0 0, .int .i64 0], []⟩ 8 (by kernel_rfl) (by kernel_rfl) (by kernel_rfl) (by kernel_rfl)) ?_
  intro W base args ds gs before hval0 hW _ _
  have hval : ∀ (j : Nat) t v, Try.f11.params[j]? = some t → args[j]? = some v → Value.okWide Try.prog W .any base t v := hval0
  have hW' := hW
  obtain ⟨p, q, hA0, _⟩ := hW
  have hA : DataW.TrodAll enc Try.prog W 0 (fun _ => true) true Try.f11.params.toList args.toList ds p := hA0
  rw [Try.params11] at hA hval
  clear hA0 hval0
  obtain ⟨v0, v1, v2, d0, d1, d2, p0, p1, p2, rfl, rfl, rfl, h0, h1, h2⟩ := trodAll_three hA
  obtain ⟨x0, a0, f0⟩ := fz_int Try.underlying3 (hval 0 3 v0 rfl rfl) h0
  obtain ⟨x1, a1, f1⟩ := fz_ints Try.underlying23 Try.underlying3 (by kernel_rfl : Try.prog.cellsOf 3 = 1) (hval 1 23 v1 rfl rfl) h1
  obtain ⟨x2, a2, f2⟩ := fz_int Try.underlying3 (hval 2 3 v2 rfl rfl) h2
  exact law_post (P := Try.prog) pfacts.laid (fun t ht => by rw [Try.params11] at ht; revert t; simp only [List.mem_cons, List.not_mem_nil, or_false, forall_eq_or_imp, forall_eq]; exact ⟨⟨by kernel_rfl, of_decide_eq_true (by kernel_rfl)⟩, ⟨by kernel_rfl, of_decide_eq_true (by kernel_rfl)⟩, ⟨by kernel_rfl, of_decide_eq_true (by kernel_rfl)⟩⟩) rfl (by kernel_rfl) rfl (fun ds hds => by
    have hds : ds.length = 3 := hds
    match ds, hds with
    | [d0, d1, d2], _ => rfl) hW' (ts := [.i x0, .s none (ii x1), .i x2]) (by simp only [FzL]; exact ⟨_, _, rfl, f0, ⟨_, _, rfl, f1, ⟨_, _, rfl, f2, rfl⟩⟩⟩) (FnExactSeatTable_ok x0 a0 x1 a1 x2 a2)
theorem FnExactSeatTable_holds : Rows.FnExactSeatTableSaid :=
  OpenClaim.holds_of_wide (p := Try.pinned) (s := Rows.fnExactSeatTableSpec) (c := Rows.fnExactSeatTableRow) 11 Try.f11 rfl rfl rfl rfl rfl rfl rfl ⟨rfl, rfl, rfl, rfl, rfl⟩ rfl rfl rfl rfl rfl (by as_aux_lemma => kernel_rfl) Try.func11 (joined_of pfacts rfl rfl rfl (by as_aux_lemma => kernel_rfl) (by as_aux_lemma => kernel_rfl) (by as_aux_lemma => kernel_rfl) (by as_aux_lemma => kernel_rfl) (by as_aux_lemma => kernel_rfl) (by as_aux_lemma => kernel_rfl) (by as_aux_lemma => kernel_rfl) (by as_aux_lemma => kernel_rfl) (by as_aux_lemma => kernel_rfl) (by as_aux_lemma => kernel_rfl) (by as_aux_lemma => kernel_rfl) (by as_aux_lemma => kernel_rfl) (by as_aux_lemma => kernel_rfl) (by as_aux_lemma => kernel_rfl) (by as_aux_lemma => kernel_rfl) (by as_aux_lemma => kernel_rfl) (by as_aux_lemma => kernel_rfl) (by as_aux_lemma => kernel_rfl) (by as_aux_lemma => kernel_rfl) (by as_aux_lemma => kernel_rfl) (by as_aux_lemma => kernel_rfl) (by as_aux_lemma => kernel_rfl) (by as_aux_lemma => kernel_rfl))
    (of_decide_eq_true (by kernel_rfl)) (by unfold Func.isWrapper; rw [if_neg (of_decide_eq_false (by kernel_rfl))]; exact ⟨rfl, rfl⟩)
    (fun os started H enc _ => FnExactSeatTable_lifted os started H enc)

end Go.Proofs.Yteokhomdbdafdaa
