/- Own work: contracts of functions that the claim reaches. No condition beyond those that each theorem names. -/
import Derived.Test.YtfdoddeccnjcmaaProg
import Derived.Test.YtfdoddeccnjcmaaSlices
namespace Go.Proofs.Ytfdoddeccnjcmaa
open Go Go.Vc
set_option maxRecDepth 100000
set_option linter.unusedSimpArgs false
set_option linter.unusedVariables false
def K_impl_within : List Nat := [0, 1, 2, 6]
def C_impl_within : C :=
  let ks := K_impl_within
  (.seq
    (.rg 0 [(none, .v 6 .mv [.k (.b false)])])
    (.cl ks (.seq
      (.rg 0 [(none, .v 7 .mv [.s 0]), (none, .v 8 .mv [.s 1]), (none, .v 9 (.bin .geq) [.s 7, .s 8]), (none, .v 10 .mv [.s 9]), (some (10, true), .v 11 .mv [.s 0]), (some (10, true), .v 12 .mv [.s 2]), (some (10, true), .v 13 (.bin .leq) [.s 11, .s 12]), (none, .v 14 .pick [.s 10, .s 13, .k (.b false)]), (none, .tk 6 14)])
      .ret)))

theorem chk_impl_within : ∃ b, Try.f69.body = some b ∧ chk Try.prog Try.f69.ntmps true C_impl_within b = true := ⟨_, rfl, by kernel_rfl⟩
def K_spec_l01In : List Nat := [0, 1, 2, 6]
def C_spec_l01In : C :=
  let ks := K_spec_l01In
  (.seq
    (.rg 0 [(none, .v 6 .mv [.k (.b false)])])
    (.cl ks (.seq
      (.rg 0 [(none, .v 7 .mv [.s 0]), (none, .v 8 .mv [.s 1]), (none, .v 9 (.bin .geq) [.s 7, .s 8]), (none, .v 10 .mv [.s 9]), (some (10, true), .v 11 .mv [.s 0]), (some (10, true), .v 12 .mv [.s 2]), (some (10, true), .v 13 (.bin .leq) [.s 11, .s 12]), (none, .v 14 .pick [.s 10, .s 13, .k (.b false)]), (none, .tk 6 14)])
      .ret)))

theorem chk_spec_l01In : ∃ b, Try.f95.body = some b ∧ chk Try.prog Try.f95.ntmps true C_spec_l01In b = true := ⟨_, rfl, by kernel_rfl⟩
def K_impl_allWithin : List Nat := [0, 1, 2, 4, 5, 6, 1004, 1005]
def C_impl_allWithin : C :=
  let ks := K_impl_allWithin
  (.seq
    (.rg 0 [(none, .box 4 (.s 1)), (none, .box 5 (.s 2)), (none, .v 6 .mv [.k (.b false)])])
    (.cl ks (.seq
      (.rg 0 [(none, .v 7 .mv [.s 0]), (none, .v 8 (.clo 135) [.s 4, .s 5]), (none, .co 9 116 [.s 7, .s 8]), (none, .v 10 .not [.s 9]), (none, .tk 6 10)])
      .ret)))

theorem chk_impl_allWithin : ∃ b, Try.f82.body = some b ∧ chk Try.prog Try.f82.ntmps true C_impl_allWithin b = true := ⟨_, rfl, by kernel_rfl⟩
def K_impl_allWithin_1 : List Nat := [0, 1, 2, 4]
def C_impl_allWithin_1 : C :=
  let ks := K_impl_allWithin_1
  (.seq
    (.rg 0 [(none, .v 4 .mv [.k (.b false)])])
    (.cl ks (.seq
      (.rg 0 [(none, .v 5 .mv [.s 0]), (none, .v 6 .ld [.s 1]), (none, .v 7 .ld [.s 2]), (none, .co 8 69 [.s 5, .s 6, .s 7]), (none, .v 9 .not [.s 8]), (none, .tk 4 9)])
      .ret)))

theorem chk_impl_allWithin_1 : ∃ b, Try.f135.body = some b ∧ chk Try.prog Try.f135.ntmps true C_impl_allWithin_1 b = true := ⟨_, rfl, by kernel_rfl⟩
def K_impl_rectangle : List Nat := [0, 1, 2, 3, 4, 7, 8, 1004, 1007]
def C_impl_rectangle : C :=
  let ks := K_impl_rectangle
  (.seq
    (.rg 0 [(none, .box 4 (.s 0)), (none, .box 7 (.s 3)), (none, .v 8 .mv [.k (.b false)])])
    (.cl ks (.seq
      (.seq
        (.rg 0 [(none, .v 9 .ld [.s 4]), (none, .v 10 .len [.s 9]), (none, .v 11 .mv [.s 1]), (none, .co 12 69 [.s 10, .k (.i 1), .s 11]), (none, .v 13 .not [.s 12]), (none, .v 14 .mv [.s 13]), (some (14, false), .v 15 .ld [.s 4]), (some (14, false), .v 16 .idx [.s 15, .k (.i 0)]), (some (14, false), .v 17 .ld [.s 16]), (some (14, false), .v 18 .len [.s 17]), (some (14, false), .v 19 .mv [.s 2]), (some (14, false), .co 20 69 [.s 18, .k (.i 1), .s 19]), (some (14, false), .v 21 .not [.s 20]), (none, .v 22 .pick [.s 14, .k (.b true), .s 21])])
        (.cond (.s 22)
          (.seq
            (.rg 0 [(none, .v 8 .mv [.k (.b false)])])
            .ret)
          .skip))
      (.cl ks (.seq
        (.rg 0 [(none, .v 23 .ld [.s 4]), (none, .v 24 (.clo 153) [.s 4, .s 7]), (none, .co 25 140 [.s 23, .s 24]), (none, .v 26 .not [.s 25]), (none, .tk 8 26)])
        .ret)))))

theorem chk_impl_rectangle : ∃ b, Try.f114.body = some b ∧ chk Try.prog Try.f114.ntmps true C_impl_rectangle b = true := ⟨_, rfl, by kernel_rfl⟩
def K_impl_rectangle_1 : List Nat := [0, 1, 2, 4]
def C_impl_rectangle_1 : C :=
  let ks := K_impl_rectangle_1
  (.seq
    (.rg 0 [(none, .v 4 .mv [.k (.b false)])])
    (.cl ks (.seq
      (.rg 0 [(none, .v 5 .mv [.s 0]), (none, .v 6 .len [.s 5]), (none, .v 7 .ld [.s 1]), (none, .v 8 .idx [.s 7, .k (.i 0)]), (none, .v 9 .ld [.s 8]), (none, .v 10 .len [.s 9]), (none, .v 11 (.bin .neq) [.s 6, .s 10]), (none, .v 12 .mv [.s 11]), (some (12, false), .v 13 .mv [.s 0]), (some (12, false), .v 14 .ld [.s 2]), (some (12, false), .co 15 82 [.s 13, .k (.i 0), .s 14]), (some (12, false), .v 16 .not [.s 15]), (none, .v 17 .pick [.s 12, .k (.b true), .s 16]), (none, .tk 4 17)])
      .ret)))

theorem chk_impl_rectangle_1 : ∃ b, Try.f153.body = some b ∧ chk Try.prog Try.f153.ntmps true C_impl_rectangle_1 b = true := ⟨_, rfl, by kernel_rfl⟩
def inI (n lo hi : Int) : Bool := decide (lo ≤ n) && decide (n ≤ hi)
theorem within_ok (n lo hi : Int) : CallOk Try.prog 69 [.i n, .i lo, .i hi] [(0, .b (inI n lo hi))] := by
  obtain ⟨code0, hcd1, hcd2⟩ := chk_impl_within; refine callOk_of Try.func69 hcd1 mo Try.call69 (rs := [6]) (by kernel_rfl) hcd2 (by rw [Try.ntmps69]; simp) (by simp) (by decide) ?_; unfold C_impl_within K_impl_within; simp (config := { maxSteps := 2000000 }) only [go_sem, Nat.reduceBEq, Nat.reduceAdd, Nat.reduceMul, Nat.reduceMod, Nat.reduceLT, Nat.reduceDiv, Nat.reduceSub, Nat.reduceLeDiff, Int.reduceToNat, Int.reduceLT, Int.reduceLE, reduceCtorEq, List.take_nil, List.drop_nil]
  constructor <;> intro h <;> simp [inI, h]
theorem l01In_ok (n lo hi : Int) : CallOk Try.prog 95 [.i n, .i lo, .i hi] [(0, .b (inI n lo hi))] := by
  obtain ⟨code0, hcd1, hcd2⟩ := chk_spec_l01In; refine callOk_of Try.func95 hcd1 mo Try.call95 (rs := [6]) (by kernel_rfl) hcd2 (by rw [Try.ntmps95]; simp) (by simp) (by decide) ?_; unfold C_spec_l01In K_spec_l01In; simp (config := { maxSteps := 2000000 }) only [go_sem, Nat.reduceBEq, Nat.reduceAdd, Nat.reduceMul, Nat.reduceMod, Nat.reduceLT, Nat.reduceDiv, Nat.reduceSub, Nat.reduceLeDiff, Int.reduceToNat, Int.reduceLT, Int.reduceLE, reduceCtorEq, List.take_nil, List.drop_nil]
  constructor <;> intro h <;> simp [inI, h]
theorem allWithin1_ok (n lo hi : Int) : CallOk Try.prog 135 [.i n, .q [.i lo] 0, .q [.i hi] 0] [(0, .b (!inI n lo hi))] := by
  obtain ⟨code0, hcd1, hcd2⟩ := chk_impl_allWithin_1; refine callOk_of Try.func135 hcd1 mo Try.call135 (rs := [4]) (by kernel_rfl) hcd2 (by rw [Try.ntmps135]; simp) (by simp) (by decide) ?_; unfold C_impl_allWithin_1 K_impl_allWithin_1; simp (config := { maxSteps := 2000000 }) only [go_sem, Nat.reduceBEq, Nat.reduceAdd, Nat.reduceMul, Nat.reduceMod, Nat.reduceLT, Nat.reduceDiv, Nat.reduceSub, Nat.reduceLeDiff, Int.reduceToNat, Int.reduceLT, Int.reduceLE, reduceCtorEq, List.take_nil, List.drop_nil]
  refine ⟨_, within_ok n lo hi, ?_⟩; simp (config := { maxSteps := 2000000 }) only [go_sem, Nat.reduceBEq, Nat.reduceAdd, Nat.reduceMul, Nat.reduceMod, Nat.reduceLT, Nat.reduceDiv, Nat.reduceSub, Nat.reduceLeDiff, Int.reduceToNat, Int.reduceLT, Int.reduceLE, reduceCtorEq, List.take_nil, List.drop_nil]
theorem allWithin_ok {nl : Option Bool} (xs : List Int) (lo hi : Int) (hl : xs.length ≤ 1048576) : CallOk Try.prog 82 [.s nl (ii xs), .i lo, .i hi] [(0, .b (xs.all fun n => inI n lo hi))] := by
  obtain ⟨code0, hcd1, hcd2⟩ := chk_impl_allWithin; refine callOk_of Try.func82 hcd1 mo Try.call82 (rs := [6]) (by kernel_rfl) hcd2 (by rw [Try.ntmps82]; simp) (by simp) (by decide) ?_; unfold C_impl_allWithin K_impl_allWithin; simp (config := { maxSteps := 2000000 }) only [go_sem, Nat.reduceBEq, Nat.reduceAdd, Nat.reduceMul, Nat.reduceMod, Nat.reduceLT, Nat.reduceDiv, Nat.reduceSub, Nat.reduceLeDiff, Int.reduceToNat, Int.reduceLT, Int.reduceLE, reduceCtorEq, List.take_nil, List.drop_nil]
  refine ⟨_, ContainsFuncI (fun n => !inI n lo hi) (fun n _ => allWithin1_ok n lo hi) hl, ?_⟩; simp (config := { maxSteps := 2000000 }) only [go_sem, Nat.reduceBEq, Nat.reduceAdd, Nat.reduceMul, Nat.reduceMod, Nat.reduceLT, Nat.reduceDiv, Nat.reduceSub, Nat.reduceLeDiff, Int.reduceToNat, Int.reduceLT, Int.reduceLE, reduceCtorEq, List.take_nil, List.drop_nil]
  simp [List.all_eq_not_any_not]
/-- Rows of one length, in ranges. -/
def rectB (xs : List (List Int)) (a b c : Int) : Bool := inI xs.length 1 a && inI (xs.getD 0 []).length 1 b && xs.all fun r => decide (r.length = (xs.getD 0 []).length) && r.all fun n => inI n 0 c
theorem rectangle1_ok {nl : Option Bool} (xs : List (List Int)) (r : List Int) (c : Int) (hl : r.length ≤ 1048576) (h0 : 0 < xs.length) :
    CallOk Try.prog 153 [.s none (ii r), .q [.s nl (rr xs)] 0, .q [.i c] 0] [(0, .b (!(decide (r.length = (xs.getD 0 []).length) && r.all fun n => inI n 0 c)))] := by
  obtain ⟨code0, hcd1, hcd2⟩ := chk_impl_rectangle_1; refine callOk_of Try.func153 hcd1 mo Try.call153 (rs := [4]) (by kernel_rfl) hcd2 (by rw [Try.ntmps153]; simp) (by simp) (by decide) ?_; unfold C_impl_rectangle_1 K_impl_rectangle_1; simp (config := { maxSteps := 2000000 }) only [go_sem, Nat.reduceBEq, Nat.reduceAdd, Nat.reduceMul, Nat.reduceMod, Nat.reduceLT, Nat.reduceDiv, Nat.reduceSub, Nat.reduceLeDiff, Int.reduceToNat, Int.reduceLT, Int.reduceLE, reduceCtorEq, List.take_nil, List.drop_nil]
  refine ⟨h0, h0, fun h => ?_, fun h => ?_⟩
  · refine ⟨_, allWithin_ok r 0 c hl, ?_⟩; simp (config := { maxSteps := 2000000 }) only [go_sem, Nat.reduceBEq, Nat.reduceAdd, Nat.reduceMul, Nat.reduceMod, Nat.reduceLT, Nat.reduceDiv, Nat.reduceSub, Nat.reduceLeDiff, Int.reduceToNat, Int.reduceLT, Int.reduceLE, reduceCtorEq, List.take_nil, List.drop_nil]
    simp only [h]; simp
  · simp [-List.getD_eq_getElem?_getD, h]
theorem rectangle_ok {nl : Option Bool} (xs : List (List Int)) (a b c : Int) (hl : xs.length ≤ 1048576) (hr : ∀ r ∈ xs, r.length ≤ 1048576) : CallOk Try.prog 114 [.s nl (rr xs), .i a, .i b, .i c] [(0, .b (rectB xs a b c))] := by
  obtain ⟨code0, hcd1, hcd2⟩ := chk_impl_rectangle; refine callOk_of Try.func114 hcd1 mo Try.call114 (rs := [8]) (by kernel_rfl) hcd2 (by rw [Try.ntmps114]; simp) (by simp) (by decide) ?_; unfold C_impl_rectangle K_impl_rectangle; simp (config := { maxSteps := 2000000 }) only [go_sem, Nat.reduceBEq, Nat.reduceAdd, Nat.reduceMul, Nat.reduceMod, Nat.reduceLT, Nat.reduceDiv, Nat.reduceSub, Nat.reduceLeDiff, Int.reduceToNat, Int.reduceLT, Int.reduceLE, reduceCtorEq, List.take_nil, List.drop_nil]
  refine ⟨_, within_ok _ _ _, ?_⟩; simp (config := { maxSteps := 2000000 }) only [go_sem, Nat.reduceBEq, Nat.reduceAdd, Nat.reduceMul, Nat.reduceMod, Nat.reduceLT, Nat.reduceDiv, Nat.reduceSub, Nat.reduceLeDiff, Int.reduceToNat, Int.reduceLT, Int.reduceLE, reduceCtorEq, List.take_nil, List.drop_nil]
  refine ⟨fun h => ?_, fun h => ?_⟩
  · have h0 : 0 < xs.length := by simp only [inI, Bool.and_eq_true, decide_eq_true_eq] at h; omega
    refine ⟨h0, h0, ?_⟩
    refine ⟨_, within_ok _ _ _, ?_⟩; simp (config := { maxSteps := 2000000 }) only [go_sem, Nat.reduceBEq, Nat.reduceAdd, Nat.reduceMul, Nat.reduceMod, Nat.reduceLT, Nat.reduceDiv, Nat.reduceSub, Nat.reduceLeDiff, Int.reduceToNat, Int.reduceLT, Int.reduceLE, reduceCtorEq, List.take_nil, List.drop_nil]
    refine ⟨fun h1 => ?_, fun h1 => ?_⟩
    · simp [-List.getD_eq_getElem?_getD, rectB, h, h1]
    · refine ⟨_, ContainsFuncR (fun r => !(decide (r.length = (xs.getD 0 []).length) && r.all fun n => inI n 0 c)) (fun r hm => rectangle1_ok xs r c (hr r hm) h0) hl, ?_⟩; simp (config := { maxSteps := 2000000 }) only [go_sem, Nat.reduceBEq, Nat.reduceAdd, Nat.reduceMul, Nat.reduceMod, Nat.reduceLT, Nat.reduceDiv, Nat.reduceSub, Nat.reduceLeDiff, Int.reduceToNat, Int.reduceLT, Int.reduceLE, reduceCtorEq, List.take_nil, List.drop_nil]
      simp only [rectB, h, h1, List.all_eq_not_any_not]; simp
  · simp [-List.getD_eq_getElem?_getD, rectB, h]

end Go.Proofs.Ytfdoddeccnjcmaa
