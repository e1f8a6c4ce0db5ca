/- Own work: contracts of functions that the claim reaches. No condition beyond those that each theorem names. -/
import Derived.Test.YtinnndabmmnkpaaProg
import Derived.Test.YtinnndabmmnkpaaSlices
namespace Go.Proofs.Ytinnndabmmnkpaa
open Go Go.Vc
set_option maxRecDepth 100000
set_option linter.unusedSimpArgs false
set_option linter.unusedVariables false
def K_impl_within : List Nat := [0, 1, 2, 6]
def C_impl_within : C :=
  let ks := K_impl_within
  (.seq
    (.rg 0 [(none, .v 6 .mv [.k (.b false)])])
    (.cl ks (.seq
      (.rg 0 [(none, .v 7 .mv [.s 0]), (none, .v 8 .mv [.s 1]), (none, .v 9 (.bin .geq) [.s 7, .s 8]), (none, .v 10 .mv [.s 9]), (some (10, true), .v 11 .mv [.s 0]), (some (10, true), .v 12 .mv [.s 2]), (some (10, true), .v 13 (.bin .leq) [.s 11, .s 12]), (none, .v 14 .pick [.s 10, .s 13, .k (.b false)]), (none, .tk 6 14)])
      .ret)))

theorem chk_impl_within : ∃ b, Try.f81.body = some b ∧ chk Try.prog Try.f81.ntmps true C_impl_within b = true := ⟨_, rfl, by kernel_rfl⟩
def K_spec_l01In : List Nat := [0, 1, 2, 6]
def C_spec_l01In : C :=
  let ks := K_spec_l01In
  (.seq
    (.rg 0 [(none, .v 6 .mv [.k (.b false)])])
    (.cl ks (.seq
      (.rg 0 [(none, .v 7 .mv [.s 0]), (none, .v 8 .mv [.s 1]), (none, .v 9 (.bin .geq) [.s 7, .s 8]), (none, .v 10 .mv [.s 9]), (some (10, true), .v 11 .mv [.s 0]), (some (10, true), .v 12 .mv [.s 2]), (some (10, true), .v 13 (.bin .leq) [.s 11, .s 12]), (none, .v 14 .pick [.s 10, .s 13, .k (.b false)]), (none, .tk 6 14)])
      .ret)))

theorem chk_spec_l01In : ∃ b, Try.f77.body = some b ∧ chk Try.prog Try.f77.ntmps true C_spec_l01In b = true := ⟨_, rfl, by kernel_rfl⟩
def K_impl_allWithin : List Nat := [0, 1, 2, 4, 5, 6, 1004, 1005]
def C_impl_allWithin : C :=
  let ks := K_impl_allWithin
  (.seq
    (.rg 0 [(none, .box 4 (.s 1)), (none, .box 5 (.s 2)), (none, .v 6 .mv [.k (.b false)])])
    (.cl ks (.seq
      (.rg 0 [(none, .v 7 .mv [.s 0]), (none, .v 8 (.clo 122) [.s 4, .s 5]), (none, .co 9 93 [.s 7, .s 8]), (none, .v 10 .not [.s 9]), (none, .tk 6 10)])
      .ret)))

theorem chk_impl_allWithin : ∃ b, Try.f79.body = some b ∧ chk Try.prog Try.f79.ntmps true C_impl_allWithin b = true := ⟨_, rfl, by kernel_rfl⟩
def K_impl_allWithin_1 : List Nat := [0, 1, 2, 4]
def C_impl_allWithin_1 : C :=
  let ks := K_impl_allWithin_1
  (.seq
    (.rg 0 [(none, .v 4 .mv [.k (.b false)])])
    (.cl ks (.seq
      (.rg 0 [(none, .v 5 .mv [.s 0]), (none, .v 6 .ld [.s 1]), (none, .v 7 .ld [.s 2]), (none, .co 8 81 [.s 5, .s 6, .s 7]), (none, .v 9 .not [.s 8]), (none, .tk 4 9)])
      .ret)))

theorem chk_impl_allWithin_1 : ∃ b, Try.f122.body = some b ∧ chk Try.prog Try.f122.ntmps true C_impl_allWithin_1 b = true := ⟨_, rfl, by kernel_rfl⟩
def K_impl_rectangle : List Nat := [0, 1, 2, 3, 4, 7, 8, 1004, 1007]
def C_impl_rectangle : C :=
  let ks := K_impl_rectangle
  (.seq
    (.rg 0 [(none, .box 4 (.s 0)), (none, .box 7 (.s 3)), (none, .v 8 .mv [.k (.b false)])])
    (.cl ks (.seq
      (.seq
        (.rg 0 [(none, .v 9 .ld [.s 4]), (none, .v 10 .len [.s 9]), (none, .v 11 .mv [.s 1]), (none, .co 12 81 [.s 10, .k (.i 1), .s 11]), (none, .v 13 .not [.s 12]), (none, .v 14 .mv [.s 13]), (some (14, false), .v 15 .ld [.s 4]), (some (14, false), .v 16 .idx [.s 15, .k (.i 0)]), (some (14, false), .v 17 .ld [.s 16]), (some (14, false), .v 18 .len [.s 17]), (some (14, false), .v 19 .mv [.s 2]), (some (14, false), .co 20 81 [.s 18, .k (.i 1), .s 19]), (some (14, false), .v 21 .not [.s 20]), (none, .v 22 .pick [.s 14, .k (.b true), .s 21])])
        (.cond (.s 22)
          (.seq
            (.rg 0 [(none, .v 8 .mv [.k (.b false)])])
            .ret)
          .skip))
      (.cl ks (.seq
        (.rg 0 [(none, .v 23 .ld [.s 4]), (none, .v 24 (.clo 121) [.s 4, .s 7]), (none, .co 25 120 [.s 23, .s 24]), (none, .v 26 .not [.s 25]), (none, .tk 8 26)])
        .ret)))))

theorem chk_impl_rectangle : ∃ b, Try.f78.body = some b ∧ chk Try.prog Try.f78.ntmps true C_impl_rectangle b = true := ⟨_, rfl, by kernel_rfl⟩
def K_impl_rectangle_1 : List Nat := [0, 1, 2, 4]
def C_impl_rectangle_1 : C :=
  let ks := K_impl_rectangle_1
  (.seq
    (.rg 0 [(none, .v 4 .mv [.k (.b false)])])
    (.cl ks (.seq
      (.rg 0 [(none, .v 5 .mv [.s 0]), (none, .v 6 .len [.s 5]), (none, .v 7 .ld [.s 1]), (none, .v 8 .idx [.s 7, .k (.i 0)]), (none, .v 9 .ld [.s 8]), (none, .v 10 .len [.s 9]), (none, .v 11 (.bin .neq) [.s 6, .s 10]), (none, .v 12 .mv [.s 11]), (some (12, false), .v 13 .mv [.s 0]), (some (12, false), .v 14 .ld [.s 2]), (some (12, false), .co 15 79 [.s 13, .k (.i 0), .s 14]), (some (12, false), .v 16 .not [.s 15]), (none, .v 17 .pick [.s 12, .k (.b true), .s 16]), (none, .tk 4 17)])
      .ret)))

theorem chk_impl_rectangle_1 : ∃ b, Try.f121.body = some b ∧ chk Try.prog Try.f121.ntmps true C_impl_rectangle_1 b = true := ⟨_, rfl, by kernel_rfl⟩
def K_spec_ValuesOk : List Nat := [0, 2, 4, 6, 19, 20, 21, 32, 33, 34]
def C_spec_ValuesOk : C :=
  let ks := K_spec_ValuesOk
  (.seq
    (.rg 0 [(none, .v 2 .mv [.k (.b false)])])
    (.cl ks (.seq
      (.seq
        (.rg 0 [(none, .v 7 .mv [.s 0]), (none, .v 8 .len [.s 7]), (none, .co 9 77 [.s 8, .k (.i 1), .k (.i 3)]), (none, .v 10 .not [.s 9]), (none, .v 11 .mv [.s 10]), (some (11, false), .v 12 .mv [.s 0]), (some (11, false), .v 13 .idx [.s 12, .k (.i 0)]), (some (11, false), .v 14 .ld [.s 13]), (some (11, false), .v 15 .len [.s 14]), (some (11, false), .co 16 77 [.s 15, .k (.i 1), .k (.i 6)]), (some (11, false), .v 17 .not [.s 16]), (none, .v 18 .pick [.s 11, .k (.b true), .s 17])])
        (.cond (.s 18)
          (.seq
            (.rg 0 [(none, .v 2 .mv [.k (.b false)])])
            .ret)
          .skip))
      (.cl ks (.seq
        (.seq
          (.rg 0 [(none, .v 19 .mv [.s 0]), (none, .v 20 .len [.s 19]), (none, .v 21 .mv [.k (.i 0)])])
          (.cl ks (.block 0
            (.loop
              (.seq
                (.rg 0 [(none, .v 22 (.bin .lss) [.s 21, .s 20])])
                (.seq
                  (.cond (.s 22)
                    .skip
                    (.exit 0))
                  (.cl ks (.seq
                    (.block 1
                      (.seq
                        (.rg 0 [(none, .v 23 .idx [.s 19, .s 21]), (none, .v 24 .ld [.s 23]), (none, .tk 4 24)])
                        (.cl ks (.seq
                          (.seq
                            (.rg 0 [(none, .v 25 .mv [.s 4]), (none, .v 26 .len [.s 25]), (none, .v 27 .mv [.s 0]), (none, .v 28 .idx [.s 27, .k (.i 0)]), (none, .v 29 .ld [.s 28]), (none, .v 30 .len [.s 29]), (none, .v 31 (.bin .neq) [.s 26, .s 30])])
                            (.cond (.s 31)
                              (.seq
                                (.rg 0 [(none, .v 2 .mv [.k (.b false)])])
                                .ret)
                              .skip))
                          (.cl ks (.seq
                            (.rg 0 [(none, .v 32 .mv [.s 4]), (none, .v 33 .len [.s 32]), (none, .v 34 .mv [.k (.i 0)])])
                            (.cl ks (.block 2
                              (.loop
                                (.seq
                                  (.rg 0 [(none, .v 35 (.bin .lss) [.s 34, .s 33])])
                                  (.seq
                                    (.cond (.s 35)
                                      .skip
                                      (.exit 2))
                                    (.cl ks (.seq
                                      (.block 3
                                        (.seq
                                          (.rg 0 [(none, .v 36 .idx [.s 32, .s 34]), (none, .v 37 .ld [.s 36]), (none, .tk 6 37)])
                                          (.cl ks (.seq
                                            (.rg 0 [(none, .v 38 .mv [.s 6]), (none, .co 39 77 [.s 38, .k (.i 0), .k (.i 100)]), (none, .v 40 .not [.s 39])])
                                            (.cond (.s 40)
                                              (.seq
                                                (.rg 0 [(none, .v 2 .mv [.k (.b false)])])
                                                .ret)
                                              .skip)))))
                                      (.cl ks (.rg 0 [(none, .v 41 (.bin .add) [.s 34, .k (.i 1)]), (none, .v 34 .mv [.s 41])])))))))))))))))
                    (.cl ks (.rg 0 [(none, .v 42 (.bin .add) [.s 21, .k (.i 1)]), (none, .v 21 .mv [.s 42])]))))))))))
        (.cl ks (.seq
          (.rg 0 [(none, .v 2 .mv [.k (.b true)])])
          .ret)))))))

theorem chk_spec_ValuesOk : ∃ b, Try.f25.body = some b ∧ chk Try.prog Try.f25.ntmps true C_spec_ValuesOk b = true := ⟨_, rfl, by kernel_rfl⟩
def K_impl_ValuesOk : List Nat := [0, 2]
def C_impl_ValuesOk : C :=
  let ks := K_impl_ValuesOk
  (.seq
    (.rg 0 [(none, .v 2 .mv [.k (.b false)])])
    (.cl ks (.seq
      (.rg 0 [(none, .v 3 .mv [.s 0]), (none, .co 4 78 [.s 3, .k (.i 3), .k (.i 6), .k (.i 100)]), (none, .tk 2 4)])
      .ret)))

theorem chk_impl_ValuesOk : ∃ b, Try.f27.body = some b ∧ chk Try.prog Try.f27.ntmps true C_impl_ValuesOk b = true := ⟨_, rfl, by kernel_rfl⟩
def inI (n lo hi : Int) : Bool := decide (lo ≤ n) && decide (n ≤ hi)
theorem within_ok (n lo hi : Int) : CallOk Try.prog 81 [.i n, .i lo, .i hi] [(0, .b (inI n lo hi))] := by
  obtain ⟨code0, hcd1, hcd2⟩ := chk_impl_within; refine callOk_of Try.func81 hcd1 mo Try.call81 (rs := [6]) (by kernel_rfl) hcd2 (by rw [Try.ntmps81]; simp) (by simp) (by decide) ?_; unfold C_impl_within K_impl_within; simp (config := { maxSteps := 2000000 }) only [go_sem, Nat.reduceBEq, Nat.reduceAdd, Nat.reduceMul, Nat.reduceMod, Nat.reduceLT, Nat.reduceDiv, Nat.reduceSub, Nat.reduceLeDiff, Int.reduceToNat, Int.reduceLT, Int.reduceLE, reduceCtorEq]
  constructor <;> intro h <;> simp [inI, h]
theorem l01In_ok (n lo hi : Int) : CallOk Try.prog 77 [.i n, .i lo, .i hi] [(0, .b (inI n lo hi))] := by
  obtain ⟨code0, hcd1, hcd2⟩ := chk_spec_l01In; refine callOk_of Try.func77 hcd1 mo Try.call77 (rs := [6]) (by kernel_rfl) hcd2 (by rw [Try.ntmps77]; simp) (by simp) (by decide) ?_; unfold C_spec_l01In K_spec_l01In; simp (config := { maxSteps := 2000000 }) only [go_sem, Nat.reduceBEq, Nat.reduceAdd, Nat.reduceMul, Nat.reduceMod, Nat.reduceLT, Nat.reduceDiv, Nat.reduceSub, Nat.reduceLeDiff, Int.reduceToNat, Int.reduceLT, Int.reduceLE, reduceCtorEq]
  constructor <;> intro h <;> simp [inI, h]
theorem allWithin1_ok (n lo hi : Int) : CallOk Try.prog 122 [.i n, .q [.i lo] 0, .q [.i hi] 0] [(0, .b (!inI n lo hi))] := by
  obtain ⟨code0, hcd1, hcd2⟩ := chk_impl_allWithin_1; refine callOk_of Try.func122 hcd1 mo Try.call122 (rs := [4]) (by kernel_rfl) hcd2 (by rw [Try.ntmps122]; simp) (by simp) (by decide) ?_; unfold C_impl_allWithin_1 K_impl_allWithin_1; simp (config := { maxSteps := 2000000 }) only [go_sem, Nat.reduceBEq, Nat.reduceAdd, Nat.reduceMul, Nat.reduceMod, Nat.reduceLT, Nat.reduceDiv, Nat.reduceSub, Nat.reduceLeDiff, Int.reduceToNat, Int.reduceLT, Int.reduceLE, reduceCtorEq]
  refine ⟨_, within_ok n lo hi, ?_⟩; simp (config := { maxSteps := 2000000 }) only [go_sem, Nat.reduceBEq, Nat.reduceAdd, Nat.reduceMul, Nat.reduceMod, Nat.reduceLT, Nat.reduceDiv, Nat.reduceSub, Nat.reduceLeDiff, Int.reduceToNat, Int.reduceLT, Int.reduceLE, reduceCtorEq]
theorem allWithin_ok {nl : Option Bool} (xs : List Int) (lo hi : Int) (hl : xs.length ≤ 1048576) : CallOk Try.prog 79 [.s nl (ii xs), .i lo, .i hi] [(0, .b (xs.all fun n => inI n lo hi))] := by
  obtain ⟨code0, hcd1, hcd2⟩ := chk_impl_allWithin; refine callOk_of Try.func79 hcd1 mo Try.call79 (rs := [6]) (by kernel_rfl) hcd2 (by rw [Try.ntmps79]; simp) (by simp) (by decide) ?_; unfold C_impl_allWithin K_impl_allWithin; simp (config := { maxSteps := 2000000 }) only [go_sem, Nat.reduceBEq, Nat.reduceAdd, Nat.reduceMul, Nat.reduceMod, Nat.reduceLT, Nat.reduceDiv, Nat.reduceSub, Nat.reduceLeDiff, Int.reduceToNat, Int.reduceLT, Int.reduceLE, reduceCtorEq]
  refine ⟨_, ContainsFuncI (fun n => !inI n lo hi) (fun n _ => allWithin1_ok n lo hi) hl, ?_⟩; simp (config := { maxSteps := 2000000 }) only [go_sem, Nat.reduceBEq, Nat.reduceAdd, Nat.reduceMul, Nat.reduceMod, Nat.reduceLT, Nat.reduceDiv, Nat.reduceSub, Nat.reduceLeDiff, Int.reduceToNat, Int.reduceLT, Int.reduceLE, reduceCtorEq]
  simp [List.all_eq_not_any_not]
/-- Rows of one length, in ranges. -/
def rectB (xs : List (List Int)) (a b c : Int) : Bool := inI xs.length 1 a && inI (xs.getD 0 []).length 1 b && xs.all fun r => decide (r.length = (xs.getD 0 []).length) && r.all fun n => inI n 0 c
theorem rectangle1_ok {nl : Option Bool} (xs : List (List Int)) (r : List Int) (c : Int) (hl : r.length ≤ 1048576) (h0 : 0 < xs.length) :
    CallOk Try.prog 121 [.s none (ii r), .q [.s nl (rr xs)] 0, .q [.i c] 0] [(0, .b (!(decide (r.length = (xs.getD 0 []).length) && r.all fun n => inI n 0 c)))] := by
  obtain ⟨code0, hcd1, hcd2⟩ := chk_impl_rectangle_1; refine callOk_of Try.func121 hcd1 mo Try.call121 (rs := [4]) (by kernel_rfl) hcd2 (by rw [Try.ntmps121]; simp) (by simp) (by decide) ?_; unfold C_impl_rectangle_1 K_impl_rectangle_1; simp (config := { maxSteps := 2000000 }) only [go_sem, Nat.reduceBEq, Nat.reduceAdd, Nat.reduceMul, Nat.reduceMod, Nat.reduceLT, Nat.reduceDiv, Nat.reduceSub, Nat.reduceLeDiff, Int.reduceToNat, Int.reduceLT, Int.reduceLE, reduceCtorEq]
  refine ⟨h0, h0, fun h => ?_, fun h => ?_⟩
  · refine ⟨_, allWithin_ok r 0 c hl, ?_⟩; simp (config := { maxSteps := 2000000 }) only [go_sem, Nat.reduceBEq, Nat.reduceAdd, Nat.reduceMul, Nat.reduceMod, Nat.reduceLT, Nat.reduceDiv, Nat.reduceSub, Nat.reduceLeDiff, Int.reduceToNat, Int.reduceLT, Int.reduceLE, reduceCtorEq]
    simp only [h]; simp
  · simp [-List.getD_eq_getElem?_getD, h]
theorem rectangle_ok {nl : Option Bool} (xs : List (List Int)) (a b c : Int) (hl : xs.length ≤ 1048576) (hr : ∀ r ∈ xs, r.length ≤ 1048576) : CallOk Try.prog 78 [.s nl (rr xs), .i a, .i b, .i c] [(0, .b (rectB xs a b c))] := by
  obtain ⟨code0, hcd1, hcd2⟩ := chk_impl_rectangle; refine callOk_of Try.func78 hcd1 mo Try.call78 (rs := [8]) (by kernel_rfl) hcd2 (by rw [Try.ntmps78]; simp) (by simp) (by decide) ?_; unfold C_impl_rectangle K_impl_rectangle; simp (config := { maxSteps := 2000000 }) only [go_sem, Nat.reduceBEq, Nat.reduceAdd, Nat.reduceMul, Nat.reduceMod, Nat.reduceLT, Nat.reduceDiv, Nat.reduceSub, Nat.reduceLeDiff, Int.reduceToNat, Int.reduceLT, Int.reduceLE, reduceCtorEq]
  refine ⟨_, within_ok _ _ _, ?_⟩; simp (config := { maxSteps := 2000000 }) only [go_sem, Nat.reduceBEq, Nat.reduceAdd, Nat.reduceMul, Nat.reduceMod, Nat.reduceLT, Nat.reduceDiv, Nat.reduceSub, Nat.reduceLeDiff, Int.reduceToNat, Int.reduceLT, Int.reduceLE, reduceCtorEq]
  refine ⟨fun h => ?_, fun h => ?_⟩
  · have h0 : 0 < xs.length := by simp only [inI, Bool.and_eq_true, decide_eq_true_eq] at h; omega
    refine ⟨h0, h0, ?_⟩
    refine ⟨_, within_ok _ _ _, ?_⟩; simp (config := { maxSteps := 2000000 }) only [go_sem, Nat.reduceBEq, Nat.reduceAdd, Nat.reduceMul, Nat.reduceMod, Nat.reduceLT, Nat.reduceDiv, Nat.reduceSub, Nat.reduceLeDiff, Int.reduceToNat, Int.reduceLT, Int.reduceLE, reduceCtorEq]
    refine ⟨fun h1 => ?_, fun h1 => ?_⟩
    · simp [-List.getD_eq_getElem?_getD, rectB, h, h1]
    · refine ⟨_, ContainsFuncR (fun r => !(decide (r.length = (xs.getD 0 []).length) && r.all fun n => inI n 0 c)) (fun r hm => rectangle1_ok xs r c (hr r hm) h0) hl, ?_⟩; simp (config := { maxSteps := 2000000 }) only [go_sem, Nat.reduceBEq, Nat.reduceAdd, Nat.reduceMul, Nat.reduceMod, Nat.reduceLT, Nat.reduceDiv, Nat.reduceSub, Nat.reduceLeDiff, Int.reduceToNat, Int.reduceLT, Int.reduceLE, reduceCtorEq]
      simp only [rectB, h, h1, List.all_eq_not_any_not]; simp
  · simp [-List.getD_eq_getElem?_getD, rectB, h]
theorem impl_ValuesOk_ok {nl : Option Bool} (xs : List (List Int)) (hl : xs.length ≤ 1048576) (hr : ∀ r ∈ xs, r.length ≤ 1048576) : CallOk Try.prog 27 [.s nl (rr xs)] [(0, .b (rectB xs 3 6 100))] := by
  obtain ⟨code0, hcd1, hcd2⟩ := chk_impl_ValuesOk; refine callOk_of Try.func27 hcd1 mo Try.call27 (rs := [2]) (by kernel_rfl) hcd2 (by rw [Try.ntmps27]; simp) (by simp) (by decide) ?_; unfold C_impl_ValuesOk K_impl_ValuesOk; simp (config := { maxSteps := 2000000 }) only [go_sem, Nat.reduceBEq, Nat.reduceAdd, Nat.reduceMul, Nat.reduceMod, Nat.reduceLT, Nat.reduceDiv, Nat.reduceSub, Nat.reduceLeDiff, Int.reduceToNat, Int.reduceLT, Int.reduceLE, reduceCtorEq]
  refine ⟨_, rectangle_ok xs 3 6 100 hl hr, ?_⟩; simp (config := { maxSteps := 2000000 }) only [go_sem, Nat.reduceBEq, Nat.reduceAdd, Nat.reduceMul, Nat.reduceMod, Nat.reduceLT, Nat.reduceDiv, Nat.reduceSub, Nat.reduceLeDiff, Int.reduceToNat, Int.reduceLT, Int.reduceLE, reduceCtorEq]
theorem spec_ValuesOk_ok {nl : Option Bool} (xs : List (List Int)) (hl : xs.length ≤ 1048576) (hr : ∀ r ∈ xs, r.length ≤ 1048576) : CallOk Try.prog 25 [.s nl (rr xs)] [(0, .b (rectB xs 3 6 100))] := by
  obtain ⟨code0, hcd1, hcd2⟩ := chk_spec_ValuesOk; refine callOk_of Try.func25 hcd1 mo Try.call25 (rs := [2]) (by kernel_rfl) hcd2 (by rw [Try.ntmps25]; simp) (by simp) (by decide) ?_; unfold C_spec_ValuesOk K_spec_ValuesOk; simp (config := { maxSteps := 2000000 }) only [go_sem, Nat.reduceBEq, Nat.reduceAdd, Nat.reduceMul, Nat.reduceMod, Nat.reduceLT, Nat.reduceDiv, Nat.reduceSub, Nat.reduceLeDiff, Int.reduceToNat, Int.reduceLT, Int.reduceLE, reduceCtorEq]
  refine ⟨_, l01In_ok _ _ _, ?_⟩; simp (config := { maxSteps := 2000000 }) only [go_sem, Nat.reduceBEq, Nat.reduceAdd, Nat.reduceMul, Nat.reduceMod, Nat.reduceLT, Nat.reduceDiv, Nat.reduceSub, Nat.reduceLeDiff, Int.reduceToNat, Int.reduceLT, Int.reduceLE, reduceCtorEq]
  refine ⟨fun h => ?_, fun h => ?_⟩
  case refine_2 => simp [-List.getD_eq_getElem?_getD, rectB, h]
  have h0 : 0 < xs.length := by simp only [inI, Bool.and_eq_true, decide_eq_true_eq] at h; omega
  refine ⟨h0, h0, ?_⟩
  refine ⟨_, l01In_ok _ _ _, ?_⟩; simp (config := { maxSteps := 2000000 }) only [go_sem, Nat.reduceBEq, Nat.reduceAdd, Nat.reduceMul, Nat.reduceMod, Nat.reduceLT, Nat.reduceDiv, Nat.reduceSub, Nat.reduceLeDiff, Int.reduceToNat, Int.reduceLT, Int.reduceLE, reduceCtorEq]
  refine ⟨fun h1 => ?_, fun h1 => ?_⟩
  case refine_1 => simp [-List.getD_eq_getElem?_getD, rectB, h, h1]
  have key : rectB xs 3 6 100 = xs.all fun r => decide (r.length = (xs.getD 0 []).length) && r.all fun n => inI n 0 100 := by simp only [rectB, h, h1, Bool.true_and]
  rw [key]
  refine loopN xs.length (fun j => [(0, .t .arg (.s nl (rr xs))), (19, .t .arg (.s nl (rr xs))), (20, .i xs.length), (21, .i (j : Nat))])
    (fun j => ∀ i, i < j → (decide ((xs.getD i []).length = (xs.getD 0 []).length) && (xs.getD i []).all fun n => inI n 0 100) = true) ⟨by simp, by simp (config := { maxSteps := 2000000 }) only [go_sem, Nat.reduceBEq, Nat.reduceAdd, Nat.reduceMul, Nat.reduceMod, Nat.reduceLT, Nat.reduceDiv, Nat.reduceSub, Nat.reduceLeDiff, Int.reduceToNat, Int.reduceLT, Int.reduceLE, reduceCtorEq]; simp⟩ fun j hj hI => ?_
  simp (config := { maxSteps := 2000000 }) only [go_sem, Nat.reduceBEq, Nat.reduceAdd, Nat.reduceMul, Nat.reduceMod, Nat.reduceLT, Nat.reduceDiv, Nat.reduceSub, Nat.reduceLeDiff, Int.reduceToNat, Int.reduceLT, Int.reduceLE, reduceCtorEq]
  refine ⟨fun hlt => ?_, fun hge => ?_⟩
  case refine_2 =>
    have : j = xs.length := by omega
    subst this
    exact (all_of_getD [] hI).symm
  have hj' : j < xs.length := by omega
  refine ⟨by omega, by omega, by omega, h0, h0, fun hn => ?_, fun hn => ?_⟩
  · exact (not_all_getD [] hj' (by simp [-List.getD_eq_getElem?_getD, hn])).symm
  refine loopN (xs.getD j []).length (fun k => [(0, .t .arg (.s nl (rr xs))), (19, .t .arg (.s nl (rr xs))), (20, .i xs.length), (21, .i (j : Nat)), (32, .t .arg (.s none (ii (xs.getD j [])))), (33, .i (xs.getD j []).length), (34, .i (k : Nat))])
    (fun k => ∀ i, i < k → inI ((xs.getD j []).getD i 0) 0 100 = true) ⟨by simp, by simp (config := { maxSteps := 2000000 }) only [go_sem, Nat.reduceBEq, Nat.reduceAdd, Nat.reduceMul, Nat.reduceMod, Nat.reduceLT, Nat.reduceDiv, Nat.reduceSub, Nat.reduceLeDiff, Int.reduceToNat, Int.reduceLT, Int.reduceLE, reduceCtorEq]; simp⟩ fun k hk hK => ?_
  simp (config := { maxSteps := 2000000 }) only [go_sem, Nat.reduceBEq, Nat.reduceAdd, Nat.reduceMul, Nat.reduceMod, Nat.reduceLT, Nat.reduceDiv, Nat.reduceSub, Nat.reduceLeDiff, Int.reduceToNat, Int.reduceLT, Int.reduceLE, reduceCtorEq]
  have hjl := hr _ (getD_mem (d := []) hj')
  refine ⟨fun hlt => ?_, fun hge => ?_⟩
  · have hk' : k < (xs.getD j []).length := by omega
    refine ⟨by omega, by omega, by omega, ?_⟩
    refine ⟨_, l01In_ok _ _ _, ?_⟩; simp (config := { maxSteps := 2000000 }) only [go_sem, Nat.reduceBEq, Nat.reduceAdd, Nat.reduceMul, Nat.reduceMod, Nat.reduceLT, Nat.reduceDiv, Nat.reduceSub, Nat.reduceLeDiff, Int.reduceToNat, Int.reduceLT, Int.reduceLE, reduceCtorEq]
    refine ⟨fun h2 => ?_, fun h2 => ?_⟩
    · refine (not_all_getD [] hj' ?_).symm
      rw [not_all_getD 0 hk' h2]; simp
    · refine ⟨inR_of (by omega) (by omega), hk', fun i hi => ?_, by simp⟩
      by_cases e : i = k
      · rw [e]; exact h2
      · exact hK i (by omega)
  · have : k = (xs.getD j []).length := by omega
    subst this
    refine ⟨inR_of (by omega) (by omega), hj', fun i hi => ?_, by simp⟩
    by_cases e : i = j
    · subst e; rw [all_of_getD 0 hK]; simp [-List.getD_eq_getElem?_getD, hn]
    · exact hI i (by omega)

end Go.Proofs.Ytinnndabmmnkpaa
