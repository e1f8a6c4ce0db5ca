/- Own work: contracts of functions that the claim reaches. No condition beyond those that each theorem names. -/
import Derived.Test.YtelblnfnfeoapaaProg
import Derived.Test.YtelblnfnfeoapaaGord0
namespace Go.Proofs.Ytelblnfnfeoapaa
open Go Go.Vc
set_option maxRecDepth 100000
set_option linter.unusedSimpArgs false
set_option linter.unusedVariables false
def K_spec_l23Unenvied : List Nat := [0, 1, 4, 5, 6, 7, 9, 10, 14, 15]
def C_spec_l23Unenvied : C :=
  let ks := K_spec_l23Unenvied
  (.seq
    (.rg 0 [(none, .v 4 .mv [.k (.i 0)])])
    (.cl ks (.seq
      (.seq
        (.rg 0 [(none, .v 8 .mv [.s 0]), (none, .v 9 .len [.s 8]), (none, .v 10 .mv [.k (.i 0)])])
        (.cl ks (.block 0
          (.loop
            (.seq
              (.rg 0 [(none, .v 11 (.bin .lss) [.s 10, .s 9])])
              (.seq
                (.cond (.s 11)
                  .skip
                  (.exit 0))
                (.cl ks (.seq
                  (.block 1
                    (.seq
                      (.rg 0 [(none, .v 12 .mv [.s 10]), (none, .tk 5 12)])
                      (.cl ks (.seq
                        (.rg 0 [(none, .v 6 .mv [.k (.b true)])])
                        (.cl ks (.seq
                          (.seq
                            (.rg 0 [(none, .v 13 .mv [.s 0]), (none, .v 14 .len [.s 13]), (none, .v 15 .mv [.k (.i 0)])])
                            (.cl ks (.block 2
                              (.loop
                                (.seq
                                  (.rg 0 [(none, .v 16 (.bin .lss) [.s 15, .s 14])])
                                  (.seq
                                    (.cond (.s 16)
                                      .skip
                                      (.exit 2))
                                    (.cl ks (.seq
                                      (.block 3
                                        (.seq
                                          (.rg 0 [(none, .v 17 .mv [.s 15]), (none, .tk 7 17)])
                                          (.cl ks (.rg 0 [(none, .v 18 .mv [.s 6]), (none, .v 19 .mv [.s 18]), (some (19, true), .v 20 .mv [.s 0]), (some (19, true), .v 21 .mv [.s 1]), (some (19, true), .v 22 .mv [.s 7]), (some (19, true), .v 23 .mv [.s 5]), (some (19, true), .co 24 58 [.s 20, .s 21, .s 22, .s 23]), (some (19, true), .v 25 (.bin .eql) [.s 24, .k (.i 0)]), (none, .v 26 .pick [.s 19, .s 25, .k (.b false)]), (none, .tk 6 26)]))))
                                      (.cl ks (.rg 0 [(none, .v 27 (.bin .add) [.s 15, .k (.i 1)]), (none, .v 15 .mv [.s 27])]))))))))))
                          (.cl ks (.seq
                            (.rg 0 [(none, .v 28 .mv [.s 6])])
                            (.cond (.s 28)
                              (.seq
                                (.rg 0 [(none, .v 29 .mv [.s 5]), (none, .tk 4 29)])
                                .ret)
                              .skip)))))))))
                  (.cl ks (.rg 0 [(none, .v 30 (.bin .add) [.s 10, .k (.i 1)]), (none, .v 10 .mv [.s 30])]))))))))))
      (.cl ks (.seq
        (.rg 0 [(none, .v 4 .mv [.k (.i (-1))])])
        .ret)))))

theorem chk_spec_l23Unenvied : ∃ b, Try.f38.body = some b ∧ chk Try.prog Try.f38.ntmps true C_spec_l23Unenvied b = true := ⟨_, rfl, by kernel_rfl⟩
def K_spec_l23Envier : List Nat := [0, 1, 2, 6, 7, 9, 10]
def C_spec_l23Envier : C :=
  let ks := K_spec_l23Envier
  (.seq
    (.rg 0 [(none, .v 6 .mv [.k (.i 0)])])
    (.cl ks (.seq
      (.seq
        (.rg 0 [(none, .v 8 .mv [.s 0]), (none, .v 9 .len [.s 8]), (none, .v 10 .mv [.k (.i 0)])])
        (.cl ks (.block 0
          (.loop
            (.seq
              (.rg 0 [(none, .v 11 (.bin .lss) [.s 10, .s 9])])
              (.seq
                (.cond (.s 11)
                  .skip
                  (.exit 0))
                (.cl ks (.seq
                  (.block 1
                    (.seq
                      (.rg 0 [(none, .v 12 .mv [.s 10]), (none, .tk 7 12)])
                      (.cl ks (.seq
                        (.rg 0 [(none, .v 13 .mv [.s 0]), (none, .v 14 .mv [.s 1]), (none, .v 15 .mv [.s 7]), (none, .v 16 .mv [.s 2]), (none, .co 17 58 [.s 13, .s 14, .s 15, .s 16]), (none, .v 18 (.bin .gtr) [.s 17, .k (.i 0)])])
                        (.cond (.s 18)
                          (.seq
                            (.rg 0 [(none, .v 19 .mv [.s 7]), (none, .tk 6 19)])
                            .ret)
                          .skip)))))
                  (.cl ks (.rg 0 [(none, .v 20 (.bin .add) [.s 10, .k (.i 1)]), (none, .v 10 .mv [.s 20])]))))))))))
      (.cl ks (.seq
        (.rg 0 [(none, .v 6 .mv [.k (.i (-1))])])
        .ret)))))

theorem chk_spec_l23Envier : ∃ b, Try.f60.body = some b ∧ chk Try.prog Try.f60.ntmps true C_spec_l23Envier b = true := ⟨_, rfl, by kernel_rfl⟩
def K_spec_l23Cycle : List Nat := [0, 1, 4, 5, 6, 7]
def C_spec_l23Cycle : C :=
  let ks := K_spec_l23Cycle
  (.seq
    (.rg 0 [(none, .mkn 4)])
    (.cl ks (.seq
      (.rg 0 [(none, .lit 8 [.k (.i 0)] 0), (none, .tk 5 8)])
      (.cl ks (.block 0
        (.loop
          (.block 1
            (.seq
              (.rg 0 [(none, .v 9 .mv [.s 0]), (none, .v 10 .mv [.s 1]), (none, .v 11 .mv [.s 5]), (none, .v 12 .mv [.s 5]), (none, .v 13 .len [.s 12]), (none, .v 14 (.bin .sub) [.s 13, .k (.i 1)]), (none, .v 15 .idx [.s 11, .s 14]), (none, .v 16 .ld [.s 15]), (none, .co 17 60 [.s 9, .s 10, .s 16]), (none, .tk 6 17)])
              (.cl ks (.seq
                (.rg 0 [(none, .v 18 .mv [.s 5]), (none, .v 19 .mv [.s 6]), (none, .co 20 59 [.s 18, .s 19]), (none, .tk 7 20)])
                (.cl ks (.seq
                  (.seq
                    (.rg 0 [(none, .v 21 .mv [.s 7]), (none, .v 22 (.bin .geq) [.s 21, .k (.i 0)])])
                    (.cond (.s 22)
                      (.seq
                        (.rg 0 [(none, .frz 5), (none, .v 23 .mv [.s 5]), (none, .v 24 .mv [.s 7]), (none, .v 25 (.sub true false) [.s 23, .s 24]), (none, .tk 4 25)])
                        .ret)
                      .skip))
                  (.cl ks (.rg 0 [(none, .v 26 .mv [.s 5]), (none, .v 27 .mv [.s 6]), (none, .lit 28 [.s 27] 0), (none, .app 29 (.s 26) (.s 28) 0), (none, .tk 5 29)]))))))))))))))

theorem chk_spec_l23Cycle : ∃ b, Try.f40.body = some b ∧ chk Try.prog Try.f40.ntmps true C_spec_l23Cycle b = true := ⟨_, rfl, by kernel_rfl⟩
def K_spec_l23Shift : List Nat := [0, 1, 4, 5, 6, 7, 8, 12, 13, 14]
def C_spec_l23Shift : C :=
  let ks := K_spec_l23Shift
  (.seq
    (.rg 0 [(none, .mkn 4)])
    (.cl ks (.seq
      (.rg 0 [(none, .lit 9 [] 0), (none, .v 10 .mv [.s 0]), (none, .app 11 (.s 9) (.s 10) 0), (none, .tk 5 11)])
      (.cl ks (.seq
        (.seq
          (.rg 0 [(none, .v 12 .mv [.s 0]), (none, .v 13 .len [.s 12]), (none, .v 14 .mv [.k (.i 0)])])
          (.cl ks (.block 0
            (.loop
              (.seq
                (.rg 0 [(none, .v 15 (.bin .lss) [.s 14, .s 13])])
                (.seq
                  (.cond (.s 15)
                    .skip
                    (.exit 0))
                  (.cl ks (.seq
                    (.block 1
                      (.seq
                        (.rg 0 [(none, .v 16 .mv [.s 14]), (none, .v 17 .idx [.s 12, .s 14]), (none, .v 18 .ld [.s 17]), (none, .tk 6 16), (none, .tk 7 18)])
                        (.cl ks (.seq
                          (.rg 0 [(none, .v 19 .mv [.s 1]), (none, .v 20 .mv [.s 7]), (none, .co 21 59 [.s 19, .s 20]), (none, .tk 8 21)])
                          (.cl ks (.seq
                            (.rg 0 [(none, .v 22 .mv [.s 8]), (none, .v 23 (.bin .geq) [.s 22, .k (.i 0)])])
                            (.cond (.s 23)
                              (.rg 0 [(none, .v 24 .mv [.s 5]), (none, .v 25 .mv [.s 6]), (none, .v 26 .mv [.s 1]), (none, .v 27 .mv [.s 8]), (none, .v 28 (.bin .add) [.s 27, .k (.i 1)]), (none, .v 29 .mv [.s 1]), (none, .v 30 .len [.s 29]), (none, .v 31 (.bin .rem) [.s 28, .s 30]), (none, .v 32 .idx [.s 26, .s 31]), (none, .v 33 .ld [.s 32]), (none, .v 34 .idx [.s 24, .s 25]), (none, .st (.s 34) (.s 33))])
                              .skip)))))))
                    (.cl ks (.rg 0 [(none, .v 35 (.bin .add) [.s 14, .k (.i 1)]), (none, .v 14 .mv [.s 35])]))))))))))
        (.cl ks (.seq
          (.rg 0 [(none, .v 36 .mv [.s 5]), (none, .tk 4 36)])
          .ret)))))))

theorem chk_spec_l23Shift : ∃ b, Try.f39.body = some b ∧ chk Try.prog Try.f39.ntmps true C_spec_l23Shift b = true := ⟨_, rfl, by kernel_rfl⟩
def K_impl_unenvied : List Nat := [0, 1, 2, 3, 4, 1002, 1003]
def C_impl_unenvied : C :=
  let ks := K_impl_unenvied
  (.seq
    (.rg 0 [(none, .box 2 (.s 0)), (none, .box 3 (.s 1)), (none, .v 4 .mv [.k (.i 0)])])
    (.cl ks (.seq
      (.rg 0 [(none, .v 5 .ld [.s 2]), (none, .v 6 .len [.s 5]), (none, .co 7 64 [.s 6]), (none, .v 8 (.clo 65) [.s 2, .s 3]), (none, .co 9 63 [.s 7, .s 8]), (none, .tk 4 9)])
      .ret)))

theorem chk_impl_unenvied : ∃ b, Try.f43.body = some b ∧ chk Try.prog Try.f43.ntmps true C_impl_unenvied b = true := ⟨_, rfl, by kernel_rfl⟩
def K_impl_unenvied_1 : List Nat := [0, 1, 2, 3, 4, 1003]
def C_impl_unenvied_1 : C :=
  let ks := K_impl_unenvied_1
  (.seq
    (.rg 0 [(none, .box 3 (.s 0)), (none, .v 4 .mv [.k (.b false)])])
    (.cl ks (.seq
      (.rg 0 [(none, .v 5 .ld [.s 1]), (none, .v 6 .len [.s 5]), (none, .co 7 64 [.s 6]), (none, .v 8 (.clo 67) [.s 1, .s 2, .s 3]), (none, .co 9 66 [.s 7, .s 8]), (none, .v 10 .not [.s 9]), (none, .tk 4 10)])
      .ret)))

theorem chk_impl_unenvied_1 : ∃ b, Try.f65.body = some b ∧ chk Try.prog Try.f65.ntmps true C_impl_unenvied_1 b = true := ⟨_, rfl, by kernel_rfl⟩
def K_impl_unenvied_1_1 : List Nat := [0, 1, 2, 3, 5]
def C_impl_unenvied_1_1 : C :=
  let ks := K_impl_unenvied_1_1
  (.seq
    (.rg 0 [(none, .v 5 .mv [.k (.b false)])])
    (.cl ks (.seq
      (.rg 0 [(none, .v 6 .ld [.s 1]), (none, .v 7 .ld [.s 2]), (none, .v 8 .mv [.s 0]), (none, .v 9 .ld [.s 3]), (none, .co 10 68 [.s 6, .s 7, .s 8, .s 9]), (none, .tk 5 10)])
      .ret)))

theorem chk_impl_unenvied_1_1 : ∃ b, Try.f67.body = some b ∧ chk Try.prog Try.f67.ntmps true C_impl_unenvied_1_1 b = true := ⟨_, rfl, by kernel_rfl⟩
def K_impl_envyCycle : List Nat := [0, 1, 2, 3, 4, 5, 6, 7, 25, 1002, 1003, 1006]
def C_impl_envyCycle : C :=
  let ks := K_impl_envyCycle
  (.seq
    (.rg 0 [(none, .box 2 (.s 0)), (none, .box 3 (.s 1)), (none, .mkn 4)])
    (.cl ks (.seq
      (.rg 0 [(none, .mkn 5)])
      (.cl ks (.seq
        (.rg 0 [(none, .new 6 [.i 0]), (none, .st (.s 6) (.k (.i 0)))])
        (.cl ks (.block 0
          (.loop
            (.seq
              (.block 1
                (.seq
                  (.seq
                    (.rg 0 [(none, .v 8 .mv [.s 5]), (none, .v 9 .ld [.s 6]), (none, .co 10 69 [.s 8, .s 9]), (none, .tk 7 10)])
                    (.cl ks (.seq
                      (.rg 0 [(none, .v 11 .mv [.s 7]), (none, .v 12 (.bin .geq) [.s 11, .k (.i 0)])])
                      (.cond (.s 12)
                        (.seq
                          (.rg 0 [(none, .frz 5), (none, .v 13 .mv [.s 5]), (none, .v 14 .mv [.s 7]), (none, .v 15 (.sub true false) [.s 13, .s 14]), (none, .tk 4 15)])
                          .ret)
                        .skip))))
                  (.cl ks (.seq
                    (.rg 0 [(none, .v 16 .mv [.s 5]), (none, .v 17 .ld [.s 6]), (none, .lit 18 [.s 17] 0), (none, .app 19 (.s 16) (.s 18) 0), (none, .tk 5 19)])
                    (.cl ks (.rg 0 [(none, .v 20 .ld [.s 2]), (none, .v 21 .len [.s 20]), (none, .co 22 64 [.s 21]), (none, .v 23 (.clo 70) [.s 2, .s 3, .s 6]), (none, .co 24 63 [.s 22, .s 23]), (none, .st (.s 6) (.s 24))]))))))
              (.cl ks (.seq
                (.rg 0 [(none, .v 25 .ld [.s 6])])
                (.cl ks (.rg 0 [(none, .new 6 [.i 0]), (none, .st (.s 6) (.s 25))])))))))))))))

theorem chk_impl_envyCycle : ∃ b, Try.f45.body = some b ∧ chk Try.prog Try.f45.ntmps true C_impl_envyCycle b = true := ⟨_, rfl, by kernel_rfl⟩
def K_impl_envyCycle_1 : List Nat := [0, 1, 2, 3, 5]
def C_impl_envyCycle_1 : C :=
  let ks := K_impl_envyCycle_1
  (.seq
    (.rg 0 [(none, .v 5 .mv [.k (.b false)])])
    (.cl ks (.seq
      (.rg 0 [(none, .v 6 .ld [.s 1]), (none, .v 7 .ld [.s 2]), (none, .v 8 .mv [.s 0]), (none, .v 9 .ld [.s 3]), (none, .co 10 68 [.s 6, .s 7, .s 8, .s 9]), (none, .tk 5 10)])
      .ret)))

theorem chk_impl_envyCycle_1 : ∃ b, Try.f70.body = some b ∧ chk Try.prog Try.f70.ntmps true C_impl_envyCycle_1 b = true := ⟨_, rfl, by kernel_rfl⟩
def K_impl_passOn : List Nat := [0, 1, 4, 5, 6, 7, 8, 9]
def C_impl_passOn : C :=
  let ks := K_impl_passOn
  (.seq
    (.rg 0 [(none, .v 7 .mv [.s 0]), (none, .v 8 .len [.s 7]), (none, .v 9 .mv [.k (.i 0)])])
    (.cl ks (.block 0
      (.loop
        (.seq
          (.rg 0 [(none, .v 10 (.bin .lss) [.s 9, .s 8])])
          (.seq
            (.cond (.s 10)
              .skip
              (.exit 0))
            (.cl ks (.seq
              (.block 1
                (.seq
                  (.rg 0 [(none, .v 11 .mv [.s 9]), (none, .v 12 .idx [.s 7, .s 9]), (none, .v 13 .ld [.s 12]), (none, .tk 4 11), (none, .tk 5 13)])
                  (.cl ks (.seq
                    (.rg 0 [(none, .v 14 .mv [.s 1]), (none, .v 15 .mv [.s 5]), (none, .co 16 69 [.s 14, .s 15]), (none, .tk 6 16)])
                    (.cl ks (.seq
                      (.rg 0 [(none, .v 17 .mv [.s 6]), (none, .v 18 (.bin .geq) [.s 17, .k (.i 0)])])
                      (.cond (.s 18)
                        (.rg 0 [(none, .v 19 .mv [.s 0]), (none, .v 20 .mv [.s 4]), (none, .v 21 .mv [.s 1]), (none, .v 22 .mv [.s 6]), (none, .v 23 (.bin .add) [.s 22, .k (.i 1)]), (none, .v 24 .mv [.s 1]), (none, .v 25 .len [.s 24]), (none, .v 26 (.bin .rem) [.s 23, .s 25]), (none, .v 27 .idx [.s 21, .s 26]), (none, .v 28 .ld [.s 27]), (none, .v 29 .idx [.s 19, .s 20]), (none, .st (.s 29) (.s 28))])
                        .skip)))))))
              (.cl ks (.rg 0 [(none, .v 30 (.bin .add) [.s 9, .k (.i 1)]), (none, .v 9 .mv [.s 30])]))))))))))

theorem chk_impl_passOn : ∃ b, Try.f44.body = some b ∧ chk Try.prog Try.f44.ntmps false C_impl_passOn b = true := ⟨_, rfl, by kernel_rfl⟩
theorem spec_EnvyI_ok {n1 n2 : Option Bool} (vs : List (List Int)) (l : List Int) (V : Vals vs l.length) (i : Nat) (k : Int) (hi : i < vs.length) :
    CallOk Try.prog 58 [.s n1 (rr vs), .s n2 (ii l), .i i, .i k] [(0, .i (max 0 (wo vs l i k - wo vs l i i)))] := by
  have w1 := wo_bd (k := k) V hi
  have w2 := wo_bd (k := (i : Int)) V hi
  obtain ⟨code0, hcd1, hcd2⟩ := chk_spec_l23Envy; refine callOk_of Try.func58 hcd1 mo Try.call58 (rs := [8]) (by kernel_rfl) hcd2 (by rw [Try.ntmps58]; simp) (by simp) (by decide) ?_; unfold C_spec_l23Envy K_spec_l23Envy; simp (config := { maxSteps := 2000000 }) only [go_sem, Nat.reduceBEq, Nat.reduceAdd, Nat.reduceMul, Nat.reduceMod, Nat.reduceLT, Nat.reduceDiv, Nat.reduceSub, Nat.reduceLeDiff, Int.reduceToNat, Int.reduceLT, Int.reduceLE, reduceCtorEq, List.take_nil, List.drop_nil]
  refine ⟨_, spec_l23Worth_ok vs l V i k hi, ?_⟩; simp (config := { maxSteps := 2000000 }) only [go_sem, Nat.reduceBEq, Nat.reduceAdd, Nat.reduceMul, Nat.reduceMod, Nat.reduceLT, Nat.reduceDiv, Nat.reduceSub, Nat.reduceLeDiff, Int.reduceToNat, Int.reduceLT, Int.reduceLE, reduceCtorEq, List.take_nil, List.drop_nil]
  refine ⟨_, spec_l23Worth_ok vs l V i i hi, ?_⟩; simp (config := { maxSteps := 2000000 }) only [go_sem, Nat.reduceBEq, Nat.reduceAdd, Nat.reduceMul, Nat.reduceMod, Nat.reduceLT, Nat.reduceDiv, Nat.reduceSub, Nat.reduceLeDiff, Int.reduceToNat, Int.reduceLT, Int.reduceLE, reduceCtorEq, List.take_nil, List.drop_nil]
  exact inR_of (by omega) (by omega)
theorem ev_t {vs : List (List Int)} {l : List Int} {k : Int} {i : Nat} (h : wo vs l i i < wo vs l i k) : evB vs l k i = true := by simp [evB, h]
theorem ev_f {vs : List (List Int)} {l : List Int} {k : Int} {i : Nat} (h : ¬ wo vs l i i < wo vs l i k) : evB vs l k i = false := by simp [evB]; omega
theorem spec_l23Unenvied_ok {n1 n2 : Option Bool} (vs : List (List Int)) (l : List Int) (V : Vals vs l.length) :
    CallOk Try.prog 38 [.s n1 (rr vs), .s n2 (ii l)] [(0, .i (unvF vs l))] := by
  have n3 := V.n3
  obtain ⟨code0, hcd1, hcd2⟩ := chk_spec_l23Unenvied; refine callOk_of Try.func38 hcd1 mo Try.call38 (rs := [4]) (by kernel_rfl) hcd2 (by rw [Try.ntmps38]; simp) (by simp) (by decide) ?_; unfold C_spec_l23Unenvied K_spec_l23Unenvied; simp (config := { maxSteps := 2000000 }) only [go_sem, Nat.reduceBEq, Nat.reduceAdd, Nat.reduceMul, Nat.reduceMod, Nat.reduceLT, Nat.reduceDiv, Nat.reduceSub, Nat.reduceLeDiff, Int.reduceToNat, Int.reduceLT, Int.reduceLE, reduceCtorEq, List.take_nil, List.drop_nil]
  refine loopN vs.length (fun k => [(0, .t .arg (.s n1 (rr vs))), (1, .t .arg (.s n2 (ii l))), (9, .i vs.length), (10, .i (k : Nat))]) (fun k => ∀ q : Nat, q < k → unB vs l q = false) ⟨by simp, by simp (config := { maxSteps := 2000000 }) only [go_sem, Nat.reduceBEq, Nat.reduceAdd, Nat.reduceMul, Nat.reduceMod, Nat.reduceLT, Nat.reduceDiv, Nat.reduceSub, Nat.reduceLeDiff, Int.reduceToNat, Int.reduceLT, Int.reduceLE, reduceCtorEq, List.take_nil, List.drop_nil]; simp⟩ fun k hk hI => ?_
  simp (config := { maxSteps := 2000000 }) only [go_sem, Nat.reduceBEq, Nat.reduceAdd, Nat.reduceMul, Nat.reduceMod, Nat.reduceLT, Nat.reduceDiv, Nat.reduceSub, Nat.reduceLeDiff, Int.reduceToNat, Int.reduceLT, Int.reduceLE, reduceCtorEq, List.take_nil, List.drop_nil]
  refine ⟨fun hlt => ?_, fun hge => ?_⟩
  · have hk' : k < vs.length := by omega
    refine loopN vs.length (fun i => [(0, .t .arg (.s n1 (rr vs))), (1, .t .arg (.s n2 (ii l))), (9, .i vs.length), (10, .i (k : Nat)), (5, .i k), (6, .b ((List.range i).all fun q => !evB vs l k q)), (14, .i vs.length), (15, .i (i : Nat))]) (fun _ => True) ⟨trivial, by simp (config := { maxSteps := 2000000 }) only [go_sem, Nat.reduceBEq, Nat.reduceAdd, Nat.reduceMul, Nat.reduceMod, Nat.reduceLT, Nat.reduceDiv, Nat.reduceSub, Nat.reduceLeDiff, Int.reduceToNat, Int.reduceLT, Int.reduceLE, reduceCtorEq, List.take_nil, List.drop_nil]; simp⟩ fun i hi _ => ?_
    have hs : ((List.range i ++ [i]).all fun q => !evB vs l k q) = (((List.range i).all fun q => !evB vs l k q) && !evB vs l k i) := by simp
    have hE : i = vs.length → ((List.range i).all fun q => !evB vs l k q) = unB vs l k := fun e => by
      subst e
      unfold unB upto
      rw [List.any_map, ← List.not_any_eq_all_not]; simp [Function.comp_def]
    cases hb : (List.range i).all fun q => !evB vs l k q with
    | true =>
      rw [hb] at hE
      simp (config := { maxSteps := 2000000 }) only [go_sem, Nat.reduceBEq, Nat.reduceAdd, Nat.reduceMul, Nat.reduceMod, Nat.reduceLT, Nat.reduceDiv, Nat.reduceSub, Nat.reduceLeDiff, Int.reduceToNat, Int.reduceLT, Int.reduceLE, reduceCtorEq, List.take_nil, List.drop_nil]
      refine ⟨fun hlt2 => ?_, fun hge2 => ?_⟩
      · have hi' : i < vs.length := by omega
        refine ⟨_, spec_EnvyI_ok vs l V i k hi', ?_⟩; simp (config := { maxSteps := 2000000 }) only [go_sem, Nat.reduceBEq, Nat.reduceAdd, Nat.reduceMul, Nat.reduceMod, Nat.reduceLT, Nat.reduceDiv, Nat.reduceSub, Nat.reduceLeDiff, Int.reduceToNat, Int.reduceLT, Int.reduceLE, reduceCtorEq, List.take_nil, List.drop_nil]
        rw [hs, hb, Bool.true_and]
        refine ⟨inR_of (by omega) (by omega), hi', ?_, by simp⟩
        by_cases h : wo vs l i i < wo vs l i k
        · rw [ev_t h, decide_eq_false (by omega)]; rfl
        · rw [ev_f h, decide_eq_true (by omega)]; rfl
      · exact (fsI_hit hk' (hE (by omega)).symm hI).symm
    | false =>
      rw [hb] at hE
      simp (config := { maxSteps := 2000000 }) only [go_sem, Nat.reduceBEq, Nat.reduceAdd, Nat.reduceMul, Nat.reduceMod, Nat.reduceLT, Nat.reduceDiv, Nat.reduceSub, Nat.reduceLeDiff, Int.reduceToNat, Int.reduceLT, Int.reduceLE, reduceCtorEq, List.take_nil, List.drop_nil]
      refine ⟨fun hlt2 => ?_, fun hge2 => ?_⟩
      · have hi' : i < vs.length := by omega
        rw [hs, hb, Bool.false_and]
        exact ⟨inR_of (by omega) (by omega), hi', rfl, by simp⟩
      · refine ⟨inR_of (by omega) (by omega), hk', fun q hq => ?_, by simp⟩
        by_cases e : q = k
        · rw [e]; exact (hE (by omega)).symm
        · exact hI q (by omega)
  · have : k = vs.length := by omega
    subst this
    exact (fsI_miss hI).symm
theorem spec_l23Envier_ok {n1 n2 : Option Bool} (vs : List (List Int)) (l : List Int) (V : Vals vs l.length) (k : Int) :
    CallOk Try.prog 60 [.s n1 (rr vs), .s n2 (ii l), .i k] [(0, .i (nvF vs l k))] := by
  have n3 := V.n3
  obtain ⟨code0, hcd1, hcd2⟩ := chk_spec_l23Envier; refine callOk_of Try.func60 hcd1 mo Try.call60 (rs := [6]) (by kernel_rfl) hcd2 (by rw [Try.ntmps60]; simp) (by simp) (by decide) ?_; unfold C_spec_l23Envier K_spec_l23Envier; simp (config := { maxSteps := 2000000 }) only [go_sem, Nat.reduceBEq, Nat.reduceAdd, Nat.reduceMul, Nat.reduceMod, Nat.reduceLT, Nat.reduceDiv, Nat.reduceSub, Nat.reduceLeDiff, Int.reduceToNat, Int.reduceLT, Int.reduceLE, reduceCtorEq, List.take_nil, List.drop_nil]
  refine loopN vs.length (fun i => [(0, .t .arg (.s n1 (rr vs))), (1, .t .arg (.s n2 (ii l))), (2, .i k), (9, .i vs.length), (10, .i (i : Nat))]) (fun i => ∀ q : Nat, q < i → evB vs l k q = false) ⟨by simp, by simp (config := { maxSteps := 2000000 }) only [go_sem, Nat.reduceBEq, Nat.reduceAdd, Nat.reduceMul, Nat.reduceMod, Nat.reduceLT, Nat.reduceDiv, Nat.reduceSub, Nat.reduceLeDiff, Int.reduceToNat, Int.reduceLT, Int.reduceLE, reduceCtorEq, List.take_nil, List.drop_nil]; simp⟩ fun i hi hI => ?_
  simp (config := { maxSteps := 2000000 }) only [go_sem, Nat.reduceBEq, Nat.reduceAdd, Nat.reduceMul, Nat.reduceMod, Nat.reduceLT, Nat.reduceDiv, Nat.reduceSub, Nat.reduceLeDiff, Int.reduceToNat, Int.reduceLT, Int.reduceLE, reduceCtorEq, List.take_nil, List.drop_nil]
  refine ⟨fun hlt => ?_, fun hge => ?_⟩
  · have hi' : i < vs.length := by omega
    refine ⟨_, spec_EnvyI_ok vs l V i k hi', ?_⟩; simp (config := { maxSteps := 2000000 }) only [go_sem, Nat.reduceBEq, Nat.reduceAdd, Nat.reduceMul, Nat.reduceMod, Nat.reduceLT, Nat.reduceDiv, Nat.reduceSub, Nat.reduceLeDiff, Int.reduceToNat, Int.reduceLT, Int.reduceLE, reduceCtorEq, List.take_nil, List.drop_nil]
    refine ⟨fun h => ?_, fun h => ⟨inR_of (by omega) (by omega), hi', fun q hq => ?_, by simp⟩⟩
    · exact (fsI_hit hi' (ev_t (by omega)) hI).symm
    · by_cases e : q = i
      · rw [e]; exact ev_f (by omega)
      · exact hI q (by omega)
  · have : i = vs.length := by omega
    subst this
    exact (fsI_miss hI).symm
theorem spec_l23Cycle_ok {n1 n2 : Option Bool} (vs : List (List Int)) (l : List Int) (V : Vals vs l.length) (hU : unvF vs l < 0) :
    CallOk Try.prog 40 [.s n1 (rr vs), .s n2 (ii l)] [(0, .t .fr (.s none (ii (cycF vs l))))] := by
  have n3 := V.n3
  have n1' := V.n1
  have hf : ∀ x : Int, 0 ≤ x → x < vs.length → 0 ≤ nvF vs l x ∧ nvF vs l x < vs.length := fun x a b => by have := nv_next hU a b; exact ⟨this.1, this.2.1⟩
  obtain ⟨code0, hcd1, hcd2⟩ := chk_spec_l23Cycle; refine callOk_of Try.func40 hcd1 mo Try.call40 (rs := [4]) (by kernel_rfl) hcd2 (by rw [Try.ntmps40]; simp) (by simp) (by decide) ?_; unfold C_spec_l23Cycle K_spec_l23Cycle; simp (config := { maxSteps := 2000000 }) only [go_sem, Nat.reduceBEq, Nat.reduceAdd, Nat.reduceMul, Nat.reduceMod, Nat.reduceLT, Nat.reduceDiv, Nat.reduceSub, Nat.reduceLeDiff, Int.reduceToNat, Int.reduceLT, Int.reduceLE, reduceCtorEq, List.take_nil, List.drop_nil]
  refine loopN vs.length (fun j => [(0, .t .arg (.s n1 (rr vs))), (1, .t .arg (.s n2 (ii l))), (5, .own 1 none (ii (ptE (nvF vs l) 0 (j + 1))))]) (fun j => (ptE (nvF vs l) 0 (j + 1)).Nodup ∧ enF (nvF vs l) (vs.length - j) (j + 1) = cycF vs l) ⟨⟨by simp [ptE], by
    unfold cycF; rw [enF_go (by simp [ptE, placeI, idxP])]; rfl⟩, by simp (config := { maxSteps := 2000000 }) only [go_sem, Nat.reduceBEq, Nat.reduceAdd, Nat.reduceMul, Nat.reduceMod, Nat.reduceLT, Nat.reduceDiv, Nat.reduceSub, Nat.reduceLeDiff, Int.reduceToNat, Int.reduceLT, Int.reduceLE, reduceCtorEq, List.take_nil, List.drop_nil]; simp [ptE, itE]; exact T.leL_refl _⟩ fun j hj hI => ?_
  obtain ⟨hI1, hI2⟩ := hI
  have hpl : (ptE (nvF vs l) 0 (j + 1)).length = j + 1 := ptE_len
  have hjn := ptE_le hf (by omega) (by omega) hI1
  have e : (((j + 1 : Nat) : Int) - 1).toNat = j := by omega
  have hnx : nvF vs l (itE (nvF vs l) 0 j) = itE (nvF vs l) 0 (j + 1) := rfl
  simp (config := { maxSteps := 2000000 }) only [go_sem, Nat.reduceBEq, Nat.reduceAdd, Nat.reduceMul, Nat.reduceMod, Nat.reduceLT, Nat.reduceDiv, Nat.reduceSub, Nat.reduceLeDiff, Int.reduceToNat, Int.reduceLT, Int.reduceLE, reduceCtorEq, List.take_nil, List.drop_nil]
  rw [hpl, e, ptE_get (by omega)]
  refine ⟨inR_of (by omega) (by omega), by omega, by omega, by omega, ?_⟩
  refine ⟨_, spec_l23Envier_ok vs l V (itE (nvF vs l) 0 j), ?_⟩; simp (config := { maxSteps := 2000000 }) only [go_sem, Nat.reduceBEq, Nat.reduceAdd, Nat.reduceMul, Nat.reduceMod, Nat.reduceLT, Nat.reduceDiv, Nat.reduceSub, Nat.reduceLeDiff, Int.reduceToNat, Int.reduceLT, Int.reduceLE, reduceCtorEq, List.take_nil, List.drop_nil]
  rw [hnx]
  refine ⟨_, spec_PlaceOf_ok (ptE (nvF vs l) 0 (j + 1)) (itE (nvF vs l) 0 (j + 1)) (by omega), ?_⟩; simp (config := { maxSteps := 2000000 }) only [go_sem, Nat.reduceBEq, Nat.reduceAdd, Nat.reduceMul, Nat.reduceMod, Nat.reduceLT, Nat.reduceDiv, Nat.reduceSub, Nat.reduceLeDiff, Int.reduceToNat, Int.reduceLT, Int.reduceLE, reduceCtorEq, List.take_nil, List.drop_nil]
  have hk : vs.length - j = (vs.length - (j + 1)) + 1 := by omega
  refine ⟨fun h => ⟨?_, ?_⟩, fun h => ⟨by omega, by omega, ⟨?_, ?_⟩, ptE_s.symm⟩⟩
  · rcases place_cases (ptE (nvF vs l) 0 (j + 1)) (itE (nvF vs l) 0 (j + 1)) with ⟨q, h1, _, h3⟩ | ⟨_, h3⟩
    · unfold subOk; rw [h3]; omega
    · omega
  · rw [List.take_length, ← hI2, hk, enF_at (by omega)]
  · exact ptE_nd hI1 fun hm => by
      rcases place_cases (ptE (nvF vs l) 0 (j + 1)) (itE (nvF vs l) 0 (j + 1)) with ⟨q, h1, _, h3⟩ | ⟨h3, _⟩
      · omega
      · exact h3 hm
  · rw [← hI2, hk, enF_go (by omega)]
theorem mix_get {l c : List Int} {g : Nat} (hg : g < l.length) : ((passL l c).take g ++ l.drop g).getD g 0 = l.getD g 0 := by
  have : ((passL l c).take g).length = g := by rw [List.length_take, pass_len]; omega
  simp only [List.getD]
  rw [List.getElem?_append_right (by omega), this, Nat.sub_self]; simp
theorem mix_len {l c : List Int} {g : Nat} (hg : g ≤ l.length) : ((passL l c).take g ++ l.drop g).length = l.length := by
  rw [List.length_append, List.length_take, List.length_drop, pass_len]; omega
theorem mix_s {l c : List Int} {g : Nat} (hg : g < l.length) : ((passL l c).take g ++ l.drop g).set g (pass1 c (l.getD g 0)) = (passL l c).take (g + 1) ++ l.drop (g + 1) := by
  have h1 : ((passL l c).take g).length = g := by rw [List.length_take, pass_len]; omega
  rw [List.set_append_right _ _ (by omega), h1, Nat.sub_self, drop_getD 0 hg, List.set_cons_zero, take_getD 0 (by rw [pass_len]; exact hg), pass_get hg, List.append_assoc]; rfl
theorem mix_n {l c : List Int} {g : Nat} (hg : g < l.length) (h : placeI c (l.getD g 0) < 0) : (passL l c).take g ++ l.drop g = (passL l c).take (g + 1) ++ l.drop (g + 1) := by
  have h2 : pass1 c (l.getD g 0) = l.getD g 0 := by unfold pass1; rw [if_pos h]
  rw [drop_getD 0 hg, take_getD 0 (by rw [pass_len]; exact hg), pass_get hg, h2, List.append_assoc]; rfl
theorem spec_l23Shift_ok {n1 n2 : Option Bool} (l c : List Int) (hl : l.length ≤ 1048576) (hc : c.length ≤ 1048576) :
    CallOk Try.prog 39 [.s n1 (ii l), .s n2 (ii c)] [(0, .own 1 none (ii (passL l c)))] := by
  obtain ⟨code0, hcd1, hcd2⟩ := chk_spec_l23Shift; refine callOk_of Try.func39 hcd1 mo Try.call39 (rs := [4]) (by kernel_rfl) hcd2 (by rw [Try.ntmps39]; simp) (by simp) (by decide) ?_; unfold C_spec_l23Shift K_spec_l23Shift; simp (config := { maxSteps := 2000000 }) only [go_sem, Nat.reduceBEq, Nat.reduceAdd, Nat.reduceMul, Nat.reduceMod, Nat.reduceLT, Nat.reduceDiv, Nat.reduceSub, Nat.reduceLeDiff, Int.reduceToNat, Int.reduceLT, Int.reduceLE, reduceCtorEq, List.take_nil, List.drop_nil]
  refine ⟨by omega, ?_⟩
  refine loopN l.length (fun g => [(0, .t .arg (.s n1 (ii l))), (1, .t .arg (.s n2 (ii c))), (5, .own 1 none (ii ((passL l c).take g ++ l.drop g))), (12, .t .arg (.s n1 (ii l))), (13, .i l.length), (14, .i (g : Nat))]) (fun _ => True) ⟨trivial, by simp (config := { maxSteps := 2000000 }) only [go_sem, Nat.reduceBEq, Nat.reduceAdd, Nat.reduceMul, Nat.reduceMod, Nat.reduceLT, Nat.reduceDiv, Nat.reduceSub, Nat.reduceLeDiff, Int.reduceToNat, Int.reduceLT, Int.reduceLE, reduceCtorEq, List.take_nil, List.drop_nil]; simp⟩ fun g hg _ => ?_
  simp (config := { maxSteps := 2000000 }) only [go_sem, Nat.reduceBEq, Nat.reduceAdd, Nat.reduceMul, Nat.reduceMod, Nat.reduceLT, Nat.reduceDiv, Nat.reduceSub, Nat.reduceLeDiff, Int.reduceToNat, Int.reduceLT, Int.reduceLE, reduceCtorEq, List.take_nil, List.drop_nil]
  refine ⟨fun hlt => ?_, fun hge => ?_⟩
  · have hg' : g < l.length := by omega
    refine ⟨by omega, hg', hg', ?_⟩
    refine ⟨_, spec_PlaceOf_ok c (l.getD g 0) hc, ?_⟩; simp (config := { maxSteps := 2000000 }) only [go_sem, Nat.reduceBEq, Nat.reduceAdd, Nat.reduceMul, Nat.reduceMod, Nat.reduceLT, Nat.reduceDiv, Nat.reduceSub, Nat.reduceLeDiff, Int.reduceToNat, Int.reduceLT, Int.reduceLE, reduceCtorEq, List.take_nil, List.drop_nil]
    have hmod : ∀ p : Nat, p < c.length → ((p : Int) + 1).tmod (c.length : Int) = (((p + 1) % c.length : Nat) : Int) := fun p _ => by
      rw [Int.tmod_eq_emod_of_nonneg (by omega)]; simp
    refine ⟨fun h => ?_, fun h => ⟨inR_of (by omega) (by omega), hg', mix_n hg' (by omega), by simp⟩⟩
    rcases place_cases c (l.getD g 0) with ⟨q, h1, _, h3⟩ | ⟨_, h3⟩
    · have hlt := Nat.mod_lt (q + 1) (show 0 < c.length by omega)
      have hp : pass1 c (l.getD g 0) = c.getD ((q + 1) % c.length) 0 := by unfold pass1; rw [if_neg (by omega), h3, Int.toNat_natCast]
      rw [h3, hmod q h1, Int.toNat_natCast, mix_len hg, ← hp, mix_s hg']
      exact ⟨inR_of (by omega) (by omega), by omega, by omega, hlt, hlt, by omega, hg', hg', inR_of (by omega) (by omega), hg', rfl, by simp⟩
    · omega
  · have : g = l.length := by omega
    subst this
    rw [List.drop_length, List.append_nil, List.take_of_length_le (by rw [pass_len]; omega)]
theorem impl_unenvied11_ok {n1 n2 : Option Bool} (vs : List (List Int)) (l : List Int) (V : Vals vs l.length) (k : Int) (i : Nat) (hi : i < vs.length) :
    CallOk Try.prog 67 [.i i, .q [.s n1 (rr vs)] 0, .q [.s n2 (ii l)] 0, .q [.i k] 0] [(0, .b (evB vs l k i))] := by
  obtain ⟨code0, hcd1, hcd2⟩ := chk_impl_unenvied_1_1; refine callOk_of Try.func67 hcd1 mo Try.call67 (rs := [5]) (by kernel_rfl) hcd2 (by rw [Try.ntmps67]; simp) (by simp) (by decide) ?_; unfold C_impl_unenvied_1_1 K_impl_unenvied_1_1; simp (config := { maxSteps := 2000000 }) only [go_sem, Nat.reduceBEq, Nat.reduceAdd, Nat.reduceMul, Nat.reduceMod, Nat.reduceLT, Nat.reduceDiv, Nat.reduceSub, Nat.reduceLeDiff, Int.reduceToNat, Int.reduceLT, Int.reduceLE, reduceCtorEq, List.take_nil, List.drop_nil]
  refine ⟨_, impl_envies_ok vs l V i k hi, ?_⟩; simp (config := { maxSteps := 2000000 }) only [go_sem, Nat.reduceBEq, Nat.reduceAdd, Nat.reduceMul, Nat.reduceMod, Nat.reduceLT, Nat.reduceDiv, Nat.reduceSub, Nat.reduceLeDiff, Int.reduceToNat, Int.reduceLT, Int.reduceLE, reduceCtorEq, List.take_nil, List.drop_nil]
  simp [evB]
theorem impl_envyCycle1_ok {n1 n2 : Option Bool} (vs : List (List Int)) (l : List Int) (V : Vals vs l.length) (k : Int) (i : Nat) (hi : i < vs.length) :
    CallOk Try.prog 70 [.i i, .q [.s n1 (rr vs)] 0, .q [.s n2 (ii l)] 0, .q [.i k] 0] [(0, .b (evB vs l k i))] := by
  obtain ⟨code0, hcd1, hcd2⟩ := chk_impl_envyCycle_1; refine callOk_of Try.func70 hcd1 mo Try.call70 (rs := [5]) (by kernel_rfl) hcd2 (by rw [Try.ntmps70]; simp) (by simp) (by decide) ?_; unfold C_impl_envyCycle_1 K_impl_envyCycle_1; simp (config := { maxSteps := 2000000 }) only [go_sem, Nat.reduceBEq, Nat.reduceAdd, Nat.reduceMul, Nat.reduceMod, Nat.reduceLT, Nat.reduceDiv, Nat.reduceSub, Nat.reduceLeDiff, Int.reduceToNat, Int.reduceLT, Int.reduceLE, reduceCtorEq, List.take_nil, List.drop_nil]
  refine ⟨_, impl_envies_ok vs l V i k hi, ?_⟩; simp (config := { maxSteps := 2000000 }) only [go_sem, Nat.reduceBEq, Nat.reduceAdd, Nat.reduceMul, Nat.reduceMod, Nat.reduceLT, Nat.reduceDiv, Nat.reduceSub, Nat.reduceLeDiff, Int.reduceToNat, Int.reduceLT, Int.reduceLE, reduceCtorEq, List.take_nil, List.drop_nil]
  simp [evB]
theorem impl_unenvied1_ok {n1 n2 : Option Bool} (vs : List (List Int)) (l : List Int) (V : Vals vs l.length) (k : Int) :
    CallOk Try.prog 65 [.i k, .q [.s n1 (rr vs)] 0, .q [.s n2 (ii l)] 0] [(0, .b (unB vs l k))] := by
  have n3 := V.n3
  obtain ⟨code0, hcd1, hcd2⟩ := chk_impl_unenvied_1; refine callOk_of Try.func65 hcd1 mo Try.call65 (rs := [4]) (by kernel_rfl) hcd2 (by rw [Try.ntmps65]; simp) (by simp) (by decide) ?_; unfold C_impl_unenvied_1 K_impl_unenvied_1; simp (config := { maxSteps := 2000000 }) only [go_sem, Nat.reduceBEq, Nat.reduceAdd, Nat.reduceMul, Nat.reduceMod, Nat.reduceLT, Nat.reduceDiv, Nat.reduceSub, Nat.reduceLeDiff, Int.reduceToNat, Int.reduceLT, Int.reduceLE, reduceCtorEq, List.take_nil, List.drop_nil]
  refine ⟨_, indices_ok (vs.length : Int) (by omega) (by omega), ?_⟩; simp (config := { maxSteps := 2000000 }) only [go_sem, Nat.reduceBEq, Nat.reduceAdd, Nat.reduceMul, Nat.reduceMod, Nat.reduceLT, Nat.reduceDiv, Nat.reduceSub, Nat.reduceLeDiff, Int.reduceToNat, Int.reduceLT, Int.reduceLE, reduceCtorEq, List.take_nil, List.drop_nil]
  have hup : (upto (vs.length : Int).toNat).length ≤ 1048576 := by rw [upto_len]; omega
  have wk : ∀ v ∈ upto (vs.length : Int).toNat, CallOk Try.prog 67 (.i v :: [.q [.s n1 (rr vs)] 0, .q [.s n2 (ii l)] 0, .q [.i k] 0]) [(0, .b (evB vs l k v))] := fun v hv => by
    obtain ⟨a, b⟩ := upto_mem.1 hv
    have := impl_unenvied11_ok (n1 := n1) (n2 := n2) vs l V k v.toNat (by omega)
    rw [Int.toNat_of_nonneg a] at this; exact this
  refine ⟨_, ContainsFuncI (fun v => evB vs l k v) wk hup, ?_⟩; simp (config := { maxSteps := 2000000 }) only [go_sem, Nat.reduceBEq, Nat.reduceAdd, Nat.reduceMul, Nat.reduceMod, Nat.reduceLT, Nat.reduceDiv, Nat.reduceSub, Nat.reduceLeDiff, Int.reduceToNat, Int.reduceLT, Int.reduceLE, reduceCtorEq, List.take_nil, List.drop_nil]
  simp [unB]
theorem impl_unenvied_ok {n1 n2 : Option Bool} (vs : List (List Int)) (l : List Int) (V : Vals vs l.length) :
    CallOk Try.prog 43 [.s n1 (rr vs), .s n2 (ii l)] [(0, .i (unvF vs l))] := by
  have n3 := V.n3
  obtain ⟨code0, hcd1, hcd2⟩ := chk_impl_unenvied; refine callOk_of Try.func43 hcd1 mo Try.call43 (rs := [4]) (by kernel_rfl) hcd2 (by rw [Try.ntmps43]; simp) (by simp) (by decide) ?_; unfold C_impl_unenvied K_impl_unenvied; simp (config := { maxSteps := 2000000 }) only [go_sem, Nat.reduceBEq, Nat.reduceAdd, Nat.reduceMul, Nat.reduceMod, Nat.reduceLT, Nat.reduceDiv, Nat.reduceSub, Nat.reduceLeDiff, Int.reduceToNat, Int.reduceLT, Int.reduceLE, reduceCtorEq, List.take_nil, List.drop_nil]
  refine ⟨_, indices_ok (vs.length : Int) (by omega) (by omega), ?_⟩; simp (config := { maxSteps := 2000000 }) only [go_sem, Nat.reduceBEq, Nat.reduceAdd, Nat.reduceMul, Nat.reduceMod, Nat.reduceLT, Nat.reduceDiv, Nat.reduceSub, Nat.reduceLeDiff, Int.reduceToNat, Int.reduceLT, Int.reduceLE, reduceCtorEq, List.take_nil, List.drop_nil]
  have hup : (upto (vs.length : Int).toNat).length ≤ 1048576 := by rw [upto_len]; omega
  refine ⟨_, IndexFuncI (unB vs l) (fun v hv => impl_unenvied1_ok vs l V v) hup, ?_⟩; simp (config := { maxSteps := 2000000 }) only [go_sem, Nat.reduceBEq, Nat.reduceAdd, Nat.reduceMul, Nat.reduceMod, Nat.reduceLT, Nat.reduceDiv, Nat.reduceSub, Nat.reduceLeDiff, Int.reduceToNat, Int.reduceLT, Int.reduceLE, reduceCtorEq, List.take_nil, List.drop_nil]
  simp [unvF, fsI]
theorem impl_envyCycle_ok {n1 n2 : Option Bool} (vs : List (List Int)) (l : List Int) (V : Vals vs l.length) (hU : unvF vs l < 0) :
    CallOk Try.prog 45 [.s n1 (rr vs), .s n2 (ii l)] [(0, .t .fr (.s none (ii (cycF vs l))))] := by
  have n3 := V.n3
  have n1' := V.n1
  have hf : ∀ x : Int, 0 ≤ x → x < vs.length → 0 ≤ nvF vs l x ∧ nvF vs l x < vs.length := fun x a b => by have := nv_next hU a b; exact ⟨this.1, this.2.1⟩
  obtain ⟨code0, hcd1, hcd2⟩ := chk_impl_envyCycle; refine callOk_of Try.func45 hcd1 mo Try.call45 (rs := [4]) (by kernel_rfl) hcd2 (by rw [Try.ntmps45]; simp) (by simp) (by decide) ?_; unfold C_impl_envyCycle K_impl_envyCycle; simp (config := { maxSteps := 2000000 }) only [go_sem, Nat.reduceBEq, Nat.reduceAdd, Nat.reduceMul, Nat.reduceMod, Nat.reduceLT, Nat.reduceDiv, Nat.reduceSub, Nat.reduceLeDiff, Int.reduceToNat, Int.reduceLT, Int.reduceLE, reduceCtorEq, List.take_nil, List.drop_nil]
  refine loopN vs.length (fun j => [(0, .t .arg (.s n1 (rr vs))), (1, .t .arg (.s n2 (ii l))), (2, .bx 1), (3, .bx 1), (1002, .t .arg (.s n1 (rr vs))), (1003, .t .arg (.s n2 (ii l))), (5, .own 1 none (ii (ptE (nvF vs l) 0 j))), (6, .bx 1), (1006, .i (itE (nvF vs l) 0 j))]) (fun j => (ptE (nvF vs l) 0 j).Nodup ∧ enF (nvF vs l) (vs.length + 1 - j) j = cycF vs l) ⟨⟨by simp [ptE], rfl⟩, by simp (config := { maxSteps := 2000000 }) only [go_sem, Nat.reduceBEq, Nat.reduceAdd, Nat.reduceMul, Nat.reduceMod, Nat.reduceLT, Nat.reduceDiv, Nat.reduceSub, Nat.reduceLeDiff, Int.reduceToNat, Int.reduceLT, Int.reduceLE, reduceCtorEq, List.take_nil, List.drop_nil]; simp [ptE, itE]⟩ fun j hj hI => ?_
  obtain ⟨hI1, hI2⟩ := hI
  have hpl : (ptE (nvF vs l) 0 j).length = j := ptE_len
  have hnx : nvF vs l (itE (nvF vs l) 0 j) = itE (nvF vs l) 0 (j + 1) := rfl
  simp (config := { maxSteps := 2000000 }) only [go_sem, Nat.reduceBEq, Nat.reduceAdd, Nat.reduceMul, Nat.reduceMod, Nat.reduceLT, Nat.reduceDiv, Nat.reduceSub, Nat.reduceLeDiff, Int.reduceToNat, Int.reduceLT, Int.reduceLE, reduceCtorEq, List.take_nil, List.drop_nil]
  refine ⟨_, IndexI (ptE (nvF vs l) 0 j) (itE (nvF vs l) 0 j) (by omega), ?_⟩; simp (config := { maxSteps := 2000000 }) only [go_sem, Nat.reduceBEq, Nat.reduceAdd, Nat.reduceMul, Nat.reduceMod, Nat.reduceLT, Nat.reduceDiv, Nat.reduceSub, Nat.reduceLeDiff, Int.reduceToNat, Int.reduceLT, Int.reduceLE, reduceCtorEq, List.take_nil, List.drop_nil]
  rw [← placeI_sym]
  have hjn := ptE_le hf (by omega) (by omega) hI1
  have hk : vs.length + 1 - j = (vs.length + 1 - (j + 1)) + 1 := by omega
  refine ⟨fun h => ⟨?_, ?_⟩, fun h => ⟨by omega, ?_⟩⟩
  · rcases place_cases (ptE (nvF vs l) 0 j) (itE (nvF vs l) 0 j) with ⟨q, h1, _, h3⟩ | ⟨_, h3⟩
    · unfold subOk; rw [h3]; omega
    · omega
  · rw [List.take_length, ← hI2, hk, enF_at (by omega)]
  · refine ⟨_, indices_ok (vs.length : Int) (by omega) (by omega), ?_⟩; simp (config := { maxSteps := 2000000 }) only [go_sem, Nat.reduceBEq, Nat.reduceAdd, Nat.reduceMul, Nat.reduceMod, Nat.reduceLT, Nat.reduceDiv, Nat.reduceSub, Nat.reduceLeDiff, Int.reduceToNat, Int.reduceLT, Int.reduceLE, reduceCtorEq, List.take_nil, List.drop_nil]
    have hup : (upto (vs.length : Int).toNat).length ≤ 1048576 := by rw [upto_len]; omega
    have hin := itE_in hf (a := 0) (by omega) (by omega) (k := j)
    have wk : ∀ v ∈ upto (vs.length : Int).toNat, CallOk Try.prog 70 (.i v :: [.q [.s n1 (rr vs)] 0, .q [.s n2 (ii l)] 0, .q [.i (itE (nvF vs l) 0 j)] 0]) [(0, .b (evB vs l (itE (nvF vs l) 0 j) v))] := fun v hv => by
      obtain ⟨a, b⟩ := upto_mem.1 hv
      have := impl_envyCycle1_ok (n1 := n1) (n2 := n2) vs l V (itE (nvF vs l) 0 j) v.toNat (by omega)
      rw [Int.toNat_of_nonneg a] at this; exact this
    refine ⟨_, IndexFuncI (fun v => evB vs l (itE (nvF vs l) 0 j) v) wk hup, ?_⟩; simp (config := { maxSteps := 2000000 }) only [go_sem, Nat.reduceBEq, Nat.reduceAdd, Nat.reduceMul, Nat.reduceMod, Nat.reduceLT, Nat.reduceDiv, Nat.reduceSub, Nat.reduceLeDiff, Int.reduceToNat, Int.reduceLT, Int.reduceLE, reduceCtorEq, List.take_nil, List.drop_nil]
    have hnd : (ptE (nvF vs l) 0 (j + 1)).Nodup := ptE_nd hI1 fun hm => by
      rcases place_cases (ptE (nvF vs l) 0 j) (itE (nvF vs l) 0 j) with ⟨q, h1, _, h3⟩ | ⟨h3, _⟩
      · omega
      · exact h3 hm
    have hj1 := ptE_le hf (by omega) (by omega) hnd
    exact ⟨by omega, ⟨hnd, by rw [← hI2, hk, enF_go (by omega)]⟩, ptE_s.symm, rfl⟩
theorem impl_passOn_ok {n1 n2 : Option Bool} (l c : List Int) (hl : l.length ≤ 1048576) (hc : c.length ≤ 1048576) :
    CallX Try.prog 44 0 [.s n1 (ii l), .s n2 (ii c)] (.u []) n1 (ii (passL l c)) := by
  obtain ⟨code0, hcd1, hcd2⟩ := chk_impl_passOn; refine callX_of Try.func44 hcd1 mo Try.call44 (rs := []) (i := 0) (by kernel_rfl) hcd2 (by rw [Try.ntmps44]; simp) (by simp) (by decide) rfl ?_; unfold C_impl_passOn K_impl_passOn; simp (config := { maxSteps := 2000000 }) only [go_sem, Nat.reduceBEq, Nat.reduceAdd, Nat.reduceMul, Nat.reduceMod, Nat.reduceLT, Nat.reduceDiv, Nat.reduceSub, Nat.reduceLeDiff, Int.reduceToNat, Int.reduceLT, Int.reduceLE, reduceCtorEq, List.take_nil, List.drop_nil]
  refine loopN l.length (fun g => [(0, .own 11 n1 (ii ((passL l c).take g ++ l.drop g))), (1, .t .arg (.s n2 (ii c))), (7, .al 0), (8, .i l.length), (9, .i (g : Nat))]) (fun _ => True) ⟨trivial, by simp (config := { maxSteps := 2000000 }) only [go_sem, Nat.reduceBEq, Nat.reduceAdd, Nat.reduceMul, Nat.reduceMod, Nat.reduceLT, Nat.reduceDiv, Nat.reduceSub, Nat.reduceLeDiff, Int.reduceToNat, Int.reduceLT, Int.reduceLE, reduceCtorEq, List.take_nil, List.drop_nil]; simp⟩ fun g hg _ => ?_
  simp (config := { maxSteps := 2000000 }) only [go_sem, Nat.reduceBEq, Nat.reduceAdd, Nat.reduceMul, Nat.reduceMod, Nat.reduceLT, Nat.reduceDiv, Nat.reduceSub, Nat.reduceLeDiff, Int.reduceToNat, Int.reduceLT, Int.reduceLE, reduceCtorEq, List.take_nil, List.drop_nil]
  rw [mix_len hg]
  refine ⟨fun hlt => ?_, fun hge => ?_⟩
  · have hg' : g < l.length := by omega
    refine ⟨by omega, hg', hg', ?_⟩
    rw [mix_get hg']
    refine ⟨_, IndexI c (l.getD g 0) hc, ?_⟩; simp (config := { maxSteps := 2000000 }) only [go_sem, Nat.reduceBEq, Nat.reduceAdd, Nat.reduceMul, Nat.reduceMod, Nat.reduceLT, Nat.reduceDiv, Nat.reduceSub, Nat.reduceLeDiff, Int.reduceToNat, Int.reduceLT, Int.reduceLE, reduceCtorEq, List.take_nil, List.drop_nil]
    rw [← placeI_sym]
    have hmod : ∀ p : Nat, p < c.length → ((p : Int) + 1).tmod (c.length : Int) = (((p + 1) % c.length : Nat) : Int) := fun p _ => by
      rw [Int.tmod_eq_emod_of_nonneg (by omega)]; simp
    refine ⟨fun h => ?_, fun h => ⟨inR_of (by omega) (by omega), hg', mix_n hg' (by omega), by simp⟩⟩
    rcases place_cases c (l.getD g 0) with ⟨q, h1, _, h3⟩ | ⟨_, h3⟩
    · have hlt := Nat.mod_lt (q + 1) (show 0 < c.length by omega)
      have hp : pass1 c (l.getD g 0) = c.getD ((q + 1) % c.length) 0 := by unfold pass1; rw [if_neg (by omega), h3, Int.toNat_natCast]
      rw [h3, hmod q h1, Int.toNat_natCast, mix_len hg, ← hp, mix_s hg']
      exact ⟨inR_of (by omega) (by omega), by omega, by omega, hlt, hlt, by omega, hg', hg', inR_of (by omega) (by omega), hg', rfl, by simp⟩
    · omega
  · have : g = l.length := by omega
    subst this
    rw [List.drop_length, List.append_nil, List.take_of_length_le (by rw [pass_len]; omega)]
def K_spec_GiveInOrder : List Nat := [0, 2, 3, 4, 5, 13, 14, 21, 22]
def C_spec_GiveInOrder : C :=
  let ks := K_spec_GiveInOrder
  (.seq
    (.rg 0 [(none, .mkn 2), (none, .v 3 .mv [.k (.b false)])])
    (.cl ks (.seq
      (.seq
        (.rg 0 [(none, .v 6 .mv [.s 0]), (none, .co 7 37 [.s 6]), (none, .v 8 .not [.s 7])])
        (.cond (.s 8)
          (.seq
            (.rg 0 [(none, .mkn 2), (none, .v 3 .mv [.k (.b false)])])
            .ret)
          .skip))
      (.cl ks (.seq
        (.rg 0 [(none, .lit 9 [] 0), (none, .tk 4 9)])
        (.cl ks (.seq
          (.seq
            (.rg 0 [(none, .v 10 .mv [.s 0]), (none, .v 11 .idx [.s 10, .k (.i 0)]), (none, .v 12 .ld [.s 11]), (none, .v 13 .len [.s 12]), (none, .v 14 .mv [.k (.i 0)])])
            (.cl ks (.block 0
              (.loop
                (.seq
                  (.rg 0 [(none, .v 15 (.bin .lss) [.s 14, .s 13])])
                  (.seq
                    (.cond (.s 15)
                      .skip
                      (.exit 0))
                    (.cl ks (.seq
                      (.block 1
                        (.rg 0 [(none, .v 16 .mv [.s 4]), (none, .lit 17 [.k (.i (-1))] 0), (none, .app 18 (.s 16) (.s 17) 0), (none, .tk 4 18)]))
                      (.cl ks (.rg 0 [(none, .v 19 (.bin .add) [.s 14, .k (.i 1)]), (none, .v 14 .mv [.s 19])]))))))))))
          (.cl ks (.seq
            (.seq
              (.rg 0 [(none, .v 20 .mv [.s 4]), (none, .v 21 .len [.s 20]), (none, .v 22 .mv [.k (.i 0)])])
              (.cl ks (.block 2
                (.loop
                  (.seq
                    (.rg 0 [(none, .v 23 (.bin .lss) [.s 22, .s 21])])
                    (.seq
                      (.cond (.s 23)
                        .skip
                        (.exit 2))
                      (.cl ks (.seq
                        (.block 3
                          (.seq
                            (.rg 0 [(none, .v 24 .mv [.s 22]), (none, .tk 5 24)])
                            (.cl ks (.seq
                              (.block 4
                                (.loop
                                  (.seq
                                    (.seq
                                      (.rg 0 [(none, .v 25 .mv [.s 0]), (none, .v 26 .mv [.s 4]), (none, .co 27 38 [.s 25, .s 26]), (none, .v 28 (.bin .lss) [.s 27, .k (.i 0)])])
                                      (.cond (.s 28)
                                        .skip
                                        (.exit 4)))
                                    (.cl ks (.block 5
                                      (.rg 0 [(none, .v 29 .mv [.s 4]), (none, .v 30 .mv [.s 0]), (none, .v 31 .mv [.s 4]), (none, .co 32 40 [.s 30, .s 31]), (none, .co 33 39 [.s 29, .s 32]), (none, .tk 4 33)]))))))
                              (.cl ks (.rg 0 [(none, .v 34 .mv [.s 4]), (none, .v 35 .mv [.s 5]), (none, .v 36 .mv [.s 0]), (none, .v 37 .mv [.s 4]), (none, .co 38 38 [.s 36, .s 37]), (none, .v 39 .idx [.s 34, .s 35]), (none, .st (.s 39) (.s 38))]))))))
                        (.cl ks (.rg 0 [(none, .v 40 (.bin .add) [.s 22, .k (.i 1)]), (none, .v 22 .mv [.s 40])]))))))))))
            (.cl ks (.seq
              (.rg 0 [(none, .v 41 .mv [.s 4]), (none, .tk 2 41), (none, .v 3 .mv [.k (.b true)])])
              .ret)))))))))))

theorem chk_spec_GiveInOrder : ∃ b, Try.f20.body = some b ∧ chk Try.prog Try.f20.ntmps true C_spec_GiveInOrder b = true := ⟨_, rfl, by kernel_rfl⟩
def K_impl_GiveInOrder : List Nat := [0, 2, 3, 4, 5, 6, 17, 18]
def C_impl_GiveInOrder : C :=
  let ks := K_impl_GiveInOrder
  (.seq
    (.rg 0 [(none, .mkn 2), (none, .v 3 .mv [.k (.b false)])])
    (.cl ks (.seq
      (.seq
        (.rg 0 [(none, .v 7 .mv [.s 0]), (none, .co 8 41 [.s 7]), (none, .v 9 .not [.s 8])])
        (.cond (.s 9)
          (.seq
            (.rg 0 [(none, .mkn 2), (none, .v 3 .mv [.k (.b false)])])
            .ret)
          .skip))
      (.cl ks (.seq
        (.rg 0 [(none, .lit 10 [.k (.i (-1))] 0), (none, .v 11 .mv [.s 0]), (none, .v 12 .idx [.s 11, .k (.i 0)]), (none, .v 13 .ld [.s 12]), (none, .v 14 .len [.s 13]), (none, .co 15 42 [.s 10, .s 14]), (none, .tk 4 15)])
        (.cl ks (.seq
          (.seq
            (.rg 0 [(none, .v 16 .mv [.s 4]), (none, .v 17 .len [.s 16]), (none, .v 18 .mv [.k (.i 0)])])
            (.cl ks (.block 0
              (.loop
                (.seq
                  (.rg 0 [(none, .v 19 (.bin .lss) [.s 18, .s 17])])
                  (.seq
                    (.cond (.s 19)
                      .skip
                      (.exit 0))
                    (.cl ks (.seq
                      (.block 1
                        (.seq
                          (.rg 0 [(none, .v 20 .mv [.s 18]), (none, .tk 5 20)])
                          (.cl ks (.seq
                            (.rg 0 [(none, .v 21 .mv [.s 0]), (none, .v 22 .mv [.s 4]), (none, .co 23 43 [.s 21, .s 22]), (none, .tk 6 23)])
                            (.cl ks (.seq
                              (.block 2
                                (.loop
                                  (.seq
                                    (.seq
                                      (.rg 0 [(none, .v 24 .mv [.s 6]), (none, .v 25 (.bin .lss) [.s 24, .k (.i 0)])])
                                      (.cond (.s 25)
                                        .skip
                                        (.exit 2)))
                                    (.cl ks (.block 3
                                      (.seq
                                        (.rg 0 [(none, .v 26 .mv [.s 4]), (none, .v 27 .mv [.s 0]), (none, .v 28 .mv [.s 4]), (none, .co 29 45 [.s 27, .s 28]), (none, .cox (some 30) 44 [.s 26, .s 29] 0)])
                                        (.cl ks (.rg 0 [(none, .v 31 .mv [.s 0]), (none, .v 32 .mv [.s 4]), (none, .co 33 43 [.s 31, .s 32]), (none, .tk 6 33)]))))))))
                              (.cl ks (.rg 0 [(none, .v 34 .mv [.s 4]), (none, .v 35 .mv [.s 5]), (none, .v 36 .mv [.s 6]), (none, .v 37 .idx [.s 34, .s 35]), (none, .st (.s 37) (.s 36))]))))))))
                      (.cl ks (.rg 0 [(none, .v 38 (.bin .add) [.s 18, .k (.i 1)]), (none, .v 18 .mv [.s 38])]))))))))))
          (.cl ks (.seq
            (.rg 0 [(none, .v 39 .mv [.s 4]), (none, .tk 2 39), (none, .v 3 .mv [.k (.b true)])])
            .ret)))))))))

theorem chk_impl_GiveInOrder : ∃ b, Try.f22.body = some b ∧ chk Try.prog Try.f22.ntmps true C_impl_GiveInOrder b = true := ⟨_, rfl, by kernel_rfl⟩
theorem spec_GiveInOrder_ok {n1 : Option Bool} (vs : List (List Int)) (hl : vs.length ≤ 1048576) (hr : ∀ r ∈ vs, r.length ≤ 1048576) :
    CallOk Try.prog 20 [.s n1 (rr vs)] [(0, .tp 2), (100000, .own 1 none (ii (givF vs))), (101000, .b (rectB vs 3 6 100))] := by
  obtain ⟨code0, hcd1, hcd2⟩ := chk_spec_GiveInOrder; refine callOk_of Try.func20 hcd1 mo Try.call20 (rs := [2, 3]) (by kernel_rfl) hcd2 (by rw [Try.ntmps20]; simp) (by simp) (by decide) ?_; unfold C_spec_GiveInOrder K_spec_GiveInOrder; simp (config := { maxSteps := 2000000 }) only [go_sem, Nat.reduceBEq, Nat.reduceAdd, Nat.reduceMul, Nat.reduceMod, Nat.reduceLT, Nat.reduceDiv, Nat.reduceSub, Nat.reduceLeDiff, Int.reduceToNat, Int.reduceLT, Int.reduceLE, reduceCtorEq, List.take_nil, List.drop_nil]
  refine ⟨_, spec_ValuesOk_ok vs hl hr, ?_⟩; simp (config := { maxSteps := 2000000 }) only [go_sem, Nat.reduceBEq, Nat.reduceAdd, Nat.reduceMul, Nat.reduceMod, Nat.reduceLT, Nat.reduceDiv, Nat.reduceSub, Nat.reduceLeDiff, Int.reduceToNat, Int.reduceLT, Int.reduceLE, reduceCtorEq, List.take_nil, List.drop_nil]
  refine ⟨fun h0 => by simp [givF, h0], fun h0 => ?_⟩
  have hF : givF vs = givN vs (vs.getD 0 []).length (vs.getD 0 []).length := if_pos h0
  have V := vals_of h0
  rw [hF, h0]
  revert V
  generalize hm : (vs.getD 0 []).length = m
  intro V
  have hn3 := V.n3
  have hn1 := V.n1
  have hm6 := V.m6
  refine ⟨by omega, by omega, ?_⟩
  refine loopN m (fun t => [(0, .t .arg (.s n1 (rr vs))), (4, .own 1 none (ii (List.replicate t (-1)))), (13, .i m), (14, .i (t : Nat))]) (fun _ => True) ⟨trivial, by simp (config := { maxSteps := 2000000 }) only [go_sem, Nat.reduceBEq, Nat.reduceAdd, Nat.reduceMul, Nat.reduceMod, Nat.reduceLT, Nat.reduceDiv, Nat.reduceSub, Nat.reduceLeDiff, Int.reduceToNat, Int.reduceLT, Int.reduceLE, reduceCtorEq, List.take_nil, List.drop_nil]; simp⟩ fun t ht _ => ?_
  have hrs : List.replicate (t + 1) (-1 : Int) = List.replicate t (-1) ++ [-1] := List.replicate_succ'
  have hrl : (List.replicate t (-1 : Int)).length = t := List.length_replicate
  simp (config := { maxSteps := 2000000 }) only [go_sem, Nat.reduceBEq, Nat.reduceAdd, Nat.reduceMul, Nat.reduceMod, Nat.reduceLT, Nat.reduceDiv, Nat.reduceSub, Nat.reduceLeDiff, Int.reduceToNat, Int.reduceLT, Int.reduceLE, reduceCtorEq, List.take_nil, List.drop_nil]
  refine ⟨fun hlt => ?_, fun hge => ?_⟩
  · exact ⟨by omega, inR_of (by omega) (by omega), by omega, hrs.symm, by simp⟩
  · have : t = m := by omega
    subst this
    clear hrs hrl
    refine loopN t (fun g => [(0, .t .arg (.s n1 (rr vs))), (4, .own 1 none (ii (givN vs t g))), (21, .i t), (22, .i (g : Nat))]) (fun _ => True) ⟨trivial, by simp (config := { maxSteps := 2000000 }) only [go_sem, Nat.reduceBEq, Nat.reduceAdd, Nat.reduceMul, Nat.reduceMod, Nat.reduceLT, Nat.reduceDiv, Nat.reduceSub, Nat.reduceLeDiff, Int.reduceToNat, Int.reduceLT, Int.reduceLE, reduceCtorEq, List.take_nil, List.drop_nil]; simp [givN]⟩ fun g hg _ => ?_
    have hgl := givN_len (vs := vs) (m := t) (g := g)
    have hs : givN vs t (g + 1) = (setl vs (givN vs t g)).set g (unvF vs (setl vs (givN vs t g))) := rfl
    simp (config := { maxSteps := 2000000 }) only [go_sem, Nat.reduceBEq, Nat.reduceAdd, Nat.reduceMul, Nat.reduceMod, Nat.reduceLT, Nat.reduceDiv, Nat.reduceSub, Nat.reduceLeDiff, Int.reduceToNat, Int.reduceLT, Int.reduceLE, reduceCtorEq, List.take_nil, List.drop_nil]
    refine ⟨fun hlt => ?_, fun hge => ?_⟩
    · have hg' : g < t := by omega
      revert hgl hs
      generalize givN vs t g = o
      intro hgl hs
      have Vo : Vals vs o.length := by rw [hgl]; exact V
      refine loopN 1800 (fun j => [(0, .t .arg (.s n1 (rr vs))), (4, .own 1 none (ii (itG vs o j))), (5, .i (g : Nat)), (21, .i t), (22, .i (g : Nat))]) (fun j => Rnd vs o j) ⟨rnd_0 Vo, by simp (config := { maxSteps := 2000000 }) only [go_sem, Nat.reduceBEq, Nat.reduceAdd, Nat.reduceMul, Nat.reduceMod, Nat.reduceLT, Nat.reduceDiv, Nat.reduceSub, Nat.reduceLeDiff, Int.reduceToNat, Int.reduceLT, Int.reduceLE, reduceCtorEq, List.take_nil, List.drop_nil]; simp [itG]⟩ fun j hj R => ?_
      have hil := itG_len (vs := vs) (l := o) (j := j)
      have Vj : Vals vs (itG vs o j).length := by rw [hil]; exact Vo
      simp (config := { maxSteps := 2000000 }) only [go_sem, Nat.reduceBEq, Nat.reduceAdd, Nat.reduceMul, Nat.reduceMod, Nat.reduceLT, Nat.reduceDiv, Nat.reduceSub, Nat.reduceLeDiff, Int.reduceToNat, Int.reduceLT, Int.reduceLE, reduceCtorEq, List.take_nil, List.drop_nil]
      refine ⟨_, spec_l23Unenvied_ok vs (itG vs o j) Vj, ?_⟩; simp (config := { maxSteps := 2000000 }) only [go_sem, Nat.reduceBEq, Nat.reduceAdd, Nat.reduceMul, Nat.reduceMod, Nat.reduceLT, Nat.reduceDiv, Nat.reduceSub, Nat.reduceLeDiff, Int.reduceToNat, Int.reduceLT, Int.reduceLE, reduceCtorEq, List.take_nil, List.drop_nil]
      refine ⟨fun hU => ?_, fun hU => ?_⟩
      · have hR := rnd_s Vo R hU
        have C := cyc_ok hn1 hU
        have hcl : (cycF vs (itG vs o j)).length ≤ 1048576 := by
          have := nd_sub_len C.nd (ys := upto vs.length) fun x hx => upto_mem.2 (C.inn x hx)
          rw [upto_len] at this; omega
        refine ⟨_, spec_l23Cycle_ok vs (itG vs o j) Vj hU, ?_⟩; simp (config := { maxSteps := 2000000 }) only [go_sem, Nat.reduceBEq, Nat.reduceAdd, Nat.reduceMul, Nat.reduceMod, Nat.reduceLT, Nat.reduceDiv, Nat.reduceSub, Nat.reduceLeDiff, Int.reduceToNat, Int.reduceLT, Int.reduceLE, reduceCtorEq, List.take_nil, List.drop_nil]
        refine ⟨_, spec_l23Shift_ok (itG vs o j) (cycF vs (itG vs o j)) (by omega) hcl, ?_⟩; simp (config := { maxSteps := 2000000 }) only [go_sem, Nat.reduceBEq, Nat.reduceAdd, Nat.reduceMul, Nat.reduceMod, Nat.reduceLT, Nat.reduceDiv, Nat.reduceSub, Nat.reduceLeDiff, Int.reduceToNat, Int.reduceLT, Int.reduceLE, reduceCtorEq, List.take_nil, List.drop_nil]
        exact ⟨hR.2, hR.1, rfl⟩
      · have he := rnd_end Vo R hU
        rw [he]
        rw [he] at Vj
        refine ⟨_, spec_l23Unenvied_ok vs (setl vs o) Vj, ?_⟩; simp (config := { maxSteps := 2000000 }) only [go_sem, Nat.reduceBEq, Nat.reduceAdd, Nat.reduceMul, Nat.reduceMod, Nat.reduceLT, Nat.reduceDiv, Nat.reduceSub, Nat.reduceLeDiff, Int.reduceToNat, Int.reduceLT, Int.reduceLE, reduceCtorEq, List.take_nil, List.drop_nil]
        rw [he] at hil
        exact ⟨by omega, by omega, by omega, inR_of (by omega) (by omega), hg', hs.symm, by simp⟩
    · have : g = t := by omega
      subst this
      exact ⟨by omega, rfl⟩
theorem impl_GiveInOrder_ok {n1 : Option Bool} (vs : List (List Int)) (hl : vs.length ≤ 1048576) (hr : ∀ r ∈ vs, r.length ≤ 1048576) :
    CallOk Try.prog 22 [.s n1 (rr vs)] [(0, .tp 2), (100000, .own 1 none (ii (givF vs))), (101000, .b (rectB vs 3 6 100))] := by
  obtain ⟨code0, hcd1, hcd2⟩ := chk_impl_GiveInOrder; refine callOk_of Try.func22 hcd1 mo Try.call22 (rs := [2, 3]) (by kernel_rfl) hcd2 (by rw [Try.ntmps22]; simp) (by simp) (by decide) ?_; unfold C_impl_GiveInOrder K_impl_GiveInOrder; simp (config := { maxSteps := 2000000 }) only [go_sem, Nat.reduceBEq, Nat.reduceAdd, Nat.reduceMul, Nat.reduceMod, Nat.reduceLT, Nat.reduceDiv, Nat.reduceSub, Nat.reduceLeDiff, Int.reduceToNat, Int.reduceLT, Int.reduceLE, reduceCtorEq, List.take_nil, List.drop_nil]
  refine ⟨_, impl_ValuesOk_ok vs hl hr, ?_⟩; simp (config := { maxSteps := 2000000 }) only [go_sem, Nat.reduceBEq, Nat.reduceAdd, Nat.reduceMul, Nat.reduceMod, Nat.reduceLT, Nat.reduceDiv, Nat.reduceSub, Nat.reduceLeDiff, Int.reduceToNat, Int.reduceLT, Int.reduceLE, reduceCtorEq, List.take_nil, List.drop_nil]
  refine ⟨fun h0 => by simp [givF, h0], fun h0 => ?_⟩
  have hF : givF vs = givN vs (vs.getD 0 []).length (vs.getD 0 []).length := if_pos h0
  have V := vals_of h0
  rw [hF, h0]
  revert V
  generalize hm : (vs.getD 0 []).length = m
  intro V
  have hn3 := V.n3
  have hn1 := V.n1
  have hm6 := V.m6
  refine ⟨by omega, by omega, ?_⟩
  refine ⟨_, Repeat_ok (-1) m (by omega) (by omega), ?_⟩; simp (config := { maxSteps := 2000000 }) only [go_sem, Nat.reduceBEq, Nat.reduceAdd, Nat.reduceMul, Nat.reduceMod, Nat.reduceLT, Nat.reduceDiv, Nat.reduceSub, Nat.reduceLeDiff, Int.reduceToNat, Int.reduceLT, Int.reduceLE, reduceCtorEq, List.take_nil, List.drop_nil]
  refine loopN m (fun g => [(0, .t .arg (.s n1 (rr vs))), (4, .own 1 none (ii (givN vs m g))), (17, .i m), (18, .i (g : Nat))]) (fun _ => True) ⟨trivial, by simp (config := { maxSteps := 2000000 }) only [go_sem, Nat.reduceBEq, Nat.reduceAdd, Nat.reduceMul, Nat.reduceMod, Nat.reduceLT, Nat.reduceDiv, Nat.reduceSub, Nat.reduceLeDiff, Int.reduceToNat, Int.reduceLT, Int.reduceLE, reduceCtorEq, List.take_nil, List.drop_nil]; simp [givN]⟩ fun g hg _ => ?_
  have hgl := givN_len (vs := vs) (m := m) (g := g)
  have hs : givN vs m (g + 1) = (setl vs (givN vs m g)).set g (unvF vs (setl vs (givN vs m g))) := rfl
  simp (config := { maxSteps := 2000000 }) only [go_sem, Nat.reduceBEq, Nat.reduceAdd, Nat.reduceMul, Nat.reduceMod, Nat.reduceLT, Nat.reduceDiv, Nat.reduceSub, Nat.reduceLeDiff, Int.reduceToNat, Int.reduceLT, Int.reduceLE, reduceCtorEq, List.take_nil, List.drop_nil]
  refine ⟨fun hlt => ?_, fun hge => ?_⟩
  · have hg' : g < m := by omega
    revert hgl hs
    generalize givN vs m g = o
    intro hgl hs
    have Vo : Vals vs o.length := by rw [hgl]; exact V
    refine ⟨_, impl_unenvied_ok vs o Vo, ?_⟩; simp (config := { maxSteps := 2000000 }) only [go_sem, Nat.reduceBEq, Nat.reduceAdd, Nat.reduceMul, Nat.reduceMod, Nat.reduceLT, Nat.reduceDiv, Nat.reduceSub, Nat.reduceLeDiff, Int.reduceToNat, Int.reduceLT, Int.reduceLE, reduceCtorEq, List.take_nil, List.drop_nil]
    refine loopN 1800 (fun j => [(0, .t .arg (.s n1 (rr vs))), (4, .own 1 none (ii (itG vs o j))), (5, .i (g : Nat)), (6, .i (unvF vs (itG vs o j))), (17, .i m), (18, .i (g : Nat))]) (fun j => Rnd vs o j) ⟨rnd_0 Vo, by simp (config := { maxSteps := 2000000 }) only [go_sem, Nat.reduceBEq, Nat.reduceAdd, Nat.reduceMul, Nat.reduceMod, Nat.reduceLT, Nat.reduceDiv, Nat.reduceSub, Nat.reduceLeDiff, Int.reduceToNat, Int.reduceLT, Int.reduceLE, reduceCtorEq, List.take_nil, List.drop_nil]; simp [itG]⟩ fun j hj R => ?_
    have hil := itG_len (vs := vs) (l := o) (j := j)
    have Vj : Vals vs (itG vs o j).length := by rw [hil]; exact Vo
    simp (config := { maxSteps := 2000000 }) only [go_sem, Nat.reduceBEq, Nat.reduceAdd, Nat.reduceMul, Nat.reduceMod, Nat.reduceLT, Nat.reduceDiv, Nat.reduceSub, Nat.reduceLeDiff, Int.reduceToNat, Int.reduceLT, Int.reduceLE, reduceCtorEq, List.take_nil, List.drop_nil]
    refine ⟨fun hU => ?_, fun hU => ?_⟩
    · have hR := rnd_s Vo R hU
      have C := cyc_ok hn1 hU
      have hcl : (cycF vs (itG vs o j)).length ≤ 1048576 := by
        have := nd_sub_len C.nd (ys := upto vs.length) fun x hx => upto_mem.2 (C.inn x hx)
        rw [upto_len] at this; omega
      have hi1 := itG_len (vs := vs) (l := o) (j := j + 1)
      have V1 : Vals vs (itG vs o (j + 1)).length := by rw [hi1]; exact Vo
      refine ⟨_, impl_envyCycle_ok vs (itG vs o j) Vj hU, ?_⟩; simp (config := { maxSteps := 2000000 }) only [go_sem, Nat.reduceBEq, Nat.reduceAdd, Nat.reduceMul, Nat.reduceMod, Nat.reduceLT, Nat.reduceDiv, Nat.reduceSub, Nat.reduceLeDiff, Int.reduceToNat, Int.reduceLT, Int.reduceLE, reduceCtorEq, List.take_nil, List.drop_nil]
      refine ⟨_, _, _, impl_passOn_ok (itG vs o j) (cycF vs (itG vs o j)) (by omega) hcl, ?_⟩; simp (config := { maxSteps := 2000000 }) only [go_sem, Nat.reduceBEq, Nat.reduceAdd, Nat.reduceMul, Nat.reduceMod, Nat.reduceLT, Nat.reduceDiv, Nat.reduceSub, Nat.reduceLeDiff, Int.reduceToNat, Int.reduceLT, Int.reduceLE, reduceCtorEq, List.take_nil, List.drop_nil]
      have hst : passL (itG vs o j) (cycF vs (itG vs o j)) = itG vs o (j + 1) := rfl
      rw [hst]
      refine ⟨_, impl_unenvied_ok vs (itG vs o (j + 1)) V1, ?_⟩; simp (config := { maxSteps := 2000000 }) only [go_sem, Nat.reduceBEq, Nat.reduceAdd, Nat.reduceMul, Nat.reduceMod, Nat.reduceLT, Nat.reduceDiv, Nat.reduceSub, Nat.reduceLeDiff, Int.reduceToNat, Int.reduceLT, Int.reduceLE, reduceCtorEq, List.take_nil, List.drop_nil]
      exact ⟨hR.2, hR.1⟩
    · have he := rnd_end Vo R hU
      rw [he] at hil ⊢
      exact ⟨by omega, by omega, by omega, inR_of (by omega) (by omega), hg', hs.symm, by simp⟩
  · have : g = m := by omega
    subst this
    exact ⟨by omega, rfl⟩

end Go.Proofs.Ytelblnfnfeoapaa
