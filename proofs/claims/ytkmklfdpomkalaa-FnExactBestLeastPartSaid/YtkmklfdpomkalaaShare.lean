/- Own work: contracts of functions that the claim reaches. No condition beyond those that each theorem names. -/
import Derived.Test.YtkmklfdpomkalaaProg
import Derived.Test.YtkmklfdpomkalaaBest
namespace Go.Proofs.Ytkmklfdpomkalaa
open Go Go.Vc
set_option maxRecDepth 100000
set_option linter.unusedSimpArgs false
set_option linter.unusedVariables false
/-- The least worth to person i of the first k parts. -/
def partN (vs : List (List Int)) (l : List Int) (i : Nat) : Nat → Int
  | 0 => wo vs l i 0
  | k + 1 => min (partN vs l i k) (wo vs l i k)
theorem partN_bd {vs : List (List Int)} {l : List Int} {i : Nat} (V : Vals vs l.length) (hi : i < vs.length) : ∀ {j : Nat}, 0 ≤ partN vs l i j ∧ partN vs l i j ≤ 600
  | 0 => wo_bd V hi
  | j + 1 => by
    have h1 := partN_bd V hi (j := j)
    have h2 := wo_bd (k := (j : Int)) V hi
    simp only [partN]; omega
def partF (vs : List (List Int)) (i : Nat) (l : List Int) : Int := partN vs l i vs.length
def K_spec_l24Parts : List Nat := [0, 1, 2, 6, 7, 8, 14, 15]
def C_spec_l24Parts : C :=
  let ks := K_spec_l24Parts
  (.seq
    (.rg 0 [(none, .v 6 .mv [.k (.i 0)])])
    (.cl ks (.seq
      (.rg 0 [(none, .v 9 .mv [.s 0]), (none, .v 10 .mv [.s 1]), (none, .v 11 .mv [.s 2]), (none, .co 12 61 [.s 9, .s 10, .s 11, .k (.i 0)]), (none, .tk 7 12)])
      (.cl ks (.seq
        (.seq
          (.rg 0 [(none, .v 13 .mv [.s 0]), (none, .v 14 .len [.s 13]), (none, .v 15 .mv [.k (.i 0)])])
          (.cl ks (.block 0
            (.loop
              (.seq
                (.rg 0 [(none, .v 16 (.bin .lss) [.s 15, .s 14])])
                (.seq
                  (.cond (.s 16)
                    .skip
                    (.exit 0))
                  (.cl ks (.seq
                    (.block 1
                      (.seq
                        (.rg 0 [(none, .v 17 .mv [.s 15]), (none, .tk 8 17)])
                        (.cl ks (.rg 0 [(none, .v 18 .mv [.s 7]), (none, .v 19 .mv [.s 0]), (none, .v 20 .mv [.s 1]), (none, .v 21 .mv [.s 2]), (none, .v 22 .mv [.s 8]), (none, .co 23 61 [.s 19, .s 20, .s 21, .s 22]), (none, .v 24 .mn [.s 18, .s 23]), (none, .tk 7 24)]))))
                    (.cl ks (.rg 0 [(none, .v 25 (.bin .add) [.s 15, .k (.i 1)]), (none, .v 15 .mv [.s 25])]))))))))))
        (.cl ks (.seq
          (.rg 0 [(none, .v 26 .mv [.s 7]), (none, .tk 6 26)])
          .ret)))))))

theorem chk_spec_l24Parts : ∃ b, Try.f53.body = some b ∧ chk Try.prog Try.f53.ntmps true C_spec_l24Parts b = true := ⟨_, rfl, by kernel_rfl⟩
def K_impl_leastPartFor : List Nat := [0, 1, 2, 6, 7, 8, 14, 15]
def C_impl_leastPartFor : C :=
  let ks := K_impl_leastPartFor
  (.seq
    (.rg 0 [(none, .v 6 .mv [.k (.i 0)])])
    (.cl ks (.seq
      (.rg 0 [(none, .v 9 .mv [.s 0]), (none, .v 10 .mv [.s 1]), (none, .v 11 .mv [.s 2]), (none, .co 12 60 [.s 9, .s 10, .s 11, .k (.i 0)]), (none, .tk 7 12)])
      (.cl ks (.seq
        (.seq
          (.rg 0 [(none, .v 13 .mv [.s 0]), (none, .v 14 .len [.s 13]), (none, .v 15 .mv [.k (.i 0)])])
          (.cl ks (.block 0
            (.loop
              (.seq
                (.rg 0 [(none, .v 16 (.bin .lss) [.s 15, .s 14])])
                (.seq
                  (.cond (.s 16)
                    .skip
                    (.exit 0))
                  (.cl ks (.seq
                    (.block 1
                      (.seq
                        (.rg 0 [(none, .v 17 .mv [.s 15]), (none, .tk 8 17)])
                        (.cl ks (.rg 0 [(none, .v 18 .mv [.s 7]), (none, .v 19 .mv [.s 0]), (none, .v 20 .mv [.s 1]), (none, .v 21 .mv [.s 2]), (none, .v 22 .mv [.s 8]), (none, .co 23 60 [.s 19, .s 20, .s 21, .s 22]), (none, .v 24 .mn [.s 18, .s 23]), (none, .tk 7 24)]))))
                    (.cl ks (.rg 0 [(none, .v 25 (.bin .add) [.s 15, .k (.i 1)]), (none, .v 15 .mv [.s 25])]))))))))))
        (.cl ks (.seq
          (.rg 0 [(none, .v 26 .mv [.s 7]), (none, .tk 6 26)])
          .ret)))))))

theorem chk_impl_leastPartFor : ∃ b, Try.f57.body = some b ∧ chk Try.prog Try.f57.ntmps true C_impl_leastPartFor b = true := ⟨_, rfl, by kernel_rfl⟩
theorem spec_l24Parts_ok {n1 n2 : Option Bool} (vs : List (List Int)) (l : List Int) (V : Vals vs l.length) (i : Nat) (hi : i < vs.length) :
    CallOk Try.prog 53 [.s n1 (rr vs), .s n2 (ii l), .i i] [(0, .i (partF vs i l))] := by
  have m1 := V.n1
  have n3 := V.n3
  obtain ⟨code0, hcd1, hcd2⟩ := chk_spec_l24Parts; refine callOk_of Try.func53 hcd1 mo Try.call53 (rs := [6]) (by kernel_rfl) hcd2 (by rw [Try.ntmps53]; simp) (by simp) (by decide) ?_; unfold C_spec_l24Parts K_spec_l24Parts; simp (config := { maxSteps := 2000000 }) only [go_sem, Nat.reduceBEq, Nat.reduceAdd, Nat.reduceMul, Nat.reduceMod, Nat.reduceLT, Nat.reduceDiv, Nat.reduceSub, Nat.reduceLeDiff, Int.reduceToNat, Int.reduceLT, Int.reduceLE, reduceCtorEq, List.take_nil, List.drop_nil]
  refine ⟨_, spec_l23Worth_ok vs l V i 0 hi, ?_⟩; simp (config := { maxSteps := 2000000 }) only [go_sem, Nat.reduceBEq, Nat.reduceAdd, Nat.reduceMul, Nat.reduceMod, Nat.reduceLT, Nat.reduceDiv, Nat.reduceSub, Nat.reduceLeDiff, Int.reduceToNat, Int.reduceLT, Int.reduceLE, reduceCtorEq, List.take_nil, List.drop_nil]
  refine loopN vs.length (fun j => [(0, .t .arg (.s n1 (rr vs))), (1, .t .arg (.s n2 (ii l))), (2, .i i), (7, .i (partN vs l i j)), (14, .i vs.length), (15, .i (j : Nat))]) (fun _ => True) ⟨trivial, by simp (config := { maxSteps := 2000000 }) only [go_sem, Nat.reduceBEq, Nat.reduceAdd, Nat.reduceMul, Nat.reduceMod, Nat.reduceLT, Nat.reduceDiv, Nat.reduceSub, Nat.reduceLeDiff, Int.reduceToNat, Int.reduceLT, Int.reduceLE, reduceCtorEq, List.take_nil, List.drop_nil]; simp [partN]⟩ fun j hj _ => ?_
  simp (config := { maxSteps := 2000000 }) only [go_sem, Nat.reduceBEq, Nat.reduceAdd, Nat.reduceMul, Nat.reduceMod, Nat.reduceLT, Nat.reduceDiv, Nat.reduceSub, Nat.reduceLeDiff, Int.reduceToNat, Int.reduceLT, Int.reduceLE, reduceCtorEq, List.take_nil, List.drop_nil]
  refine ⟨fun hlt => ?_, fun hge => ?_⟩
  · refine ⟨_, spec_l23Worth_ok vs l V i j hi, ?_⟩; simp (config := { maxSteps := 2000000 }) only [go_sem, Nat.reduceBEq, Nat.reduceAdd, Nat.reduceMul, Nat.reduceMod, Nat.reduceLT, Nat.reduceDiv, Nat.reduceSub, Nat.reduceLeDiff, Int.reduceToNat, Int.reduceLT, Int.reduceLE, reduceCtorEq, List.take_nil, List.drop_nil]
    exact ⟨inR_of (by omega) (by omega), by omega, rfl, by simp⟩
  · have : j = vs.length := by omega
    subst this
    rfl
theorem impl_leastPartFor_ok {n1 n2 : Option Bool} (vs : List (List Int)) (l : List Int) (V : Vals vs l.length) (i : Nat) (hi : i < vs.length) :
    CallOk Try.prog 57 [.s n1 (rr vs), .s n2 (ii l), .i i] [(0, .i (partF vs i l))] := by
  have m1 := V.n1
  have n3 := V.n3
  obtain ⟨code0, hcd1, hcd2⟩ := chk_impl_leastPartFor; refine callOk_of Try.func57 hcd1 mo Try.call57 (rs := [6]) (by kernel_rfl) hcd2 (by rw [Try.ntmps57]; simp) (by simp) (by decide) ?_; unfold C_impl_leastPartFor K_impl_leastPartFor; simp (config := { maxSteps := 2000000 }) only [go_sem, Nat.reduceBEq, Nat.reduceAdd, Nat.reduceMul, Nat.reduceMod, Nat.reduceLT, Nat.reduceDiv, Nat.reduceSub, Nat.reduceLeDiff, Int.reduceToNat, Int.reduceLT, Int.reduceLE, reduceCtorEq, List.take_nil, List.drop_nil]
  refine ⟨_, impl_worth_ok vs l V i 0 hi, ?_⟩; simp (config := { maxSteps := 2000000 }) only [go_sem, Nat.reduceBEq, Nat.reduceAdd, Nat.reduceMul, Nat.reduceMod, Nat.reduceLT, Nat.reduceDiv, Nat.reduceSub, Nat.reduceLeDiff, Int.reduceToNat, Int.reduceLT, Int.reduceLE, reduceCtorEq, List.take_nil, List.drop_nil]
  refine loopN vs.length (fun j => [(0, .t .arg (.s n1 (rr vs))), (1, .t .arg (.s n2 (ii l))), (2, .i i), (7, .i (partN vs l i j)), (14, .i vs.length), (15, .i (j : Nat))]) (fun _ => True) ⟨trivial, by simp (config := { maxSteps := 2000000 }) only [go_sem, Nat.reduceBEq, Nat.reduceAdd, Nat.reduceMul, Nat.reduceMod, Nat.reduceLT, Nat.reduceDiv, Nat.reduceSub, Nat.reduceLeDiff, Int.reduceToNat, Int.reduceLT, Int.reduceLE, reduceCtorEq, List.take_nil, List.drop_nil]; simp [partN]⟩ fun j hj _ => ?_
  simp (config := { maxSteps := 2000000 }) only [go_sem, Nat.reduceBEq, Nat.reduceAdd, Nat.reduceMul, Nat.reduceMod, Nat.reduceLT, Nat.reduceDiv, Nat.reduceSub, Nat.reduceLeDiff, Int.reduceToNat, Int.reduceLT, Int.reduceLE, reduceCtorEq, List.take_nil, List.drop_nil]
  refine ⟨fun hlt => ?_, fun hge => ?_⟩
  · refine ⟨_, impl_worth_ok vs l V i j hi, ?_⟩; simp (config := { maxSteps := 2000000 }) only [go_sem, Nat.reduceBEq, Nat.reduceAdd, Nat.reduceMul, Nat.reduceMod, Nat.reduceLT, Nat.reduceDiv, Nat.reduceSub, Nat.reduceLeDiff, Int.reduceToNat, Int.reduceLT, Int.reduceLE, reduceCtorEq, List.take_nil, List.drop_nil]
    exact ⟨inR_of (by omega) (by omega), by omega, rfl, by simp⟩
  · have : j = vs.length := by omega
    subst this
    rfl
theorem cmpL_1 {a b : Int} : 0 < cmpL [a] [b] ↔ b < a := by
  unfold cmpL cmpL cmpI
  by_cases h1 : a < b
  · simp [h1]; omega
  · by_cases h2 : b < a
    · simp [h1, h2]
    · simp [h1, h2]
def K_impl_ShareCut_1 : List Nat := [0, 1, 2, 4]
def C_impl_ShareCut_1 : C :=
  let ks := K_impl_ShareCut_1
  (.seq
    (.rg 0 [(none, .mkn 4)])
    (.cl ks (.seq
      (.rg 0 [(none, .v 5 .ld [.s 1]), (none, .v 6 .mv [.s 0]), (none, .v 7 .ld [.s 2]), (none, .co 8 57 [.s 5, .s 6, .s 7]), (none, .lit 9 [.s 8] 0), (none, .tk 4 9)])
      .ret)))

theorem chk_impl_ShareCut_1 : ∃ b, Try.f56.body = some b ∧ chk Try.prog Try.f56.ntmps true C_impl_ShareCut_1 b = true := ⟨_, rfl, by kernel_rfl⟩
def K_impl_ShareCut : List Nat := [0, 1, 2, 3, 4, 5, 1002, 1003]
def C_impl_ShareCut : C :=
  let ks := K_impl_ShareCut
  (.seq
    (.rg 0 [(none, .box 2 (.s 0)), (none, .box 3 (.s 1)), (none, .mkn 4), (none, .v 5 .mv [.k (.b false)])])
    (.cl ks (.seq
      (.seq
        (.rg 0 [(none, .v 6 .ld [.s 2]), (none, .co 7 54 [.s 6]), (none, .v 8 .not [.s 7]), (none, .v 9 .mv [.s 8]), (some (9, false), .v 10 .ld [.s 3]), (some (9, false), .v 11 .ld [.s 2]), (some (9, false), .v 12 .len [.s 11]), (some (9, false), .v 13 (.bin .sub) [.s 12, .k (.i 1)]), (some (9, false), .co 14 55 [.s 10, .k (.i 0), .s 13]), (some (9, false), .v 15 .not [.s 14]), (none, .v 16 .pick [.s 9, .k (.b true), .s 15])])
        (.cond (.s 16)
          (.seq
            (.rg 0 [(none, .mkn 4), (none, .v 5 .mv [.k (.b false)])])
            .ret)
          .skip))
      (.cl ks (.seq
        (.rg 0 [(none, .v 17 .ld [.s 2]), (none, .v 18 (.clo 56) [.s 2, .s 3]), (none, .co 19 49 [.s 17, .s 18]), (none, .tk 20 100019), (none, .tk 21 101019), (none, .tk 4 20), (none, .tk 5 21)])
        .ret)))))

theorem chk_impl_ShareCut : ∃ b, Try.f22.body = some b ∧ chk Try.prog Try.f22.ntmps true C_impl_ShareCut b = true := ⟨_, rfl, by kernel_rfl⟩
def K_spec_ShareCut : List Nat := [0, 1, 4, 5, 6, 8, 22, 23, 24]
def C_spec_ShareCut : C :=
  let ks := K_spec_ShareCut
  (.seq
    (.rg 0 [(none, .mkn 4), (none, .v 5 .mv [.k (.b false)])])
    (.cl ks (.seq
      (.seq
        (.rg 0 [(none, .v 9 .mv [.s 0]), (none, .co 10 39 [.s 9]), (none, .v 11 .not [.s 10]), (none, .v 12 .mv [.s 11]), (some (12, false), .v 13 .mv [.s 1]), (some (12, false), .v 14 .mv [.s 0]), (some (12, false), .v 15 .len [.s 14]), (some (12, false), .v 16 (.bin .sub) [.s 15, .k (.i 1)]), (some (12, false), .co 17 52 [.s 13, .k (.i 0), .s 16]), (some (12, false), .v 18 .not [.s 17]), (none, .v 19 .pick [.s 12, .k (.b true), .s 18])])
        (.cond (.s 19)
          (.seq
            (.rg 0 [(none, .mkn 4), (none, .v 5 .mv [.k (.b false)])])
            .ret)
          .skip))
      (.cl ks (.seq
        (.rg 0 [(none, .lit 20 [] 0), (none, .tk 6 20)])
        (.cl ks (.seq
          (.seq
            (.rg 0 [(none, .v 21 .mv [.s 0]), (none, .co 22 40 [.s 21]), (none, .v 23 .len [.s 22]), (none, .v 24 .mv [.k (.i 0)])])
            (.cl ks (.block 0
              (.loop
                (.seq
                  (.rg 0 [(none, .v 25 (.bin .lss) [.s 24, .s 23])])
                  (.seq
                    (.cond (.s 25)
                      .skip
                      (.exit 0))
                    (.cl ks (.seq
                      (.block 1
                        (.seq
                          (.rg 0 [(none, .v 26 .idx [.s 22, .s 24]), (none, .v 27 .lde [.s 26]), (none, .tk 8 27)])
                          (.cl ks (.seq
                            (.rg 0 [(none, .v 28 .mv [.s 6]), (none, .v 29 .len [.s 28]), (none, .v 30 (.bin .eql) [.s 29, .k (.i 0)]), (none, .v 31 .mv [.s 30]), (some (31, false), .v 32 .mv [.s 0]), (some (31, false), .v 33 .mv [.s 8]), (some (31, false), .v 34 .mv [.s 1]), (some (31, false), .co 35 53 [.s 32, .s 33, .s 34]), (some (31, false), .v 36 .mv [.s 0]), (some (31, false), .v 37 .mv [.s 6]), (some (31, false), .v 38 .mv [.s 1]), (some (31, false), .co 39 53 [.s 36, .s 37, .s 38]), (some (31, false), .v 40 (.bin .gtr) [.s 35, .s 39]), (none, .v 41 .pick [.s 31, .k (.b true), .s 40])])
                            (.cond (.s 41)
                              (.rg 0 [(none, .v 42 .mv [.s 8]), (none, .tkr 42), (none, .tk 6 42)])
                              .skip)))))
                      (.cl ks (.rg 0 [(none, .v 43 (.bin .add) [.s 24, .k (.i 1)]), (none, .v 24 .mv [.s 43])]))))))))))
          (.cl ks (.seq
            (.rg 0 [(none, .v 44 .mv [.s 6]), (none, .tk 4 44), (none, .v 5 .mv [.k (.b true)])])
            .ret)))))))))

theorem chk_spec_ShareCut : ∃ b, Try.f21.body = some b ∧ chk Try.prog Try.f21.ntmps true C_spec_ShareCut b = true := ⟨_, rfl, by kernel_rfl⟩
def cutB (vs : List (List Int)) (i : Int) : Bool := rectB vs 3 6 100 && inI i 0 (vs.length - 1)
def cutF (vs : List (List Int)) (i : Int) : List Int := if cutB vs i = true then bstF vs (fun l => [partF vs i.toNat l]) else []
theorem impl_ShareCut1_ok {n1 n2 : Option Bool} (vs : List (List Int)) (l : List Int) (V : Vals vs l.length) (i : Nat) (hi : i < vs.length) : CallOk Try.prog 56 [.s n2 (ii l), .q [.s n1 (rr vs)] 0, .q [.i i] 0] [(0, .own 1 none (ii [partF vs i l]))] := by
  obtain ⟨code0, hcd1, hcd2⟩ := chk_impl_ShareCut_1; refine callOk_of Try.func56 hcd1 mo Try.call56 (rs := [4]) (by kernel_rfl) hcd2 (by rw [Try.ntmps56]; simp) (by simp) (by decide) ?_; unfold C_impl_ShareCut_1 K_impl_ShareCut_1; simp (config := { maxSteps := 2000000 }) only [go_sem, Nat.reduceBEq, Nat.reduceAdd, Nat.reduceMul, Nat.reduceMod, Nat.reduceLT, Nat.reduceDiv, Nat.reduceSub, Nat.reduceLeDiff, Int.reduceToNat, Int.reduceLT, Int.reduceLE, reduceCtorEq, List.take_nil, List.drop_nil]
  refine ⟨_, impl_leastPartFor_ok vs l V i hi, ?_⟩; simp (config := { maxSteps := 2000000 }) only [go_sem, Nat.reduceBEq, Nat.reduceAdd, Nat.reduceMul, Nat.reduceMod, Nat.reduceLT, Nat.reduceDiv, Nat.reduceSub, Nat.reduceLeDiff, Int.reduceToNat, Int.reduceLT, Int.reduceLE, reduceCtorEq, List.take_nil, List.drop_nil]
theorem impl_ShareCut_ok {n1 : Option Bool} (vs : List (List Int)) (i : Int) (hl : vs.length ≤ 1048576) (hr : ∀ r ∈ vs, r.length ≤ 1048576) : CallOk Try.prog 22 [.s n1 (rr vs), .i i] [(0, .tp 2), (100000, .own 1 none (ii (cutF vs i))), (101000, .b (cutB vs i))] := by
  obtain ⟨code0, hcd1, hcd2⟩ := chk_impl_ShareCut; refine callOk_of Try.func22 hcd1 mo Try.call22 (rs := [4, 5]) (by kernel_rfl) hcd2 (by rw [Try.ntmps22]; simp) (by simp) (by decide) ?_; unfold C_impl_ShareCut K_impl_ShareCut; simp (config := { maxSteps := 2000000 }) only [go_sem, Nat.reduceBEq, Nat.reduceAdd, Nat.reduceMul, Nat.reduceMod, Nat.reduceLT, Nat.reduceDiv, Nat.reduceSub, Nat.reduceLeDiff, Int.reduceToNat, Int.reduceLT, Int.reduceLE, reduceCtorEq, List.take_nil, List.drop_nil]
  refine ⟨_, impl_ValuesOk_ok vs hl hr, ?_⟩; simp (config := { maxSteps := 2000000 }) only [go_sem, Nat.reduceBEq, Nat.reduceAdd, Nat.reduceMul, Nat.reduceMod, Nat.reduceLT, Nat.reduceDiv, Nat.reduceSub, Nat.reduceLeDiff, Int.reduceToNat, Int.reduceLT, Int.reduceLE, reduceCtorEq, List.take_nil, List.drop_nil]
  refine ⟨fun h0 => ?_, fun h0 => by simp [cutF, cutB, h0]⟩
  have V := vals_of h0
  have n1' := V.n1
  have n3 := V.n3
  refine ⟨inR_of (by omega) (by omega), ?_⟩
  refine ⟨_, within_ok _ _ _, ?_⟩; simp (config := { maxSteps := 2000000 }) only [go_sem, Nat.reduceBEq, Nat.reduceAdd, Nat.reduceMul, Nat.reduceMod, Nat.reduceLT, Nat.reduceDiv, Nat.reduceSub, Nat.reduceLeDiff, Int.reduceToNat, Int.reduceLT, Int.reduceLE, reduceCtorEq, List.take_nil, List.drop_nil]
  refine ⟨fun h1 => ?_, fun h1 => ?_⟩
  · have hB : cutB vs i = false := by simp [cutB, h1]
    simp [cutF, hB]
  · have hB : cutB vs i = true := by simp [cutB, h0, h1]
    have hF : cutF vs i = bstF vs (fun l => [partF vs i.toNat l]) := if_pos hB
    simp only [inI, Bool.and_eq_true, decide_eq_true_eq] at h1
    obtain ⟨q, rfl⟩ : ∃ q : Nat, i = q := ⟨i.toNat, by omega⟩
    rw [hF, hB, Int.toNat_natCast]
    refine ⟨_, bestAllocation_ok vs 56 _ (fun l => [partF vs q l]) h0 hl hr (fun m l V e _ => ⟨by simp, impl_ShareCut1_ok vs l (by rw [e]; exact V) q (by omega)⟩), ?_⟩; simp (config := { maxSteps := 2000000 }) only [go_sem, Nat.reduceBEq, Nat.reduceAdd, Nat.reduceMul, Nat.reduceMod, Nat.reduceLT, Nat.reduceDiv, Nat.reduceSub, Nat.reduceLeDiff, Int.reduceToNat, Int.reduceLT, Int.reduceLE, reduceCtorEq, List.take_nil, List.drop_nil]
    omega
theorem spec_ShareCut_ok {n1 : Option Bool} (vs : List (List Int)) (i : Int) (hl : vs.length ≤ 1048576) (hr : ∀ r ∈ vs, r.length ≤ 1048576) : CallOk Try.prog 21 [.s n1 (rr vs), .i i] [(0, .tp 2), (100000, .own 1 none (ii (cutF vs i))), (101000, .b (cutB vs i))] := by
  obtain ⟨code0, hcd1, hcd2⟩ := chk_spec_ShareCut; refine callOk_of Try.func21 hcd1 mo Try.call21 (rs := [4, 5]) (by kernel_rfl) hcd2 (by rw [Try.ntmps21]; simp) (by simp) (by decide) ?_; unfold C_spec_ShareCut K_spec_ShareCut; simp (config := { maxSteps := 2000000 }) only [go_sem, Nat.reduceBEq, Nat.reduceAdd, Nat.reduceMul, Nat.reduceMod, Nat.reduceLT, Nat.reduceDiv, Nat.reduceSub, Nat.reduceLeDiff, Int.reduceToNat, Int.reduceLT, Int.reduceLE, reduceCtorEq, List.take_nil, List.drop_nil]
  refine ⟨_, spec_ValuesOk_ok vs hl hr, ?_⟩; simp (config := { maxSteps := 2000000 }) only [go_sem, Nat.reduceBEq, Nat.reduceAdd, Nat.reduceMul, Nat.reduceMod, Nat.reduceLT, Nat.reduceDiv, Nat.reduceSub, Nat.reduceLeDiff, Int.reduceToNat, Int.reduceLT, Int.reduceLE, reduceCtorEq, List.take_nil, List.drop_nil]
  refine ⟨fun h0 => ?_, fun h0 => by simp [cutF, cutB, h0]⟩
  have V := vals_of h0
  have n1' := V.n1
  have n3 := V.n3
  refine ⟨inR_of (by omega) (by omega), ?_⟩
  refine ⟨_, l01In_ok _ _ _, ?_⟩; simp (config := { maxSteps := 2000000 }) only [go_sem, Nat.reduceBEq, Nat.reduceAdd, Nat.reduceMul, Nat.reduceMod, Nat.reduceLT, Nat.reduceDiv, Nat.reduceSub, Nat.reduceLeDiff, Int.reduceToNat, Int.reduceLT, Int.reduceLE, reduceCtorEq, List.take_nil, List.drop_nil]
  refine ⟨fun h1 => ?_, fun h1 => ?_⟩
  · have hB : cutB vs i = false := by simp [cutB, h1]
    simp [cutF, hB]
  · have hB : cutB vs i = true := by simp [cutB, h0, h1]
    have hF : cutF vs i = bstF vs (fun l => [partF vs i.toNat l]) := if_pos hB
    simp only [inI, Bool.and_eq_true, decide_eq_true_eq] at h1
    obtain ⟨i, rfl⟩ : ∃ q : Nat, i = q := ⟨i.toNat, by omega⟩
    rw [hF, hB, Int.toNat_natCast]
    unfold bstF
    revert V
    generalize hm : (vs.getD 0 []).length = m
    intro V
    have m6 := V.m6
    have m1 := V.m1
    have hN := pow_bd n1' n3 m6
    refine ⟨_, spec_l23All_ok vs m V, ?_⟩; simp (config := { maxSteps := 2000000 }) only [go_sem, Nat.reduceBEq, Nat.reduceAdd, Nat.reduceMul, Nat.reduceMod, Nat.reduceLT, Nat.reduceDiv, Nat.reduceSub, Nat.reduceLeDiff, Int.reduceToNat, Int.reduceLT, Int.reduceLE, reduceCtorEq, List.take_nil, List.drop_nil]
    rw [allP_len]
    have hP : ∀ j, j < vs.length ^ m → Vals vs (sn 0 vs.length m j).length := fun j _ => by rw [sn_len]; exact V
    generalize hc : (fun l => [partF vs i l]) = c
    have hlt : ∀ a b, 0 < cmpL (c a) (c b) ↔ partF vs i b < partF vs i a := fun a b => by rw [← hc]; exact cmpL_1
    refine loopN (vs.length ^ m) (fun j => [(0, .t .arg (.s n1 (rr vs))), (1, .i i), (6, .own 1 none (ii (bstL c (sn 0 vs.length m) j))), (22, .own 1 none (hols j (allP vs.length m (vs.length ^ m)))), (23, .i (vs.length ^ m : Nat)), (24, .i (j : Nat))]) (fun _ => True) ⟨trivial, by simp (config := { maxSteps := 2000000 }) only [go_sem, Nat.reduceBEq, Nat.reduceAdd, Nat.reduceMul, Nat.reduceMod, Nat.reduceLT, Nat.reduceDiv, Nat.reduceSub, Nat.reduceLeDiff, Int.reduceToNat, Int.reduceLT, Int.reduceLE, reduceCtorEq, List.take_nil, List.drop_nil]; simp [bstL]⟩ fun j hj _ => ?_
    simp (config := { maxSteps := 2000000 }) only [go_sem, Nat.reduceBEq, Nat.reduceAdd, Nat.reduceMul, Nat.reduceMod, Nat.reduceLT, Nat.reduceDiv, Nat.reduceSub, Nat.reduceLeDiff, Int.reduceToNat, Int.reduceLT, Int.reduceLE, reduceCtorEq, List.take_nil, List.drop_nil]
    refine ⟨fun hlt2 => ?_, fun hge => ?_⟩
    · have hj' : j < vs.length ^ m := by omega
      have hg := hols_get (k := j) (A := allP vs.length m (vs.length ^ m)) (by rw [allP_len]; exact hj')
      rw [allP_get hj'] at hg
      have e1 : bstL c (sn 0 vs.length m) (j + 1) = if j = 0 ∨ 0 < cmpL (c (sn 0 vs.length m j)) (c (bstL c (sn 0 vs.length m) j)) then sn 0 vs.length m j else bstL c (sn 0 vs.length m) j := by rw [bstL]
      rw [allP_len]
      refine ⟨by omega, hj', hj', ?_⟩
      rw [hg]
      refine ⟨fun h0 => ?_, fun h0 => ?_⟩
      · obtain ⟨q, rfl⟩ : ∃ q, j = q + 1 := ⟨j - 1, by rcases j with _ | j; simp [bstL] at h0; omega⟩
        obtain ⟨z, hz1, hz⟩ := bstL_in (c := c) (S := sn 0 vs.length m) (k := q)
        refine ⟨_, spec_l24Parts_ok vs _ (hP _ hj') i (by omega), ?_⟩
        simp (config := { maxSteps := 2000000 }) only [go_sem, Nat.reduceBEq, Nat.reduceAdd, Nat.reduceMul, Nat.reduceMod, Nat.reduceLT, Nat.reduceDiv, Nat.reduceSub, Nat.reduceLeDiff, Int.reduceToNat, Int.reduceLT, Int.reduceLE, reduceCtorEq, List.take_nil, List.drop_nil, hg]
        refine ⟨_, spec_l24Parts_ok vs _ (by rw [hz]; exact hP z (by omega)) i (by omega), ?_⟩
        simp (config := { maxSteps := 2000000 }) only [go_sem, Nat.reduceBEq, Nat.reduceAdd, Nat.reduceMul, Nat.reduceMod, Nat.reduceLT, Nat.reduceDiv, Nat.reduceSub, Nat.reduceLeDiff, Int.reduceToNat, Int.reduceLT, Int.reduceLE, reduceCtorEq, List.take_nil, List.drop_nil, hg]
        rw [allP_len]
        have ln := hlt (sn 0 vs.length m (q + 1)) (bstL c (sn 0 vs.length m) (q + 1))
        exact ⟨fun h => ⟨hj', inR_of (by omega) (by omega), hj', by rw [e1, if_pos (.inr (ln.2 h))], by simp⟩, fun h => ⟨inR_of (by omega) (by omega), hj', by rw [e1, if_neg (fun h' => by rcases h' with h' | h'; omega; exact h (ln.1 h'))], by simp⟩⟩
      · have h0 : j = 0 := by
          rcases j with _ | j
          · rfl
          · obtain ⟨z, _, hz⟩ := bstL_in (c := c) (S := sn 0 vs.length m) (k := j)
            rw [hz, sn_len] at h0; omega
        simp (config := { maxSteps := 2000000 }) only [go_sem, Nat.reduceBEq, Nat.reduceAdd, Nat.reduceMul, Nat.reduceMod, Nat.reduceLT, Nat.reduceDiv, Nat.reduceSub, Nat.reduceLeDiff, Int.reduceToNat, Int.reduceLT, Int.reduceLE, reduceCtorEq, List.take_nil, List.drop_nil, hg]
        rw [allP_len]
        exact ⟨hj', inR_of (by omega) (by omega), hj', by rw [e1, if_pos (.inl h0)], by simp⟩
    · have : j = vs.length ^ m := by omega
      subst this
      exact ⟨by omega, rfl⟩
def K_impl_ShareOf : List Nat := [0, 1, 4, 5, 6]
def C_impl_ShareOf : C :=
  let ks := K_impl_ShareOf
  (.seq
    (.rg 0 [(none, .v 4 .mv [.k (.i 0)])])
    (.cl ks (.seq
      (.rg 0 [(none, .v 8 .mv [.s 0]), (none, .v 9 .mv [.s 1]), (none, .co 10 22 [.s 8, .s 9]), (none, .tk 7 10), (none, .tk 11 100007), (none, .tk 12 101007), (none, .tk 5 11), (none, .tk 6 12)])
      (.cl ks (.seq
        (.seq
          (.rg 0 [(none, .v 13 .mv [.s 6]), (none, .v 14 .not [.s 13])])
          (.cond (.s 14)
            (.seq
              (.rg 0 [(none, .v 4 .mv [.k (.i (-1))])])
              .ret)
            .skip))
        (.cl ks (.seq
          (.rg 0 [(none, .v 15 .mv [.s 0]), (none, .v 16 .mv [.s 5]), (none, .v 17 .mv [.s 1]), (none, .co 18 57 [.s 15, .s 16, .s 17]), (none, .tk 4 18)])
          .ret)))))))

theorem chk_impl_ShareOf : ∃ b, Try.f28.body = some b ∧ chk Try.prog Try.f28.ntmps true C_impl_ShareOf b = true := ⟨_, rfl, by kernel_rfl⟩
def K_spec_ShareOf : List Nat := [0, 1, 4, 5, 6]
def C_spec_ShareOf : C :=
  let ks := K_spec_ShareOf
  (.seq
    (.rg 0 [(none, .v 4 .mv [.k (.i 0)])])
    (.cl ks (.seq
      (.rg 0 [(none, .v 8 .mv [.s 0]), (none, .v 9 .mv [.s 1]), (none, .co 10 21 [.s 8, .s 9]), (none, .tk 7 10), (none, .tk 11 100007), (none, .tk 12 101007), (none, .tk 5 11), (none, .tk 6 12)])
      (.cl ks (.seq
        (.seq
          (.rg 0 [(none, .v 13 .mv [.s 6]), (none, .v 14 .not [.s 13])])
          (.cond (.s 14)
            (.seq
              (.rg 0 [(none, .v 4 .mv [.k (.i (-1))])])
              .ret)
            .skip))
        (.cl ks (.seq
          (.rg 0 [(none, .v 15 .mv [.s 0]), (none, .v 16 .mv [.s 5]), (none, .v 17 .mv [.s 1]), (none, .co 18 53 [.s 15, .s 16, .s 17]), (none, .tk 4 18)])
          .ret)))))))

theorem chk_spec_ShareOf : ∃ b, Try.f27.body = some b ∧ chk Try.prog Try.f27.ntmps true C_spec_ShareOf b = true := ⟨_, rfl, by kernel_rfl⟩
def K_impl_GetsShares : List Nat := [0, 1, 4, 5, 11, 12]
def C_impl_GetsShares : C :=
  let ks := K_impl_GetsShares
  (.seq
    (.rg 0 [(none, .v 4 .mv [.k (.b false)])])
    (.cl ks (.seq
      (.seq
        (.rg 0 [(none, .v 6 .mv [.s 0]), (none, .v 7 .mv [.s 1]), (none, .co 8 63 [.s 6, .s 7]), (none, .v 9 .not [.s 8])])
        (.cond (.s 9)
          (.seq
            (.rg 0 [(none, .v 4 .mv [.k (.b false)])])
            .ret)
          .skip))
      (.cl ks (.seq
        (.seq
          (.rg 0 [(none, .v 10 .mv [.s 0]), (none, .v 11 .len [.s 10]), (none, .v 12 .mv [.k (.i 0)])])
          (.cl ks (.block 0
            (.loop
              (.seq
                (.rg 0 [(none, .v 13 (.bin .lss) [.s 12, .s 11])])
                (.seq
                  (.cond (.s 13)
                    .skip
                    (.exit 0))
                  (.cl ks (.seq
                    (.block 1
                      (.seq
                        (.rg 0 [(none, .v 14 .mv [.s 12]), (none, .tk 5 14)])
                        (.cl ks (.seq
                          (.rg 0 [(none, .v 15 .mv [.s 0]), (none, .v 16 .mv [.s 1]), (none, .v 17 .mv [.s 5]), (none, .v 18 .mv [.s 5]), (none, .co 19 60 [.s 15, .s 16, .s 17, .s 18]), (none, .v 20 .mv [.s 0]), (none, .v 21 .mv [.s 5]), (none, .co 22 28 [.s 20, .s 21]), (none, .v 23 (.bin .lss) [.s 19, .s 22])])
                          (.cond (.s 23)
                            (.seq
                              (.rg 0 [(none, .v 4 .mv [.k (.b false)])])
                              .ret)
                            .skip)))))
                    (.cl ks (.rg 0 [(none, .v 24 (.bin .add) [.s 12, .k (.i 1)]), (none, .v 12 .mv [.s 24])]))))))))))
        (.cl ks (.seq
          (.rg 0 [(none, .v 4 .mv [.k (.b true)])])
          .ret)))))))

theorem chk_impl_GetsShares : ∃ b, Try.f35.body = some b ∧ chk Try.prog Try.f35.ntmps true C_impl_GetsShares b = true := ⟨_, rfl, by kernel_rfl⟩
def K_spec_GetsShares : List Nat := [0, 1, 4, 5, 11, 12]
def C_spec_GetsShares : C :=
  let ks := K_spec_GetsShares
  (.seq
    (.rg 0 [(none, .v 4 .mv [.k (.b false)])])
    (.cl ks (.seq
      (.seq
        (.rg 0 [(none, .v 6 .mv [.s 0]), (none, .v 7 .mv [.s 1]), (none, .co 8 62 [.s 6, .s 7]), (none, .v 9 .not [.s 8])])
        (.cond (.s 9)
          (.seq
            (.rg 0 [(none, .v 4 .mv [.k (.b false)])])
            .ret)
          .skip))
      (.cl ks (.seq
        (.seq
          (.rg 0 [(none, .v 10 .mv [.s 0]), (none, .v 11 .len [.s 10]), (none, .v 12 .mv [.k (.i 0)])])
          (.cl ks (.block 0
            (.loop
              (.seq
                (.rg 0 [(none, .v 13 (.bin .lss) [.s 12, .s 11])])
                (.seq
                  (.cond (.s 13)
                    .skip
                    (.exit 0))
                  (.cl ks (.seq
                    (.block 1
                      (.seq
                        (.rg 0 [(none, .v 14 .mv [.s 12]), (none, .tk 5 14)])
                        (.cl ks (.seq
                          (.rg 0 [(none, .v 15 .mv [.s 0]), (none, .v 16 .mv [.s 1]), (none, .v 17 .mv [.s 5]), (none, .v 18 .mv [.s 5]), (none, .co 19 61 [.s 15, .s 16, .s 17, .s 18]), (none, .v 20 .mv [.s 0]), (none, .v 21 .mv [.s 5]), (none, .co 22 27 [.s 20, .s 21]), (none, .v 23 (.bin .lss) [.s 19, .s 22])])
                          (.cond (.s 23)
                            (.seq
                              (.rg 0 [(none, .v 4 .mv [.k (.b false)])])
                              .ret)
                            .skip)))))
                    (.cl ks (.rg 0 [(none, .v 24 (.bin .add) [.s 12, .k (.i 1)]), (none, .v 12 .mv [.s 24])]))))))))))
        (.cl ks (.seq
          (.rg 0 [(none, .v 4 .mv [.k (.b true)])])
          .ret)))))))

theorem chk_spec_GetsShares : ∃ b, Try.f33.body = some b ∧ chk Try.prog Try.f33.ntmps true C_spec_GetsShares b = true := ⟨_, rfl, by kernel_rfl⟩
theorem cut_len {vs : List (List Int)} {i : Int} (h : cutB vs i = true) : Vals vs (cutF vs i).length ∧ (cutF vs i).length = (vs.getD 0 []).length ∧ ∀ v ∈ cutF vs i, 0 ≤ v ∧ v < vs.length := by
  have h' := h
  simp only [cutB, Bool.and_eq_true] at h'
  have V := vals_of h'.1
  have n1' := V.n1
  rw [show cutF vs i = _ from if_pos h]
  unfold bstF
  obtain ⟨q, hq⟩ : ∃ q, vs.length ^ (vs.getD 0 []).length = q + 1 := ⟨vs.length ^ (vs.getD 0 []).length - 1, by have : 0 < vs.length ^ (vs.getD 0 []).length := Nat.pow_pos (by omega); omega⟩
  rw [hq]
  obtain ⟨z, _, hz⟩ := bstL_in (c := fun l => [partF vs i.toNat l]) (S := sn 0 vs.length (vs.getD 0 []).length) (k := q)
  rw [hz, sn_len]
  exact ⟨V, rfl, fun v hv => by have := sn_bd (by omega) v hv; omega⟩
theorem cut_bd {vs : List (List Int)} {i : Int} : (cutF vs i).length ≤ 1048576 := by
  cases h : cutB vs i with
  | true =>
    obtain ⟨V, _⟩ := cut_len h
    have := V.m6; omega
  | false => unfold cutF; rw [if_neg (by rw [h]; simp)]; simp
/-- A person's share. -/
def shareI (vs : List (List Int)) (i : Int) : Int := if cutB vs i = true then partF vs i.toNat (cutF vs i) else -1
theorem impl_ShareOf_ok {n1 : Option Bool} (vs : List (List Int)) (i : Int) (hl : vs.length ≤ 1048576) (hr : ∀ r ∈ vs, r.length ≤ 1048576) : CallOk Try.prog 28 [.s n1 (rr vs), .i i] [(0, .i (shareI vs i))] := by
  obtain ⟨code0, hcd1, hcd2⟩ := chk_impl_ShareOf; refine callOk_of Try.func28 hcd1 mo Try.call28 (rs := [4]) (by kernel_rfl) hcd2 (by rw [Try.ntmps28]; simp) (by simp) (by decide) ?_; unfold C_impl_ShareOf K_impl_ShareOf; simp (config := { maxSteps := 2000000 }) only [go_sem, Nat.reduceBEq, Nat.reduceAdd, Nat.reduceMul, Nat.reduceMod, Nat.reduceLT, Nat.reduceDiv, Nat.reduceSub, Nat.reduceLeDiff, Int.reduceToNat, Int.reduceLT, Int.reduceLE, reduceCtorEq, List.take_nil, List.drop_nil]
  refine ⟨_, impl_ShareCut_ok vs i hl hr, ?_⟩; simp (config := { maxSteps := 2000000 }) only [go_sem, Nat.reduceBEq, Nat.reduceAdd, Nat.reduceMul, Nat.reduceMod, Nat.reduceLT, Nat.reduceDiv, Nat.reduceSub, Nat.reduceLeDiff, Int.reduceToNat, Int.reduceLT, Int.reduceLE, reduceCtorEq, List.take_nil, List.drop_nil]
  refine ⟨fun h => by simp [shareI, h], fun h => ?_⟩
  obtain ⟨V, _⟩ := cut_len h
  have hI : shareI vs i = partF vs i.toNat (cutF vs i) := if_pos h
  rw [hI]
  simp only [cutB, inI, Bool.and_eq_true, decide_eq_true_eq] at h
  obtain ⟨q, rfl⟩ : ∃ q : Nat, i = q := ⟨i.toNat, by omega⟩
  rw [Int.toNat_natCast]
  refine ⟨_, impl_leastPartFor_ok vs _ V q (by omega), ?_⟩; simp (config := { maxSteps := 2000000 }) only [go_sem, Nat.reduceBEq, Nat.reduceAdd, Nat.reduceMul, Nat.reduceMod, Nat.reduceLT, Nat.reduceDiv, Nat.reduceSub, Nat.reduceLeDiff, Int.reduceToNat, Int.reduceLT, Int.reduceLE, reduceCtorEq, List.take_nil, List.drop_nil]
theorem spec_ShareOf_ok {n1 : Option Bool} (vs : List (List Int)) (i : Int) (hl : vs.length ≤ 1048576) (hr : ∀ r ∈ vs, r.length ≤ 1048576) : CallOk Try.prog 27 [.s n1 (rr vs), .i i] [(0, .i (shareI vs i))] := by
  obtain ⟨code0, hcd1, hcd2⟩ := chk_spec_ShareOf; refine callOk_of Try.func27 hcd1 mo Try.call27 (rs := [4]) (by kernel_rfl) hcd2 (by rw [Try.ntmps27]; simp) (by simp) (by decide) ?_; unfold C_spec_ShareOf K_spec_ShareOf; simp (config := { maxSteps := 2000000 }) only [go_sem, Nat.reduceBEq, Nat.reduceAdd, Nat.reduceMul, Nat.reduceMod, Nat.reduceLT, Nat.reduceDiv, Nat.reduceSub, Nat.reduceLeDiff, Int.reduceToNat, Int.reduceLT, Int.reduceLE, reduceCtorEq, List.take_nil, List.drop_nil]
  refine ⟨_, spec_ShareCut_ok vs i hl hr, ?_⟩; simp (config := { maxSteps := 2000000 }) only [go_sem, Nat.reduceBEq, Nat.reduceAdd, Nat.reduceMul, Nat.reduceMod, Nat.reduceLT, Nat.reduceDiv, Nat.reduceSub, Nat.reduceLeDiff, Int.reduceToNat, Int.reduceLT, Int.reduceLE, reduceCtorEq, List.take_nil, List.drop_nil]
  refine ⟨fun h => by simp [shareI, h], fun h => ?_⟩
  obtain ⟨V, _⟩ := cut_len h
  have hI : shareI vs i = partF vs i.toNat (cutF vs i) := if_pos h
  rw [hI]
  simp only [cutB, inI, Bool.and_eq_true, decide_eq_true_eq] at h
  obtain ⟨q, rfl⟩ : ∃ q : Nat, i = q := ⟨i.toNat, by omega⟩
  rw [Int.toNat_natCast]
  refine ⟨_, spec_l24Parts_ok vs _ V q (by omega), ?_⟩; simp (config := { maxSteps := 2000000 }) only [go_sem, Nat.reduceBEq, Nat.reduceAdd, Nat.reduceMul, Nat.reduceMod, Nat.reduceLT, Nat.reduceDiv, Nat.reduceSub, Nat.reduceLeDiff, Int.reduceToNat, Int.reduceLT, Int.reduceLE, reduceCtorEq, List.take_nil, List.drop_nil]
def getsB (vs : List (List Int)) (l : List Int) : Bool := allocB vs l && (List.range vs.length).all fun i => !decide (wo vs l i i < shareI vs i)
theorem impl_GetsShares_ok {n1 n2 : Option Bool} (vs : List (List Int)) (l : List Int) (hl : vs.length ≤ 1048576) (hr : ∀ r ∈ vs, r.length ≤ 1048576) (hll : l.length ≤ 1048576) : CallOk Try.prog 35 [.s n1 (rr vs), .s n2 (ii l)] [(0, .b (getsB vs l))] := by
  obtain ⟨code0, hcd1, hcd2⟩ := chk_impl_GetsShares; refine callOk_of Try.func35 hcd1 mo Try.call35 (rs := [4]) (by kernel_rfl) hcd2 (by rw [Try.ntmps35]; simp) (by simp) (by decide) ?_; unfold C_impl_GetsShares K_impl_GetsShares; simp (config := { maxSteps := 2000000 }) only [go_sem, Nat.reduceBEq, Nat.reduceAdd, Nat.reduceMul, Nat.reduceMod, Nat.reduceLT, Nat.reduceDiv, Nat.reduceSub, Nat.reduceLeDiff, Int.reduceToNat, Int.reduceLT, Int.reduceLE, reduceCtorEq, List.take_nil, List.drop_nil]
  refine ⟨_, impl_AllocationOk_ok vs l hl hr hll, ?_⟩; simp (config := { maxSteps := 2000000 }) only [go_sem, Nat.reduceBEq, Nat.reduceAdd, Nat.reduceMul, Nat.reduceMod, Nat.reduceLT, Nat.reduceDiv, Nat.reduceSub, Nat.reduceLeDiff, Int.reduceToNat, Int.reduceLT, Int.reduceLE, reduceCtorEq, List.take_nil, List.drop_nil]
  refine ⟨fun h => by simp [getsB, h], fun h => ?_⟩
  have V := alloc_vals h
  have n3 := V.n3
  have key : getsB vs l = (List.range vs.length).all fun i => !decide (wo vs l i i < shareI vs i) := by simp only [getsB, h, Bool.true_and]
  rw [key]
  refine loopN vs.length (fun j => [(0, .t .arg (.s n1 (rr vs))), (1, .t .arg (.s n2 (ii l))), (11, .i vs.length), (12, .i (j : Nat))]) (fun j => ∀ i, i < j → (!decide (wo vs l i i < shareI vs i)) = true) ⟨by simp, by simp (config := { maxSteps := 2000000 }) only [go_sem, Nat.reduceBEq, Nat.reduceAdd, Nat.reduceMul, Nat.reduceMod, Nat.reduceLT, Nat.reduceDiv, Nat.reduceSub, Nat.reduceLeDiff, Int.reduceToNat, Int.reduceLT, Int.reduceLE, reduceCtorEq, List.take_nil, List.drop_nil]; simp⟩ fun j hj hI => ?_
  simp (config := { maxSteps := 2000000 }) only [go_sem, Nat.reduceBEq, Nat.reduceAdd, Nat.reduceMul, Nat.reduceMod, Nat.reduceLT, Nat.reduceDiv, Nat.reduceSub, Nat.reduceLeDiff, Int.reduceToNat, Int.reduceLT, Int.reduceLE, reduceCtorEq, List.take_nil, List.drop_nil]
  refine ⟨fun hlt => ?_, fun hge => ?_⟩
  · have hj' : j < vs.length := by omega
    refine ⟨_, impl_worth_ok vs l V j j hj', ?_⟩; simp (config := { maxSteps := 2000000 }) only [go_sem, Nat.reduceBEq, Nat.reduceAdd, Nat.reduceMul, Nat.reduceMod, Nat.reduceLT, Nat.reduceDiv, Nat.reduceSub, Nat.reduceLeDiff, Int.reduceToNat, Int.reduceLT, Int.reduceLE, reduceCtorEq, List.take_nil, List.drop_nil]
    refine ⟨_, impl_ShareOf_ok vs j hl hr, ?_⟩; simp (config := { maxSteps := 2000000 }) only [go_sem, Nat.reduceBEq, Nat.reduceAdd, Nat.reduceMul, Nat.reduceMod, Nat.reduceLT, Nat.reduceDiv, Nat.reduceSub, Nat.reduceLeDiff, Int.reduceToNat, Int.reduceLT, Int.reduceLE, reduceCtorEq, List.take_nil, List.drop_nil]
    refine ⟨fun h2 => ?_, fun h2 => ?_⟩
    · exact (not_all_range hj' (by simp [h2])).symm
    · refine ⟨inR_of (by omega) (by omega), hj', fun i hi => ?_, by simp⟩
      by_cases e : i = j
      · rw [e]; simp [h2]
      · have := hI i (by omega); simpa using this
  · have : j = vs.length := by omega
    subst this
    exact (all_range hI).symm
theorem spec_GetsShares_ok {n1 n2 : Option Bool} (vs : List (List Int)) (l : List Int) (hl : vs.length ≤ 1048576) (hr : ∀ r ∈ vs, r.length ≤ 1048576) (hll : l.length ≤ 1048576) : CallOk Try.prog 33 [.s n1 (rr vs), .s n2 (ii l)] [(0, .b (getsB vs l))] := by
  obtain ⟨code0, hcd1, hcd2⟩ := chk_spec_GetsShares; refine callOk_of Try.func33 hcd1 mo Try.call33 (rs := [4]) (by kernel_rfl) hcd2 (by rw [Try.ntmps33]; simp) (by simp) (by decide) ?_; unfold C_spec_GetsShares K_spec_GetsShares; simp (config := { maxSteps := 2000000 }) only [go_sem, Nat.reduceBEq, Nat.reduceAdd, Nat.reduceMul, Nat.reduceMod, Nat.reduceLT, Nat.reduceDiv, Nat.reduceSub, Nat.reduceLeDiff, Int.reduceToNat, Int.reduceLT, Int.reduceLE, reduceCtorEq, List.take_nil, List.drop_nil]
  refine ⟨_, spec_AllocationOk_ok vs l hl hr hll, ?_⟩; simp (config := { maxSteps := 2000000 }) only [go_sem, Nat.reduceBEq, Nat.reduceAdd, Nat.reduceMul, Nat.reduceMod, Nat.reduceLT, Nat.reduceDiv, Nat.reduceSub, Nat.reduceLeDiff, Int.reduceToNat, Int.reduceLT, Int.reduceLE, reduceCtorEq, List.take_nil, List.drop_nil]
  refine ⟨fun h => by simp [getsB, h], fun h => ?_⟩
  have V := alloc_vals h
  have n3 := V.n3
  have key : getsB vs l = (List.range vs.length).all fun i => !decide (wo vs l i i < shareI vs i) := by simp only [getsB, h, Bool.true_and]
  rw [key]
  refine loopN vs.length (fun j => [(0, .t .arg (.s n1 (rr vs))), (1, .t .arg (.s n2 (ii l))), (11, .i vs.length), (12, .i (j : Nat))]) (fun j => ∀ i, i < j → (!decide (wo vs l i i < shareI vs i)) = true) ⟨by simp, by simp (config := { maxSteps := 2000000 }) only [go_sem, Nat.reduceBEq, Nat.reduceAdd, Nat.reduceMul, Nat.reduceMod, Nat.reduceLT, Nat.reduceDiv, Nat.reduceSub, Nat.reduceLeDiff, Int.reduceToNat, Int.reduceLT, Int.reduceLE, reduceCtorEq, List.take_nil, List.drop_nil]; simp⟩ fun j hj hI => ?_
  simp (config := { maxSteps := 2000000 }) only [go_sem, Nat.reduceBEq, Nat.reduceAdd, Nat.reduceMul, Nat.reduceMod, Nat.reduceLT, Nat.reduceDiv, Nat.reduceSub, Nat.reduceLeDiff, Int.reduceToNat, Int.reduceLT, Int.reduceLE, reduceCtorEq, List.take_nil, List.drop_nil]
  refine ⟨fun hlt => ?_, fun hge => ?_⟩
  · have hj' : j < vs.length := by omega
    refine ⟨_, spec_l23Worth_ok vs l V j j hj', ?_⟩; simp (config := { maxSteps := 2000000 }) only [go_sem, Nat.reduceBEq, Nat.reduceAdd, Nat.reduceMul, Nat.reduceMod, Nat.reduceLT, Nat.reduceDiv, Nat.reduceSub, Nat.reduceLeDiff, Int.reduceToNat, Int.reduceLT, Int.reduceLE, reduceCtorEq, List.take_nil, List.drop_nil]
    refine ⟨_, spec_ShareOf_ok vs j hl hr, ?_⟩; simp (config := { maxSteps := 2000000 }) only [go_sem, Nat.reduceBEq, Nat.reduceAdd, Nat.reduceMul, Nat.reduceMod, Nat.reduceLT, Nat.reduceDiv, Nat.reduceSub, Nat.reduceLeDiff, Int.reduceToNat, Int.reduceLT, Int.reduceLE, reduceCtorEq, List.take_nil, List.drop_nil]
    refine ⟨fun h2 => ?_, fun h2 => ?_⟩
    · exact (not_all_range hj' (by simp [h2])).symm
    · refine ⟨inR_of (by omega) (by omega), hj', fun i hi => ?_, by simp⟩
      by_cases e : i = j
      · rw [e]; simp [h2]
      · have := hI i (by omega); simpa using this
  · have : j = vs.length := by omega
    subst this
    exact (all_range hI).symm

end Go.Proofs.Ytkmklfdpomkalaa
