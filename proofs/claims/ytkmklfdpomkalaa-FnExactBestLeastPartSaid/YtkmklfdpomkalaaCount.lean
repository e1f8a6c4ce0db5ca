/- Own work: contracts of functions that the claim reaches. No condition beyond those that each theorem names. -/
import Derived.Test.YtkmklfdpomkalaaProg
import Derived.Test.YtkmklfdpomkalaaEnum
import Derived.Test.YtkmklfdpomkalaaFacts
import Derived.Test.YtkmklfdpomkalaaMarks
namespace Go.Proofs.Ytkmklfdpomkalaa
open Go Go.Vc
set_option maxRecDepth 100000
set_option linter.unusedSimpArgs false
set_option linter.unusedVariables false
/-- The first c lists of k numbers. -/
def allP (b k c : Nat) : List (List Int) := (List.range c).map (sn 0 b k)
theorem allP_len {b k c : Nat} : (allP b k c).length = c := by simp [allP]
theorem allP_get {b k c j : Nat} (h : j < c) : (allP b k c).getD j [] = sn 0 b k j := by simp [allP, List.getD, h]
theorem allP_s {b k c : Nat} : allP b k (c + 1) = allP b k c ++ [sn 0 b k c] := by simp [allP, List.range_succ]
theorem sn_at {b k q i : Nat} (hi : i < b) : sn 0 b (k + 1) (q * b + i) = sn 0 b k q ++ [(i : Int)] := by
  have hb : 0 < b := by omega
  simp only [sn]
  rw [Nat.add_comm (q * b), Nat.add_mul_div_right _ _ hb, Nat.div_eq_of_lt hi, Nat.zero_add, Nat.add_mul_mod_self_right, Nat.mod_eq_of_lt hi]; simp
def K_spec_l23All : List Nat := [0, 2, 3, 4, 6, 7, 13, 14, 17, 18, 19, 24, 25]
def C_spec_l23All : C :=
  let ks := K_spec_l23All
  (.seq
    (.rg 0 [(none, .mkn 2)])
    (.cl ks (.seq
      (.rg 0 [(none, .lit 8 [] 0), (none, .lit 9 [.s 8] 1), (none, .tk 3 9)])
      (.cl ks (.seq
        (.seq
          (.rg 0 [(none, .v 10 .mv [.s 0]), (none, .v 11 .idx [.s 10, .k (.i 0)]), (none, .v 12 .ld [.s 11]), (none, .v 13 .len [.s 12]), (none, .v 14 .mv [.k (.i 0)])])
          (.cl ks (.block 0
            (.loop
              (.seq
                (.rg 0 [(none, .v 15 (.bin .lss) [.s 14, .s 13])])
                (.seq
                  (.cond (.s 15)
                    .skip
                    (.exit 0))
                  (.cl ks (.seq
                    (.block 1
                      (.seq
                        (.rg 0 [(none, .lit 16 [] 0), (none, .tk 4 16)])
                        (.cl ks (.seq
                          (.seq
                            (.rg 0 [(none, .v 17 .mv [.s 3]), (none, .v 18 .len [.s 17]), (none, .v 19 .mv [.k (.i 0)])])
                            (.cl ks (.block 2
                              (.loop
                                (.seq
                                  (.rg 0 [(none, .v 20 (.bin .lss) [.s 19, .s 18])])
                                  (.seq
                                    (.cond (.s 20)
                                      .skip
                                      (.exit 2))
                                    (.cl ks (.seq
                                      (.block 3
                                        (.seq
                                          (.rg 0 [(none, .v 21 .idx [.s 17, .s 19]), (none, .v 22 .ld [.s 21]), (none, .tk 6 22)])
                                          (.cl ks (.seq
                                            (.rg 0 [(none, .v 23 .mv [.s 0]), (none, .v 24 .len [.s 23]), (none, .v 25 .mv [.k (.i 0)])])
                                            (.cl ks (.block 4
                                              (.loop
                                                (.seq
                                                  (.rg 0 [(none, .v 26 (.bin .lss) [.s 25, .s 24])])
                                                  (.seq
                                                    (.cond (.s 26)
                                                      .skip
                                                      (.exit 4))
                                                    (.cl ks (.seq
                                                      (.block 5
                                                        (.seq
                                                          (.rg 0 [(none, .v 27 .mv [.s 25]), (none, .tk 7 27)])
                                                          (.cl ks (.rg 0 [(none, .v 28 .mv [.s 4]), (none, .lit 29 [] 0), (none, .v 30 .mv [.s 6]), (none, .app 31 (.s 29) (.s 30) 0), (none, .v 32 .mv [.s 7]), (none, .lit 33 [.s 32] 0), (none, .app 34 (.s 31) (.s 33) 0), (none, .lit 35 [.s 34] 1), (none, .app 36 (.s 28) (.s 35) 1), (none, .tk 4 36)]))))
                                                      (.cl ks (.rg 0 [(none, .v 37 (.bin .add) [.s 25, .k (.i 1)]), (none, .v 25 .mv [.s 37])])))))))))))))
                                      (.cl ks (.rg 0 [(none, .v 38 (.bin .add) [.s 19, .k (.i 1)]), (none, .v 19 .mv [.s 38])]))))))))))
                          (.cl ks (.rg 0 [(none, .tk 39 4), (none, .tk 3 39)]))))))
                    (.cl ks (.rg 0 [(none, .v 40 (.bin .add) [.s 14, .k (.i 1)]), (none, .v 14 .mv [.s 40])]))))))))))
        (.cl ks (.seq
          (.rg 0 [(none, .v 41 .mv [.s 3]), (none, .tk 2 41)])
          .ret)))))))

theorem chk_spec_l23All : ∃ b, Try.f40.body = some b ∧ chk Try.prog Try.f40.ntmps true C_spec_l23All b = true := ⟨_, rfl, by kernel_rfl⟩
theorem spec_l23All_ok {n1 : Option Bool} (vs : List (List Int)) (m : Nat) (V : Vals vs m) : CallOk Try.prog 40 [.s n1 (rr vs)] [(0, .own 1 none (rr (allP vs.length m (vs.length ^ m))))] := by
  obtain ⟨code0, hcd1, hcd2⟩ := chk_spec_l23All; refine callOk_of Try.func40 hcd1 mo Try.call40 (rs := [2]) (by kernel_rfl) hcd2 (by rw [Try.ntmps40]; simp) (by simp) (by decide) ?_; unfold C_spec_l23All K_spec_l23All; simp (config := { maxSteps := 2000000 }) only [go_sem, Nat.reduceBEq, Nat.reduceAdd, Nat.reduceMul, Nat.reduceMod, Nat.reduceLT, Nat.reduceDiv, Nat.reduceSub, Nat.reduceLeDiff, Int.reduceToNat, Int.reduceLT, Int.reduceLE, reduceCtorEq, List.take_nil, List.drop_nil]
  have n1' := V.n1
  have n3 := V.n3
  have m6 := V.m6
  have hl0 := V.len 0 (by omega)
  have hpw : ∀ k, k ≤ m → vs.length ^ k ≤ 729 := fun k hk => pow_bd n1' n3 (by omega)
  refine ⟨by omega, by omega, ?_⟩
  rw [hl0]
  refine loopN m (fun k => [(0, .t .arg (.s n1 (rr vs))), (3, .own 1 none (rr (allP vs.length k (vs.length ^ k)))), (13, .i m), (14, .i (k : Nat))]) (fun _ => True) ⟨trivial, by simp (config := { maxSteps := 2000000 }) only [go_sem, Nat.reduceBEq, Nat.reduceAdd, Nat.reduceMul, Nat.reduceMod, Nat.reduceLT, Nat.reduceDiv, Nat.reduceSub, Nat.reduceLeDiff, Int.reduceToNat, Int.reduceLT, Int.reduceLE, reduceCtorEq, List.take_nil, List.drop_nil]; simp [allP, sn, rr, ii, T.leL, T.le]⟩ fun k hk _ => ?_
  have hpk := hpw k hk
  simp (config := { maxSteps := 2000000 }) only [go_sem, Nat.reduceBEq, Nat.reduceAdd, Nat.reduceMul, Nat.reduceMod, Nat.reduceLT, Nat.reduceDiv, Nat.reduceSub, Nat.reduceLeDiff, Int.reduceToNat, Int.reduceLT, Int.reduceLE, reduceCtorEq, List.take_nil, List.drop_nil]
  refine ⟨fun hlt => ?_, fun hge => ?_⟩
  · have hk' : k < m := by omega
    have hpk1 := hpw (k + 1) (by omega)
    rw [allP_len]
    refine loopN (vs.length ^ k) (fun q => [(0, .t .arg (.s n1 (rr vs))), (3, .own 1 none (rr (allP vs.length k (vs.length ^ k)))), (13, .i m), (14, .i (k : Nat)), (4, .own 1 none (rr (allP vs.length (k + 1) (q * vs.length)))), (17, .al 3), (18, .i (vs.length ^ k : Nat)), (19, .i (q : Nat))]) (fun _ => True) ⟨trivial, by simp (config := { maxSteps := 2000000 }) only [go_sem, Nat.reduceBEq, Nat.reduceAdd, Nat.reduceMul, Nat.reduceMod, Nat.reduceLT, Nat.reduceDiv, Nat.reduceSub, Nat.reduceLeDiff, Int.reduceToNat, Int.reduceLT, Int.reduceLE, reduceCtorEq, List.take_nil, List.drop_nil]; simp [allP]⟩ fun q hq _ => ?_
    simp (config := { maxSteps := 2000000 }) only [go_sem, Nat.reduceBEq, Nat.reduceAdd, Nat.reduceMul, Nat.reduceMod, Nat.reduceLT, Nat.reduceDiv, Nat.reduceSub, Nat.reduceLeDiff, Int.reduceToNat, Int.reduceLT, Int.reduceLE, reduceCtorEq, List.take_nil, List.drop_nil]
    rw [allP_len]
    refine ⟨fun hlt2 => ?_, fun hge2 => ?_⟩
    · have hq' : q < vs.length ^ k := by omega
      have hqb : q * vs.length + vs.length ≤ vs.length ^ (k + 1) := by
        rw [Nat.pow_succ, ← Nat.succ_mul]; exact Nat.mul_le_mul_right _ hq'
      rw [allP_get hq']
      refine ⟨by omega, by omega, by omega, ?_⟩
      refine loopN vs.length (fun i => [(0, .t .arg (.s n1 (rr vs))), (3, .own 1 none (rr (allP vs.length k (vs.length ^ k)))), (13, .i m), (14, .i (k : Nat)), (4, .own 1 none (rr (allP vs.length (k + 1) (q * vs.length + i)))), (17, .al 3), (18, .i (vs.length ^ k : Nat)), (19, .i (q : Nat)), (6, .t (.rw 3) (.s none (ii (sn 0 vs.length k q)))), (24, .i vs.length), (25, .i (i : Nat))]) (fun _ => True) ⟨trivial, by simp (config := { maxSteps := 2000000 }) only [go_sem, Nat.reduceBEq, Nat.reduceAdd, Nat.reduceMul, Nat.reduceMod, Nat.reduceLT, Nat.reduceDiv, Nat.reduceSub, Nat.reduceLeDiff, Int.reduceToNat, Int.reduceLT, Int.reduceLE, reduceCtorEq, List.take_nil, List.drop_nil]; simp⟩ fun i hi _ => ?_
      simp (config := { maxSteps := 2000000 }) only [go_sem, Nat.reduceBEq, Nat.reduceAdd, Nat.reduceMul, Nat.reduceMod, Nat.reduceLT, Nat.reduceDiv, Nat.reduceSub, Nat.reduceLeDiff, Int.reduceToNat, Int.reduceLT, Int.reduceLE, reduceCtorEq, List.take_nil, List.drop_nil]
      refine ⟨fun hlt3 => ?_, fun hge3 => ?_⟩
      · have hi' : i < vs.length := by omega
        have hsl := sn_len (low := 0) (b := vs.length) (k := k) (j := q)
        exact ⟨by omega, by omega, by simp, by rw [allP_len]; omega, inR_of (by omega) (by omega), hi', by rw [← Nat.add_assoc, allP_s, sn_at hi'], by simp⟩
      · have : i = vs.length := by omega
        subst this
        exact ⟨inR_of (by omega) (by omega), hq', by rw [Nat.succ_mul], by simp⟩
    · have : q = vs.length ^ k := by omega
      subst this
      exact ⟨inR_of (by omega) (by omega), hk', by rw [Nat.pow_succ], by simp⟩
  · have : k = m := by omega
    subst this
    rfl
def K_spec_CountEnvyFree : List Nat := [0, 2, 3, 5, 10, 11, 12]
def C_spec_CountEnvyFree : C :=
  let ks := K_spec_CountEnvyFree
  (.seq
    (.rg 0 [(none, .v 2 .mv [.k (.i 0)])])
    (.cl ks (.seq
      (.seq
        (.rg 0 [(none, .v 6 .mv [.s 0]), (none, .co 7 39 [.s 6]), (none, .v 8 .not [.s 7])])
        (.cond (.s 8)
          (.seq
            (.rg 0 [(none, .v 2 .mv [.k (.i (-1))])])
            .ret)
          .skip))
      (.cl ks (.seq
        (.rg 0 [(none, .v 3 .mv [.k (.i 0)])])
        (.cl ks (.seq
          (.seq
            (.rg 0 [(none, .v 9 .mv [.s 0]), (none, .co 10 40 [.s 9]), (none, .v 11 .len [.s 10]), (none, .v 12 .mv [.k (.i 0)])])
            (.cl ks (.block 0
              (.loop
                (.seq
                  (.rg 0 [(none, .v 13 (.bin .lss) [.s 12, .s 11])])
                  (.seq
                    (.cond (.s 13)
                      .skip
                      (.exit 0))
                    (.cl ks (.seq
                      (.block 1
                        (.seq
                          (.rg 0 [(none, .v 14 .idx [.s 10, .s 12]), (none, .v 15 .ld [.s 14]), (none, .tk 5 15)])
                          (.cl ks (.seq
                            (.rg 0 [(none, .v 16 .mv [.s 0]), (none, .v 17 .mv [.s 5]), (none, .co 18 41 [.s 16, .s 17])])
                            (.cond (.s 18)
                              (.rg 0 [(none, .v 19 .mv [.s 3]), (none, .v 20 (.bin .add) [.s 19, .k (.i 1)]), (none, .tk 3 20)])
                              .skip)))))
                      (.cl ks (.rg 0 [(none, .v 21 (.bin .add) [.s 12, .k (.i 1)]), (none, .v 12 .mv [.s 21])]))))))))))
          (.cl ks (.seq
            (.rg 0 [(none, .v 22 .mv [.s 3]), (none, .tk 2 22)])
            .ret)))))))))

theorem chk_spec_CountEnvyFree : ∃ b, Try.f13.body = some b ∧ chk Try.prog Try.f13.ntmps true C_spec_CountEnvyFree b = true := ⟨_, rfl, by kernel_rfl⟩
def K_spec_CountNearlyFree : List Nat := [0, 2, 3, 5, 10, 11, 12]
def C_spec_CountNearlyFree : C :=
  let ks := K_spec_CountNearlyFree
  (.seq
    (.rg 0 [(none, .v 2 .mv [.k (.i 0)])])
    (.cl ks (.seq
      (.seq
        (.rg 0 [(none, .v 6 .mv [.s 0]), (none, .co 7 39 [.s 6]), (none, .v 8 .not [.s 7])])
        (.cond (.s 8)
          (.seq
            (.rg 0 [(none, .v 2 .mv [.k (.i (-1))])])
            .ret)
          .skip))
      (.cl ks (.seq
        (.rg 0 [(none, .v 3 .mv [.k (.i 0)])])
        (.cl ks (.seq
          (.seq
            (.rg 0 [(none, .v 9 .mv [.s 0]), (none, .co 10 40 [.s 9]), (none, .v 11 .len [.s 10]), (none, .v 12 .mv [.k (.i 0)])])
            (.cl ks (.block 0
              (.loop
                (.seq
                  (.rg 0 [(none, .v 13 (.bin .lss) [.s 12, .s 11])])
                  (.seq
                    (.cond (.s 13)
                      .skip
                      (.exit 0))
                    (.cl ks (.seq
                      (.block 1
                        (.seq
                          (.rg 0 [(none, .v 14 .idx [.s 10, .s 12]), (none, .v 15 .ld [.s 14]), (none, .tk 5 15)])
                          (.cl ks (.seq
                            (.rg 0 [(none, .v 16 .mv [.s 0]), (none, .v 17 .mv [.s 5]), (none, .co 18 45 [.s 16, .s 17])])
                            (.cond (.s 18)
                              (.rg 0 [(none, .v 19 .mv [.s 3]), (none, .v 20 (.bin .add) [.s 19, .k (.i 1)]), (none, .tk 3 20)])
                              .skip)))))
                      (.cl ks (.rg 0 [(none, .v 21 (.bin .add) [.s 12, .k (.i 1)]), (none, .v 12 .mv [.s 21])]))))))))))
          (.cl ks (.seq
            (.rg 0 [(none, .v 22 .mv [.s 3]), (none, .tk 2 22)])
            .ret)))))))))

theorem chk_spec_CountNearlyFree : ∃ b, Try.f17.body = some b ∧ chk Try.prog Try.f17.ntmps true C_spec_CountNearlyFree b = true := ⟨_, rfl, by kernel_rfl⟩
theorem spec_CountEnvyFree_ok {n1 : Option Bool} (vs : List (List Int)) (hl : vs.length ≤ 1048576) (hr : ∀ r ∈ vs, r.length ≤ 1048576) : CallOk Try.prog 13 [.s n1 (rr vs)] [(0, .i (cntF vs (freeB vs)))] := by
  obtain ⟨code0, hcd1, hcd2⟩ := chk_spec_CountEnvyFree; refine callOk_of Try.func13 hcd1 mo Try.call13 (rs := [2]) (by kernel_rfl) hcd2 (by rw [Try.ntmps13]; simp) (by simp) (by decide) ?_; unfold C_spec_CountEnvyFree K_spec_CountEnvyFree; simp (config := { maxSteps := 2000000 }) only [go_sem, Nat.reduceBEq, Nat.reduceAdd, Nat.reduceMul, Nat.reduceMod, Nat.reduceLT, Nat.reduceDiv, Nat.reduceSub, Nat.reduceLeDiff, Int.reduceToNat, Int.reduceLT, Int.reduceLE, reduceCtorEq, List.take_nil, List.drop_nil]
  refine ⟨_, spec_ValuesOk_ok vs hl hr, ?_⟩; simp (config := { maxSteps := 2000000 }) only [go_sem, Nat.reduceBEq, Nat.reduceAdd, Nat.reduceMul, Nat.reduceMod, Nat.reduceLT, Nat.reduceDiv, Nat.reduceSub, Nat.reduceLeDiff, Int.reduceToNat, Int.reduceLT, Int.reduceLE, reduceCtorEq, List.take_nil, List.drop_nil]
  refine ⟨fun h0 => by simp [cntF, h0], fun h0 => ?_⟩
  have hF : cntF vs (freeB vs) = (cntN (freeB vs) vs.length (vs.getD 0 []).length (vs.length ^ (vs.getD 0 []).length) : Int) := if_pos h0
  have V := vals_of h0
  rw [hF]
  revert V
  generalize hm : (vs.getD 0 []).length = m
  intro V
  have n1' := V.n1
  have m6 := V.m6
  have hN := pow_bd n1' V.n3 m6
  refine ⟨_, spec_l23All_ok vs m V, ?_⟩; simp (config := { maxSteps := 2000000 }) only [go_sem, Nat.reduceBEq, Nat.reduceAdd, Nat.reduceMul, Nat.reduceMod, Nat.reduceLT, Nat.reduceDiv, Nat.reduceSub, Nat.reduceLeDiff, Int.reduceToNat, Int.reduceLT, Int.reduceLE, reduceCtorEq, List.take_nil, List.drop_nil]
  rw [allP_len]
  refine loopN (vs.length ^ m) (fun j => [(0, .t .arg (.s n1 (rr vs))), (3, .i (cntN (freeB vs) vs.length m j)), (10, .own 1 none (rr (allP vs.length m (vs.length ^ m)))), (11, .i (vs.length ^ m : Nat)), (12, .i (j : Nat))]) (fun _ => True) ⟨trivial, by simp (config := { maxSteps := 2000000 }) only [go_sem, Nat.reduceBEq, Nat.reduceAdd, Nat.reduceMul, Nat.reduceMod, Nat.reduceLT, Nat.reduceDiv, Nat.reduceSub, Nat.reduceLeDiff, Int.reduceToNat, Int.reduceLT, Int.reduceLE, reduceCtorEq, List.take_nil, List.drop_nil]; simp [cntN]⟩ fun j hj _ => ?_
  have hs : cntN (freeB vs) vs.length m (j + 1) = cntN (freeB vs) vs.length m j + if freeB vs (sn 0 vs.length m j) = true then 1 else 0 := rfl
  have hle := cntN_le (p := freeB vs) (b := vs.length) (m := m) (j := j)
  simp (config := { maxSteps := 2000000 }) only [go_sem, Nat.reduceBEq, Nat.reduceAdd, Nat.reduceMul, Nat.reduceMod, Nat.reduceLT, Nat.reduceDiv, Nat.reduceSub, Nat.reduceLeDiff, Int.reduceToNat, Int.reduceLT, Int.reduceLE, reduceCtorEq, List.take_nil, List.drop_nil]
  rw [allP_len]
  refine ⟨fun hlt => ?_, fun hge => ?_⟩
  · have hj' : j < vs.length ^ m := by omega
    rw [allP_get hj']
    refine ⟨by omega, by omega, by omega, ?_⟩
    refine ⟨_, spec_l23Free_ok vs (sn 0 vs.length m j) (by rw [sn_len]; exact V), ?_⟩; simp (config := { maxSteps := 2000000 }) only [go_sem, Nat.reduceBEq, Nat.reduceAdd, Nat.reduceMul, Nat.reduceMod, Nat.reduceLT, Nat.reduceDiv, Nat.reduceSub, Nat.reduceLeDiff, Int.reduceToNat, Int.reduceLT, Int.reduceLE, reduceCtorEq, List.take_nil, List.drop_nil]
    refine ⟨fun h => ?_, fun h => ?_⟩
    · rw [hs, if_pos h]; exact ⟨inR_of (by omega) (by omega), inR_of (by omega) (by omega), hj', by simp, by simp⟩
    · rw [hs, if_neg (by rw [h]; simp)]; exact ⟨inR_of (by omega) (by omega), hj', rfl, by simp⟩
  · have : j = vs.length ^ m := by omega
    subst this
    rfl
theorem spec_CountNearlyFree_ok {n1 : Option Bool} (vs : List (List Int)) (hl : vs.length ≤ 1048576) (hr : ∀ r ∈ vs, r.length ≤ 1048576) : CallOk Try.prog 17 [.s n1 (rr vs)] [(0, .i (cntF vs (nearB vs)))] := by
  obtain ⟨code0, hcd1, hcd2⟩ := chk_spec_CountNearlyFree; refine callOk_of Try.func17 hcd1 mo Try.call17 (rs := [2]) (by kernel_rfl) hcd2 (by rw [Try.ntmps17]; simp) (by simp) (by decide) ?_; unfold C_spec_CountNearlyFree K_spec_CountNearlyFree; simp (config := { maxSteps := 2000000 }) only [go_sem, Nat.reduceBEq, Nat.reduceAdd, Nat.reduceMul, Nat.reduceMod, Nat.reduceLT, Nat.reduceDiv, Nat.reduceSub, Nat.reduceLeDiff, Int.reduceToNat, Int.reduceLT, Int.reduceLE, reduceCtorEq, List.take_nil, List.drop_nil]
  refine ⟨_, spec_ValuesOk_ok vs hl hr, ?_⟩; simp (config := { maxSteps := 2000000 }) only [go_sem, Nat.reduceBEq, Nat.reduceAdd, Nat.reduceMul, Nat.reduceMod, Nat.reduceLT, Nat.reduceDiv, Nat.reduceSub, Nat.reduceLeDiff, Int.reduceToNat, Int.reduceLT, Int.reduceLE, reduceCtorEq, List.take_nil, List.drop_nil]
  refine ⟨fun h0 => by simp [cntF, h0], fun h0 => ?_⟩
  have hF : cntF vs (nearB vs) = (cntN (nearB vs) vs.length (vs.getD 0 []).length (vs.length ^ (vs.getD 0 []).length) : Int) := if_pos h0
  have V := vals_of h0
  rw [hF]
  revert V
  generalize hm : (vs.getD 0 []).length = m
  intro V
  have n1' := V.n1
  have m6 := V.m6
  have hN := pow_bd n1' V.n3 m6
  refine ⟨_, spec_l23All_ok vs m V, ?_⟩; simp (config := { maxSteps := 2000000 }) only [go_sem, Nat.reduceBEq, Nat.reduceAdd, Nat.reduceMul, Nat.reduceMod, Nat.reduceLT, Nat.reduceDiv, Nat.reduceSub, Nat.reduceLeDiff, Int.reduceToNat, Int.reduceLT, Int.reduceLE, reduceCtorEq, List.take_nil, List.drop_nil]
  rw [allP_len]
  refine loopN (vs.length ^ m) (fun j => [(0, .t .arg (.s n1 (rr vs))), (3, .i (cntN (nearB vs) vs.length m j)), (10, .own 1 none (rr (allP vs.length m (vs.length ^ m)))), (11, .i (vs.length ^ m : Nat)), (12, .i (j : Nat))]) (fun _ => True) ⟨trivial, by simp (config := { maxSteps := 2000000 }) only [go_sem, Nat.reduceBEq, Nat.reduceAdd, Nat.reduceMul, Nat.reduceMod, Nat.reduceLT, Nat.reduceDiv, Nat.reduceSub, Nat.reduceLeDiff, Int.reduceToNat, Int.reduceLT, Int.reduceLE, reduceCtorEq, List.take_nil, List.drop_nil]; simp [cntN]⟩ fun j hj _ => ?_
  have hs : cntN (nearB vs) vs.length m (j + 1) = cntN (nearB vs) vs.length m j + if nearB vs (sn 0 vs.length m j) = true then 1 else 0 := rfl
  have hle := cntN_le (p := nearB vs) (b := vs.length) (m := m) (j := j)
  simp (config := { maxSteps := 2000000 }) only [go_sem, Nat.reduceBEq, Nat.reduceAdd, Nat.reduceMul, Nat.reduceMod, Nat.reduceLT, Nat.reduceDiv, Nat.reduceSub, Nat.reduceLeDiff, Int.reduceToNat, Int.reduceLT, Int.reduceLE, reduceCtorEq, List.take_nil, List.drop_nil]
  rw [allP_len]
  refine ⟨fun hlt => ?_, fun hge => ?_⟩
  · have hj' : j < vs.length ^ m := by omega
    rw [allP_get hj']
    refine ⟨by omega, by omega, by omega, ?_⟩
    refine ⟨_, spec_l24Nearly_ok vs (sn 0 vs.length m j) (by rw [sn_len]; exact V), ?_⟩; simp (config := { maxSteps := 2000000 }) only [go_sem, Nat.reduceBEq, Nat.reduceAdd, Nat.reduceMul, Nat.reduceMod, Nat.reduceLT, Nat.reduceDiv, Nat.reduceSub, Nat.reduceLeDiff, Int.reduceToNat, Int.reduceLT, Int.reduceLE, reduceCtorEq, List.take_nil, List.drop_nil]
    refine ⟨fun h => ?_, fun h => ?_⟩
    · rw [hs, if_pos h]; exact ⟨inR_of (by omega) (by omega), inR_of (by omega) (by omega), hj', by simp, by simp⟩
    · rw [hs, if_neg (by rw [h]; simp)]; exact ⟨inR_of (by omega) (by omega), hj', rfl, by simp⟩
  · have : j = vs.length ^ m := by omega
    subst this
    rfl
def K_impl_CountEnvyFree_1 : List Nat := [0, 1, 3]
def C_impl_CountEnvyFree_1 : C :=
  let ks := K_impl_CountEnvyFree_1
  (.seq
    (.rg 0 [(none, .v 3 .mv [.k (.b false)])])
    (.cl ks (.seq
      (.rg 0 [(none, .v 4 .ld [.s 1]), (none, .v 5 .mv [.s 0]), (none, .co 6 44 [.s 4, .s 5]), (none, .tk 3 6)])
      .ret)))

theorem chk_impl_CountEnvyFree_1 : ∃ b, Try.f43.body = some b ∧ chk Try.prog Try.f43.ntmps true C_impl_CountEnvyFree_1 b = true := ⟨_, rfl, by kernel_rfl⟩
def K_impl_CountNearlyFree_1 : List Nat := [0, 1, 3]
def C_impl_CountNearlyFree_1 : C :=
  let ks := K_impl_CountNearlyFree_1
  (.seq
    (.rg 0 [(none, .v 3 .mv [.k (.b false)])])
    (.cl ks (.seq
      (.rg 0 [(none, .v 4 .ld [.s 1]), (none, .v 5 .mv [.s 0]), (none, .co 6 47 [.s 4, .s 5]), (none, .tk 3 6)])
      .ret)))

theorem chk_impl_CountNearlyFree_1 : ∃ b, Try.f46.body = some b ∧ chk Try.prog Try.f46.ntmps true C_impl_CountNearlyFree_1 b = true := ⟨_, rfl, by kernel_rfl⟩
def K_impl_CountEnvyFree : List Nat := [0, 1, 2, 1001]
def C_impl_CountEnvyFree : C :=
  let ks := K_impl_CountEnvyFree
  (.seq
    (.rg 0 [(none, .box 1 (.s 0)), (none, .v 2 .mv [.k (.i 0)])])
    (.cl ks (.seq
      (.rg 0 [(none, .v 3 .ld [.s 1]), (none, .v 4 (.clo 43) [.s 1]), (none, .co 5 42 [.s 3, .s 4]), (none, .tk 2 5)])
      .ret)))

theorem chk_impl_CountEnvyFree : ∃ b, Try.f15.body = some b ∧ chk Try.prog Try.f15.ntmps true C_impl_CountEnvyFree b = true := ⟨_, rfl, by kernel_rfl⟩
def K_impl_CountNearlyFree : List Nat := [0, 1, 2, 1001]
def C_impl_CountNearlyFree : C :=
  let ks := K_impl_CountNearlyFree
  (.seq
    (.rg 0 [(none, .box 1 (.s 0)), (none, .v 2 .mv [.k (.i 0)])])
    (.cl ks (.seq
      (.rg 0 [(none, .v 3 .ld [.s 1]), (none, .v 4 (.clo 46) [.s 1]), (none, .co 5 42 [.s 3, .s 4]), (none, .tk 2 5)])
      .ret)))

theorem chk_impl_CountNearlyFree : ∃ b, Try.f18.body = some b ∧ chk Try.prog Try.f18.ntmps true C_impl_CountNearlyFree b = true := ⟨_, rfl, by kernel_rfl⟩
theorem impl_CountEnvyFree_1_ok {n1 n2 : Option Bool} (vs : List (List Int)) (l : List Int) (V : Vals vs l.length) : CallOk Try.prog 43 [.s n2 (ii l), .q [.s n1 (rr vs)] 0] [(0, .b (freeB vs l))] := by
  obtain ⟨code0, hcd1, hcd2⟩ := chk_impl_CountEnvyFree_1; refine callOk_of Try.func43 hcd1 mo Try.call43 (rs := [3]) (by kernel_rfl) hcd2 (by rw [Try.ntmps43]; simp) (by simp) (by decide) ?_; unfold C_impl_CountEnvyFree_1 K_impl_CountEnvyFree_1; simp (config := { maxSteps := 2000000 }) only [go_sem, Nat.reduceBEq, Nat.reduceAdd, Nat.reduceMul, Nat.reduceMod, Nat.reduceLT, Nat.reduceDiv, Nat.reduceSub, Nat.reduceLeDiff, Int.reduceToNat, Int.reduceLT, Int.reduceLE, reduceCtorEq, List.take_nil, List.drop_nil]
  refine ⟨_, impl_isFree_ok vs l V, ?_⟩; simp (config := { maxSteps := 2000000 }) only [go_sem, Nat.reduceBEq, Nat.reduceAdd, Nat.reduceMul, Nat.reduceMod, Nat.reduceLT, Nat.reduceDiv, Nat.reduceSub, Nat.reduceLeDiff, Int.reduceToNat, Int.reduceLT, Int.reduceLE, reduceCtorEq, List.take_nil, List.drop_nil]
theorem impl_CountEnvyFree_ok {n1 : Option Bool} (vs : List (List Int)) (hl : vs.length ≤ 1048576) (hr : ∀ r ∈ vs, r.length ≤ 1048576) : CallOk Try.prog 15 [.s n1 (rr vs)] [(0, .i (cntF vs (freeB vs)))] := by
  obtain ⟨code0, hcd1, hcd2⟩ := chk_impl_CountEnvyFree; refine callOk_of Try.func15 hcd1 mo Try.call15 (rs := [2]) (by kernel_rfl) hcd2 (by rw [Try.ntmps15]; simp) (by simp) (by decide) ?_; unfold C_impl_CountEnvyFree K_impl_CountEnvyFree; simp (config := { maxSteps := 2000000 }) only [go_sem, Nat.reduceBEq, Nat.reduceAdd, Nat.reduceMul, Nat.reduceMod, Nat.reduceLT, Nat.reduceDiv, Nat.reduceSub, Nat.reduceLeDiff, Int.reduceToNat, Int.reduceLT, Int.reduceLE, reduceCtorEq, List.take_nil, List.drop_nil]
  refine ⟨_, countAllocations_ok vs 43 _ (freeB vs) hl hr (fun m l V e _ => impl_CountEnvyFree_1_ok vs l (by rw [e]; exact V)), ?_⟩; simp (config := { maxSteps := 2000000 }) only [go_sem, Nat.reduceBEq, Nat.reduceAdd, Nat.reduceMul, Nat.reduceMod, Nat.reduceLT, Nat.reduceDiv, Nat.reduceSub, Nat.reduceLeDiff, Int.reduceToNat, Int.reduceLT, Int.reduceLE, reduceCtorEq, List.take_nil, List.drop_nil]
theorem impl_CountNearlyFree_1_ok {n1 n2 : Option Bool} (vs : List (List Int)) (l : List Int) (V : Vals vs l.length) : CallOk Try.prog 46 [.s n2 (ii l), .q [.s n1 (rr vs)] 0] [(0, .b (nearB vs l))] := by
  obtain ⟨code0, hcd1, hcd2⟩ := chk_impl_CountNearlyFree_1; refine callOk_of Try.func46 hcd1 mo Try.call46 (rs := [3]) (by kernel_rfl) hcd2 (by rw [Try.ntmps46]; simp) (by simp) (by decide) ?_; unfold C_impl_CountNearlyFree_1 K_impl_CountNearlyFree_1; simp (config := { maxSteps := 2000000 }) only [go_sem, Nat.reduceBEq, Nat.reduceAdd, Nat.reduceMul, Nat.reduceMod, Nat.reduceLT, Nat.reduceDiv, Nat.reduceSub, Nat.reduceLeDiff, Int.reduceToNat, Int.reduceLT, Int.reduceLE, reduceCtorEq, List.take_nil, List.drop_nil]
  refine ⟨_, impl_isNearlyFree_ok vs l V, ?_⟩; simp (config := { maxSteps := 2000000 }) only [go_sem, Nat.reduceBEq, Nat.reduceAdd, Nat.reduceMul, Nat.reduceMod, Nat.reduceLT, Nat.reduceDiv, Nat.reduceSub, Nat.reduceLeDiff, Int.reduceToNat, Int.reduceLT, Int.reduceLE, reduceCtorEq, List.take_nil, List.drop_nil]
theorem impl_CountNearlyFree_ok {n1 : Option Bool} (vs : List (List Int)) (hl : vs.length ≤ 1048576) (hr : ∀ r ∈ vs, r.length ≤ 1048576) : CallOk Try.prog 18 [.s n1 (rr vs)] [(0, .i (cntF vs (nearB vs)))] := by
  obtain ⟨code0, hcd1, hcd2⟩ := chk_impl_CountNearlyFree; refine callOk_of Try.func18 hcd1 mo Try.call18 (rs := [2]) (by kernel_rfl) hcd2 (by rw [Try.ntmps18]; simp) (by simp) (by decide) ?_; unfold C_impl_CountNearlyFree K_impl_CountNearlyFree; simp (config := { maxSteps := 2000000 }) only [go_sem, Nat.reduceBEq, Nat.reduceAdd, Nat.reduceMul, Nat.reduceMod, Nat.reduceLT, Nat.reduceDiv, Nat.reduceSub, Nat.reduceLeDiff, Int.reduceToNat, Int.reduceLT, Int.reduceLE, reduceCtorEq, List.take_nil, List.drop_nil]
  refine ⟨_, countAllocations_ok vs 46 _ (nearB vs) hl hr (fun m l V e _ => impl_CountNearlyFree_1_ok vs l (by rw [e]; exact V)), ?_⟩; simp (config := { maxSteps := 2000000 }) only [go_sem, Nat.reduceBEq, Nat.reduceAdd, Nat.reduceMul, Nat.reduceMod, Nat.reduceLT, Nat.reduceDiv, Nat.reduceSub, Nat.reduceLeDiff, Int.reduceToNat, Int.reduceLT, Int.reduceLE, reduceCtorEq, List.take_nil, List.drop_nil]

end Go.Proofs.Ytkmklfdpomkalaa
