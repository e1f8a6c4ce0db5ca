/- Own work: contracts of functions that the claim reaches. No condition beyond those that each theorem names. -/
import Derived.Test.YtelblnfnfeoapaaProg
import Derived.Test.YtelblnfnfeoapaaSmall
namespace Go.Proofs.Ytelblnfnfeoapaa
open Go Go.Vc
set_option maxRecDepth 100000
set_option linter.unusedSimpArgs false
set_option linter.unusedVariables false
def K_slices_Index_Sint_int : List Nat := [0, 1, 4, 5, 7, 8]
def C_slices_Index_Sint_int : C :=
  let ks := K_slices_Index_Sint_int
  (.seq
    (.rg 0 [(none, .v 4 .mv [.k (.i 0)])])
    (.cl ks (.seq
      (.seq
        (.rg 0 [(none, .v 6 .mv [.s 0]), (none, .v 7 .len [.s 6]), (none, .v 8 .mv [.k (.i 0)])])
        (.cl ks (.block 0
          (.loop
            (.seq
              (.rg 0 [(none, .v 9 (.bin .lss) [.s 8, .s 7])])
              (.seq
                (.cond (.s 9)
                  .skip
                  (.exit 0))
                (.cl ks (.seq
                  (.block 1
                    (.seq
                      (.rg 0 [(none, .v 10 .mv [.s 8]), (none, .tk 5 10)])
                      (.cl ks (.seq
                        (.rg 0 [(none, .v 11 .mv [.s 1]), (none, .v 12 .mv [.s 0]), (none, .v 13 .mv [.s 5]), (none, .v 14 .idx [.s 12, .s 13]), (none, .v 15 .ld [.s 14]), (none, .v 16 (.bin .eql) [.s 11, .s 15])])
                        (.cond (.s 16)
                          (.seq
                            (.rg 0 [(none, .v 17 .mv [.s 5]), (none, .tk 4 17)])
                            .ret)
                          .skip)))))
                  (.cl ks (.rg 0 [(none, .v 18 (.bin .add) [.s 8, .k (.i 1)]), (none, .v 8 .mv [.s 18])]))))))))))
      (.cl ks (.seq
        (.rg 0 [(none, .v 4 .mv [.k (.i (-1))])])
        .ret)))))

theorem chk_slices_Index_Sint_int : ∃ b, Try.f69.body = some b ∧ chk Try.prog Try.f69.ntmps true C_slices_Index_Sint_int b = true := ⟨_, rfl, by kernel_rfl⟩
def K_slices_Contains_Sint_int : List Nat := [0, 1, 4]
def C_slices_Contains_Sint_int : C :=
  let ks := K_slices_Contains_Sint_int
  (.seq
    (.rg 0 [(none, .v 4 .mv [.k (.b false)])])
    (.cl ks (.seq
      (.rg 0 [(none, .v 5 .mv [.s 0]), (none, .v 6 .mv [.s 1]), (none, .co 7 69 [.s 5, .s 6]), (none, .v 8 (.bin .geq) [.s 7, .k (.i 0)]), (none, .tk 4 8)])
      .ret)))

theorem chk_slices_Contains_Sint_int : ∃ b, Try.f101.body = some b ∧ chk Try.prog Try.f101.ntmps true C_slices_Contains_Sint_int b = true := ⟨_, rfl, by kernel_rfl⟩
theorem IndexI {nl : Option Bool} (xs : List Int) (v : Int) (hl : xs.length ≤ 1048576) : CallOk Try.prog 69 [.s nl (ii xs), .i v] [(0, .i (idxP (fun x => decide (v = x)) xs))] := by
  obtain ⟨code0, hcd1, hcd2⟩ := chk_slices_Index_Sint_int; refine callOk_of Try.func69 hcd1 mo Try.call69 (rs := [4]) (by kernel_rfl) hcd2 (by rw [Try.ntmps69]; simp) (by simp) (by decide) ?_; unfold C_slices_Index_Sint_int K_slices_Index_Sint_int; simp (config := { maxSteps := 2000000 }) only [go_sem, Nat.reduceBEq, Nat.reduceAdd, Nat.reduceMul, Nat.reduceMod, Nat.reduceLT, Nat.reduceDiv, Nat.reduceSub, Nat.reduceLeDiff, Int.reduceToNat, Int.reduceLT, Int.reduceLE, reduceCtorEq, List.take_nil, List.drop_nil]
  refine loopN xs.length (fun j => [(0, .t .arg (.s nl (ii xs))), (1, .i v), (7, .i xs.length), (8, .i (j : Nat))]) (fun j => ∀ i, i < j → decide (v = xs.getD i 0) = false) ⟨by simp, by simp (config := { maxSteps := 2000000 }) only [go_sem, Nat.reduceBEq, Nat.reduceAdd, Nat.reduceMul, Nat.reduceMod, Nat.reduceLT, Nat.reduceDiv, Nat.reduceSub, Nat.reduceLeDiff, Int.reduceToNat, Int.reduceLT, Int.reduceLE, reduceCtorEq, List.take_nil, List.drop_nil]; simp⟩ fun j hj hI => ?_
  simp (config := { maxSteps := 2000000 }) only [go_sem, Nat.reduceBEq, Nat.reduceAdd, Nat.reduceMul, Nat.reduceMod, Nat.reduceLT, Nat.reduceDiv, Nat.reduceSub, Nat.reduceLeDiff, Int.reduceToNat, Int.reduceLT, Int.reduceLE, reduceCtorEq, List.take_nil, List.drop_nil]
  refine ⟨fun hlt => ?_, fun hge => ?_⟩
  · have hj' : j < xs.length := by omega
    refine ⟨by omega, by omega, by omega, fun hp => ?_, fun hp => ⟨inR_of (by omega) (by omega), hj', fun i hi => ?_, by simp⟩⟩
    · exact (idxP_hit hj' (by simpa using hp) hI).symm
    · by_cases e : i = j
      · rw [e]; simpa using hp
      · simpa using hI i (by omega)
  · have : j = xs.length := by omega
    subst this
    exact (idxP_miss hI).symm
theorem ContainsI {nl : Option Bool} (xs : List Int) (v : Int) (hl : xs.length ≤ 1048576) : CallOk Try.prog 101 [.s nl (ii xs), .i v] [(0, .b (xs.any fun x => decide (v = x)))] := by
  obtain ⟨code0, hcd1, hcd2⟩ := chk_slices_Contains_Sint_int; refine callOk_of Try.func101 hcd1 mo Try.call101 (rs := [4]) (by kernel_rfl) hcd2 (by rw [Try.ntmps101]; simp) (by simp) (by decide) ?_; unfold C_slices_Contains_Sint_int K_slices_Contains_Sint_int; simp (config := { maxSteps := 2000000 }) only [go_sem, Nat.reduceBEq, Nat.reduceAdd, Nat.reduceMul, Nat.reduceMod, Nat.reduceLT, Nat.reduceDiv, Nat.reduceSub, Nat.reduceLeDiff, Int.reduceToNat, Int.reduceLT, Int.reduceLE, reduceCtorEq, List.take_nil, List.drop_nil]
  refine ⟨_, IndexI xs v hl, ?_⟩; simp (config := { maxSteps := 2000000 }) only [go_sem, Nat.reduceBEq, Nat.reduceAdd, Nat.reduceMul, Nat.reduceMod, Nat.reduceLT, Nat.reduceDiv, Nat.reduceSub, Nat.reduceLeDiff, Int.reduceToNat, Int.reduceLT, Int.reduceLE, reduceCtorEq, List.take_nil, List.drop_nil]
  exact idxP_any
def K_spec_RankingOk : List Nat := [0, 1, 4, 5, 7, 19, 20, 21]
def C_spec_RankingOk : C :=
  let ks := K_spec_RankingOk
  (.seq
    (.rg 0 [(none, .v 4 .mv [.k (.b false)])])
    (.cl ks (.seq
      (.seq
        (.rg 0 [(none, .v 8 .mv [.s 0]), (none, .co 9 33 [.s 8, .k (.i 1), .k (.i 5)]), (none, .v 10 .not [.s 9]), (none, .v 11 .mv [.s 10]), (some (11, false), .v 12 .mv [.s 1]), (some (11, false), .v 13 .len [.s 12]), (some (11, false), .v 14 .mv [.s 0]), (some (11, false), .v 15 (.bin .neq) [.s 13, .s 14]), (none, .v 16 .pick [.s 11, .k (.b true), .s 15])])
        (.cond (.s 16)
          (.seq
            (.rg 0 [(none, .v 4 .mv [.k (.b false)])])
            .ret)
          .skip))
      (.cl ks (.seq
        (.rg 0 [(none, .v 17 .mv [.s 0]), (none, .mk 18 (.b false) (.s 17) (.s 17)), (none, .tk 5 18)])
        (.cl ks (.seq
          (.seq
            (.rg 0 [(none, .v 19 .mv [.s 1]), (none, .v 20 .len [.s 19]), (none, .v 21 .mv [.k (.i 0)])])
            (.cl ks (.block 0
              (.loop
                (.seq
                  (.rg 0 [(none, .v 22 (.bin .lss) [.s 21, .s 20])])
                  (.seq
                    (.cond (.s 22)
                      .skip
                      (.exit 0))
                    (.cl ks (.seq
                      (.block 1
                        (.seq
                          (.rg 0 [(none, .v 23 .idx [.s 19, .s 21]), (none, .v 24 .ld [.s 23]), (none, .tk 7 24)])
                          (.cl ks (.seq
                            (.seq
                              (.rg 0 [(none, .v 25 .mv [.s 7]), (none, .v 26 .mv [.s 0]), (none, .v 27 (.bin .sub) [.s 26, .k (.i 1)]), (none, .co 28 33 [.s 25, .k (.i 0), .s 27]), (none, .v 29 .not [.s 28]), (none, .v 30 .mv [.s 29]), (some (30, false), .v 31 .mv [.s 5]), (some (30, false), .v 32 .mv [.s 7]), (some (30, false), .v 33 .idx [.s 31, .s 32]), (some (30, false), .v 34 .ld [.s 33]), (none, .v 35 .pick [.s 30, .k (.b true), .s 34])])
                              (.cond (.s 35)
                                (.seq
                                  (.rg 0 [(none, .v 4 .mv [.k (.b false)])])
                                  .ret)
                                .skip))
                            (.cl ks (.rg 0 [(none, .v 36 .mv [.s 5]), (none, .v 37 .mv [.s 7]), (none, .v 38 .idx [.s 36, .s 37]), (none, .st (.s 38) (.k (.b true)))]))))))
                      (.cl ks (.rg 0 [(none, .v 39 (.bin .add) [.s 21, .k (.i 1)]), (none, .v 21 .mv [.s 39])]))))))))))
          (.cl ks (.seq
            (.rg 0 [(none, .v 4 .mv [.k (.b true)])])
            .ret)))))))))

theorem chk_spec_RankingOk : ∃ b, Try.f46.body = some b ∧ chk Try.prog Try.f46.ntmps true C_spec_RankingOk b = true := ⟨_, rfl, by kernel_rfl⟩
def K_impl_RankingOk : List Nat := [0, 1, 4, 5, 6, 16, 17, 18]
def C_impl_RankingOk : C :=
  let ks := K_impl_RankingOk
  (.seq
    (.rg 0 [(none, .v 4 .mv [.k (.b false)])])
    (.cl ks (.seq
      (.seq
        (.rg 0 [(none, .v 7 .mv [.s 0]), (none, .co 8 35 [.s 7, .k (.i 1), .k (.i 5)]), (none, .v 9 .not [.s 8]), (none, .v 10 .mv [.s 9]), (some (10, false), .v 11 .mv [.s 1]), (some (10, false), .v 12 .len [.s 11]), (some (10, false), .v 13 .mv [.s 0]), (some (10, false), .v 14 (.bin .neq) [.s 12, .s 13]), (none, .v 15 .pick [.s 10, .k (.b true), .s 14])])
        (.cond (.s 15)
          (.seq
            (.rg 0 [(none, .v 4 .mv [.k (.b false)])])
            .ret)
          .skip))
      (.cl ks (.seq
        (.seq
          (.rg 0 [(none, .v 16 .mv [.s 1]), (none, .v 17 .len [.s 16]), (none, .v 18 .mv [.k (.i 0)])])
          (.cl ks (.block 0
            (.loop
              (.seq
                (.rg 0 [(none, .v 19 (.bin .lss) [.s 18, .s 17])])
                (.seq
                  (.cond (.s 19)
                    .skip
                    (.exit 0))
                  (.cl ks (.seq
                    (.block 1
                      (.seq
                        (.rg 0 [(none, .v 20 .mv [.s 18]), (none, .v 21 .idx [.s 16, .s 18]), (none, .v 22 .ld [.s 21]), (none, .tk 5 20), (none, .tk 6 22)])
                        (.cl ks (.seq
                          (.rg 0 [(none, .v 23 .mv [.s 6]), (none, .v 24 .mv [.s 0]), (none, .v 25 (.bin .sub) [.s 24, .k (.i 1)]), (none, .co 26 35 [.s 23, .k (.i 0), .s 25]), (none, .v 27 .not [.s 26]), (none, .v 28 .mv [.s 27]), (some (28, false), .v 29 .mv [.s 1]), (some (28, false), .v 30 .mv [.s 5]), (some (28, false), .v 31 (.sub false true) [.s 29, .s 30]), (some (28, false), .v 32 .mv [.s 6]), (some (28, false), .co 33 101 [.s 31, .s 32]), (none, .v 34 .pick [.s 28, .k (.b true), .s 33])])
                          (.cond (.s 34)
                            (.seq
                              (.rg 0 [(none, .v 4 .mv [.k (.b false)])])
                              .ret)
                            .skip)))))
                    (.cl ks (.rg 0 [(none, .v 35 (.bin .add) [.s 18, .k (.i 1)]), (none, .v 18 .mv [.s 35])]))))))))))
        (.cl ks (.seq
          (.rg 0 [(none, .v 4 .mv [.k (.b true)])])
          .ret)))))))

theorem chk_impl_RankingOk : ∃ b, Try.f75.body = some b ∧ chk Try.prog Try.f75.ntmps true C_impl_RankingOk b = true := ⟨_, rfl, by kernel_rfl⟩
/-- The i-th number is in range and new. -/
def rankAt (m : Int) (l : List Int) (i : Nat) : Bool := inI (l.getD i 0) 0 (m - 1) && !((l.take i).any fun x => decide (l.getD i 0 = x))
def rankB (m : Int) (l : List Int) : Bool := inI m 1 5 && decide ((l.length : Int) = m) && (List.range l.length).all fun i => rankAt m l i
theorem impl_RankingOk_ok {nl : Option Bool} (m : Int) (l : List Int) (hl : l.length ≤ 1048576) : CallOk Try.prog 75 [.i m, .s nl (ii l)] [(0, .b (rankB m l))] := by
  obtain ⟨code0, hcd1, hcd2⟩ := chk_impl_RankingOk; refine callOk_of Try.func75 hcd1 mo Try.call75 (rs := [4]) (by kernel_rfl) hcd2 (by rw [Try.ntmps75]; simp) (by simp) (by decide) ?_; unfold C_impl_RankingOk K_impl_RankingOk; simp (config := { maxSteps := 2000000 }) only [go_sem, Nat.reduceBEq, Nat.reduceAdd, Nat.reduceMul, Nat.reduceMod, Nat.reduceLT, Nat.reduceDiv, Nat.reduceSub, Nat.reduceLeDiff, Int.reduceToNat, Int.reduceLT, Int.reduceLE, reduceCtorEq, List.take_nil, List.drop_nil]
  refine ⟨_, within_ok _ _ _, ?_⟩; simp (config := { maxSteps := 2000000 }) only [go_sem, Nat.reduceBEq, Nat.reduceAdd, Nat.reduceMul, Nat.reduceMod, Nat.reduceLT, Nat.reduceDiv, Nat.reduceSub, Nat.reduceLeDiff, Int.reduceToNat, Int.reduceLT, Int.reduceLE, reduceCtorEq, List.take_nil, List.drop_nil]
  refine ⟨fun h => ⟨fun h1 => ?_, fun h1 => ?_⟩, fun h => ?_⟩
  case refine_3 => simp [-List.getD_eq_getElem?_getD, rankB, h]
  case refine_1 => simp [-List.getD_eq_getElem?_getD, rankB, h1]
  have hm : 1 ≤ m ∧ m ≤ 5 := by simpa [inI] using h
  have key : rankB m l = (List.range l.length).all fun i => rankAt m l i := by simp only [rankB, h, h1, decide_true, Bool.true_and]
  rw [key]
  refine loopN l.length (fun j => [(0, .i m), (1, .t .arg (.s nl (ii l))), (16, .t .arg (.s nl (ii l))), (17, .i l.length), (18, .i (j : Nat))]) (fun j => ∀ i, i < j → rankAt m l i = true) ⟨by simp, by simp (config := { maxSteps := 2000000 }) only [go_sem, Nat.reduceBEq, Nat.reduceAdd, Nat.reduceMul, Nat.reduceMod, Nat.reduceLT, Nat.reduceDiv, Nat.reduceSub, Nat.reduceLeDiff, Int.reduceToNat, Int.reduceLT, Int.reduceLE, reduceCtorEq, List.take_nil, List.drop_nil]; simp [h1]⟩ fun j hj hI => ?_
  simp (config := { maxSteps := 2000000 }) only [go_sem, Nat.reduceBEq, Nat.reduceAdd, Nat.reduceMul, Nat.reduceMod, Nat.reduceLT, Nat.reduceDiv, Nat.reduceSub, Nat.reduceLeDiff, Int.reduceToNat, Int.reduceLT, Int.reduceLE, reduceCtorEq, List.take_nil, List.drop_nil]
  refine ⟨fun hlt => ?_, fun hge => ?_⟩
  case refine_2 =>
    have : j = l.length := by omega
    subst this
    exact (all_range hI).symm
  have hj' : j < l.length := by omega
  have leaf : rankAt m l j = true → inR ((j : Int) + 1) ∧ j < l.length ∧ (∀ i, i < j + 1 → rankAt m l i = true) ∧ (j : Int) + 1 = ((j + 1 : Nat) : Int) := fun hn => ⟨inR_of (by omega) (by omega), hj', fun i hi => by
    by_cases e : i = j
    · subst e; exact hn
    · exact hI i (by omega), by simp⟩
  refine ⟨by omega, by omega, by omega, inR_of (by omega) (by omega), ?_⟩
  refine ⟨_, within_ok _ _ _, ?_⟩; simp (config := { maxSteps := 2000000 }) only [go_sem, Nat.reduceBEq, Nat.reduceAdd, Nat.reduceMul, Nat.reduceMod, Nat.reduceLT, Nat.reduceDiv, Nat.reduceSub, Nat.reduceLeDiff, Int.reduceToNat, Int.reduceLT, Int.reduceLE, reduceCtorEq, List.take_nil, List.drop_nil]
  have bad : rankAt m l j = false → (false = (List.range l.length).all fun i => rankAt m l i) := fun h => (not_all_range hj' h).symm
  refine ⟨fun h2 => ⟨by unfold subOk; omega, ?_⟩, fun h2 => ?_⟩
  · refine ⟨_, ContainsI ((l.take j).drop 0) (l.getD j 0) (by rw [List.drop_zero, List.length_take]; omega), ?_⟩; simp (config := { maxSteps := 2000000 }) only [go_sem, Nat.reduceBEq, Nat.reduceAdd, Nat.reduceMul, Nat.reduceMod, Nat.reduceLT, Nat.reduceDiv, Nat.reduceSub, Nat.reduceLeDiff, Int.reduceToNat, Int.reduceLT, Int.reduceLE, reduceCtorEq, List.take_nil, List.drop_nil]
    rw [List.drop_zero]
    refine ⟨fun h3 => bad ?_, fun h3 => leaf ?_⟩
    · simp only [rankAt, h3, Bool.not_true, Bool.and_false]
    · simp only [rankAt, h2, h3, Bool.not_false, Bool.and_true]
  · exact bad (by simp only [rankAt, h2, Bool.false_and])
/-- Which numbers below n stand among the first j. -/
def seenB (l : List Int) (j n : Nat) : List Bool := (List.range n).map fun (x : Nat) => (l.take j).any fun y => decide ((x : Int) = y)
theorem seenB_len {l : List Int} {j n : Nat} : (seenB l j n).length = n := by simp [seenB]
theorem seenB_get {l : List Int} {j n x : Nat} (h : x < n) : (seenB l j n).getD x false = (l.take j).any fun y => decide ((x : Int) = y) := by
  simp [seenB, List.getD, h]
theorem seenB_set {l : List Int} {j n x : Nat} (hj : j < l.length) (hx : l.getD j 0 = x) : (seenB l j n).set x true = seenB l (j + 1) n := by
  apply List.ext_getElem?
  intro k
  rw [List.getElem?_set]
  by_cases hk : k < n
  · have e : ∀ j, (seenB l j n)[k]? = some ((l.take j).any fun y => decide ((k : Int) = y)) := fun j => by simp [seenB, hk]
    rw [e, e, take_getD 0 hj, List.any_append, hx, seenB_len]
    by_cases hxk : x = k
    · subst hxk; simp [hk]
    · have : ¬ (k : Int) = x := by omega
      simp [hxk, this]
  · have e : ∀ j, (seenB l j n)[k]? = none := fun j => by simp [seenB]; omega
    rw [e, e, seenB_len]
    by_cases hxk : x = k
    · subst hxk; simp [hk]
    · simp [hxk]
theorem spec_RankingOk_ok {nl : Option Bool} (m : Int) (l : List Int) (hl : l.length ≤ 1048576) : CallOk Try.prog 46 [.i m, .s nl (ii l)] [(0, .b (rankB m l))] := by
  obtain ⟨code0, hcd1, hcd2⟩ := chk_spec_RankingOk; refine callOk_of Try.func46 hcd1 mo Try.call46 (rs := [4]) (by kernel_rfl) hcd2 (by rw [Try.ntmps46]; simp) (by simp) (by decide) ?_; unfold C_spec_RankingOk K_spec_RankingOk; simp (config := { maxSteps := 2000000 }) only [go_sem, Nat.reduceBEq, Nat.reduceAdd, Nat.reduceMul, Nat.reduceMod, Nat.reduceLT, Nat.reduceDiv, Nat.reduceSub, Nat.reduceLeDiff, Int.reduceToNat, Int.reduceLT, Int.reduceLE, reduceCtorEq, List.take_nil, List.drop_nil]
  refine ⟨_, l01In_ok _ _ _, ?_⟩; simp (config := { maxSteps := 2000000 }) only [go_sem, Nat.reduceBEq, Nat.reduceAdd, Nat.reduceMul, Nat.reduceMod, Nat.reduceLT, Nat.reduceDiv, Nat.reduceSub, Nat.reduceLeDiff, Int.reduceToNat, Int.reduceLT, Int.reduceLE, reduceCtorEq, List.take_nil, List.drop_nil]
  refine ⟨fun h => ⟨fun h1 => ?_, fun h1 => ?_⟩, fun h => ?_⟩
  case refine_3 => simp [-List.getD_eq_getElem?_getD, rankB, h]
  case refine_1 => simp [-List.getD_eq_getElem?_getD, rankB, h1]
  have hm : 1 ≤ m ∧ m ≤ 5 := by simpa [inI] using h
  have key : rankB m l = (List.range l.length).all fun i => rankAt m l i := by simp only [rankB, h, h1, decide_true, Bool.true_and]
  rw [key]
  refine ⟨by omega, by omega, ?_⟩
  refine loopN l.length (fun j => [(0, .i m), (1, .t .arg (.s nl (ii l))), (5, .own 1 (some false) (bb (seenB l j m.toNat))), (19, .t .arg (.s nl (ii l))), (20, .i l.length), (21, .i (j : Nat))]) (fun j => ∀ i, i < j → rankAt m l i = true) ⟨by simp, by simp (config := { maxSteps := 2000000 }) only [go_sem, Nat.reduceBEq, Nat.reduceAdd, Nat.reduceMul, Nat.reduceMod, Nat.reduceLT, Nat.reduceDiv, Nat.reduceSub, Nat.reduceLeDiff, Int.reduceToNat, Int.reduceLT, Int.reduceLE, reduceCtorEq, List.take_nil, List.drop_nil]; simp [h1, seenB, List.map_const']⟩ fun j hj hI => ?_
  simp (config := { maxSteps := 2000000 }) only [go_sem, Nat.reduceBEq, Nat.reduceAdd, Nat.reduceMul, Nat.reduceMod, Nat.reduceLT, Nat.reduceDiv, Nat.reduceSub, Nat.reduceLeDiff, Int.reduceToNat, Int.reduceLT, Int.reduceLE, reduceCtorEq, List.take_nil, List.drop_nil]
  refine ⟨fun hlt => ?_, fun hge => ?_⟩
  case refine_2 =>
    have : j = l.length := by omega
    subst this
    exact (all_range hI).symm
  have hj' : j < l.length := by omega
  have leaf : rankAt m l j = true → inR ((j : Int) + 1) ∧ j < l.length ∧ (∀ i, i < j + 1 → rankAt m l i = true) ∧ (j : Int) + 1 = ((j + 1 : Nat) : Int) := fun hn => ⟨inR_of (by omega) (by omega), hj', fun i hi => by
    by_cases e : i = j
    · subst e; exact hn
    · exact hI i (by omega), by simp⟩
  have bad : rankAt m l j = false → (false = (List.range l.length).all fun i => rankAt m l i) := fun h => (not_all_range hj' h).symm
  refine ⟨by omega, by omega, by omega, inR_of (by omega) (by omega), ?_⟩
  refine ⟨_, l01In_ok _ _ _, ?_⟩; simp (config := { maxSteps := 2000000 }) only [go_sem, Nat.reduceBEq, Nat.reduceAdd, Nat.reduceMul, Nat.reduceMod, Nat.reduceLT, Nat.reduceDiv, Nat.reduceSub, Nat.reduceLeDiff, Int.reduceToNat, Int.reduceLT, Int.reduceLE, reduceCtorEq, List.take_nil, List.drop_nil]
  refine ⟨fun h2 => ?_, fun h2 => ?_⟩
  case refine_2 => exact bad (by simp only [rankAt, h2, Bool.false_and])
  have h3 := h2
  simp only [inI, Bool.and_eq_true, decide_eq_true_eq] at h3
  obtain ⟨x, hx⟩ := Int.eq_ofNat_of_zero_le h3.1
  have hxm : x < m.toNat := by omega
  rw [hx]
  simp (config := { maxSteps := 2000000 }) only [go_sem, Nat.reduceBEq, Nat.reduceAdd, Nat.reduceMul, Nat.reduceMod, Nat.reduceLT, Nat.reduceDiv, Nat.reduceSub, Nat.reduceLeDiff, Int.reduceToNat, Int.reduceLT, Int.reduceLE, reduceCtorEq, List.take_nil, List.drop_nil, seenB_len, Int.toNat_natCast]
  rw [seenB_get hxm]
  refine ⟨by omega, hxm, hxm, fun h4 => bad ?_, fun h4 => ⟨by omega, hxm, hxm, ?_⟩⟩
  · simp only [rankAt, hx, h4, Bool.not_true, Bool.and_false]
  · obtain ⟨q1, q2, q3, q4⟩ := leaf (by rw [hx] at h2; simp only [rankAt, hx, h2, h4, Bool.not_false, Bool.and_true])
    exact ⟨q1, q2, q3, seenB_set hj' hx, q4⟩
theorem rank_len {m : Int} {l : List Int} (h : rankB m l = true) : (l.length : Int) = m := by
  simp only [rankB, Bool.and_eq_true, decide_eq_true_eq] at h; exact h.1.2
theorem rank_bd {m : Int} {l : List Int} (h : rankB m l = true) {i : Nat} (hi : i < l.length) : 0 ≤ l.getD i 0 ∧ l.getD i 0 < m := by
  simp only [rankB, Bool.and_eq_true] at h
  have := all_range_iff.1 h.2 i hi
  simp only [rankAt, inI, Bool.and_eq_true, decide_eq_true_eq] at this
  omega
def K_spec_PlaceOf : List Nat := [0, 1, 4, 5, 6, 7, 8, 9]
def C_spec_PlaceOf : C :=
  let ks := K_spec_PlaceOf
  (.seq
    (.rg 0 [(none, .v 4 .mv [.k (.i 0)])])
    (.cl ks (.seq
      (.seq
        (.rg 0 [(none, .v 7 .mv [.s 0]), (none, .v 8 .len [.s 7]), (none, .v 9 .mv [.k (.i 0)])])
        (.cl ks (.block 0
          (.loop
            (.seq
              (.rg 0 [(none, .v 10 (.bin .lss) [.s 9, .s 8])])
              (.seq
                (.cond (.s 10)
                  .skip
                  (.exit 0))
                (.cl ks (.seq
                  (.block 1
                    (.seq
                      (.rg 0 [(none, .v 11 .mv [.s 9]), (none, .v 12 .idx [.s 7, .s 9]), (none, .v 13 .ld [.s 12]), (none, .tk 5 11), (none, .tk 6 13)])
                      (.cl ks (.seq
                        (.rg 0 [(none, .v 14 .mv [.s 6]), (none, .v 15 .mv [.s 1]), (none, .v 16 (.bin .eql) [.s 14, .s 15])])
                        (.cond (.s 16)
                          (.seq
                            (.rg 0 [(none, .v 17 .mv [.s 5]), (none, .tk 4 17)])
                            .ret)
                          .skip)))))
                  (.cl ks (.rg 0 [(none, .v 18 (.bin .add) [.s 9, .k (.i 1)]), (none, .v 9 .mv [.s 18])]))))))))))
      (.cl ks (.seq
        (.rg 0 [(none, .v 4 .mv [.k (.i (-1))])])
        .ret)))))

theorem chk_spec_PlaceOf : ∃ b, Try.f59.body = some b ∧ chk Try.prog Try.f59.ntmps true C_spec_PlaceOf b = true := ⟨_, rfl, by kernel_rfl⟩
def K_impl_PlaceOf : List Nat := [0, 1, 4]
def C_impl_PlaceOf : C :=
  let ks := K_impl_PlaceOf
  (.seq
    (.rg 0 [(none, .v 4 .mv [.k (.i 0)])])
    (.cl ks (.seq
      (.rg 0 [(none, .v 5 .mv [.s 0]), (none, .v 6 .mv [.s 1]), (none, .co 7 69 [.s 5, .s 6]), (none, .tk 4 7)])
      .ret)))

theorem chk_impl_PlaceOf : ∃ b, Try.f102.body = some b ∧ chk Try.prog Try.f102.ntmps true C_impl_PlaceOf b = true := ⟨_, rfl, by kernel_rfl⟩
def K_spec_Prefers : List Nat := [0, 1, 2, 6, 7, 8]
def C_spec_Prefers : C :=
  let ks := K_spec_Prefers
  (.seq
    (.rg 0 [(none, .v 6 .mv [.k (.b false)])])
    (.cl ks (.seq
      (.rg 0 [(none, .v 9 .mv [.s 0]), (none, .v 10 .mv [.s 1]), (none, .co 11 59 [.s 9, .s 10]), (none, .tk 7 11)])
      (.cl ks (.seq
        (.rg 0 [(none, .v 12 .mv [.s 0]), (none, .v 13 .mv [.s 2]), (none, .co 14 59 [.s 12, .s 13]), (none, .tk 8 14)])
        (.cl ks (.seq
          (.rg 0 [(none, .v 15 .mv [.s 7]), (none, .v 16 (.bin .geq) [.s 15, .k (.i 0)]), (none, .v 17 .mv [.s 16]), (some (17, true), .v 18 .mv [.s 8]), (some (17, true), .v 19 (.bin .geq) [.s 18, .k (.i 0)]), (none, .v 20 .pick [.s 17, .s 19, .k (.b false)]), (none, .v 21 .mv [.s 20]), (some (21, true), .v 22 .mv [.s 7]), (some (21, true), .v 23 .mv [.s 8]), (some (21, true), .v 24 (.bin .lss) [.s 22, .s 23]), (none, .v 25 .pick [.s 21, .s 24, .k (.b false)]), (none, .tk 6 25)])
          .ret)))))))

theorem chk_spec_Prefers : ∃ b, Try.f98.body = some b ∧ chk Try.prog Try.f98.ntmps true C_spec_Prefers b = true := ⟨_, rfl, by kernel_rfl⟩
def K_impl_Prefers : List Nat := [0, 1, 2, 6, 7, 8]
def C_impl_Prefers : C :=
  let ks := K_impl_Prefers
  (.seq
    (.rg 0 [(none, .v 6 .mv [.k (.b false)])])
    (.cl ks (.seq
      (.rg 0 [(none, .v 9 .mv [.s 0]), (none, .v 10 .mv [.s 1]), (none, .co 11 102 [.s 9, .s 10]), (none, .v 12 .mv [.s 0]), (none, .v 13 .mv [.s 2]), (none, .co 14 102 [.s 12, .s 13]), (none, .tk 7 11), (none, .tk 8 14)])
      (.cl ks (.seq
        (.rg 0 [(none, .v 15 .mv [.s 7]), (none, .v 16 (.bin .geq) [.s 15, .k (.i 0)]), (none, .v 17 .mv [.s 16]), (some (17, true), .v 18 .mv [.s 8]), (some (17, true), .v 19 (.bin .geq) [.s 18, .k (.i 0)]), (none, .v 20 .pick [.s 17, .s 19, .k (.b false)]), (none, .v 21 .mv [.s 20]), (some (21, true), .v 22 .mv [.s 7]), (some (21, true), .v 23 .mv [.s 8]), (some (21, true), .v 24 (.bin .lss) [.s 22, .s 23]), (none, .v 25 .pick [.s 21, .s 24, .k (.b false)]), (none, .tk 6 25)])
        .ret)))))

theorem chk_impl_Prefers : ∃ b, Try.f78.body = some b ∧ chk Try.prog Try.f78.ntmps true C_impl_Prefers b = true := ⟨_, rfl, by kernel_rfl⟩
/-- The place of a number in a list, or -1. -/
def placeI (l : List Int) (a : Int) : Int := idxP (fun x => decide (x = a)) l
theorem idxP_congr {α : Type} {p q : α → Bool} {xs : List α} (h : ∀ x ∈ xs, p x = q x) : idxP p xs = idxP q xs := by
  have : xs.findIdx? p = xs.findIdx? q := by
    induction xs with
    | nil => rfl
    | cons x xs ih =>
      rw [List.findIdx?_cons, List.findIdx?_cons, h x (by simp), ih fun y hy => h y (by simp [hy])]
  simp only [idxP, this]
theorem placeI_sym {l : List Int} {a : Int} : placeI l a = idxP (fun x => decide (a = x)) l := idxP_congr fun x _ => by
  rw [decide_eq_decide]; exact ⟨fun h => h.symm, fun h => h.symm⟩
theorem impl_PlaceOf_ok {nl : Option Bool} (l : List Int) (a : Int) (hl : l.length ≤ 1048576) : CallOk Try.prog 102 [.s nl (ii l), .i a] [(0, .i (placeI l a))] := by
  obtain ⟨code0, hcd1, hcd2⟩ := chk_impl_PlaceOf; refine callOk_of Try.func102 hcd1 mo Try.call102 (rs := [4]) (by kernel_rfl) hcd2 (by rw [Try.ntmps102]; simp) (by simp) (by decide) ?_; unfold C_impl_PlaceOf K_impl_PlaceOf; simp (config := { maxSteps := 2000000 }) only [go_sem, Nat.reduceBEq, Nat.reduceAdd, Nat.reduceMul, Nat.reduceMod, Nat.reduceLT, Nat.reduceDiv, Nat.reduceSub, Nat.reduceLeDiff, Int.reduceToNat, Int.reduceLT, Int.reduceLE, reduceCtorEq, List.take_nil, List.drop_nil]
  refine ⟨_, IndexI l a hl, ?_⟩; simp (config := { maxSteps := 2000000 }) only [go_sem, Nat.reduceBEq, Nat.reduceAdd, Nat.reduceMul, Nat.reduceMod, Nat.reduceLT, Nat.reduceDiv, Nat.reduceSub, Nat.reduceLeDiff, Int.reduceToNat, Int.reduceLT, Int.reduceLE, reduceCtorEq, List.take_nil, List.drop_nil]
  exact placeI_sym.symm
theorem spec_PlaceOf_ok {nl : Option Bool} (l : List Int) (a : Int) (hl : l.length ≤ 1048576) : CallOk Try.prog 59 [.s nl (ii l), .i a] [(0, .i (placeI l a))] := by
  obtain ⟨code0, hcd1, hcd2⟩ := chk_spec_PlaceOf; refine callOk_of Try.func59 hcd1 mo Try.call59 (rs := [4]) (by kernel_rfl) hcd2 (by rw [Try.ntmps59]; simp) (by simp) (by decide) ?_; unfold C_spec_PlaceOf K_spec_PlaceOf; simp (config := { maxSteps := 2000000 }) only [go_sem, Nat.reduceBEq, Nat.reduceAdd, Nat.reduceMul, Nat.reduceMod, Nat.reduceLT, Nat.reduceDiv, Nat.reduceSub, Nat.reduceLeDiff, Int.reduceToNat, Int.reduceLT, Int.reduceLE, reduceCtorEq, List.take_nil, List.drop_nil]
  refine loopN l.length (fun j => [(0, .t .arg (.s nl (ii l))), (1, .i a), (7, .t .arg (.s nl (ii l))), (8, .i l.length), (9, .i (j : Nat))]) (fun j => ∀ i, i < j → decide (l.getD i 0 = a) = false) ⟨by simp, by simp (config := { maxSteps := 2000000 }) only [go_sem, Nat.reduceBEq, Nat.reduceAdd, Nat.reduceMul, Nat.reduceMod, Nat.reduceLT, Nat.reduceDiv, Nat.reduceSub, Nat.reduceLeDiff, Int.reduceToNat, Int.reduceLT, Int.reduceLE, reduceCtorEq, List.take_nil, List.drop_nil]; simp⟩ fun j hj hI => ?_
  simp (config := { maxSteps := 2000000 }) only [go_sem, Nat.reduceBEq, Nat.reduceAdd, Nat.reduceMul, Nat.reduceMod, Nat.reduceLT, Nat.reduceDiv, Nat.reduceSub, Nat.reduceLeDiff, Int.reduceToNat, Int.reduceLT, Int.reduceLE, reduceCtorEq, List.take_nil, List.drop_nil]
  refine ⟨fun hlt => ?_, fun hge => ?_⟩
  · have hj' : j < l.length := by omega
    refine ⟨by omega, by omega, by omega, fun hp => ?_, fun hp => ⟨inR_of (by omega) (by omega), hj', fun i hi => ?_, by simp⟩⟩
    · exact (idxP_hit hj' (by simpa using hp) hI).symm
    · by_cases e : i = j
      · rw [e]; simpa using hp
      · simpa using hI i (by omega)
  · have : j = l.length := by omega
    subst this
    exact (idxP_miss hI).symm
def prefB (l : List Int) (a b : Int) : Bool := decide (0 ≤ placeI l a) && decide (0 ≤ placeI l b) && decide (placeI l a < placeI l b)
theorem spec_Prefers_ok {nl : Option Bool} (l : List Int) (a b : Int) (hl : l.length ≤ 1048576) : CallOk Try.prog 98 [.s nl (ii l), .i a, .i b] [(0, .b (prefB l a b))] := by
  obtain ⟨code0, hcd1, hcd2⟩ := chk_spec_Prefers; refine callOk_of Try.func98 hcd1 mo Try.call98 (rs := [6]) (by kernel_rfl) hcd2 (by rw [Try.ntmps98]; simp) (by simp) (by decide) ?_; unfold C_spec_Prefers K_spec_Prefers; simp (config := { maxSteps := 2000000 }) only [go_sem, Nat.reduceBEq, Nat.reduceAdd, Nat.reduceMul, Nat.reduceMod, Nat.reduceLT, Nat.reduceDiv, Nat.reduceSub, Nat.reduceLeDiff, Int.reduceToNat, Int.reduceLT, Int.reduceLE, reduceCtorEq, List.take_nil, List.drop_nil]
  refine ⟨_, spec_PlaceOf_ok l a hl, ?_⟩; simp (config := { maxSteps := 2000000 }) only [go_sem, Nat.reduceBEq, Nat.reduceAdd, Nat.reduceMul, Nat.reduceMod, Nat.reduceLT, Nat.reduceDiv, Nat.reduceSub, Nat.reduceLeDiff, Int.reduceToNat, Int.reduceLT, Int.reduceLE, reduceCtorEq, List.take_nil, List.drop_nil]
  refine ⟨_, spec_PlaceOf_ok l b hl, ?_⟩; simp (config := { maxSteps := 2000000 }) only [go_sem, Nat.reduceBEq, Nat.reduceAdd, Nat.reduceMul, Nat.reduceMod, Nat.reduceLT, Nat.reduceDiv, Nat.reduceSub, Nat.reduceLeDiff, Int.reduceToNat, Int.reduceLT, Int.reduceLE, reduceCtorEq, List.take_nil, List.drop_nil]
  refine ⟨fun h1 => ⟨fun h2 => ?_, fun h2 => ?_⟩, fun h1 => ?_⟩
  · simp [prefB, h1, h2]
  · simp [prefB, h2]
  · simp [prefB, h1]
theorem impl_Prefers_ok {nl : Option Bool} (l : List Int) (a b : Int) (hl : l.length ≤ 1048576) : CallOk Try.prog 78 [.s nl (ii l), .i a, .i b] [(0, .b (prefB l a b))] := by
  obtain ⟨code0, hcd1, hcd2⟩ := chk_impl_Prefers; refine callOk_of Try.func78 hcd1 mo Try.call78 (rs := [6]) (by kernel_rfl) hcd2 (by rw [Try.ntmps78]; simp) (by simp) (by decide) ?_; unfold C_impl_Prefers K_impl_Prefers; simp (config := { maxSteps := 2000000 }) only [go_sem, Nat.reduceBEq, Nat.reduceAdd, Nat.reduceMul, Nat.reduceMod, Nat.reduceLT, Nat.reduceDiv, Nat.reduceSub, Nat.reduceLeDiff, Int.reduceToNat, Int.reduceLT, Int.reduceLE, reduceCtorEq, List.take_nil, List.drop_nil]
  refine ⟨_, impl_PlaceOf_ok l a hl, ?_⟩; simp (config := { maxSteps := 2000000 }) only [go_sem, Nat.reduceBEq, Nat.reduceAdd, Nat.reduceMul, Nat.reduceMod, Nat.reduceLT, Nat.reduceDiv, Nat.reduceSub, Nat.reduceLeDiff, Int.reduceToNat, Int.reduceLT, Int.reduceLE, reduceCtorEq, List.take_nil, List.drop_nil]
  refine ⟨_, impl_PlaceOf_ok l b hl, ?_⟩; simp (config := { maxSteps := 2000000 }) only [go_sem, Nat.reduceBEq, Nat.reduceAdd, Nat.reduceMul, Nat.reduceMod, Nat.reduceLT, Nat.reduceDiv, Nat.reduceSub, Nat.reduceLeDiff, Int.reduceToNat, Int.reduceLT, Int.reduceLE, reduceCtorEq, List.take_nil, List.drop_nil]
  refine ⟨fun h1 => ⟨fun h2 => ?_, fun h2 => ?_⟩, fun h1 => ?_⟩
  · simp [prefB, h1, h2]
  · simp [prefB, h2]
  · simp [prefB, h1]

end Go.Proofs.Ytelblnfnfeoapaa
