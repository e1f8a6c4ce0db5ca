/- Own work: contracts of functions that the claim reaches. No condition beyond those that each theorem names. -/
import Derived.Test.YtkkhikpbnjbalaaProg
import Derived.Test.YtkkhikpbnjbalaaRent
import Derived.Test.YtkkhikpbnjbalaaOrders
namespace Go.Proofs.Ytkkhikpbnjbalaa
open Go Go.Vc
set_option maxRecDepth 100000
set_option linter.unusedSimpArgs false
set_option linter.unusedVariables false
def K_spec_l25Best : List Nat := [0, 2, 3, 4, 5, 7, 11, 12, 13]
def C_spec_l25Best : C :=
  let ks := K_spec_l25Best
  (.seq
    (.rg 0 [(none, .mkn 2), (none, .v 3 .mv [.k (.i 0)])])
    (.cl ks (.seq
      (.rg 0 [(none, .v 8 .litF []), (none, .tk 4 8)])
      (.cl ks (.seq
        (.rg 0 [(none, .v 5 .mv [.k (.i 0)])])
        (.cl ks (.seq
          (.seq
            (.rg 0 [(none, .v 9 .mv [.s 0]), (none, .v 10 .len [.s 9]), (none, .v 11 (.call 74) [.s 10]), (none, .v 12 .len [.s 11]), (none, .v 13 .mv [.k (.i 0)])])
            (.cl ks (.block 0
              (.loop
                (.seq
                  (.rg 0 [(none, .v 14 (.bin .lss) [.s 13, .s 12])])
                  (.seq
                    (.cond (.s 14)
                      .skip
                      (.exit 0))
                    (.cl ks (.seq
                      (.block 1
                        (.seq
                          (.rg 0 [(none, .v 15 .idx [.s 11, .s 13]), (none, .v 16 .ld [.s 15]), (none, .tk 7 16)])
                          (.cl ks (.seq
                            (.seq
                              (.rg 0 [(none, .v 17 .mv [.s 4]), (none, .v 18 .len [.s 17]), (none, .v 19 (.bin .eql) [.s 18, .k (.i 0)]), (none, .v 20 .mv [.s 19]), (some (20, false), .v 21 .mv [.s 0]), (some (20, false), .v 22 .mv [.s 7]), (some (20, false), .co 23 61 [.s 21, .s 22]), (some (20, false), .v 24 .mv [.s 0]), (some (20, false), .v 25 .mv [.s 4]), (some (20, false), .co 26 61 [.s 24, .s 25]), (some (20, false), .v 27 (.bin .gtr) [.s 23, .s 26]), (none, .v 28 .pick [.s 20, .k (.b true), .s 27])])
                              (.cond (.s 28)
                                (.seq
                                  (.rg 0 [(none, .v 29 .mv [.s 7]), (none, .tk 4 29)])
                                  (.cl ks (.rg 0 [(none, .v 5 .mv [.k (.i 0)])])))
                                .skip))
                            (.cl ks (.seq
                              (.rg 0 [(none, .v 30 .mv [.s 0]), (none, .v 31 .mv [.s 7]), (none, .co 32 61 [.s 30, .s 31]), (none, .v 33 .mv [.s 0]), (none, .v 34 .mv [.s 4]), (none, .co 35 61 [.s 33, .s 34]), (none, .v 36 (.bin .eql) [.s 32, .s 35])])
                              (.cond (.s 36)
                                (.rg 0 [(none, .v 37 .mv [.s 5]), (none, .v 38 (.bin .add) [.s 37, .k (.i 1)]), (none, .tk 5 38)])
                                .skip)))))))
                      (.cl ks (.rg 0 [(none, .v 39 (.bin .add) [.s 13, .k (.i 1)]), (none, .v 13 .mv [.s 39])]))))))))))
          (.cl ks (.seq
            (.rg 0 [(none, .v 40 .mv [.s 4]), (none, .v 41 .mv [.s 5]), (none, .tk 2 40), (none, .tk 3 41)])
            .ret)))))))))

theorem chk_spec_l25Best : ∃ b, Try.f72.body = some b ∧ chk Try.prog Try.f72.ntmps true C_spec_l25Best b = true := ⟨_, rfl, by kernel_rfl⟩
def K_impl_bestRooms : List Nat := [0, 2, 3, 4, 5, 7, 13, 14, 15]
def C_impl_bestRooms : C :=
  let ks := K_impl_bestRooms
  (.seq
    (.rg 0 [(none, .mkn 2), (none, .v 3 .mv [.k (.i 0)])])
    (.cl ks (.seq
      (.seq
        (.rg 0 [(none, .v 8 .mv [.s 0]), (none, .co 9 19 [.s 8]), (none, .v 10 .not [.s 9])])
        (.cond (.s 10)
          (.seq
            (.rg 0 [(none, .mkn 2), (none, .v 3 .mv [.k (.i 0)])])
            .ret)
          .skip))
      (.cl ks (.seq
        (.rg 0 [(none, .v 4 .mv [.k (.s (some true) [])])])
        (.cl ks (.seq
          (.rg 0 [(none, .v 5 .mv [.k (.i 0)])])
          (.cl ks (.seq
            (.seq
              (.rg 0 [(none, .v 11 .mv [.s 0]), (none, .v 12 .len [.s 11]), (none, .v 13 (.call 53) [.s 12]), (none, .v 14 .len [.s 13]), (none, .v 15 .mv [.k (.i 0)])])
              (.cl ks (.block 0
                (.loop
                  (.seq
                    (.rg 0 [(none, .v 16 (.bin .lss) [.s 15, .s 14])])
                    (.seq
                      (.cond (.s 16)
                        .skip
                        (.exit 0))
                      (.cl ks (.seq
                        (.block 1
                          (.seq
                            (.rg 0 [(none, .v 17 .idx [.s 13, .s 15]), (none, .v 18 .ld [.s 17]), (none, .tk 7 18)])
                            (.cl ks (.block 2
                              (.seq
                                (.rg 0 [(none, .v 20 .mv [.s 4]), (none, .v 21 .nil [.s 20]), (none, .v 22 .mv [.s 21]), (some (22, false), .v 23 .mv [.s 0]), (some (22, false), .v 24 .mv [.s 7]), (some (22, false), .co 25 63 [.s 23, .s 24]), (some (22, false), .v 26 .mv [.s 0]), (some (22, false), .v 27 .mv [.s 4]), (some (22, false), .co 28 63 [.s 26, .s 27]), (some (22, false), .v 29 (.bin .gtr) [.s 25, .s 28]), (none, .v 30 .pick [.s 22, .k (.b true), .s 29]), (none, .tk 19 30)])
                                (.cond (.s 19)
                                  (.rg 0 [(none, .v 31 .mv [.s 7]), (none, .v 4 .mv [.s 31]), (none, .v 5 .mv [.k (.i 1)])])
                                  (.seq
                                    (.rg 0 [(none, .v 33 .mv [.s 0]), (none, .v 34 .mv [.s 7]), (none, .co 35 63 [.s 33, .s 34]), (none, .v 36 .mv [.s 0]), (none, .v 37 .mv [.s 4]), (none, .co 38 63 [.s 36, .s 37]), (none, .v 39 (.bin .eql) [.s 35, .s 38]), (none, .tk 32 39)])
                                    (.cond (.s 32)
                                      (.rg 0 [(none, .v 40 .mv [.s 5]), (none, .v 41 (.bin .add) [.s 40, .k (.i 1)]), (none, .tk 5 41)])
                                      .skip))))))))
                        (.cl ks (.rg 0 [(none, .v 42 (.bin .add) [.s 15, .k (.i 1)]), (none, .v 15 .mv [.s 42])]))))))))))
            (.cl ks (.seq
              (.rg 0 [(none, .v 43 .mv [.s 4]), (none, .v 44 .mv [.s 5]), (none, .tk 2 43), (none, .tk 3 44)])
              .ret)))))))))))

theorem chk_impl_bestRooms : ∃ b, Try.f73.body = some b ∧ chk Try.prog Try.f73.ntmps true C_impl_bestRooms b = true := ⟨_, rfl, by kernel_rfl⟩
def K_spec_CountBestRooms : List Nat := [0, 2, 4]
def C_spec_CountBestRooms : C :=
  let ks := K_spec_CountBestRooms
  (.seq
    (.rg 0 [(none, .v 2 .mv [.k (.i 0)])])
    (.cl ks (.seq
      (.seq
        (.rg 0 [(none, .v 5 .mv [.s 0]), (none, .co 6 17 [.s 5]), (none, .v 7 .not [.s 6])])
        (.cond (.s 7)
          (.seq
            (.rg 0 [(none, .v 2 .mv [.k (.i (-1))])])
            .ret)
          .skip))
      (.cl ks (.seq
        (.rg 0 [(none, .v 9 .mv [.s 0]), (none, .co 10 72 [.s 9]), (none, .tk 8 10), (none, .tk 11 100008), (none, .tk 12 101008), (none, .tk 3 11), (none, .tk 4 12)])
        (.cl ks (.seq
          (.rg 0 [(none, .v 13 .mv [.s 4]), (none, .tk 2 13)])
          .ret)))))))

theorem chk_spec_CountBestRooms : ∃ b, Try.f36.body = some b ∧ chk Try.prog Try.f36.ntmps true C_spec_CountBestRooms b = true := ⟨_, rfl, by kernel_rfl⟩
def K_impl_CountBestRooms : List Nat := [0, 2, 4]
def C_impl_CountBestRooms : C :=
  let ks := K_impl_CountBestRooms
  (.seq
    (.rg 0 [(none, .v 2 .mv [.k (.i 0)])])
    (.cl ks (.seq
      (.seq
        (.rg 0 [(none, .v 5 .mv [.s 0]), (none, .co 6 19 [.s 5]), (none, .v 7 .not [.s 6])])
        (.cond (.s 7)
          (.seq
            (.rg 0 [(none, .v 2 .mv [.k (.i (-1))])])
            .ret)
          .skip))
      (.cl ks (.seq
        (.rg 0 [(none, .v 9 .mv [.s 0]), (none, .co 10 73 [.s 9]), (none, .tk 8 10), (none, .tk 11 100008), (none, .tk 12 101008), (none, .tk 3 11), (none, .tk 4 12)])
        (.cl ks (.seq
          (.rg 0 [(none, .v 13 .mv [.s 4]), (none, .tk 2 13)])
          .ret)))))))

theorem chk_impl_CountBestRooms : ∃ b, Try.f37.body = some b ∧ chk Try.prog Try.f37.ntmps true C_impl_CountBestRooms b = true := ⟨_, rfl, by kernel_rfl⟩
/-- The first of the best among the first j, and how many there are. -/
def bestF (vs : List (List Int)) (n : Nat) : Nat → List Int × Int
  | 0 => ([], 0)
  | j + 1 => if j = 0 ∨ roomV vs (bestF vs n j).1 n < roomV vs ((allRank n).getD j []) n then ((allRank n).getD j [], 1)
    else if roomV vs ((allRank n).getD j []) n = roomV vs (bestF vs n j).1 n then ((bestF vs n j).1, (bestF vs n j).2 + 1) else bestF vs n j
theorem bestF_rank {vs : List (List Int)} {n : Nat} : ∀ {j : Nat}, 0 < j → j ≤ (allRank n).length → rankB n (bestF vs n j).1 = true
  | 0, h, _ => by omega
  | j + 1, _, hj => by
    simp only [bestF]
    split
    · exact allRank_rank (getD_mem (by omega))
    · rename_i h
      have := bestF_rank (vs := vs) (n := n) (j := j) (by omega) (by omega)
      split <;> exact this
theorem bestF_bd {vs : List (List Int)} {n : Nat} : ∀ {j : Nat}, 0 ≤ (bestF vs n j).2 ∧ (bestF vs n j).2 ≤ j
  | 0 => by simp [bestF]
  | j + 1 => by
    have := bestF_bd (vs := vs) (n := n) (j := j)
    simp only [bestF]
    split
    · simp only; omega
    · split
      · simp only; omega
      · omega
theorem bestF_1 {vs : List (List Int)} {n j : Nat} (h : j = 0 ∨ roomV vs (bestF vs n j).1 n < roomV vs ((allRank n).getD j []) n) : bestF vs n (j + 1) = ((allRank n).getD j [], 1) := by
  simp only [bestF]; rw [if_pos h]
theorem bestF_2 {vs : List (List Int)} {n j : Nat} (h0 : ¬ j = 0) (h : ¬ roomV vs (bestF vs n j).1 n < roomV vs ((allRank n).getD j []) n) (h2 : roomV vs ((allRank n).getD j []) n = roomV vs (bestF vs n j).1 n) :
    bestF vs n (j + 1) = ((bestF vs n j).1, (bestF vs n j).2 + 1) := by
  simp only [bestF]; rw [if_neg (by rintro (e | e); exact h0 e; exact h e), if_pos h2]
theorem bestF_3 {vs : List (List Int)} {n j : Nat} (h0 : ¬ j = 0) (h : ¬ roomV vs (bestF vs n j).1 n < roomV vs ((allRank n).getD j []) n) (h2 : ¬ roomV vs ((allRank n).getD j []) n = roomV vs (bestF vs n j).1 n) :
    bestF vs n (j + 1) = ((bestF vs n j).1, (bestF vs n j).2) := by
  simp only [bestF]; rw [if_neg (by rintro (e | e); exact h0 e; exact h e), if_neg h2]
theorem spec_l25Best_ok {n1 : Option Bool} (vs : List (List Int)) (n : Nat) (R : Rent vs n) : CallOk Try.prog 72 [.s n1 (rr vs)] [(0, .tp 2), (100000, .t .fr (.s none (ii (bestF vs n (allRank n).length).1))), (101000, .i (bestF vs n (allRank n).length).2)] := by
  have hvl := R.len
  obtain ⟨code0, hcd1, hcd2⟩ := chk_spec_l25Best; refine callOk_of Try.func72 hcd1 mo Try.call72 (rs := [2, 3]) (by kernel_rfl) hcd2 (by rw [Try.ntmps72]; simp) (by simp) (by decide) ?_; unfold C_spec_l25Best K_spec_l25Best; simp (config := { maxSteps := 2000000 }) only [go_sem, Nat.reduceBEq, Nat.reduceAdd, Nat.reduceMul, Nat.reduceMod, Nat.reduceLT, Nat.reduceDiv, Nat.reduceSub, Nat.reduceLeDiff, Int.reduceToNat, Int.reduceLT, Int.reduceLE, reduceCtorEq, List.take_nil, List.drop_nil]
  rw [hvl]
  refine ⟨_, spec_AllRankings_ok n, ?_⟩; simp (config := { maxSteps := 2000000 }) only [go_sem, Nat.reduceBEq, Nat.reduceAdd, Nat.reduceMul, Nat.reduceMod, Nat.reduceLT, Nat.reduceDiv, Nat.reduceSub, Nat.reduceLeDiff, Int.reduceToNat, Int.reduceLT, Int.reduceLE, reduceCtorEq, List.take_nil, List.drop_nil]
  have hR : ∀ r ∈ allRank (n : Int), rankB n r = true := fun r hr => allRank_rank hr
  have hAl := allRank_len (m := (n : Int))
  refine loopN (allRank n).length (fun j => [(0, .t .arg (.s n1 (rr vs))), (4, .t .fr (.s none (ii (bestF vs n j).1))), (5, .i (bestF vs n j).2), (11, .t .fr (.s none (rr (allRank n)))), (12, .i (allRank n).length), (13, .i (j : Nat))]) (fun _ => True) ⟨trivial, by simp (config := { maxSteps := 2000000 }) only [go_sem, Nat.reduceBEq, Nat.reduceAdd, Nat.reduceMul, Nat.reduceMod, Nat.reduceLT, Nat.reduceDiv, Nat.reduceSub, Nat.reduceLeDiff, Int.reduceToNat, Int.reduceLT, Int.reduceLE, reduceCtorEq, List.take_nil, List.drop_nil]; simp [bestF, ii, T.leL]⟩ fun j hj _ => ?_
  simp (config := { maxSteps := 2000000 }) only [go_sem, Nat.reduceBEq, Nat.reduceAdd, Nat.reduceMul, Nat.reduceMod, Nat.reduceLT, Nat.reduceDiv, Nat.reduceSub, Nat.reduceLeDiff, Int.reduceToNat, Int.reduceLT, Int.reduceLE, reduceCtorEq, List.take_nil, List.drop_nil]
  refine ⟨fun hlt => ?_, fun hge => ?_⟩
  · have hj' : j < (allRank n).length := by omega
    have hr := hR _ (getD_mem (d := []) hj')
    have hbd := bestF_bd (vs := vs) (n := n) (j := j)
    have hj0 : (bestF vs n j).1.length = 0 ↔ j = 0 := by
      constructor
      · intro h
        by_cases e : j = 0
        · exact e
        · have := rank_len (bestF_rank (vs := vs) (n := n) (j := j) (by omega) hj)
          have := R.n1
          omega
      · rintro rfl; simp [bestF]
    have hb0 : ¬ j = 0 → rankB n (bestF vs n j).1 = true := fun h => bestF_rank (by omega) hj
    have fin : ∀ {b : List Int} {k : Int}, bestF vs n (j + 1) = (b, k) → 0 ≤ k ∧ k ≤ j + 1 → inR ((j : Int) + 1) ∧ j < (allRank n).length ∧ b = (bestF vs n (j + 1)).1 ∧ k = (bestF vs n (j + 1)).2 ∧ (j : Int) + 1 = ((j + 1 : Nat) : Int) := fun e hk => ⟨inR_of (by omega) (by omega), hj', by rw [e], by rw [e], by simp⟩
    refine ⟨by omega, hj', hj', fun h0 => ?_, fun h0 => ?_⟩
    · have hj1 : ¬ j = 0 := fun e => h0 (by have := hj0.2 e; omega)
      have hrb := hb0 hj1
      refine ⟨_, spec_l25Value_ok vs ((allRank n).getD j []) n R hr, ?_⟩; simp (config := { maxSteps := 2000000 }) only [go_sem, Nat.reduceBEq, Nat.reduceAdd, Nat.reduceMul, Nat.reduceMod, Nat.reduceLT, Nat.reduceDiv, Nat.reduceSub, Nat.reduceLeDiff, Int.reduceToNat, Int.reduceLT, Int.reduceLE, reduceCtorEq, List.take_nil, List.drop_nil]
      refine ⟨_, spec_l25Value_ok vs (bestF vs n j).1 n R hrb, ?_⟩; simp (config := { maxSteps := 2000000 }) only [go_sem, Nat.reduceBEq, Nat.reduceAdd, Nat.reduceMul, Nat.reduceMod, Nat.reduceLT, Nat.reduceDiv, Nat.reduceSub, Nat.reduceLeDiff, Int.reduceToNat, Int.reduceLT, Int.reduceLE, reduceCtorEq, List.take_nil, List.drop_nil]
      refine ⟨fun h1 => ?_, fun h1 => ?_⟩
      · refine ⟨_, spec_l25Value_ok vs ((allRank n).getD j []) n R hr, ?_⟩; simp (config := { maxSteps := 2000000 }) only [go_sem, Nat.reduceBEq, Nat.reduceAdd, Nat.reduceMul, Nat.reduceMod, Nat.reduceLT, Nat.reduceDiv, Nat.reduceSub, Nat.reduceLeDiff, Int.reduceToNat, Int.reduceLT, Int.reduceLE, reduceCtorEq, List.take_nil, List.drop_nil]
        refine ⟨_, spec_l25Value_ok vs ((allRank n).getD j []) n R hr, ?_⟩; simp (config := { maxSteps := 2000000 }) only [go_sem, Nat.reduceBEq, Nat.reduceAdd, Nat.reduceMul, Nat.reduceMod, Nat.reduceLT, Nat.reduceDiv, Nat.reduceSub, Nat.reduceLeDiff, Int.reduceToNat, Int.reduceLT, Int.reduceLE, reduceCtorEq, List.take_nil, List.drop_nil]
        exact ⟨by unfold inR; omega, fin (bestF_1 (.inr h1)) (by omega)⟩
      · refine ⟨_, spec_l25Value_ok vs ((allRank n).getD j []) n R hr, ?_⟩; simp (config := { maxSteps := 2000000 }) only [go_sem, Nat.reduceBEq, Nat.reduceAdd, Nat.reduceMul, Nat.reduceMod, Nat.reduceLT, Nat.reduceDiv, Nat.reduceSub, Nat.reduceLeDiff, Int.reduceToNat, Int.reduceLT, Int.reduceLE, reduceCtorEq, List.take_nil, List.drop_nil]
        refine ⟨_, spec_l25Value_ok vs (bestF vs n j).1 n R hrb, ?_⟩; simp (config := { maxSteps := 2000000 }) only [go_sem, Nat.reduceBEq, Nat.reduceAdd, Nat.reduceMul, Nat.reduceMod, Nat.reduceLT, Nat.reduceDiv, Nat.reduceSub, Nat.reduceLeDiff, Int.reduceToNat, Int.reduceLT, Int.reduceLE, reduceCtorEq, List.take_nil, List.drop_nil]
        exact ⟨fun h2 => ⟨inR_of (by omega) (by omega), fin (bestF_2 hj1 h1 h2) (by omega)⟩, fun h2 => fin (bestF_3 hj1 h1 h2) (by omega)⟩
    · refine ⟨_, spec_l25Value_ok vs ((allRank n).getD j []) n R hr, ?_⟩; simp (config := { maxSteps := 2000000 }) only [go_sem, Nat.reduceBEq, Nat.reduceAdd, Nat.reduceMul, Nat.reduceMod, Nat.reduceLT, Nat.reduceDiv, Nat.reduceSub, Nat.reduceLeDiff, Int.reduceToNat, Int.reduceLT, Int.reduceLE, reduceCtorEq, List.take_nil, List.drop_nil]
      refine ⟨_, spec_l25Value_ok vs ((allRank n).getD j []) n R hr, ?_⟩; simp (config := { maxSteps := 2000000 }) only [go_sem, Nat.reduceBEq, Nat.reduceAdd, Nat.reduceMul, Nat.reduceMod, Nat.reduceLT, Nat.reduceDiv, Nat.reduceSub, Nat.reduceLeDiff, Int.reduceToNat, Int.reduceLT, Int.reduceLE, reduceCtorEq, List.take_nil, List.drop_nil]
      exact ⟨by unfold inR; omega, fin (bestF_1 (.inl (hj0.1 (by omega)))) (by omega)⟩
  · have : j = (allRank n).length := by omega
    subst this
    exact ⟨by simp, rfl, rfl⟩
theorem impl_bestRooms_ok {n1 : Option Bool} (vs : List (List Int)) (n : Nat) (R : Rent vs n) (hv : rentB vs = true) : CallOk Try.prog 73 [.s n1 (rr vs)] [(0, .tp 2), (100000, .t .fr (.s none (ii (bestF vs n (allRank n).length).1))), (101000, .i (bestF vs n (allRank n).length).2)] := by
  have hvl := R.len
  have hn4 := R.n4
  have hr4 : ∀ r ∈ vs, r.length ≤ 1048576 := fun r hr => by
    obtain ⟨i, hi, e⟩ := mem_getD [] hr
    rw [← e, R.row i (by omega)]; omega
  obtain ⟨code0, hcd1, hcd2⟩ := chk_impl_bestRooms; refine callOk_of Try.func73 hcd1 mo Try.call73 (rs := [2, 3]) (by kernel_rfl) hcd2 (by rw [Try.ntmps73]; simp) (by simp) (by decide) ?_; unfold C_impl_bestRooms K_impl_bestRooms; simp (config := { maxSteps := 2000000 }) only [go_sem, Nat.reduceBEq, Nat.reduceAdd, Nat.reduceMul, Nat.reduceMod, Nat.reduceLT, Nat.reduceDiv, Nat.reduceSub, Nat.reduceLeDiff, Int.reduceToNat, Int.reduceLT, Int.reduceLE, reduceCtorEq, List.take_nil, List.drop_nil]
  refine ⟨_, impl_RentOk_ok vs (by omega) hr4, ?_⟩; simp (config := { maxSteps := 2000000 }) only [go_sem, Nat.reduceBEq, Nat.reduceAdd, Nat.reduceMul, Nat.reduceMod, Nat.reduceLT, Nat.reduceDiv, Nat.reduceSub, Nat.reduceLeDiff, Int.reduceToNat, Int.reduceLT, Int.reduceLE, reduceCtorEq, List.take_nil, List.drop_nil]
  rw [hv, hvl]
  refine ⟨fun h => by simp at h, fun _ => ?_⟩
  refine ⟨_, impl_AllRankings_ok n, ?_⟩; simp (config := { maxSteps := 2000000 }) only [go_sem, Nat.reduceBEq, Nat.reduceAdd, Nat.reduceMul, Nat.reduceMod, Nat.reduceLT, Nat.reduceDiv, Nat.reduceSub, Nat.reduceLeDiff, Int.reduceToNat, Int.reduceLT, Int.reduceLE, reduceCtorEq, List.take_nil, List.drop_nil]
  have hR : ∀ r ∈ allRank (n : Int), rankB n r = true := fun r hr => allRank_rank hr
  have hAl := allRank_len (m := (n : Int))
  refine loopN (allRank n).length (fun j => [(0, .t .arg (.s n1 (rr vs))), (4, .t .fr (.s (if j = 0 then some true else none) (ii (bestF vs n j).1))), (5, .i (bestF vs n j).2), (13, .t .fr (.s none (rr (allRank n)))), (14, .i (allRank n).length), (15, .i (j : Nat))]) (fun _ => True) ⟨trivial, by simp (config := { maxSteps := 2000000 }) only [go_sem, Nat.reduceBEq, Nat.reduceAdd, Nat.reduceMul, Nat.reduceMod, Nat.reduceLT, Nat.reduceDiv, Nat.reduceSub, Nat.reduceLeDiff, Int.reduceToNat, Int.reduceLT, Int.reduceLE, reduceCtorEq, List.take_nil, List.drop_nil]; simp [bestF, ii, T.leL]⟩ fun j hj _ => ?_
  have fin : ∀ {b : List Int} {k : Int} {q : Option Bool}, j < (allRank n).length → bestF vs n (j + 1) = (b, k) → 0 ≤ k ∧ k ≤ j + 1 → inR ((j : Int) + 1) ∧ j < (allRank n).length ∧ (((if (j + 1 : Nat) = 0 then some true else none) = none ∨ q = (if (j + 1 : Nat) = 0 then some true else none)) ∧ b = (bestF vs n (j + 1)).1) ∧ k = (bestF vs n (j + 1)).2 ∧ (j : Int) + 1 = ((j + 1 : Nat) : Int) := fun h e hk => ⟨inR_of (by omega) (by omega), h, ⟨.inl (if_neg (by omega)), by rw [e]⟩, by rw [e], by simp⟩
  by_cases hj' : j < (allRank n).length
  · have hr := hR _ (getD_mem (d := []) hj')
    have hbd := bestF_bd (vs := vs) (n := n) (j := j)
    have hb0 : ¬ j = 0 → rankB n (bestF vs n j).1 = true := fun h => bestF_rank (by omega) hj
    by_cases hj0 : j = 0
    · subst hj0
      simp (config := { maxSteps := 2000000 }) only [go_sem, Nat.reduceBEq, Nat.reduceAdd, Nat.reduceMul, Nat.reduceMod, Nat.reduceLT, Nat.reduceDiv, Nat.reduceSub, Nat.reduceLeDiff, Int.reduceToNat, Int.reduceLT, Int.reduceLE, reduceCtorEq, List.take_nil, List.drop_nil, if_pos]
      refine ⟨fun _ => ⟨by omega, hj', hj', ?_⟩, fun h => by omega⟩
      have := fin (q := none) hj' (bestF_1 (.inl rfl)) (by omega)
      simpa using this
    · have hrb := hb0 hj0
      rw [if_neg hj0]
      simp (config := { maxSteps := 2000000 }) only [go_sem, Nat.reduceBEq, Nat.reduceAdd, Nat.reduceMul, Nat.reduceMod, Nat.reduceLT, Nat.reduceDiv, Nat.reduceSub, Nat.reduceLeDiff, Int.reduceToNat, Int.reduceLT, Int.reduceLE, reduceCtorEq, List.take_nil, List.drop_nil]
      refine ⟨fun _ => ⟨by omega, hj', hj', ?_, ?_⟩, fun h => by omega⟩
      · intro e
        have h1 := rank_len hrb
        have h2 := ii_len (xs := (bestF vs n j).1)
        rw [e] at h2
        have := R.n1
        simp at h2; omega
      · refine ⟨_, impl_roomValue_ok vs ((allRank n).getD j []) n R hr, ?_⟩; simp (config := { maxSteps := 2000000 }) only [go_sem, Nat.reduceBEq, Nat.reduceAdd, Nat.reduceMul, Nat.reduceMod, Nat.reduceLT, Nat.reduceDiv, Nat.reduceSub, Nat.reduceLeDiff, Int.reduceToNat, Int.reduceLT, Int.reduceLE, reduceCtorEq, List.take_nil, List.drop_nil]
        refine ⟨_, impl_roomValue_ok vs (bestF vs n j).1 n R hrb, ?_⟩; simp (config := { maxSteps := 2000000 }) only [go_sem, Nat.reduceBEq, Nat.reduceAdd, Nat.reduceMul, Nat.reduceMod, Nat.reduceLT, Nat.reduceDiv, Nat.reduceSub, Nat.reduceLeDiff, Int.reduceToNat, Int.reduceLT, Int.reduceLE, reduceCtorEq, List.take_nil, List.drop_nil]
        refine ⟨fun h1 => ?_, fun h1 => ?_⟩
        · have := fin (q := none) hj' (bestF_1 (.inr h1)) (by omega)
          simpa using this
        · refine ⟨_, impl_roomValue_ok vs ((allRank n).getD j []) n R hr, ?_⟩; simp (config := { maxSteps := 2000000 }) only [go_sem, Nat.reduceBEq, Nat.reduceAdd, Nat.reduceMul, Nat.reduceMod, Nat.reduceLT, Nat.reduceDiv, Nat.reduceSub, Nat.reduceLeDiff, Int.reduceToNat, Int.reduceLT, Int.reduceLE, reduceCtorEq, List.take_nil, List.drop_nil]
          refine ⟨_, impl_roomValue_ok vs (bestF vs n j).1 n R hrb, ?_⟩; simp (config := { maxSteps := 2000000 }) only [go_sem, Nat.reduceBEq, Nat.reduceAdd, Nat.reduceMul, Nat.reduceMod, Nat.reduceLT, Nat.reduceDiv, Nat.reduceSub, Nat.reduceLeDiff, Int.reduceToNat, Int.reduceLT, Int.reduceLE, reduceCtorEq, List.take_nil, List.drop_nil]
          refine ⟨fun h2 => ⟨inR_of (by omega) (by omega), ?_⟩, fun h2 => ?_⟩
          · have := fin (q := none) hj' (bestF_2 hj0 h1 h2) (by omega)
            simpa using this
          · have := fin (q := none) hj' (bestF_3 hj0 h1 h2) (by omega)
            simpa using this
  · have : j = (allRank n).length := by omega
    subst this
    simp (config := { maxSteps := 2000000 }) only [go_sem, Nat.reduceBEq, Nat.reduceAdd, Nat.reduceMul, Nat.reduceMod, Nat.reduceLT, Nat.reduceDiv, Nat.reduceSub, Nat.reduceLeDiff, Int.reduceToNat, Int.reduceLT, Int.reduceLE, reduceCtorEq, List.take_nil, List.drop_nil]
    simp
def cbR (vs : List (List Int)) : Int := if rentB vs = true then (bestF vs vs.length (allRank vs.length).length).2 else -1
theorem spec_CountBestRooms_ok {n1 : Option Bool} (vs : List (List Int)) (hl : vs.length ≤ 1048576) (hr : ∀ r ∈ vs, r.length ≤ 1048576) : CallOk Try.prog 36 [.s n1 (rr vs)] [(0, .i (cbR vs))] := by
  obtain ⟨code0, hcd1, hcd2⟩ := chk_spec_CountBestRooms; refine callOk_of Try.func36 hcd1 mo Try.call36 (rs := [2]) (by kernel_rfl) hcd2 (by rw [Try.ntmps36]; simp) (by simp) (by decide) ?_; unfold C_spec_CountBestRooms K_spec_CountBestRooms; simp (config := { maxSteps := 2000000 }) only [go_sem, Nat.reduceBEq, Nat.reduceAdd, Nat.reduceMul, Nat.reduceMod, Nat.reduceLT, Nat.reduceDiv, Nat.reduceSub, Nat.reduceLeDiff, Int.reduceToNat, Int.reduceLT, Int.reduceLE, reduceCtorEq, List.take_nil, List.drop_nil]
  refine ⟨_, spec_RentOk_ok vs hl hr, ?_⟩; simp (config := { maxSteps := 2000000 }) only [go_sem, Nat.reduceBEq, Nat.reduceAdd, Nat.reduceMul, Nat.reduceMod, Nat.reduceLT, Nat.reduceDiv, Nat.reduceSub, Nat.reduceLeDiff, Int.reduceToNat, Int.reduceLT, Int.reduceLE, reduceCtorEq, List.take_nil, List.drop_nil]
  refine ⟨fun h => by simp [cbR, h], fun h => ?_⟩
  refine ⟨_, spec_l25Best_ok vs vs.length (rent_of h), ?_⟩; simp (config := { maxSteps := 2000000 }) only [go_sem, Nat.reduceBEq, Nat.reduceAdd, Nat.reduceMul, Nat.reduceMod, Nat.reduceLT, Nat.reduceDiv, Nat.reduceSub, Nat.reduceLeDiff, Int.reduceToNat, Int.reduceLT, Int.reduceLE, reduceCtorEq, List.take_nil, List.drop_nil]
  simp [cbR, h]
theorem impl_CountBestRooms_ok {n1 : Option Bool} (vs : List (List Int)) (hl : vs.length ≤ 1048576) (hr : ∀ r ∈ vs, r.length ≤ 1048576) : CallOk Try.prog 37 [.s n1 (rr vs)] [(0, .i (cbR vs))] := by
  obtain ⟨code0, hcd1, hcd2⟩ := chk_impl_CountBestRooms; refine callOk_of Try.func37 hcd1 mo Try.call37 (rs := [2]) (by kernel_rfl) hcd2 (by rw [Try.ntmps37]; simp) (by simp) (by decide) ?_; unfold C_impl_CountBestRooms K_impl_CountBestRooms; simp (config := { maxSteps := 2000000 }) only [go_sem, Nat.reduceBEq, Nat.reduceAdd, Nat.reduceMul, Nat.reduceMod, Nat.reduceLT, Nat.reduceDiv, Nat.reduceSub, Nat.reduceLeDiff, Int.reduceToNat, Int.reduceLT, Int.reduceLE, reduceCtorEq, List.take_nil, List.drop_nil]
  refine ⟨_, impl_RentOk_ok vs hl hr, ?_⟩; simp (config := { maxSteps := 2000000 }) only [go_sem, Nat.reduceBEq, Nat.reduceAdd, Nat.reduceMul, Nat.reduceMod, Nat.reduceLT, Nat.reduceDiv, Nat.reduceSub, Nat.reduceLeDiff, Int.reduceToNat, Int.reduceLT, Int.reduceLE, reduceCtorEq, List.take_nil, List.drop_nil]
  refine ⟨fun h => by simp [cbR, h], fun h => ?_⟩
  refine ⟨_, impl_bestRooms_ok vs vs.length (rent_of h) h, ?_⟩; simp (config := { maxSteps := 2000000 }) only [go_sem, Nat.reduceBEq, Nat.reduceAdd, Nat.reduceMul, Nat.reduceMod, Nat.reduceLT, Nat.reduceDiv, Nat.reduceSub, Nat.reduceLeDiff, Int.reduceToNat, Int.reduceLT, Int.reduceLE, reduceCtorEq, List.take_nil, List.drop_nil]
  simp [cbR, h]

end Go.Proofs.Ytkkhikpbnjbalaa
