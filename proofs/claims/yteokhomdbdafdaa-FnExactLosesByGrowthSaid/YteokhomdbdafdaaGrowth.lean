/- Own work: contracts of functions that the claim reaches. No condition beyond those that each theorem names. -/
import Derived.Test.YteokhomdbdafdaaProg
import Derived.Test.YteokhomdbdafdaaShifts
namespace Go.Proofs.Yteokhomdbdafdaa
open Go Go.Vc
set_option maxRecDepth 100000
set_option linter.unusedSimpArgs false
set_option linter.unusedVariables false
def K_spec_LosesByGrowth : List Nat := [0, 1, 2, 3, 8, 9, 10, 11, 12, 13, 33, 34, 38, 39]
def C_spec_LosesByGrowth : C :=
  let ks := K_spec_LosesByGrowth
  (.seq
    (.rg 0 [(none, .v 8 .mv [.k (.i 0)]), (none, .v 9 .mv [.k (.i 0)])])
    (.cl ks (.seq
      (.rg 0 [(none, .v 14 .mv [.s 0]), (none, .v 15 .mv [.s 1]), (none, .v 16 .mv [.s 3]), (none, .co 17 38 [.s 14, .s 15, .s 16]), (none, .tk 10 17)])
      (.cl ks (.seq
        (.rg 0 [(none, .v 18 .mv [.s 0]), (none, .v 19 .mv [.s 2]), (none, .v 20 .mv [.s 3]), (none, .co 21 38 [.s 18, .s 19, .s 20]), (none, .tk 11 21)])
        (.cl ks (.seq
          (.seq
            (.rg 0 [(none, .v 22 .mv [.s 10]), (none, .v 23 .len [.s 22]), (none, .v 24 (.bin .eql) [.s 23, .k (.i 0)]), (none, .v 25 .mv [.s 24]), (some (25, false), .v 26 .mv [.s 11]), (some (25, false), .v 27 .len [.s 26]), (some (25, false), .v 28 .mv [.s 10]), (some (25, false), .v 29 .len [.s 28]), (some (25, false), .v 30 (.bin .neq) [.s 27, .s 29]), (none, .v 31 .pick [.s 25, .k (.b true), .s 30])])
            (.cond (.s 31)
              (.seq
                (.rg 0 [(none, .v 8 .mv [.k (.i (-1))]), (none, .v 9 .mv [.k (.i (-1))])])
                .ret)
              .skip))
          (.cl ks (.seq
            (.seq
              (.rg 0 [(none, .v 32 .mv [.s 10]), (none, .v 33 .len [.s 32]), (none, .v 34 .mv [.k (.i 0)])])
              (.cl ks (.block 0
                (.loop
                  (.seq
                    (.rg 0 [(none, .v 35 (.bin .lss) [.s 34, .s 33])])
                    (.seq
                      (.cond (.s 35)
                        .skip
                        (.exit 0))
                      (.cl ks (.seq
                        (.block 1
                          (.seq
                            (.rg 0 [(none, .v 36 .mv [.s 34]), (none, .tk 12 36)])
                            (.cl ks (.seq
                              (.rg 0 [(none, .v 37 .mv [.s 10]), (none, .v 38 .len [.s 37]), (none, .v 39 .mv [.k (.i 0)])])
                              (.cl ks (.block 2
                                (.loop
                                  (.seq
                                    (.rg 0 [(none, .v 40 (.bin .lss) [.s 39, .s 38])])
                                    (.seq
                                      (.cond (.s 40)
                                        .skip
                                        (.exit 2))
                                      (.cl ks (.seq
                                        (.block 3
                                          (.seq
                                            (.rg 0 [(none, .v 41 .mv [.s 39]), (none, .tk 13 41)])
                                            (.cl ks (.seq
                                              (.rg 61 [(none, .v 42 .mv [.s 11]), (none, .v 43 .mv [.s 12]), (none, .v 44 .idx [.s 42, .s 43]), (none, .v 45 .ld [.s 44]), (none, .v 46 .mv [.s 10]), (none, .v 47 .mv [.s 12]), (none, .v 48 .idx [.s 46, .s 47]), (none, .v 49 .ld [.s 48]), (none, .v 50 (.bin .lss) [.s 45, .s 49]), (none, .v 51 .mv [.s 50]), (some (51, true), .v 52 .mv [.s 11]), (some (51, true), .v 53 .mv [.s 13]), (some (51, true), .v 54 .idx [.s 52, .s 53]), (some (51, true), .v 55 .ld [.s 54]), (some (51, true), .v 56 .mv [.s 10]), (some (51, true), .v 57 .mv [.s 13]), (some (51, true), .v 58 .idx [.s 56, .s 57]), (some (51, true), .v 59 .ld [.s 58]), (some (51, true), .v 60 (.bin .gtr) [.s 55, .s 59]), (none, .v 61 .pick [.s 51, .s 60, .k (.b false)]), (none, .v 62 .mv [.s 61]), (some (62, true), .v 63 .mv [.s 2]), (some (62, true), .v 64 .mv [.s 12]), (some (62, true), .v 65 .idx [.s 63, .s 64]), (some (62, true), .v 66 .ld [.s 65]), (some (62, true), .v 67 .mv [.s 1]), (some (62, true), .v 68 .mv [.s 13]), (some (62, true), .v 69 .idx [.s 67, .s 68]), (some (62, true), .v 70 .ld [.s 69]), (some (62, true), .v 71 (.bin .mul) [.s 66, .s 70]), (some (62, true), .v 72 .mv [.s 2]), (some (62, true), .v 73 .mv [.s 13]), (some (62, true), .v 74 .idx [.s 72, .s 73]), (some (62, true), .v 75 .ld [.s 74]), (some (62, true), .v 76 .mv [.s 1]), (some (62, true), .v 77 .mv [.s 12]), (some (62, true), .v 78 .idx [.s 76, .s 77]), (some (62, true), .v 79 .ld [.s 78]), (some (62, true), .v 80 (.bin .mul) [.s 75, .s 79]), (some (62, true), .v 81 (.bin .geq) [.s 71, .s 80]), (none, .v 82 .pick [.s 62, .s 81, .k (.b false)]), (none, .v 83 .mv [.s 82]), (some (83, true), .v 84 .mv [.s 2]), (some (83, true), .v 85 .mv [.s 12]), (some (83, true), .v 86 .idx [.s 84, .s 85]), (some (83, true), .v 87 .ld [.s 86]), (some (83, true), .v 88 .mv [.s 1]), (some (83, true), .v 89 .mv [.s 12]), (some (83, true), .v 90 .idx [.s 88, .s 89]), (some (83, true), .v 91 .ld [.s 90]), (some (83, true), .v 92 (.bin .geq) [.s 87, .s 91]), (none, .v 93 .pick [.s 83, .s 92, .k (.b false)]), (none, .v 94 .mv [.s 93]), (some (94, true), .v 95 .mv [.s 2]), (some (94, true), .v 96 .mv [.s 13]), (some (94, true), .v 97 .idx [.s 95, .s 96]), (some (94, true), .v 98 .ld [.s 97]), (some (94, true), .v 99 .mv [.s 1]), (some (94, true), .v 100 .mv [.s 13]), (some (94, true), .v 101 .idx [.s 99, .s 100]), (some (94, true), .v 102 .ld [.s 101]), (some (94, true), .v 103 (.bin .leq) [.s 98, .s 102]), (none, .v 104 .pick [.s 94, .s 103, .k (.b false)])])
                                              (.cond (.s 104)
                                                (.seq
                                                  (.rg 0 [(none, .v 105 .mv [.s 12]), (none, .v 106 .mv [.s 13]), (none, .tk 8 105), (none, .tk 9 106)])
                                                  .ret)
                                                .skip)))))
                                        (.cl ks (.rg 0 [(none, .v 107 (.bin .add) [.s 39, .k (.i 1)]), (none, .v 39 .mv [.s 107])])))))))))))))
                        (.cl ks (.rg 0 [(none, .v 108 (.bin .add) [.s 34, .k (.i 1)]), (none, .v 34 .mv [.s 108])]))))))))))
            (.cl ks (.seq
              (.rg 0 [(none, .v 8 .mv [.k (.i (-1))]), (none, .v 9 .mv [.k (.i (-1))])])
              .ret)))))))))))

theorem chk_spec_LosesByGrowth : ∃ b, Try.f44.body = some b ∧ chk Try.prog Try.f44.ntmps true C_spec_LosesByGrowth b = true := ⟨_, rfl, by kernel_rfl⟩
def K_impl_LosesByGrowth : List Nat := [0, 1, 2, 3, 8, 9, 10, 11, 12, 13, 14, 37, 38, 42, 43]
def C_impl_LosesByGrowth : C :=
  let ks := K_impl_LosesByGrowth
  (.seq
    (.rg 0 [(none, .v 8 .mv [.k (.i 0)]), (none, .v 9 .mv [.k (.i 0)])])
    (.cl ks (.seq
      (.rg 0 [(none, .v 15 .mv [.s 0]), (none, .v 16 .mv [.s 1]), (none, .v 17 .mv [.s 3]), (none, .co 18 24 [.s 15, .s 16, .s 17]), (none, .v 19 .mv [.s 0]), (none, .v 20 .mv [.s 2]), (none, .v 21 .mv [.s 3]), (none, .co 22 24 [.s 19, .s 20, .s 21]), (none, .tk 10 18), (none, .tk 11 22)])
      (.cl ks (.seq
        (.seq
          (.rg 0 [(none, .v 23 .mv [.s 10]), (none, .v 24 .nil [.s 23]), (none, .v 25 .mv [.s 24]), (some (25, false), .v 26 .mv [.s 11]), (some (25, false), .v 27 .nil [.s 26]), (none, .v 28 .pick [.s 25, .k (.b true), .s 27]), (none, .v 29 .mv [.s 28]), (some (29, false), .v 30 .mv [.s 10]), (some (29, false), .v 31 .len [.s 30]), (some (29, false), .v 32 .mv [.s 11]), (some (29, false), .v 33 .len [.s 32]), (some (29, false), .v 34 (.bin .neq) [.s 31, .s 33]), (none, .v 35 .pick [.s 29, .k (.b true), .s 34])])
          (.cond (.s 35)
            (.seq
              (.rg 0 [(none, .v 8 .mv [.k (.i (-1))]), (none, .v 9 .mv [.k (.i (-1))])])
              .ret)
            .skip))
        (.cl ks (.seq
          (.seq
            (.rg 0 [(none, .v 36 .mv [.s 10]), (none, .v 37 .len [.s 36]), (none, .v 38 .mv [.k (.i 0)])])
            (.cl ks (.block 0
              (.loop
                (.seq
                  (.rg 0 [(none, .v 39 (.bin .lss) [.s 38, .s 37])])
                  (.seq
                    (.cond (.s 39)
                      .skip
                      (.exit 0))
                    (.cl ks (.seq
                      (.block 1
                        (.seq
                          (.rg 0 [(none, .v 40 .mv [.s 38]), (none, .tk 12 40)])
                          (.cl ks (.seq
                            (.rg 0 [(none, .v 41 .mv [.s 10]), (none, .v 42 .len [.s 41]), (none, .v 43 .mv [.k (.i 0)])])
                            (.cl ks (.block 2
                              (.loop
                                (.seq
                                  (.rg 0 [(none, .v 44 (.bin .lss) [.s 43, .s 42])])
                                  (.seq
                                    (.cond (.s 44)
                                      .skip
                                      (.exit 2))
                                    (.cl ks (.seq
                                      (.block 3
                                        (.seq
                                          (.rg 0 [(none, .v 45 .mv [.s 43]), (none, .tk 13 45)])
                                          (.cl ks (.seq
                                            (.rg 39 [(none, .v 46 .mv [.s 2]), (none, .v 47 .mv [.s 12]), (none, .v 48 .idx [.s 46, .s 47]), (none, .v 49 .ld [.s 48]), (none, .v 50 .mv [.s 1]), (none, .v 51 .mv [.s 13]), (none, .v 52 .idx [.s 50, .s 51]), (none, .v 53 .ld [.s 52]), (none, .v 54 (.bin .mul) [.s 49, .s 53]), (none, .v 55 .mv [.s 2]), (none, .v 56 .mv [.s 13]), (none, .v 57 .idx [.s 55, .s 56]), (none, .v 58 .ld [.s 57]), (none, .v 59 .mv [.s 1]), (none, .v 60 .mv [.s 12]), (none, .v 61 .idx [.s 59, .s 60]), (none, .v 62 .ld [.s 61]), (none, .v 63 (.bin .mul) [.s 58, .s 62]), (none, .v 64 (.bin .geq) [.s 54, .s 63]), (none, .v 65 .mv [.s 64]), (some (65, true), .v 66 .mv [.s 2]), (some (65, true), .v 67 .mv [.s 12]), (some (65, true), .v 68 .idx [.s 66, .s 67]), (some (65, true), .v 69 .ld [.s 68]), (some (65, true), .v 70 .mv [.s 1]), (some (65, true), .v 71 .mv [.s 12]), (some (65, true), .v 72 .idx [.s 70, .s 71]), (some (65, true), .v 73 .ld [.s 72]), (some (65, true), .v 74 (.bin .geq) [.s 69, .s 73]), (none, .v 75 .pick [.s 65, .s 74, .k (.b false)]), (none, .v 76 .mv [.s 75]), (some (76, true), .v 77 .mv [.s 2]), (some (76, true), .v 78 .mv [.s 13]), (some (76, true), .v 79 .idx [.s 77, .s 78]), (some (76, true), .v 80 .ld [.s 79]), (some (76, true), .v 81 .mv [.s 1]), (some (76, true), .v 82 .mv [.s 13]), (some (76, true), .v 83 .idx [.s 81, .s 82]), (some (76, true), .v 84 .ld [.s 83]), (some (76, true), .v 85 (.bin .leq) [.s 80, .s 84]), (none, .v 86 .pick [.s 76, .s 85, .k (.b false)]), (none, .tk 14 86)])
                                            (.cl ks (.seq
                                              (.rg 21 [(none, .v 87 .mv [.s 14]), (none, .v 88 .mv [.s 87]), (some (88, true), .v 89 .mv [.s 11]), (some (88, true), .v 90 .mv [.s 12]), (some (88, true), .v 91 .idx [.s 89, .s 90]), (some (88, true), .v 92 .ld [.s 91]), (some (88, true), .v 93 .mv [.s 10]), (some (88, true), .v 94 .mv [.s 12]), (some (88, true), .v 95 .idx [.s 93, .s 94]), (some (88, true), .v 96 .ld [.s 95]), (some (88, true), .v 97 (.bin .lss) [.s 92, .s 96]), (none, .v 98 .pick [.s 88, .s 97, .k (.b false)]), (none, .v 99 .mv [.s 98]), (some (99, true), .v 100 .mv [.s 11]), (some (99, true), .v 101 .mv [.s 13]), (some (99, true), .v 102 .idx [.s 100, .s 101]), (some (99, true), .v 103 .ld [.s 102]), (some (99, true), .v 104 .mv [.s 10]), (some (99, true), .v 105 .mv [.s 13]), (some (99, true), .v 106 .idx [.s 104, .s 105]), (some (99, true), .v 107 .ld [.s 106]), (some (99, true), .v 108 (.bin .gtr) [.s 103, .s 107]), (none, .v 109 .pick [.s 99, .s 108, .k (.b false)])])
                                              (.cond (.s 109)
                                                (.seq
                                                  (.rg 0 [(none, .v 110 .mv [.s 12]), (none, .v 111 .mv [.s 13]), (none, .tk 8 110), (none, .tk 9 111)])
                                                  .ret)
                                                .skip)))))))
                                      (.cl ks (.rg 0 [(none, .v 112 (.bin .add) [.s 43, .k (.i 1)]), (none, .v 43 .mv [.s 112])])))))))))))))
                      (.cl ks (.rg 0 [(none, .v 113 (.bin .add) [.s 38, .k (.i 1)]), (none, .v 38 .mv [.s 113])]))))))))))
          (.cl ks (.seq
            (.rg 0 [(none, .v 8 .mv [.k (.i (-1))]), (none, .v 9 .mv [.k (.i (-1))])])
            .ret)))))))))

theorem chk_impl_LosesByGrowth : ∃ b, Try.f15.body = some b ∧ chk Try.prog Try.f15.ntmps true C_impl_LosesByGrowth b = true := ⟨_, rfl, by kernel_rfl⟩
def groB (bs cs : List Int) (i k : Nat) : Bool := decide (cs.getD k 0 * bs.getD i 0 ≤ cs.getD i 0 * bs.getD k 0) && decide (bs.getD i 0 ≤ cs.getD i 0) && decide (cs.getD k 0 ≤ bs.getD k 0)
def groP (m : Int) (bs cs : List Int) (n : Int) (i k : Nat) : Bool := decide ((giveF m cs n).getD i 0 < (giveF m bs n).getD i 0) && decide ((giveF m bs n).getD k 0 < (giveF m cs n).getD k 0) && groB bs cs i k
def groR (m : Int) (bs cs : List Int) (n : Int) (i : Nat) : Int := firstP (groP m bs cs n i) bs.length
def groO (m : Int) (bs cs : List Int) (n : Int) (i : Nat) : Bool := decide (0 ≤ groR m bs cs n i)
def groA (m : Int) (bs cs : List Int) (n : Int) : Int := if giveB m bs n = true ∧ giveB m cs n = true ∧ bs.length = cs.length then firstP (groO m bs cs n) bs.length else -1
def groK (m : Int) (bs cs : List Int) (n : Int) : Int := if groA m bs cs n = -1 then -1 else groR m bs cs n (groA m bs cs n).toNat
theorem gro_no {m : Int} {bs cs : List Int} {n : Int} (h : ¬ (giveB m bs n = true ∧ giveB m cs n = true ∧ bs.length = cs.length)) : groA m bs cs n = -1 ∧ groK m bs cs n = -1 := by
  have : groA m bs cs n = -1 := if_neg h
  exact ⟨this, if_pos this⟩
theorem gro_end {m : Int} {bs cs : List Int} {n : Int} (h : giveB m bs n = true ∧ giveB m cs n = true ∧ bs.length = cs.length) (hI : ∀ i, i < bs.length → groO m bs cs n i = false) : groA m bs cs n = -1 ∧ groK m bs cs n = -1 := by
  have : groA m bs cs n = -1 := by rw [groA, if_pos h, firstP_no hI]
  exact ⟨this, if_pos this⟩
theorem gro_hit {m : Int} {bs cs : List Int} {n : Int} {i k : Nat} (h : giveB m bs n = true ∧ giveB m cs n = true ∧ bs.length = cs.length) (hI : ∀ j, j < i → groO m bs cs n j = false) (hi : i < bs.length) (hk : k < bs.length) (hK : ∀ j, j < k → groP m bs cs n i j = false) (hp : groP m bs cs n i k = true) : groA m bs cs n = i ∧ groK m bs cs n = k := by
  have hr : groR m bs cs n i = k := firstP_hit hK hp hk
  have : groA m bs cs n = i := by rw [groA, if_pos h, firstP_hit hI (by unfold groO; rw [hr]; simp) hi]
  refine ⟨this, ?_⟩
  rw [groK, this, if_neg (by omega), Int.toNat_natCast, hr]
theorem gro_row {m : Int} {bs cs : List Int} {n : Int} {i : Nat} (hK : ∀ j, j < bs.length → groP m bs cs n i j = false) : groO m bs cs n i = false := by
  unfold groO groR; rw [firstP_no hK]; rfl
theorem gro_yes {m : Int} {bs cs : List Int} {n : Int} {i k : Nat} (h1 : (giveF m cs n).getD i 0 < (giveF m bs n).getD i 0) (h2 : (giveF m bs n).getD k 0 < (giveF m cs n).getD k 0) (h3 : cs.getD k 0 * bs.getD i 0 ≤ cs.getD i 0 * bs.getD k 0) (h4 : bs.getD i 0 ≤ cs.getD i 0) (h5 : cs.getD k 0 ≤ bs.getD k 0) : groP m bs cs n i k = true := by
  unfold groP groB
  rw [decide_eq_true h1, decide_eq_true h2, decide_eq_true h3, decide_eq_true h4, decide_eq_true h5]; rfl
theorem gro_f1 {m : Int} {bs cs : List Int} {n : Int} {i k : Nat} (h : ¬ (giveF m cs n).getD i 0 < (giveF m bs n).getD i 0) : groP m bs cs n i k = false := by
  unfold groP; rw [decide_eq_false h]; rfl
theorem gro_f2 {m : Int} {bs cs : List Int} {n : Int} {i k : Nat} (h : ¬ (giveF m bs n).getD k 0 < (giveF m cs n).getD k 0) : groP m bs cs n i k = false := by
  unfold groP; rw [decide_eq_false h, Bool.and_false]; rfl
theorem gro_f3 {m : Int} {bs cs : List Int} {n : Int} {i k : Nat} (h : ¬ cs.getD k 0 * bs.getD i 0 ≤ cs.getD i 0 * bs.getD k 0) : groP m bs cs n i k = false := by
  unfold groP groB; rw [decide_eq_false h, Bool.false_and, Bool.false_and, Bool.and_false]
theorem gro_f4 {m : Int} {bs cs : List Int} {n : Int} {i k : Nat} (h : ¬ bs.getD i 0 ≤ cs.getD i 0) : groP m bs cs n i k = false := by
  unfold groP groB; rw [decide_eq_false h, Bool.and_false, Bool.false_and, Bool.and_false]
theorem gro_f5 {m : Int} {bs cs : List Int} {n : Int} {i k : Nat} (h : ¬ cs.getD k 0 ≤ bs.getD k 0) : groP m bs cs n i k = false := by
  unfold groP groB; rw [decide_eq_false h, Bool.and_false, Bool.and_false]
theorem spec_LosesByGrowth_ok {n1 n2 : Option Bool} (m : Int) (bs cs : List Int) (n : Int) (hl : bs.length ≤ 1048576) (hl2 : cs.length ≤ 1048576) : CallOk Try.prog 44 [.i m, .s n1 (ii bs), .s n2 (ii cs), .i n] [(0, .tp 2), (100000, .i (groA m bs cs n)), (101000, .i (groK m bs cs n))] := by
  obtain ⟨code0, hcd1, hcd2⟩ := chk_spec_LosesByGrowth; refine callOk_of Try.func44 hcd1 mo Try.call44 (rs := [8, 9]) (by kernel_rfl) hcd2 (by rw [Try.ntmps44]; simp) (by simp) (by decide) ?_; unfold C_spec_LosesByGrowth K_spec_LosesByGrowth; simp (config := { maxSteps := 2000000 }) only [go_sem, Nat.reduceBEq, Nat.reduceAdd, Nat.reduceMul, Nat.reduceMod, Nat.reduceLT, Nat.reduceDiv, Nat.reduceSub, Nat.reduceLeDiff, Int.reduceToNat, Int.reduceLT, Int.reduceLE, reduceCtorEq, List.take_nil, List.drop_nil]
  cases ha : giveB m bs n with
  | false =>
    refine ⟨_, spec_Give_no hl ha, ?_⟩; simp (config := { maxSteps := 2000000 }) only [go_sem, Nat.reduceBEq, Nat.reduceAdd, Nat.reduceMul, Nat.reduceMod, Nat.reduceLT, Nat.reduceDiv, Nat.reduceSub, Nat.reduceLeDiff, Int.reduceToNat, Int.reduceLT, Int.reduceLE, reduceCtorEq, List.take_nil, List.drop_nil]
    refine ⟨_, spec_GiveSeats_ok m cs n hl2, ?_⟩; simp (config := { maxSteps := 2000000 }) only [go_sem, Nat.reduceBEq, Nat.reduceAdd, Nat.reduceMul, Nat.reduceMod, Nat.reduceLT, Nat.reduceDiv, Nat.reduceSub, Nat.reduceLeDiff, Int.reduceToNat, Int.reduceLT, Int.reduceLE, reduceCtorEq, List.take_nil, List.drop_nil]
    obtain ⟨e1, e2⟩ := gro_no (m := m) (bs := bs) (cs := cs) (n := n) (by simp [ha])
    rw [e1, e2]
    simp
  | true =>
    refine ⟨_, spec_Give_yes hl ha, ?_⟩; simp (config := { maxSteps := 2000000 }) only [go_sem, Nat.reduceBEq, Nat.reduceAdd, Nat.reduceMul, Nat.reduceMod, Nat.reduceLT, Nat.reduceDiv, Nat.reduceSub, Nat.reduceLeDiff, Int.reduceToNat, Int.reduceLT, Int.reduceLE, reduceCtorEq, List.take_nil, List.drop_nil]
    obtain ⟨A, l1, d1⟩ := give_of ha
    have z1 := A.l1
    have z6 := A.l6
    cases hb : giveB m cs n with
    | false =>
      refine ⟨_, spec_Give_no hl2 hb, ?_⟩; simp (config := { maxSteps := 2000000 }) only [go_sem, Nat.reduceBEq, Nat.reduceAdd, Nat.reduceMul, Nat.reduceMod, Nat.reduceLT, Nat.reduceDiv, Nat.reduceSub, Nat.reduceLeDiff, Int.reduceToNat, Int.reduceLT, Int.reduceLE, reduceCtorEq, List.take_nil, List.drop_nil]
      obtain ⟨e1, e2⟩ := gro_no (m := m) (bs := bs) (cs := cs) (n := n) (by simp [hb])
      rw [e1, e2, l1]
      exact ⟨fun _ => ⟨fun _ => ⟨by decide, rfl, rfl⟩, fun h => by omega⟩, fun h => by omega⟩
    | true =>
      refine ⟨_, spec_Give_yes hl2 hb, ?_⟩; simp (config := { maxSteps := 2000000 }) only [go_sem, Nat.reduceBEq, Nat.reduceAdd, Nat.reduceMul, Nat.reduceMod, Nat.reduceLT, Nat.reduceDiv, Nat.reduceSub, Nat.reduceLeDiff, Int.reduceToNat, Int.reduceLT, Int.reduceLE, reduceCtorEq, List.take_nil, List.drop_nil]
      obtain ⟨B, l2, d2⟩ := give_of hb
      rw [l1, l2]
      by_cases hlen : bs.length = cs.length
      · have hh := And.intro ha (And.intro hb hlen)
        refine ⟨fun _ => ⟨fun h => by omega, fun _ => ?_⟩, fun h => by omega⟩
        refine loopN bs.length (fun i => [(0, .i m), (1, .t .arg (.s n1 (ii bs))), (2, .t .arg (.s n2 (ii cs))), (3, .i n), (10, .own 1 none (ii (giveF m bs n))), (11, .own 1 none (ii (giveF m cs n))), (33, .i bs.length), (34, .i (i : Nat))]) (fun i => ∀ j, j < i → groO m bs cs n j = false) ⟨fun i hi => by omega, by simp (config := { maxSteps := 2000000 }) only [go_sem, Nat.reduceBEq, Nat.reduceAdd, Nat.reduceMul, Nat.reduceMod, Nat.reduceLT, Nat.reduceDiv, Nat.reduceSub, Nat.reduceLeDiff, Int.reduceToNat, Int.reduceLT, Int.reduceLE, reduceCtorEq, List.take_nil, List.drop_nil]; simp⟩ fun i hi hI => ?_
        simp (config := { maxSteps := 2000000 }) only [go_sem, Nat.reduceBEq, Nat.reduceAdd, Nat.reduceMul, Nat.reduceMod, Nat.reduceLT, Nat.reduceDiv, Nat.reduceSub, Nat.reduceLeDiff, Int.reduceToNat, Int.reduceLT, Int.reduceLE, reduceCtorEq, List.take_nil, List.drop_nil]
        refine ⟨fun hlt => ?_, fun hge => ?_⟩
        · have hi' : i < bs.length := by omega
          rw [l1]
          refine loopN bs.length (fun k => [(0, .i m), (1, .t .arg (.s n1 (ii bs))), (2, .t .arg (.s n2 (ii cs))), (3, .i n), (10, .own 1 none (ii (giveF m bs n))), (11, .own 1 none (ii (giveF m cs n))), (12, .i (i : Nat)), (33, .i bs.length), (34, .i (i : Nat)), (38, .i bs.length), (39, .i (k : Nat))]) (fun k => ∀ j, j < k → groP m bs cs n i j = false) ⟨fun i hi => by omega, by simp (config := { maxSteps := 2000000 }) only [go_sem, Nat.reduceBEq, Nat.reduceAdd, Nat.reduceMul, Nat.reduceMod, Nat.reduceLT, Nat.reduceDiv, Nat.reduceSub, Nat.reduceLeDiff, Int.reduceToNat, Int.reduceLT, Int.reduceLE, reduceCtorEq, List.take_nil, List.drop_nil]; simp⟩ fun k hk hK => ?_
          have g1 := fun hk' : k < bs.length => gro_hit hh hI hi' hk' hK
          simp (config := { maxSteps := 2000000 }) only [go_sem, Nat.reduceBEq, Nat.reduceAdd, Nat.reduceMul, Nat.reduceMod, Nat.reduceLT, Nat.reduceDiv, Nat.reduceSub, Nat.reduceLeDiff, Int.reduceToNat, Int.reduceLT, Int.reduceLE, reduceCtorEq, List.take_nil, List.drop_nil]
          refine ⟨fun hlt => ?_, fun hge => ?_⟩
          · have hk' : k < bs.length := by omega
            have g1 := g1 hk'
            have b1 := A.bd _ (getD_mem (d := 0) hi')
            have b2 := A.bd _ (getD_mem (d := 0) hk')
            have b3 := B.bd _ (getD_mem (d := 0) (show i < cs.length by omega))
            have b4 := B.bd _ (getD_mem (d := 0) (show k < cs.length by omega))
            have m1 := mul_bd2 b3.1 b3.2 b2.1 b2.2
            have m2 := mul_bd2 b4.1 b4.2 b1.1 b1.2
            have nx : groP m bs cs n i k = false → (inR ((k : Int) + 1) ∧ k < bs.length ∧ (∀ j, j < k + 1 → groP m bs cs n i j = false) ∧ (k : Int) + 1 = ((k + 1 : Nat) : Int)) := fun h => ⟨inR_of (by omega) (by omega), hk', step_no hK h, by omega⟩
            refine ⟨by omega, by omega, by omega, by omega, by omega, by omega, fun h1 => ⟨by omega, by omega, by omega, by omega, by omega, by omega, fun h2 => ⟨by omega, by omega, by omega, by omega, by omega, by omega, inR_of (by omega) (by omega), by omega, by omega, by omega, by omega, by omega, by omega, inR_of (by omega) (by omega), fun h3 => ⟨by omega, by omega, by omega, by omega, by omega, by omega, fun h4 => ⟨by omega, by omega, by omega, by omega, by omega, by omega, fun h5 => ?_, fun h5 => nx (gro_f5 h5)⟩, fun h4 => nx (gro_f4 h4)⟩, fun h3 => nx (gro_f3 h3)⟩, fun h2 => nx (gro_f2 h2)⟩, fun h1 => nx (gro_f1 h1)⟩
            obtain ⟨e1, e2⟩ := g1 (gro_yes h1 h2 h3 h4 h5)
            exact ⟨by decide, e1.symm, e2.symm⟩
          · have : k = bs.length := by omega
            subst this
            exact ⟨inR_of (by omega) (by omega), hi', step_no hI (gro_row hK), by omega⟩
        · have : i = bs.length := by omega
          subst this
          obtain ⟨e1, e2⟩ := gro_end hh hI
          rw [e1, e2]
          exact ⟨by decide, rfl, rfl⟩
      · obtain ⟨e1, e2⟩ := gro_no (m := m) (bs := bs) (cs := cs) (n := n) (by simp [hlen])
        rw [e1, e2]
        exact ⟨fun _ => ⟨fun _ => ⟨by decide, rfl, rfl⟩, fun h => by omega⟩, fun h => by omega⟩
theorem impl_LosesByGrowth_ok {n1 n2 : Option Bool} (m : Int) (bs cs : List Int) (n : Int) (hl : bs.length ≤ 1048576) (hl2 : cs.length ≤ 1048576) : CallOk Try.prog 15 [.i m, .s n1 (ii bs), .s n2 (ii cs), .i n] [(0, .tp 2), (100000, .i (groA m bs cs n)), (101000, .i (groK m bs cs n))] := by
  obtain ⟨code0, hcd1, hcd2⟩ := chk_impl_LosesByGrowth; refine callOk_of Try.func15 hcd1 mo Try.call15 (rs := [8, 9]) (by kernel_rfl) hcd2 (by rw [Try.ntmps15]; simp) (by simp) (by decide) ?_; unfold C_impl_LosesByGrowth K_impl_LosesByGrowth; simp (config := { maxSteps := 2000000 }) only [go_sem, Nat.reduceBEq, Nat.reduceAdd, Nat.reduceMul, Nat.reduceMod, Nat.reduceLT, Nat.reduceDiv, Nat.reduceSub, Nat.reduceLeDiff, Int.reduceToNat, Int.reduceLT, Int.reduceLE, reduceCtorEq, List.take_nil, List.drop_nil]
  cases ha : giveB m bs n with
  | false =>
    refine ⟨_, impl_Give_no hl ha, ?_⟩; simp (config := { maxSteps := 2000000 }) only [go_sem, Nat.reduceBEq, Nat.reduceAdd, Nat.reduceMul, Nat.reduceMod, Nat.reduceLT, Nat.reduceDiv, Nat.reduceSub, Nat.reduceLeDiff, Int.reduceToNat, Int.reduceLT, Int.reduceLE, reduceCtorEq, List.take_nil, List.drop_nil]
    refine ⟨_, impl_GiveSeats_ok m cs n hl2, ?_⟩; simp (config := { maxSteps := 2000000 }) only [go_sem, Nat.reduceBEq, Nat.reduceAdd, Nat.reduceMul, Nat.reduceMod, Nat.reduceLT, Nat.reduceDiv, Nat.reduceSub, Nat.reduceLeDiff, Int.reduceToNat, Int.reduceLT, Int.reduceLE, reduceCtorEq, List.take_nil, List.drop_nil]
    obtain ⟨e1, e2⟩ := gro_no (m := m) (bs := bs) (cs := cs) (n := n) (by simp [ha])
    rw [e1, e2]
    simp
  | true =>
    refine ⟨_, impl_Give_yes hl ha, ?_⟩; simp (config := { maxSteps := 2000000 }) only [go_sem, Nat.reduceBEq, Nat.reduceAdd, Nat.reduceMul, Nat.reduceMod, Nat.reduceLT, Nat.reduceDiv, Nat.reduceSub, Nat.reduceLeDiff, Int.reduceToNat, Int.reduceLT, Int.reduceLE, reduceCtorEq, List.take_nil, List.drop_nil]
    obtain ⟨A, l1, d1⟩ := give_of ha
    have z1 := A.l1
    have z6 := A.l6
    cases hb : giveB m cs n with
    | false =>
      refine ⟨_, impl_Give_no hl2 hb, ?_⟩; simp (config := { maxSteps := 2000000 }) only [go_sem, Nat.reduceBEq, Nat.reduceAdd, Nat.reduceMul, Nat.reduceMod, Nat.reduceLT, Nat.reduceDiv, Nat.reduceSub, Nat.reduceLeDiff, Int.reduceToNat, Int.reduceLT, Int.reduceLE, reduceCtorEq, List.take_nil, List.drop_nil]
      obtain ⟨e1, e2⟩ := gro_no (m := m) (bs := bs) (cs := cs) (n := n) (by simp [hb])
      rw [e1, e2]
      exact ⟨ii_ne (by omega), by decide, rfl, rfl⟩
    | true =>
      refine ⟨_, impl_Give_yes hl2 hb, ?_⟩; simp (config := { maxSteps := 2000000 }) only [go_sem, Nat.reduceBEq, Nat.reduceAdd, Nat.reduceMul, Nat.reduceMod, Nat.reduceLT, Nat.reduceDiv, Nat.reduceSub, Nat.reduceLeDiff, Int.reduceToNat, Int.reduceLT, Int.reduceLE, reduceCtorEq, List.take_nil, List.drop_nil]
      obtain ⟨B, l2, d2⟩ := give_of hb
      have zb := B.l1
      rw [l1, l2]
      by_cases hlen : bs.length = cs.length
      · have hh := And.intro ha (And.intro hb hlen)
        refine ⟨ii_ne (by omega), ii_ne (by omega), fun h => by omega, fun _ => ?_⟩
        refine loopN bs.length (fun i => [(0, .i m), (1, .t .arg (.s n1 (ii bs))), (2, .t .arg (.s n2 (ii cs))), (3, .i n), (10, .own 1 none (ii (giveF m bs n))), (11, .own 1 none (ii (giveF m cs n))), (37, .i bs.length), (38, .i (i : Nat))]) (fun i => ∀ j, j < i → groO m bs cs n j = false) ⟨fun i hi => by omega, by simp (config := { maxSteps := 2000000 }) only [go_sem, Nat.reduceBEq, Nat.reduceAdd, Nat.reduceMul, Nat.reduceMod, Nat.reduceLT, Nat.reduceDiv, Nat.reduceSub, Nat.reduceLeDiff, Int.reduceToNat, Int.reduceLT, Int.reduceLE, reduceCtorEq, List.take_nil, List.drop_nil]; simp⟩ fun i hi hI => ?_
        simp (config := { maxSteps := 2000000 }) only [go_sem, Nat.reduceBEq, Nat.reduceAdd, Nat.reduceMul, Nat.reduceMod, Nat.reduceLT, Nat.reduceDiv, Nat.reduceSub, Nat.reduceLeDiff, Int.reduceToNat, Int.reduceLT, Int.reduceLE, reduceCtorEq, List.take_nil, List.drop_nil]
        refine ⟨fun hlt => ?_, fun hge => ?_⟩
        · have hi' : i < bs.length := by omega
          rw [l1]
          refine loopN bs.length (fun k => [(0, .i m), (1, .t .arg (.s n1 (ii bs))), (2, .t .arg (.s n2 (ii cs))), (3, .i n), (10, .own 1 none (ii (giveF m bs n))), (11, .own 1 none (ii (giveF m cs n))), (12, .i (i : Nat)), (37, .i bs.length), (38, .i (i : Nat)), (42, .i bs.length), (43, .i (k : Nat))]) (fun k => ∀ j, j < k → groP m bs cs n i j = false) ⟨fun i hi => by omega, by simp (config := { maxSteps := 2000000 }) only [go_sem, Nat.reduceBEq, Nat.reduceAdd, Nat.reduceMul, Nat.reduceMod, Nat.reduceLT, Nat.reduceDiv, Nat.reduceSub, Nat.reduceLeDiff, Int.reduceToNat, Int.reduceLT, Int.reduceLE, reduceCtorEq, List.take_nil, List.drop_nil]; simp⟩ fun k hk hK => ?_
          have g1 := fun hk' : k < bs.length => gro_hit hh hI hi' hk' hK
          simp (config := { maxSteps := 2000000 }) only [go_sem, Nat.reduceBEq, Nat.reduceAdd, Nat.reduceMul, Nat.reduceMod, Nat.reduceLT, Nat.reduceDiv, Nat.reduceSub, Nat.reduceLeDiff, Int.reduceToNat, Int.reduceLT, Int.reduceLE, reduceCtorEq, List.take_nil, List.drop_nil]
          refine ⟨fun hlt => ?_, fun hge => ?_⟩
          · have hk' : k < bs.length := by omega
            have g1 := g1 hk'
            have b1 := A.bd _ (getD_mem (d := 0) hi')
            have b2 := A.bd _ (getD_mem (d := 0) hk')
            have b3 := B.bd _ (getD_mem (d := 0) (show i < cs.length by omega))
            have b4 := B.bd _ (getD_mem (d := 0) (show k < cs.length by omega))
            have m1 := mul_bd2 b3.1 b3.2 b2.1 b2.2
            have m2 := mul_bd2 b4.1 b4.2 b1.1 b1.2
            have nx : groP m bs cs n i k = false → (inR ((k : Int) + 1) ∧ k < bs.length ∧ (∀ j, j < k + 1 → groP m bs cs n i j = false) ∧ (k : Int) + 1 = ((k + 1 : Nat) : Int)) := fun h => ⟨inR_of (by omega) (by omega), hk', step_no hK h, by omega⟩
            refine ⟨by omega, by omega, by omega, by omega, by omega, by omega, inR_of (by omega) (by omega), by omega, by omega, by omega, by omega, by omega, by omega, inR_of (by omega) (by omega), fun h3 => ⟨by omega, by omega, by omega, by omega, by omega, by omega, fun h4 => ⟨by omega, by omega, by omega, by omega, by omega, by omega, fun h5 => ⟨by omega, by omega, by omega, by omega, by omega, by omega, fun h1 => ⟨by omega, by omega, by omega, by omega, by omega, by omega, fun h2 => ?_, fun h2 => nx (gro_f2 h2)⟩, fun h1 => nx (gro_f1 h1)⟩, fun h5 => nx (gro_f5 h5)⟩, fun h4 => nx (gro_f4 h4)⟩, fun h3 => nx (gro_f3 h3)⟩
            obtain ⟨e1, e2⟩ := g1 (gro_yes h1 h2 h3 h4 h5)
            exact ⟨by decide, e1.symm, e2.symm⟩
          · have : k = bs.length := by omega
            subst this
            exact ⟨inR_of (by omega) (by omega), hi', step_no hI (gro_row hK), by omega⟩
        · have : i = bs.length := by omega
          subst this
          obtain ⟨e1, e2⟩ := gro_end hh hI
          rw [e1, e2]
          exact ⟨by decide, rfl, rfl⟩
      · obtain ⟨e1, e2⟩ := gro_no (m := m) (bs := bs) (cs := cs) (n := n) (by simp [hlen])
        rw [e1, e2]
        exact ⟨ii_ne (by omega), ii_ne (by omega), fun _ => ⟨by decide, rfl, rfl⟩, fun h => by omega⟩

end Go.Proofs.Yteokhomdbdafdaa
