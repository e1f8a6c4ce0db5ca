/- Own work: contracts of functions that the claim reaches. No condition beyond those that each theorem names. -/
import Derived.Test.YtkkhikpbnjbalaaProg
import Derived.Test.YtkkhikpbnjbalaaHouses
namespace Go.Proofs.Ytkkhikpbnjbalaa
open Go Go.Vc
set_option maxRecDepth 100000
set_option linter.unusedSimpArgs false
set_option linter.unusedVariables false
def K_spec_RentOk : List Nat := [0, 2, 3, 5, 7, 13, 14, 15, 23, 24, 25]
def C_spec_RentOk : C :=
  let ks := K_spec_RentOk
  (.seq
    (.rg 0 [(none, .v 2 .mv [.k (.b false)])])
    (.cl ks (.seq
      (.rg 0 [(none, .v 8 .mv [.s 0]), (none, .v 9 .len [.s 8]), (none, .tk 3 9)])
      (.cl ks (.seq
        (.seq
          (.rg 0 [(none, .v 10 .mv [.s 3]), (none, .co 11 55 [.s 10, .k (.i 1), .k (.i 4)]), (none, .v 12 .not [.s 11])])
          (.cond (.s 12)
            (.seq
              (.rg 0 [(none, .v 2 .mv [.k (.b false)])])
              .ret)
            .skip))
        (.cl ks (.seq
          (.seq
            (.rg 0 [(none, .v 13 .mv [.s 0]), (none, .v 14 .len [.s 13]), (none, .v 15 .mv [.k (.i 0)])])
            (.cl ks (.block 0
              (.loop
                (.seq
                  (.rg 0 [(none, .v 16 (.bin .lss) [.s 15, .s 14])])
                  (.seq
                    (.cond (.s 16)
                      .skip
                      (.exit 0))
                    (.cl ks (.seq
                      (.block 1
                        (.seq
                          (.rg 0 [(none, .v 17 .idx [.s 13, .s 15]), (none, .v 18 .ld [.s 17]), (none, .tk 5 18)])
                          (.cl ks (.seq
                            (.seq
                              (.rg 0 [(none, .v 19 .mv [.s 5]), (none, .v 20 .len [.s 19]), (none, .v 21 .mv [.s 3]), (none, .v 22 (.bin .neq) [.s 20, .s 21])])
                              (.cond (.s 22)
                                (.seq
                                  (.rg 0 [(none, .v 2 .mv [.k (.b false)])])
                                  .ret)
                                .skip))
                            (.cl ks (.seq
                              (.rg 0 [(none, .v 23 .mv [.s 5]), (none, .v 24 .len [.s 23]), (none, .v 25 .mv [.k (.i 0)])])
                              (.cl ks (.block 2
                                (.loop
                                  (.seq
                                    (.rg 0 [(none, .v 26 (.bin .lss) [.s 25, .s 24])])
                                    (.seq
                                      (.cond (.s 26)
                                        .skip
                                        (.exit 2))
                                      (.cl ks (.seq
                                        (.block 3
                                          (.seq
                                            (.rg 0 [(none, .v 27 .idx [.s 23, .s 25]), (none, .v 28 .ld [.s 27]), (none, .tk 7 28)])
                                            (.cl ks (.seq
                                              (.rg 0 [(none, .v 29 .mv [.s 7]), (none, .co 30 55 [.s 29, .k (.i 0), .k (.i 1000)]), (none, .v 31 .not [.s 30])])
                                              (.cond (.s 31)
                                                (.seq
                                                  (.rg 0 [(none, .v 2 .mv [.k (.b false)])])
                                                  .ret)
                                                .skip)))))
                                        (.cl ks (.rg 0 [(none, .v 32 (.bin .add) [.s 25, .k (.i 1)]), (none, .v 25 .mv [.s 32])])))))))))))))))
                      (.cl ks (.rg 0 [(none, .v 33 (.bin .add) [.s 15, .k (.i 1)]), (none, .v 15 .mv [.s 33])]))))))))))
          (.cl ks (.seq
            (.rg 0 [(none, .v 2 .mv [.k (.b true)])])
            .ret)))))))))

theorem chk_spec_RentOk : ∃ b, Try.f17.body = some b ∧ chk Try.prog Try.f17.ntmps true C_spec_RentOk b = true := ⟨_, rfl, by kernel_rfl⟩
def K_impl_RentOk : List Nat := [0, 2]
def C_impl_RentOk : C :=
  let ks := K_impl_RentOk
  (.seq
    (.rg 0 [(none, .v 2 .mv [.k (.b false)])])
    (.cl ks (.seq
      (.rg 0 [(none, .v 3 .mv [.s 0]), (none, .co 4 56 [.s 3, .k (.i 4), .k (.i 4), .k (.i 1000)]), (none, .v 5 .mv [.s 4]), (some (5, true), .v 6 .mv [.s 0]), (some (5, true), .v 7 .idx [.s 6, .k (.i 0)]), (some (5, true), .v 8 .ld [.s 7]), (some (5, true), .v 9 .len [.s 8]), (some (5, true), .v 10 .mv [.s 0]), (some (5, true), .v 11 .len [.s 10]), (some (5, true), .v 12 (.bin .eql) [.s 9, .s 11]), (none, .v 13 .pick [.s 5, .s 12, .k (.b false)]), (none, .tk 2 13)])
      .ret)))

theorem chk_impl_RentOk : ∃ b, Try.f19.body = some b ∧ chk Try.prog Try.f19.ntmps true C_impl_RentOk b = true := ⟨_, rfl, by kernel_rfl⟩
def K_spec_l25Value : List Nat := [0, 1, 4, 5, 6, 7, 8, 9, 10]
def C_spec_l25Value : C :=
  let ks := K_spec_l25Value
  (.seq
    (.rg 0 [(none, .v 4 .mv [.k (.i 0)])])
    (.cl ks (.seq
      (.rg 0 [(none, .v 5 .mv [.k (.i 0)])])
      (.cl ks (.seq
        (.seq
          (.rg 0 [(none, .v 8 .mv [.s 1]), (none, .v 9 .len [.s 8]), (none, .v 10 .mv [.k (.i 0)])])
          (.cl ks (.block 0
            (.loop
              (.seq
                (.rg 0 [(none, .v 11 (.bin .lss) [.s 10, .s 9])])
                (.seq
                  (.cond (.s 11)
                    .skip
                    (.exit 0))
                  (.cl ks (.seq
                    (.block 1
                      (.seq
                        (.rg 0 [(none, .v 12 .mv [.s 10]), (none, .v 13 .idx [.s 8, .s 10]), (none, .v 14 .ld [.s 13]), (none, .tk 6 12), (none, .tk 7 14)])
                        (.cl ks (.rg 0 [(none, .v 15 .mv [.s 5]), (none, .v 16 .mv [.s 0]), (none, .v 17 .mv [.s 6]), (none, .v 18 .idx [.s 16, .s 17]), (none, .v 19 .ld [.s 18]), (none, .v 20 .mv [.s 7]), (none, .v 21 .idx [.s 19, .s 20]), (none, .v 22 .ld [.s 21]), (none, .v 23 (.bin .add) [.s 15, .s 22]), (none, .tk 5 23)]))))
                    (.cl ks (.rg 0 [(none, .v 24 (.bin .add) [.s 10, .k (.i 1)]), (none, .v 10 .mv [.s 24])]))))))))))
        (.cl ks (.seq
          (.rg 0 [(none, .v 25 .mv [.s 5]), (none, .tk 4 25)])
          .ret)))))))

theorem chk_spec_l25Value : ∃ b, Try.f61.body = some b ∧ chk Try.prog Try.f61.ntmps true C_spec_l25Value b = true := ⟨_, rfl, by kernel_rfl⟩
def K_impl_roomValue : List Nat := [0, 1, 4, 5, 6, 7, 8, 9, 10]
def C_impl_roomValue : C :=
  let ks := K_impl_roomValue
  (.seq
    (.rg 0 [(none, .v 4 .mv [.k (.i 0)])])
    (.cl ks (.seq
      (.rg 0 [(none, .v 5 .mv [.k (.i 0)])])
      (.cl ks (.seq
        (.seq
          (.rg 0 [(none, .v 8 .mv [.s 1]), (none, .v 9 .len [.s 8]), (none, .v 10 .mv [.k (.i 0)])])
          (.cl ks (.block 0
            (.loop
              (.seq
                (.rg 0 [(none, .v 11 (.bin .lss) [.s 10, .s 9])])
                (.seq
                  (.cond (.s 11)
                    .skip
                    (.exit 0))
                  (.cl ks (.seq
                    (.block 1
                      (.seq
                        (.rg 0 [(none, .v 12 .mv [.s 10]), (none, .v 13 .idx [.s 8, .s 10]), (none, .v 14 .ld [.s 13]), (none, .tk 6 12), (none, .tk 7 14)])
                        (.cl ks (.rg 0 [(none, .v 15 .mv [.s 5]), (none, .v 16 .mv [.s 0]), (none, .v 17 .mv [.s 6]), (none, .v 18 .idx [.s 16, .s 17]), (none, .v 19 .ld [.s 18]), (none, .v 20 .mv [.s 7]), (none, .v 21 .idx [.s 19, .s 20]), (none, .v 22 .ld [.s 21]), (none, .v 23 (.bin .add) [.s 15, .s 22]), (none, .tk 5 23)]))))
                    (.cl ks (.rg 0 [(none, .v 24 (.bin .add) [.s 10, .k (.i 1)]), (none, .v 10 .mv [.s 24])]))))))))))
        (.cl ks (.seq
          (.rg 0 [(none, .v 25 .mv [.s 5]), (none, .tk 4 25)])
          .ret)))))))

theorem chk_impl_roomValue : ∃ b, Try.f63.body = some b ∧ chk Try.prog Try.f63.ntmps true C_impl_roomValue b = true := ⟨_, rfl, by kernel_rfl⟩
def K_spec_l25Ok : List Nat := [0, 1, 4]
def C_spec_l25Ok : C :=
  let ks := K_spec_l25Ok
  (.seq
    (.rg 0 [(none, .v 4 .mv [.k (.b false)])])
    (.cl ks (.seq
      (.rg 0 [(none, .v 5 .mv [.s 0]), (none, .co 6 17 [.s 5]), (none, .v 7 .mv [.s 6]), (some (7, true), .v 8 .mv [.s 0]), (some (7, true), .v 9 .len [.s 8]), (some (7, true), .v 10 .mv [.s 1]), (some (7, true), .co 11 51 [.s 9, .s 10]), (none, .v 12 .pick [.s 7, .s 11, .k (.b false)]), (none, .tk 4 12)])
      .ret)))

theorem chk_spec_l25Ok : ∃ b, Try.f60.body = some b ∧ chk Try.prog Try.f60.ntmps true C_spec_l25Ok b = true := ⟨_, rfl, by kernel_rfl⟩
def K_spec_RoomValue : List Nat := [0, 1, 4]
def C_spec_RoomValue : C :=
  let ks := K_spec_RoomValue
  (.seq
    (.rg 0 [(none, .v 4 .mv [.k (.i 0)])])
    (.cl ks (.seq
      (.seq
        (.rg 0 [(none, .v 5 .mv [.s 0]), (none, .v 6 .mv [.s 1]), (none, .co 7 60 [.s 5, .s 6]), (none, .v 8 .not [.s 7])])
        (.cond (.s 8)
          (.seq
            (.rg 0 [(none, .v 4 .mv [.k (.i (-1))])])
            .ret)
          .skip))
      (.cl ks (.seq
        (.rg 0 [(none, .v 9 .mv [.s 0]), (none, .v 10 .mv [.s 1]), (none, .co 11 61 [.s 9, .s 10]), (none, .tk 4 11)])
        .ret)))))

theorem chk_spec_RoomValue : ∃ b, Try.f23.body = some b ∧ chk Try.prog Try.f23.ntmps true C_spec_RoomValue b = true := ⟨_, rfl, by kernel_rfl⟩
def K_impl_RoomValue : List Nat := [0, 1, 4]
def C_impl_RoomValue : C :=
  let ks := K_impl_RoomValue
  (.seq
    (.rg 0 [(none, .v 4 .mv [.k (.i 0)])])
    (.cl ks (.seq
      (.seq
        (.rg 0 [(none, .v 5 .mv [.s 0]), (none, .co 6 19 [.s 5]), (none, .v 7 .not [.s 6]), (none, .v 8 .mv [.s 7]), (some (8, false), .v 9 .mv [.s 0]), (some (8, false), .v 10 .len [.s 9]), (some (8, false), .v 11 .mv [.s 1]), (some (8, false), .co 12 62 [.s 10, .s 11]), (some (8, false), .v 13 .not [.s 12]), (none, .v 14 .pick [.s 8, .k (.b true), .s 13])])
        (.cond (.s 14)
          (.seq
            (.rg 0 [(none, .v 4 .mv [.k (.i (-1))])])
            .ret)
          .skip))
      (.cl ks (.seq
        (.rg 0 [(none, .v 15 .mv [.s 0]), (none, .v 16 .mv [.s 1]), (none, .co 17 63 [.s 15, .s 16]), (none, .tk 4 17)])
        .ret)))))

theorem chk_impl_RoomValue : ∃ b, Try.f25.body = some b ∧ chk Try.prog Try.f25.ntmps true C_impl_RoomValue b = true := ⟨_, rfl, by kernel_rfl⟩
def rentB (vs : List (List Int)) : Bool := inI vs.length 1 4 && vs.all fun r => decide (r.length = vs.length) && r.all fun x => inI x 0 1000
theorem rent_eq {vs : List (List Int)} : (rectB vs 4 4 1000 && decide ((vs.getD 0 []).length = vs.length)) = rentB vs := by
  rw [Bool.eq_iff_iff]
  simp only [rectB, rentB, inI, Bool.and_eq_true, decide_eq_true_eq, List.all_eq_true]
  constructor
  · rintro ⟨⟨⟨h1, h2⟩, h3⟩, h4⟩
    exact ⟨h1, fun r hr => ⟨by rw [(h3 r hr).1, h4], (h3 r hr).2⟩⟩
  · rintro ⟨h1, h3⟩
    have h0 : vs.getD 0 [] ∈ vs := getD_mem (by omega)
    have h4 := (h3 _ h0).1
    exact ⟨⟨⟨h1, by omega⟩, fun r hr => ⟨by rw [(h3 r hr).1, h4], (h3 r hr).2⟩⟩, h4⟩
theorem impl_RentOk_ok {nl : Option Bool} (vs : List (List Int)) (hl : vs.length ≤ 1048576) (hr : ∀ r ∈ vs, r.length ≤ 1048576) : CallOk Try.prog 19 [.s nl (rr vs)] [(0, .b (rentB vs))] := by
  obtain ⟨code0, hcd1, hcd2⟩ := chk_impl_RentOk; refine callOk_of Try.func19 hcd1 mo Try.call19 (rs := [2]) (by kernel_rfl) hcd2 (by rw [Try.ntmps19]; simp) (by simp) (by decide) ?_; unfold C_impl_RentOk K_impl_RentOk; simp (config := { maxSteps := 2000000 }) only [go_sem, Nat.reduceBEq, Nat.reduceAdd, Nat.reduceMul, Nat.reduceMod, Nat.reduceLT, Nat.reduceDiv, Nat.reduceSub, Nat.reduceLeDiff, Int.reduceToNat, Int.reduceLT, Int.reduceLE, reduceCtorEq, List.take_nil, List.drop_nil]
  refine ⟨_, rectangle_ok vs 4 4 1000 hl hr, ?_⟩; simp (config := { maxSteps := 2000000 }) only [go_sem, Nat.reduceBEq, Nat.reduceAdd, Nat.reduceMul, Nat.reduceMod, Nat.reduceLT, Nat.reduceDiv, Nat.reduceSub, Nat.reduceLeDiff, Int.reduceToNat, Int.reduceLT, Int.reduceLE, reduceCtorEq, List.take_nil, List.drop_nil]
  rw [← rent_eq]
  refine ⟨fun h => ?_, fun h => by simp [h]⟩
  have h0 : 0 < vs.length := by simp only [rectB, inI, Bool.and_eq_true, decide_eq_true_eq] at h; omega
  exact ⟨h0, h0, by simp [h]⟩
theorem spec_RentOk_ok {nl : Option Bool} (vs : List (List Int)) (hl : vs.length ≤ 1048576) (hr : ∀ r ∈ vs, r.length ≤ 1048576) : CallOk Try.prog 17 [.s nl (rr vs)] [(0, .b (rentB vs))] := by
  obtain ⟨code0, hcd1, hcd2⟩ := chk_spec_RentOk; refine callOk_of Try.func17 hcd1 mo Try.call17 (rs := [2]) (by kernel_rfl) hcd2 (by rw [Try.ntmps17]; simp) (by simp) (by decide) ?_; unfold C_spec_RentOk K_spec_RentOk; simp (config := { maxSteps := 2000000 }) only [go_sem, Nat.reduceBEq, Nat.reduceAdd, Nat.reduceMul, Nat.reduceMod, Nat.reduceLT, Nat.reduceDiv, Nat.reduceSub, Nat.reduceLeDiff, Int.reduceToNat, Int.reduceLT, Int.reduceLE, reduceCtorEq, List.take_nil, List.drop_nil]
  refine ⟨_, l01In_ok _ _ _, ?_⟩; simp (config := { maxSteps := 2000000 }) only [go_sem, Nat.reduceBEq, Nat.reduceAdd, Nat.reduceMul, Nat.reduceMod, Nat.reduceLT, Nat.reduceDiv, Nat.reduceSub, Nat.reduceLeDiff, Int.reduceToNat, Int.reduceLT, Int.reduceLE, reduceCtorEq, List.take_nil, List.drop_nil]
  refine ⟨fun h => by simp [rentB, h], fun h => ?_⟩
  have key : rentB vs = vs.all fun r => decide (r.length = vs.length) && r.all fun x => inI x 0 1000 := by simp only [rentB, h, Bool.true_and]
  rw [key]
  refine loopN vs.length (fun j => [(0, .t .arg (.s nl (rr vs))), (3, .i vs.length), (13, .t .arg (.s nl (rr vs))), (14, .i vs.length), (15, .i (j : Nat))])
    (fun j => ∀ i, i < j → (decide ((vs.getD i []).length = vs.length) && (vs.getD i []).all fun x => inI x 0 1000) = true) ⟨by simp, by simp (config := { maxSteps := 2000000 }) only [go_sem, Nat.reduceBEq, Nat.reduceAdd, Nat.reduceMul, Nat.reduceMod, Nat.reduceLT, Nat.reduceDiv, Nat.reduceSub, Nat.reduceLeDiff, Int.reduceToNat, Int.reduceLT, Int.reduceLE, reduceCtorEq, List.take_nil, List.drop_nil]; simp⟩ fun j hj hI => ?_
  simp (config := { maxSteps := 2000000 }) only [go_sem, Nat.reduceBEq, Nat.reduceAdd, Nat.reduceMul, Nat.reduceMod, Nat.reduceLT, Nat.reduceDiv, Nat.reduceSub, Nat.reduceLeDiff, Int.reduceToNat, Int.reduceLT, Int.reduceLE, reduceCtorEq, List.take_nil, List.drop_nil]
  refine ⟨fun hlt => ?_, fun hge => ?_⟩
  case refine_2 =>
    have : j = vs.length := by omega
    subst this
    exact (all_of_getD [] hI).symm
  have hj' : j < vs.length := by omega
  refine ⟨by omega, by omega, by omega, fun hn => ?_, fun hn => ?_⟩
  · exact (not_all_getD [] hj' (by simp [-List.getD_eq_getElem?_getD, hn])).symm
  refine loopN (vs.getD j []).length (fun k => [(0, .t .arg (.s nl (rr vs))), (3, .i vs.length), (13, .t .arg (.s nl (rr vs))), (14, .i vs.length), (15, .i (j : Nat)), (23, .t .arg (.s none (ii (vs.getD j [])))), (24, .i (vs.getD j []).length), (25, .i (k : Nat))])
    (fun k => ∀ i, i < k → inI ((vs.getD j []).getD i 0) 0 1000 = true) ⟨by simp, by simp (config := { maxSteps := 2000000 }) only [go_sem, Nat.reduceBEq, Nat.reduceAdd, Nat.reduceMul, Nat.reduceMod, Nat.reduceLT, Nat.reduceDiv, Nat.reduceSub, Nat.reduceLeDiff, Int.reduceToNat, Int.reduceLT, Int.reduceLE, reduceCtorEq, List.take_nil, List.drop_nil]; simp⟩ fun k hk hK => ?_
  simp (config := { maxSteps := 2000000 }) only [go_sem, Nat.reduceBEq, Nat.reduceAdd, Nat.reduceMul, Nat.reduceMod, Nat.reduceLT, Nat.reduceDiv, Nat.reduceSub, Nat.reduceLeDiff, Int.reduceToNat, Int.reduceLT, Int.reduceLE, reduceCtorEq, List.take_nil, List.drop_nil]
  have hjl := hr _ (getD_mem (d := []) hj')
  refine ⟨fun hlt => ?_, fun hge => ?_⟩
  · have hk' : k < (vs.getD j []).length := by omega
    refine ⟨by omega, by omega, by omega, ?_⟩
    refine ⟨_, l01In_ok _ _ _, ?_⟩; simp (config := { maxSteps := 2000000 }) only [go_sem, Nat.reduceBEq, Nat.reduceAdd, Nat.reduceMul, Nat.reduceMod, Nat.reduceLT, Nat.reduceDiv, Nat.reduceSub, Nat.reduceLeDiff, Int.reduceToNat, Int.reduceLT, Int.reduceLE, reduceCtorEq, List.take_nil, List.drop_nil]
    refine ⟨fun h2 => ?_, fun h2 => ?_⟩
    · refine (not_all_getD [] hj' ?_).symm
      rw [not_all_getD 0 hk' h2]; simp
    · refine ⟨inR_of (by omega) (by omega), hk', fun i hi => ?_, by simp⟩
      by_cases e : i = k
      · rw [e]; exact h2
      · exact hK i (by omega)
  · have : k = (vs.getD j []).length := by omega
    subst this
    refine ⟨inR_of (by omega) (by omega), hj', fun i hi => ?_, by simp⟩
    by_cases e : i = j
    · subst e; rw [all_of_getD 0 hK]; simp [-List.getD_eq_getElem?_getD, hn]
    · exact hI i (by omega)
/-- Values of n rooms. -/
structure Rent (vs : List (List Int)) (n : Nat) : Prop where
  n1 : 1 ≤ n
  n4 : n ≤ 4
  len : vs.length = n
  row : ∀ i, i < n → (vs.getD i []).length = n
  bd : ∀ i x, i < n → x < n → 0 ≤ (vs.getD i []).getD x 0 ∧ (vs.getD i []).getD x 0 ≤ 1000
theorem rent_of {vs : List (List Int)} (h : rentB vs = true) : Rent vs vs.length := by
  simp only [rentB, inI, Bool.and_eq_true, decide_eq_true_eq, List.all_eq_true] at h
  exact ⟨by omega, by omega, rfl, fun i hi => (h.2 _ (getD_mem hi)).1, fun i x hi hx => (h.2 _ (getD_mem hi)).2 _ (getD_mem (by rw [(h.2 _ (getD_mem hi)).1]; exact hx))⟩
/-- The value of the first j rooms. -/
def roomV (vs : List (List Int)) (l : List Int) : Nat → Int
  | 0 => 0
  | j + 1 => roomV vs l j + (vs.getD j []).getD (l.getD j 0).toNat 0
theorem roomV_bd {vs : List (List Int)} {l : List Int} {n : Nat} (R : Rent vs n) (h : rankB n l = true) : ∀ {j : Nat}, j ≤ n → 0 ≤ roomV vs l j ∧ roomV vs l j ≤ 1000 * j
  | 0, _ => by simp [roomV]
  | j + 1, hj => by
    have h1 := roomV_bd R h (j := j) (by omega)
    have hl := rank_len h
    have h2 := rank_bd h (i := j) (by omega)
    have h3 := R.bd j (l.getD j 0).toNat (by omega) (by omega)
    simp only [roomV]; omega
theorem spec_l25Value_ok {n1 n2 : Option Bool} (vs : List (List Int)) (l : List Int) (n : Nat) (R : Rent vs n) (h : rankB n l = true) : CallOk Try.prog 61 [.s n1 (rr vs), .s n2 (ii l)] [(0, .i (roomV vs l n))] := by
  have hl := rank_len h
  have hvl := R.len
  have n4 := R.n4
  obtain ⟨code0, hcd1, hcd2⟩ := chk_spec_l25Value; refine callOk_of Try.func61 hcd1 mo Try.call61 (rs := [4]) (by kernel_rfl) hcd2 (by rw [Try.ntmps61]; simp) (by simp) (by decide) ?_; unfold C_spec_l25Value K_spec_l25Value; simp (config := { maxSteps := 2000000 }) only [go_sem, Nat.reduceBEq, Nat.reduceAdd, Nat.reduceMul, Nat.reduceMod, Nat.reduceLT, Nat.reduceDiv, Nat.reduceSub, Nat.reduceLeDiff, Int.reduceToNat, Int.reduceLT, Int.reduceLE, reduceCtorEq, List.take_nil, List.drop_nil]
  refine loopN n (fun j => [(0, .t .arg (.s n1 (rr vs))), (1, .t .arg (.s n2 (ii l))), (5, .i (roomV vs l j)), (8, .t .arg (.s n2 (ii l))), (9, .i l.length), (10, .i (j : Nat))]) (fun _ => True) ⟨trivial, by simp (config := { maxSteps := 2000000 }) only [go_sem, Nat.reduceBEq, Nat.reduceAdd, Nat.reduceMul, Nat.reduceMod, Nat.reduceLT, Nat.reduceDiv, Nat.reduceSub, Nat.reduceLeDiff, Int.reduceToNat, Int.reduceLT, Int.reduceLE, reduceCtorEq, List.take_nil, List.drop_nil]; simp [roomV]⟩ fun j hj _ => ?_
  simp (config := { maxSteps := 2000000 }) only [go_sem, Nat.reduceBEq, Nat.reduceAdd, Nat.reduceMul, Nat.reduceMod, Nat.reduceLT, Nat.reduceDiv, Nat.reduceSub, Nat.reduceLeDiff, Int.reduceToNat, Int.reduceLT, Int.reduceLE, reduceCtorEq, List.take_nil, List.drop_nil]
  have hb := roomV_bd R h hj
  refine ⟨fun hlt => ?_, fun hge => ?_⟩
  · have hj' : j < n := by omega
    have h2 := rank_bd h (i := j) (by omega)
    have h3 := R.bd j (l.getD j 0).toNat (by omega) (by omega)
    have h4 := R.row j hj'
    refine ⟨by omega, by omega, by omega, by omega, by omega, by omega, by omega, by omega, by omega, inR_of (by omega) (by omega), inR_of (by omega) (by omega), hj', rfl, by simp⟩
  · have : j = n := by omega
    subst this
    rfl
theorem impl_roomValue_ok {n1 n2 : Option Bool} (vs : List (List Int)) (l : List Int) (n : Nat) (R : Rent vs n) (h : rankB n l = true) : CallOk Try.prog 63 [.s n1 (rr vs), .s n2 (ii l)] [(0, .i (roomV vs l n))] := by
  have hl := rank_len h
  have hvl := R.len
  have n4 := R.n4
  obtain ⟨code0, hcd1, hcd2⟩ := chk_impl_roomValue; refine callOk_of Try.func63 hcd1 mo Try.call63 (rs := [4]) (by kernel_rfl) hcd2 (by rw [Try.ntmps63]; simp) (by simp) (by decide) ?_; unfold C_impl_roomValue K_impl_roomValue; simp (config := { maxSteps := 2000000 }) only [go_sem, Nat.reduceBEq, Nat.reduceAdd, Nat.reduceMul, Nat.reduceMod, Nat.reduceLT, Nat.reduceDiv, Nat.reduceSub, Nat.reduceLeDiff, Int.reduceToNat, Int.reduceLT, Int.reduceLE, reduceCtorEq, List.take_nil, List.drop_nil]
  refine loopN n (fun j => [(0, .t .arg (.s n1 (rr vs))), (1, .t .arg (.s n2 (ii l))), (5, .i (roomV vs l j)), (8, .t .arg (.s n2 (ii l))), (9, .i l.length), (10, .i (j : Nat))]) (fun _ => True) ⟨trivial, by simp (config := { maxSteps := 2000000 }) only [go_sem, Nat.reduceBEq, Nat.reduceAdd, Nat.reduceMul, Nat.reduceMod, Nat.reduceLT, Nat.reduceDiv, Nat.reduceSub, Nat.reduceLeDiff, Int.reduceToNat, Int.reduceLT, Int.reduceLE, reduceCtorEq, List.take_nil, List.drop_nil]; simp [roomV]⟩ fun j hj _ => ?_
  simp (config := { maxSteps := 2000000 }) only [go_sem, Nat.reduceBEq, Nat.reduceAdd, Nat.reduceMul, Nat.reduceMod, Nat.reduceLT, Nat.reduceDiv, Nat.reduceSub, Nat.reduceLeDiff, Int.reduceToNat, Int.reduceLT, Int.reduceLE, reduceCtorEq, List.take_nil, List.drop_nil]
  have hb := roomV_bd R h hj
  refine ⟨fun hlt => ?_, fun hge => ?_⟩
  · have hj' : j < n := by omega
    have h2 := rank_bd h (i := j) (by omega)
    have h3 := R.bd j (l.getD j 0).toNat (by omega) (by omega)
    have h4 := R.row j hj'
    refine ⟨by omega, by omega, by omega, by omega, by omega, by omega, by omega, by omega, by omega, inR_of (by omega) (by omega), inR_of (by omega) (by omega), hj', rfl, by simp⟩
  · have : j = n := by omega
    subst this
    rfl
def chB (vs : List (List Int)) (l : List Int) : Bool := rentB vs && rankB vs.length l
def roomValueF (vs : List (List Int)) (l : List Int) : Int := if chB vs l = true then roomV vs l vs.length else -1
theorem spec_l25Ok_ok {n1 n2 : Option Bool} (vs : List (List Int)) (l : List Int) (hl : vs.length ≤ 1048576) (hr : ∀ r ∈ vs, r.length ≤ 1048576) (hll : l.length ≤ 1048576) : CallOk Try.prog 60 [.s n1 (rr vs), .s n2 (ii l)] [(0, .b (chB vs l))] := by
  obtain ⟨code0, hcd1, hcd2⟩ := chk_spec_l25Ok; refine callOk_of Try.func60 hcd1 mo Try.call60 (rs := [4]) (by kernel_rfl) hcd2 (by rw [Try.ntmps60]; simp) (by simp) (by decide) ?_; unfold C_spec_l25Ok K_spec_l25Ok; simp (config := { maxSteps := 2000000 }) only [go_sem, Nat.reduceBEq, Nat.reduceAdd, Nat.reduceMul, Nat.reduceMod, Nat.reduceLT, Nat.reduceDiv, Nat.reduceSub, Nat.reduceLeDiff, Int.reduceToNat, Int.reduceLT, Int.reduceLE, reduceCtorEq, List.take_nil, List.drop_nil]
  refine ⟨_, spec_RentOk_ok vs hl hr, ?_⟩; simp (config := { maxSteps := 2000000 }) only [go_sem, Nat.reduceBEq, Nat.reduceAdd, Nat.reduceMul, Nat.reduceMod, Nat.reduceLT, Nat.reduceDiv, Nat.reduceSub, Nat.reduceLeDiff, Int.reduceToNat, Int.reduceLT, Int.reduceLE, reduceCtorEq, List.take_nil, List.drop_nil]
  refine ⟨fun h => ?_, fun h => by simp [chB, h]⟩
  refine ⟨_, spec_RankingOk_ok _ l hll, ?_⟩; simp (config := { maxSteps := 2000000 }) only [go_sem, Nat.reduceBEq, Nat.reduceAdd, Nat.reduceMul, Nat.reduceMod, Nat.reduceLT, Nat.reduceDiv, Nat.reduceSub, Nat.reduceLeDiff, Int.reduceToNat, Int.reduceLT, Int.reduceLE, reduceCtorEq, List.take_nil, List.drop_nil]
  simp [chB, h]
theorem ch_rent {vs : List (List Int)} {l : List Int} (h : chB vs l = true) : Rent vs vs.length ∧ rankB vs.length l = true := by
  simp only [chB, Bool.and_eq_true] at h; exact ⟨rent_of h.1, h.2⟩
theorem spec_RoomValue_ok {n1 n2 : Option Bool} (vs : List (List Int)) (l : List Int) (hl : vs.length ≤ 1048576) (hr : ∀ r ∈ vs, r.length ≤ 1048576) (hll : l.length ≤ 1048576) : CallOk Try.prog 23 [.s n1 (rr vs), .s n2 (ii l)] [(0, .i (roomValueF vs l))] := by
  obtain ⟨code0, hcd1, hcd2⟩ := chk_spec_RoomValue; refine callOk_of Try.func23 hcd1 mo Try.call23 (rs := [4]) (by kernel_rfl) hcd2 (by rw [Try.ntmps23]; simp) (by simp) (by decide) ?_; unfold C_spec_RoomValue K_spec_RoomValue; simp (config := { maxSteps := 2000000 }) only [go_sem, Nat.reduceBEq, Nat.reduceAdd, Nat.reduceMul, Nat.reduceMod, Nat.reduceLT, Nat.reduceDiv, Nat.reduceSub, Nat.reduceLeDiff, Int.reduceToNat, Int.reduceLT, Int.reduceLE, reduceCtorEq, List.take_nil, List.drop_nil]
  refine ⟨_, spec_l25Ok_ok vs l hl hr hll, ?_⟩; simp (config := { maxSteps := 2000000 }) only [go_sem, Nat.reduceBEq, Nat.reduceAdd, Nat.reduceMul, Nat.reduceMod, Nat.reduceLT, Nat.reduceDiv, Nat.reduceSub, Nat.reduceLeDiff, Int.reduceToNat, Int.reduceLT, Int.reduceLE, reduceCtorEq, List.take_nil, List.drop_nil]
  refine ⟨fun h => by simp [roomValueF, h], fun h => ?_⟩
  refine ⟨_, spec_l25Value_ok vs l vs.length (ch_rent h).1 (ch_rent h).2, ?_⟩; simp (config := { maxSteps := 2000000 }) only [go_sem, Nat.reduceBEq, Nat.reduceAdd, Nat.reduceMul, Nat.reduceMod, Nat.reduceLT, Nat.reduceDiv, Nat.reduceSub, Nat.reduceLeDiff, Int.reduceToNat, Int.reduceLT, Int.reduceLE, reduceCtorEq, List.take_nil, List.drop_nil]
  simp [roomValueF, h]
theorem impl_RoomValue_ok {n1 n2 : Option Bool} (vs : List (List Int)) (l : List Int) (hl : vs.length ≤ 1048576) (hr : ∀ r ∈ vs, r.length ≤ 1048576) (hll : l.length ≤ 1048576) : CallOk Try.prog 25 [.s n1 (rr vs), .s n2 (ii l)] [(0, .i (roomValueF vs l))] := by
  obtain ⟨code0, hcd1, hcd2⟩ := chk_impl_RoomValue; refine callOk_of Try.func25 hcd1 mo Try.call25 (rs := [4]) (by kernel_rfl) hcd2 (by rw [Try.ntmps25]; simp) (by simp) (by decide) ?_; unfold C_impl_RoomValue K_impl_RoomValue; simp (config := { maxSteps := 2000000 }) only [go_sem, Nat.reduceBEq, Nat.reduceAdd, Nat.reduceMul, Nat.reduceMod, Nat.reduceLT, Nat.reduceDiv, Nat.reduceSub, Nat.reduceLeDiff, Int.reduceToNat, Int.reduceLT, Int.reduceLE, reduceCtorEq, List.take_nil, List.drop_nil]
  refine ⟨_, impl_RentOk_ok vs hl hr, ?_⟩; simp (config := { maxSteps := 2000000 }) only [go_sem, Nat.reduceBEq, Nat.reduceAdd, Nat.reduceMul, Nat.reduceMod, Nat.reduceLT, Nat.reduceDiv, Nat.reduceSub, Nat.reduceLeDiff, Int.reduceToNat, Int.reduceLT, Int.reduceLE, reduceCtorEq, List.take_nil, List.drop_nil]
  refine ⟨fun h0 => ?_, fun h0 => by simp [roomValueF, chB, h0]⟩
  refine ⟨_, impl_RankingOk_ok _ l hll, ?_⟩; simp (config := { maxSteps := 2000000 }) only [go_sem, Nat.reduceBEq, Nat.reduceAdd, Nat.reduceMul, Nat.reduceMod, Nat.reduceLT, Nat.reduceDiv, Nat.reduceSub, Nat.reduceLeDiff, Int.reduceToNat, Int.reduceLT, Int.reduceLE, reduceCtorEq, List.take_nil, List.drop_nil]
  refine ⟨fun h1 => by simp [roomValueF, chB, h1], fun h1 => ?_⟩
  have h : chB vs l = true := by simp [chB, h0, h1]
  refine ⟨_, impl_roomValue_ok vs l vs.length (ch_rent h).1 (ch_rent h).2, ?_⟩; simp (config := { maxSteps := 2000000 }) only [go_sem, Nat.reduceBEq, Nat.reduceAdd, Nat.reduceMul, Nat.reduceMod, Nat.reduceLT, Nat.reduceDiv, Nat.reduceSub, Nat.reduceLeDiff, Int.reduceToNat, Int.reduceLT, Int.reduceLE, reduceCtorEq, List.take_nil, List.drop_nil]
  simp [roomValueF, h]

end Go.Proofs.Ytkkhikpbnjbalaa
