/- Own work: contracts of functions that the claim reaches. No condition beyond those that each theorem names. -/
import Derived.Test.YtelblnfnfeoapaaProg
import Derived.Test.YtelblnfnfeoapaaLaws
namespace Go.Proofs.Ytelblnfnfeoapaa
open Go Go.Vc
set_option maxRecDepth 100000
set_option linter.unusedSimpArgs false
set_option linter.unusedVariables false
def K_spec_ValuesOk : List Nat := [0, 2, 4, 6, 19, 20, 21, 32, 33, 34]
def C_spec_ValuesOk : C :=
  let ks := K_spec_ValuesOk
  (.seq
    (.rg 0 [(none, .v 2 .mv [.k (.b false)])])
    (.cl ks (.seq
      (.seq
        (.rg 0 [(none, .v 7 .mv [.s 0]), (none, .v 8 .len [.s 7]), (none, .co 9 33 [.s 8, .k (.i 1), .k (.i 3)]), (none, .v 10 .not [.s 9]), (none, .v 11 .mv [.s 10]), (some (11, false), .v 12 .mv [.s 0]), (some (11, false), .v 13 .idx [.s 12, .k (.i 0)]), (some (11, false), .v 14 .ld [.s 13]), (some (11, false), .v 15 .len [.s 14]), (some (11, false), .co 16 33 [.s 15, .k (.i 1), .k (.i 6)]), (some (11, false), .v 17 .not [.s 16]), (none, .v 18 .pick [.s 11, .k (.b true), .s 17])])
        (.cond (.s 18)
          (.seq
            (.rg 0 [(none, .v 2 .mv [.k (.b false)])])
            .ret)
          .skip))
      (.cl ks (.seq
        (.seq
          (.rg 0 [(none, .v 19 .mv [.s 0]), (none, .v 20 .len [.s 19]), (none, .v 21 .mv [.k (.i 0)])])
          (.cl ks (.block 0
            (.loop
              (.seq
                (.rg 0 [(none, .v 22 (.bin .lss) [.s 21, .s 20])])
                (.seq
                  (.cond (.s 22)
                    .skip
                    (.exit 0))
                  (.cl ks (.seq
                    (.block 1
                      (.seq
                        (.rg 0 [(none, .v 23 .idx [.s 19, .s 21]), (none, .v 24 .ld [.s 23]), (none, .tk 4 24)])
                        (.cl ks (.seq
                          (.seq
                            (.rg 0 [(none, .v 25 .mv [.s 4]), (none, .v 26 .len [.s 25]), (none, .v 27 .mv [.s 0]), (none, .v 28 .idx [.s 27, .k (.i 0)]), (none, .v 29 .ld [.s 28]), (none, .v 30 .len [.s 29]), (none, .v 31 (.bin .neq) [.s 26, .s 30])])
                            (.cond (.s 31)
                              (.seq
                                (.rg 0 [(none, .v 2 .mv [.k (.b false)])])
                                .ret)
                              .skip))
                          (.cl ks (.seq
                            (.rg 0 [(none, .v 32 .mv [.s 4]), (none, .v 33 .len [.s 32]), (none, .v 34 .mv [.k (.i 0)])])
                            (.cl ks (.block 2
                              (.loop
                                (.seq
                                  (.rg 0 [(none, .v 35 (.bin .lss) [.s 34, .s 33])])
                                  (.seq
                                    (.cond (.s 35)
                                      .skip
                                      (.exit 2))
                                    (.cl ks (.seq
                                      (.block 3
                                        (.seq
                                          (.rg 0 [(none, .v 36 .idx [.s 32, .s 34]), (none, .v 37 .ld [.s 36]), (none, .tk 6 37)])
                                          (.cl ks (.seq
                                            (.rg 0 [(none, .v 38 .mv [.s 6]), (none, .co 39 33 [.s 38, .k (.i 0), .k (.i 100)]), (none, .v 40 .not [.s 39])])
                                            (.cond (.s 40)
                                              (.seq
                                                (.rg 0 [(none, .v 2 .mv [.k (.b false)])])
                                                .ret)
                                              .skip)))))
                                      (.cl ks (.rg 0 [(none, .v 41 (.bin .add) [.s 34, .k (.i 1)]), (none, .v 34 .mv [.s 41])])))))))))))))))
                    (.cl ks (.rg 0 [(none, .v 42 (.bin .add) [.s 21, .k (.i 1)]), (none, .v 21 .mv [.s 42])]))))))))))
        (.cl ks (.seq
          (.rg 0 [(none, .v 2 .mv [.k (.b true)])])
          .ret)))))))

theorem chk_spec_ValuesOk : ∃ b, Try.f37.body = some b ∧ chk Try.prog Try.f37.ntmps true C_spec_ValuesOk b = true := ⟨_, rfl, by kernel_rfl⟩
def K_impl_ValuesOk : List Nat := [0, 2]
def C_impl_ValuesOk : C :=
  let ks := K_impl_ValuesOk
  (.seq
    (.rg 0 [(none, .v 2 .mv [.k (.b false)])])
    (.cl ks (.seq
      (.rg 0 [(none, .v 3 .mv [.s 0]), (none, .co 4 61 [.s 3, .k (.i 3), .k (.i 6), .k (.i 100)]), (none, .tk 2 4)])
      .ret)))

theorem chk_impl_ValuesOk : ∃ b, Try.f41.body = some b ∧ chk Try.prog Try.f41.ntmps true C_impl_ValuesOk b = true := ⟨_, rfl, by kernel_rfl⟩
theorem impl_ValuesOk_ok {nl : Option Bool} (xs : List (List Int)) (hl : xs.length ≤ 1048576) (hr : ∀ r ∈ xs, r.length ≤ 1048576) : CallOk Try.prog 41 [.s nl (rr xs)] [(0, .b (rectB xs 3 6 100))] := by
  obtain ⟨code0, hcd1, hcd2⟩ := chk_impl_ValuesOk; refine callOk_of Try.func41 hcd1 mo Try.call41 (rs := [2]) (by kernel_rfl) hcd2 (by rw [Try.ntmps41]; simp) (by simp) (by decide) ?_; unfold C_impl_ValuesOk K_impl_ValuesOk; simp (config := { maxSteps := 2000000 }) only [go_sem, Nat.reduceBEq, Nat.reduceAdd, Nat.reduceMul, Nat.reduceMod, Nat.reduceLT, Nat.reduceDiv, Nat.reduceSub, Nat.reduceLeDiff, Int.reduceToNat, Int.reduceLT, Int.reduceLE, reduceCtorEq, List.take_nil, List.drop_nil]
  refine ⟨_, rectangle_ok xs 3 6 100 hl hr, ?_⟩; simp (config := { maxSteps := 2000000 }) only [go_sem, Nat.reduceBEq, Nat.reduceAdd, Nat.reduceMul, Nat.reduceMod, Nat.reduceLT, Nat.reduceDiv, Nat.reduceSub, Nat.reduceLeDiff, Int.reduceToNat, Int.reduceLT, Int.reduceLE, reduceCtorEq, List.take_nil, List.drop_nil]
theorem spec_ValuesOk_ok {nl : Option Bool} (xs : List (List Int)) (hl : xs.length ≤ 1048576) (hr : ∀ r ∈ xs, r.length ≤ 1048576) : CallOk Try.prog 37 [.s nl (rr xs)] [(0, .b (rectB xs 3 6 100))] := by
  obtain ⟨code0, hcd1, hcd2⟩ := chk_spec_ValuesOk; refine callOk_of Try.func37 hcd1 mo Try.call37 (rs := [2]) (by kernel_rfl) hcd2 (by rw [Try.ntmps37]; simp) (by simp) (by decide) ?_; unfold C_spec_ValuesOk K_spec_ValuesOk; simp (config := { maxSteps := 2000000 }) only [go_sem, Nat.reduceBEq, Nat.reduceAdd, Nat.reduceMul, Nat.reduceMod, Nat.reduceLT, Nat.reduceDiv, Nat.reduceSub, Nat.reduceLeDiff, Int.reduceToNat, Int.reduceLT, Int.reduceLE, reduceCtorEq, List.take_nil, List.drop_nil]
  refine ⟨_, l01In_ok _ _ _, ?_⟩; simp (config := { maxSteps := 2000000 }) only [go_sem, Nat.reduceBEq, Nat.reduceAdd, Nat.reduceMul, Nat.reduceMod, Nat.reduceLT, Nat.reduceDiv, Nat.reduceSub, Nat.reduceLeDiff, Int.reduceToNat, Int.reduceLT, Int.reduceLE, reduceCtorEq, List.take_nil, List.drop_nil]
  refine ⟨fun h => ?_, fun h => ?_⟩
  case refine_2 => simp [-List.getD_eq_getElem?_getD, rectB, h]
  have h0 : 0 < xs.length := by simp only [inI, Bool.and_eq_true, decide_eq_true_eq] at h; omega
  refine ⟨h0, h0, ?_⟩
  refine ⟨_, l01In_ok _ _ _, ?_⟩; simp (config := { maxSteps := 2000000 }) only [go_sem, Nat.reduceBEq, Nat.reduceAdd, Nat.reduceMul, Nat.reduceMod, Nat.reduceLT, Nat.reduceDiv, Nat.reduceSub, Nat.reduceLeDiff, Int.reduceToNat, Int.reduceLT, Int.reduceLE, reduceCtorEq, List.take_nil, List.drop_nil]
  refine ⟨fun h1 => ?_, fun h1 => ?_⟩
  case refine_1 => simp [-List.getD_eq_getElem?_getD, rectB, h, h1]
  have key : rectB xs 3 6 100 = xs.all fun r => decide (r.length = (xs.getD 0 []).length) && r.all fun n => inI n 0 100 := by simp only [rectB, h, h1, Bool.true_and]
  rw [key]
  refine loopN xs.length (fun j => [(0, .t .arg (.s nl (rr xs))), (19, .t .arg (.s nl (rr xs))), (20, .i xs.length), (21, .i (j : Nat))])
    (fun j => ∀ i, i < j → (decide ((xs.getD i []).length = (xs.getD 0 []).length) && (xs.getD i []).all fun n => inI n 0 100) = true) ⟨by simp, by simp (config := { maxSteps := 2000000 }) only [go_sem, Nat.reduceBEq, Nat.reduceAdd, Nat.reduceMul, Nat.reduceMod, Nat.reduceLT, Nat.reduceDiv, Nat.reduceSub, Nat.reduceLeDiff, Int.reduceToNat, Int.reduceLT, Int.reduceLE, reduceCtorEq, List.take_nil, List.drop_nil]; simp⟩ fun j hj hI => ?_
  simp (config := { maxSteps := 2000000 }) only [go_sem, Nat.reduceBEq, Nat.reduceAdd, Nat.reduceMul, Nat.reduceMod, Nat.reduceLT, Nat.reduceDiv, Nat.reduceSub, Nat.reduceLeDiff, Int.reduceToNat, Int.reduceLT, Int.reduceLE, reduceCtorEq, List.take_nil, List.drop_nil]
  refine ⟨fun hlt => ?_, fun hge => ?_⟩
  case refine_2 =>
    have : j = xs.length := by omega
    subst this
    exact (all_of_getD [] hI).symm
  have hj' : j < xs.length := by omega
  refine ⟨by omega, by omega, by omega, h0, h0, fun hn => ?_, fun hn => ?_⟩
  · exact (not_all_getD [] hj' (by simp [-List.getD_eq_getElem?_getD, hn])).symm
  refine loopN (xs.getD j []).length (fun k => [(0, .t .arg (.s nl (rr xs))), (19, .t .arg (.s nl (rr xs))), (20, .i xs.length), (21, .i (j : Nat)), (32, .t .arg (.s none (ii (xs.getD j [])))), (33, .i (xs.getD j []).length), (34, .i (k : Nat))])
    (fun k => ∀ i, i < k → inI ((xs.getD j []).getD i 0) 0 100 = true) ⟨by simp, by simp (config := { maxSteps := 2000000 }) only [go_sem, Nat.reduceBEq, Nat.reduceAdd, Nat.reduceMul, Nat.reduceMod, Nat.reduceLT, Nat.reduceDiv, Nat.reduceSub, Nat.reduceLeDiff, Int.reduceToNat, Int.reduceLT, Int.reduceLE, reduceCtorEq, List.take_nil, List.drop_nil]; simp⟩ fun k hk hK => ?_
  simp (config := { maxSteps := 2000000 }) only [go_sem, Nat.reduceBEq, Nat.reduceAdd, Nat.reduceMul, Nat.reduceMod, Nat.reduceLT, Nat.reduceDiv, Nat.reduceSub, Nat.reduceLeDiff, Int.reduceToNat, Int.reduceLT, Int.reduceLE, reduceCtorEq, List.take_nil, List.drop_nil]
  have hjl := hr _ (getD_mem (d := []) hj')
  refine ⟨fun hlt => ?_, fun hge => ?_⟩
  · have hk' : k < (xs.getD j []).length := by omega
    refine ⟨by omega, by omega, by omega, ?_⟩
    refine ⟨_, l01In_ok _ _ _, ?_⟩; simp (config := { maxSteps := 2000000 }) only [go_sem, Nat.reduceBEq, Nat.reduceAdd, Nat.reduceMul, Nat.reduceMod, Nat.reduceLT, Nat.reduceDiv, Nat.reduceSub, Nat.reduceLeDiff, Int.reduceToNat, Int.reduceLT, Int.reduceLE, reduceCtorEq, List.take_nil, List.drop_nil]
    refine ⟨fun h2 => ?_, fun h2 => ?_⟩
    · refine (not_all_getD [] hj' ?_).symm
      rw [not_all_getD 0 hk' h2]; simp
    · refine ⟨inR_of (by omega) (by omega), hk', fun i hi => ?_, by simp⟩
      by_cases e : i = k
      · rw [e]; exact h2
      · exact hK i (by omega)
  · have : k = (xs.getD j []).length := by omega
    subst this
    refine ⟨inR_of (by omega) (by omega), hj', fun i hi => ?_, by simp⟩
    by_cases e : i = j
    · subst e; rw [all_of_getD 0 hK]; simp [-List.getD_eq_getElem?_getD, hn]
    · exact hI i (by omega)
/- spec_AllocationOk: not in this cut -/
/- impl_AllocationOk: not in this cut -/
def K_spec_l23Worth : List Nat := [0, 1, 2, 3, 8, 9, 10, 11, 12, 13, 14]
def C_spec_l23Worth : C :=
  let ks := K_spec_l23Worth
  (.seq
    (.rg 0 [(none, .v 8 .mv [.k (.i 0)])])
    (.cl ks (.seq
      (.rg 0 [(none, .v 9 .mv [.k (.i 0)])])
      (.cl ks (.seq
        (.seq
          (.rg 0 [(none, .v 12 .mv [.s 1]), (none, .v 13 .len [.s 12]), (none, .v 14 .mv [.k (.i 0)])])
          (.cl ks (.block 0
            (.loop
              (.seq
                (.rg 0 [(none, .v 15 (.bin .lss) [.s 14, .s 13])])
                (.seq
                  (.cond (.s 15)
                    .skip
                    (.exit 0))
                  (.cl ks (.seq
                    (.block 1
                      (.seq
                        (.rg 0 [(none, .v 16 .mv [.s 14]), (none, .v 17 .idx [.s 12, .s 14]), (none, .v 18 .ld [.s 17]), (none, .tk 10 16), (none, .tk 11 18)])
                        (.cl ks (.seq
                          (.rg 0 [(none, .v 19 .mv [.s 11]), (none, .v 20 .mv [.s 3]), (none, .v 21 (.bin .eql) [.s 19, .s 20])])
                          (.cond (.s 21)
                            (.rg 0 [(none, .v 22 .mv [.s 9]), (none, .v 23 .mv [.s 0]), (none, .v 24 .mv [.s 2]), (none, .v 25 .idx [.s 23, .s 24]), (none, .v 26 .ld [.s 25]), (none, .v 27 .mv [.s 10]), (none, .v 28 .idx [.s 26, .s 27]), (none, .v 29 .ld [.s 28]), (none, .v 30 (.bin .add) [.s 22, .s 29]), (none, .tk 9 30)])
                            .skip)))))
                    (.cl ks (.rg 0 [(none, .v 31 (.bin .add) [.s 14, .k (.i 1)]), (none, .v 14 .mv [.s 31])]))))))))))
        (.cl ks (.seq
          (.rg 0 [(none, .v 32 .mv [.s 9]), (none, .tk 8 32)])
          .ret)))))))

theorem chk_spec_l23Worth : ∃ b, Try.f92.body = some b ∧ chk Try.prog Try.f92.ntmps true C_spec_l23Worth b = true := ⟨_, rfl, by kernel_rfl⟩
def K_impl_worth : List Nat := [0, 1, 2, 3, 8, 9, 10, 11, 12, 13, 14]
def C_impl_worth : C :=
  let ks := K_impl_worth
  (.seq
    (.rg 0 [(none, .v 8 .mv [.k (.i 0)])])
    (.cl ks (.seq
      (.rg 0 [(none, .v 9 .mv [.k (.i 0)])])
      (.cl ks (.seq
        (.seq
          (.rg 0 [(none, .v 12 .mv [.s 1]), (none, .v 13 .len [.s 12]), (none, .v 14 .mv [.k (.i 0)])])
          (.cl ks (.block 0
            (.loop
              (.seq
                (.rg 0 [(none, .v 15 (.bin .lss) [.s 14, .s 13])])
                (.seq
                  (.cond (.s 15)
                    .skip
                    (.exit 0))
                  (.cl ks (.seq
                    (.block 1
                      (.seq
                        (.rg 0 [(none, .v 16 .mv [.s 14]), (none, .v 17 .idx [.s 12, .s 14]), (none, .v 18 .ld [.s 17]), (none, .tk 10 16), (none, .tk 11 18)])
                        (.cl ks (.seq
                          (.rg 0 [(none, .v 19 .mv [.s 11]), (none, .v 20 .mv [.s 3]), (none, .v 21 (.bin .eql) [.s 19, .s 20])])
                          (.cond (.s 21)
                            (.rg 0 [(none, .v 22 .mv [.s 9]), (none, .v 23 .mv [.s 0]), (none, .v 24 .mv [.s 2]), (none, .v 25 .idx [.s 23, .s 24]), (none, .v 26 .ld [.s 25]), (none, .v 27 .mv [.s 10]), (none, .v 28 .idx [.s 26, .s 27]), (none, .v 29 .ld [.s 28]), (none, .v 30 (.bin .add) [.s 22, .s 29]), (none, .tk 9 30)])
                            .skip)))))
                    (.cl ks (.rg 0 [(none, .v 31 (.bin .add) [.s 14, .k (.i 1)]), (none, .v 14 .mv [.s 31])]))))))))))
        (.cl ks (.seq
          (.rg 0 [(none, .v 32 .mv [.s 9]), (none, .tk 8 32)])
          .ret)))))))

theorem chk_impl_worth : ∃ b, Try.f96.body = some b ∧ chk Try.prog Try.f96.ntmps true C_impl_worth b = true := ⟨_, rfl, by kernel_rfl⟩
/- spec_WorthOf: not in this cut -/
/- impl_WorthOf: not in this cut -/
/-- The values are valid: m goods. -/
structure Vals (vs : List (List Int)) (m : Nat) : Prop where
  n1 : 1 ≤ vs.length
  n3 : vs.length ≤ 3
  len : ∀ i, i < vs.length → (vs.getD i []).length = m
  bd : ∀ i g, i < vs.length → g < m → 0 ≤ (vs.getD i []).getD g 0 ∧ (vs.getD i []).getD g 0 ≤ 100
  m1 : 1 ≤ m
  m6 : m ≤ 6
theorem vals_of {vs : List (List Int)} (h : rectB vs 3 6 100 = true) : Vals vs (vs.getD 0 []).length := by
  simp only [rectB, Bool.and_eq_true, inI, decide_eq_true_eq, List.all_eq_true] at h
  obtain ⟨⟨h1, h2⟩, h3⟩ := h
  exact ⟨by omega, by omega, fun i hi => (h3 _ (getD_mem hi)).1, fun i g hi hg => (h3 _ (getD_mem hi)).2 _ (getD_mem (by rw [(h3 _ (getD_mem hi)).1]; exact hg)), by omega, by omega⟩
def allocB (vs : List (List Int)) (l : List Int) : Bool := rectB vs 3 6 100 && decide (l.length = (vs.getD 0 []).length) && l.all fun x => inI x (-1) (vs.length - 1)
theorem alloc_vals {vs : List (List Int)} {l : List Int} (h : allocB vs l = true) : Vals vs l.length := by
  simp only [allocB, Bool.and_eq_true, decide_eq_true_eq] at h
  rw [h.1.2]; exact vals_of h.1.1
theorem alloc_own {vs : List (List Int)} {l : List Int} (h : allocB vs l = true) : ∀ x ∈ l, -1 ≤ x ∧ x ≤ vs.length - 1 := by
  simp only [allocB, Bool.and_eq_true, List.all_eq_true, inI, decide_eq_true_eq] at h
  exact fun x hx => h.2 x hx
/-- The worth of the first g goods of k's. -/
def worthL (r : List Int) (l : List Int) (k : Int) : Nat → Int
  | 0 => 0
  | g + 1 => worthL r l k g + if l.getD g 0 = k then r.getD g 0 else 0
/-- What person i gives for the goods of person k. -/
def wo (vs : List (List Int)) (l : List Int) (i : Nat) (k : Int) : Int := worthL (vs.getD i []) l k l.length
theorem worthL_bd {vs : List (List Int)} {l : List Int} {i : Nat} {k : Int} (V : Vals vs l.length) (hi : i < vs.length) : ∀ {g : Nat}, g ≤ l.length → 0 ≤ worthL (vs.getD i []) l k g ∧ worthL (vs.getD i []) l k g ≤ 100 * g
  | 0, _ => by simp [worthL]
  | g + 1, h => by
    have := worthL_bd V hi (k := k) (g := g) (by omega)
    have hx := V.bd i g hi (by omega)
    simp only [worthL]; split <;> omega
theorem wo_bd {vs : List (List Int)} {l : List Int} {i : Nat} {k : Int} (V : Vals vs l.length) (hi : i < vs.length) : 0 ≤ wo vs l i k ∧ wo vs l i k ≤ 600 := by
  have := worthL_bd V hi (k := k) (Nat.le_refl l.length)
  have := V.m6
  unfold wo; omega
theorem spec_l23Worth_ok {n1 n2 : Option Bool} (vs : List (List Int)) (l : List Int) (V : Vals vs l.length) (i : Nat) (k : Int) (hi : i < vs.length) :
    CallOk Try.prog 92 [.s n1 (rr vs), .s n2 (ii l), .i i, .i k] [(0, .i (wo vs l i k))] := by
  have m6 := V.m6
  obtain ⟨code0, hcd1, hcd2⟩ := chk_spec_l23Worth; refine callOk_of Try.func92 hcd1 mo Try.call92 (rs := [8]) (by kernel_rfl) hcd2 (by rw [Try.ntmps92]; simp) (by simp) (by decide) ?_; unfold C_spec_l23Worth K_spec_l23Worth; simp (config := { maxSteps := 2000000 }) only [go_sem, Nat.reduceBEq, Nat.reduceAdd, Nat.reduceMul, Nat.reduceMod, Nat.reduceLT, Nat.reduceDiv, Nat.reduceSub, Nat.reduceLeDiff, Int.reduceToNat, Int.reduceLT, Int.reduceLE, reduceCtorEq, List.take_nil, List.drop_nil]
  refine loopN l.length (fun j => [(0, .t .arg (.s n1 (rr vs))), (1, .t .arg (.s n2 (ii l))), (2, .i i), (3, .i k), (9, .i (worthL (vs.getD i []) l k j)), (12, .t .arg (.s n2 (ii l))), (13, .i l.length), (14, .i (j : Nat))]) (fun _ => True)
    ⟨trivial, by simp (config := { maxSteps := 2000000 }) only [go_sem, Nat.reduceBEq, Nat.reduceAdd, Nat.reduceMul, Nat.reduceMod, Nat.reduceLT, Nat.reduceDiv, Nat.reduceSub, Nat.reduceLeDiff, Int.reduceToNat, Int.reduceLT, Int.reduceLE, reduceCtorEq, List.take_nil, List.drop_nil]; simp [worthL]⟩ fun j hj _ => ?_
  simp (config := { maxSteps := 2000000 }) only [go_sem, Nat.reduceBEq, Nat.reduceAdd, Nat.reduceMul, Nat.reduceMod, Nat.reduceLT, Nat.reduceDiv, Nat.reduceSub, Nat.reduceLeDiff, Int.reduceToNat, Int.reduceLT, Int.reduceLE, reduceCtorEq, List.take_nil, List.drop_nil]
  have hw := worthL_bd V hi (k := k) hj
  refine ⟨fun hlt => ?_, fun hge => ?_⟩
  · have hj' : j < l.length := by omega
    have hx := V.bd i j hi hj'
    have hrl := V.len i hi
    refine ⟨by omega, by omega, by omega, fun he => ?_, fun he => ?_⟩
    · refine ⟨by omega, by omega, by omega, by omega, by omega, by omega, inR_of (by omega) (by omega), inR_of (by omega) (by omega), hj', ?_, by simp⟩
      simp only [worthL, if_pos he]
    · refine ⟨inR_of (by omega) (by omega), hj', ?_, by simp⟩
      simp only [worthL, if_neg he, Int.add_zero]
  · have : j = l.length := by omega
    subst this
    rfl
theorem impl_worth_ok {n1 n2 : Option Bool} (vs : List (List Int)) (l : List Int) (V : Vals vs l.length) (i : Nat) (k : Int) (hi : i < vs.length) :
    CallOk Try.prog 96 [.s n1 (rr vs), .s n2 (ii l), .i i, .i k] [(0, .i (wo vs l i k))] := by
  have m6 := V.m6
  obtain ⟨code0, hcd1, hcd2⟩ := chk_impl_worth; refine callOk_of Try.func96 hcd1 mo Try.call96 (rs := [8]) (by kernel_rfl) hcd2 (by rw [Try.ntmps96]; simp) (by simp) (by decide) ?_; unfold C_impl_worth K_impl_worth; simp (config := { maxSteps := 2000000 }) only [go_sem, Nat.reduceBEq, Nat.reduceAdd, Nat.reduceMul, Nat.reduceMod, Nat.reduceLT, Nat.reduceDiv, Nat.reduceSub, Nat.reduceLeDiff, Int.reduceToNat, Int.reduceLT, Int.reduceLE, reduceCtorEq, List.take_nil, List.drop_nil]
  refine loopN l.length (fun j => [(0, .t .arg (.s n1 (rr vs))), (1, .t .arg (.s n2 (ii l))), (2, .i i), (3, .i k), (9, .i (worthL (vs.getD i []) l k j)), (12, .t .arg (.s n2 (ii l))), (13, .i l.length), (14, .i (j : Nat))]) (fun _ => True)
    ⟨trivial, by simp (config := { maxSteps := 2000000 }) only [go_sem, Nat.reduceBEq, Nat.reduceAdd, Nat.reduceMul, Nat.reduceMod, Nat.reduceLT, Nat.reduceDiv, Nat.reduceSub, Nat.reduceLeDiff, Int.reduceToNat, Int.reduceLT, Int.reduceLE, reduceCtorEq, List.take_nil, List.drop_nil]; simp [worthL]⟩ fun j hj _ => ?_
  simp (config := { maxSteps := 2000000 }) only [go_sem, Nat.reduceBEq, Nat.reduceAdd, Nat.reduceMul, Nat.reduceMod, Nat.reduceLT, Nat.reduceDiv, Nat.reduceSub, Nat.reduceLeDiff, Int.reduceToNat, Int.reduceLT, Int.reduceLE, reduceCtorEq, List.take_nil, List.drop_nil]
  have hw := worthL_bd V hi (k := k) hj
  refine ⟨fun hlt => ?_, fun hge => ?_⟩
  · have hj' : j < l.length := by omega
    have hx := V.bd i j hi hj'
    have hrl := V.len i hi
    refine ⟨by omega, by omega, by omega, fun he => ?_, fun he => ?_⟩
    · refine ⟨by omega, by omega, by omega, by omega, by omega, by omega, inR_of (by omega) (by omega), inR_of (by omega) (by omega), hj', ?_, by simp⟩
      simp only [worthL, if_pos he]
    · refine ⟨inR_of (by omega) (by omega), hj', ?_, by simp⟩
      simp only [worthL, if_neg he, Int.add_zero]
  · have : j = l.length := by omega
    subst this
    rfl
/-- What WorthOf returns. -/
def worthOfF (vs : List (List Int)) (l : List Int) (i k : Int) : Int := if (allocB vs l && inI i 0 (vs.length - 1) && inI k 0 (vs.length - 1)) = true then wo vs l i.toNat k else -1
/- spec_l24Nearly: not in this cut -/
/- impl_isNearlyFree: not in this cut -/
/- spec_IsNearlyFree: not in this cut -/
/- impl_IsNearlyFree: not in this cut -/
def nearAt (vs : List (List Int)) (l : List Int) (i g : Nat) : Bool := !(decide (0 ≤ l.getD g 0) && decide (l.getD g 0 ≠ i) && decide (wo vs l i i < wo vs l i (l.getD g 0) - (vs.getD i []).getD g 0))
def nearB (vs : List (List Int)) (l : List Int) : Bool := (List.range vs.length).all fun i => (List.range l.length).all fun g => nearAt vs l i g
/- spec_l24Least: not in this cut -/
/- impl_leastPart: not in this cut -/
/- spec_LeastPart: not in this cut -/
/- impl_LeastPart: not in this cut -/
/-- The least of the first j own worths. -/
def leastN (vs : List (List Int)) (l : List Int) : Nat → Int
  | 0 => wo vs l 0 0
  | j + 1 => min (leastN vs l j) (wo vs l j j)
theorem leastN_bd {vs : List (List Int)} {l : List Int} (V : Vals vs l.length) : ∀ {j : Nat}, j ≤ vs.length → 0 ≤ leastN vs l j ∧ leastN vs l j ≤ 600
  | 0, _ => wo_bd V (by have := V.n1; omega)
  | j + 1, h => by
    have h1 := leastN_bd V (j := j) (by omega)
    have h2 := wo_bd (k := (j : Int)) V (show j < vs.length by omega)
    simp only [leastN]; omega
def leastPartF (vs : List (List Int)) (l : List Int) : Int := if allocB vs l = true then leastN vs l vs.length else -1
def K_spec_l23Envy : List Nat := [0, 1, 2, 3, 8]
def C_spec_l23Envy : C :=
  let ks := K_spec_l23Envy
  (.seq
    (.rg 0 [(none, .v 8 .mv [.k (.i 0)])])
    (.cl ks (.seq
      (.rg 0 [(none, .v 9 .mv [.s 0]), (none, .v 10 .mv [.s 1]), (none, .v 11 .mv [.s 2]), (none, .v 12 .mv [.s 3]), (none, .co 13 92 [.s 9, .s 10, .s 11, .s 12]), (none, .v 14 .mv [.s 0]), (none, .v 15 .mv [.s 1]), (none, .v 16 .mv [.s 2]), (none, .v 17 .mv [.s 2]), (none, .co 18 92 [.s 14, .s 15, .s 16, .s 17]), (none, .v 19 (.bin .sub) [.s 13, .s 18]), (none, .v 20 .mx [.k (.i 0), .s 19]), (none, .tk 8 20)])
      .ret)))

theorem chk_spec_l23Envy : ∃ b, Try.f58.body = some b ∧ chk Try.prog Try.f58.ntmps true C_spec_l23Envy b = true := ⟨_, rfl, by kernel_rfl⟩
/- spec_l23Free: not in this cut -/
def K_impl_envies : List Nat := [0, 1, 2, 3, 8]
def C_impl_envies : C :=
  let ks := K_impl_envies
  (.seq
    (.rg 0 [(none, .v 8 .mv [.k (.b false)])])
    (.cl ks (.seq
      (.rg 0 [(none, .v 9 .mv [.s 0]), (none, .v 10 .mv [.s 1]), (none, .v 11 .mv [.s 2]), (none, .v 12 .mv [.s 3]), (none, .co 13 96 [.s 9, .s 10, .s 11, .s 12]), (none, .v 14 .mv [.s 0]), (none, .v 15 .mv [.s 1]), (none, .v 16 .mv [.s 2]), (none, .v 17 .mv [.s 2]), (none, .co 18 96 [.s 14, .s 15, .s 16, .s 17]), (none, .v 19 (.bin .gtr) [.s 13, .s 18]), (none, .tk 8 19)])
      .ret)))

theorem chk_impl_envies : ∃ b, Try.f68.body = some b ∧ chk Try.prog Try.f68.ntmps true C_impl_envies b = true := ⟨_, rfl, by kernel_rfl⟩
/- impl_isFree: not in this cut -/
/- spec_IsEnvyFree: not in this cut -/
/- impl_IsEnvyFree: not in this cut -/
/-- How much more. -/
def envy (vs : List (List Int)) (l : List Int) (i k : Nat) : Int := max 0 (wo vs l i k - wo vs l i i)
def freeB (vs : List (List Int)) (l : List Int) : Bool := (List.range vs.length).all fun i => (List.range vs.length).all fun k => decide (wo vs l i k ≤ wo vs l i i)
theorem envy_bd {vs : List (List Int)} {l : List Int} {i k : Nat} (V : Vals vs l.length) (hi : i < vs.length) : 0 ≤ envy vs l i k ∧ envy vs l i k ≤ 600 := by
  have := wo_bd (k := (k : Int)) V hi
  have := wo_bd (k := (i : Int)) V hi
  unfold envy; omega
theorem spec_l23Envy_ok {n1 n2 : Option Bool} (vs : List (List Int)) (l : List Int) (V : Vals vs l.length) (i k : Nat) (hi : i < vs.length) :
    CallOk Try.prog 58 [.s n1 (rr vs), .s n2 (ii l), .i i, .i k] [(0, .i (envy vs l i k))] := by
  have w1 := wo_bd (k := (k : Int)) V hi
  have w2 := wo_bd (k := (i : Int)) V hi
  obtain ⟨code0, hcd1, hcd2⟩ := chk_spec_l23Envy; refine callOk_of Try.func58 hcd1 mo Try.call58 (rs := [8]) (by kernel_rfl) hcd2 (by rw [Try.ntmps58]; simp) (by simp) (by decide) ?_; unfold C_spec_l23Envy K_spec_l23Envy; simp (config := { maxSteps := 2000000 }) only [go_sem, Nat.reduceBEq, Nat.reduceAdd, Nat.reduceMul, Nat.reduceMod, Nat.reduceLT, Nat.reduceDiv, Nat.reduceSub, Nat.reduceLeDiff, Int.reduceToNat, Int.reduceLT, Int.reduceLE, reduceCtorEq, List.take_nil, List.drop_nil]
  refine ⟨_, spec_l23Worth_ok vs l V i k hi, ?_⟩; simp (config := { maxSteps := 2000000 }) only [go_sem, Nat.reduceBEq, Nat.reduceAdd, Nat.reduceMul, Nat.reduceMod, Nat.reduceLT, Nat.reduceDiv, Nat.reduceSub, Nat.reduceLeDiff, Int.reduceToNat, Int.reduceLT, Int.reduceLE, reduceCtorEq, List.take_nil, List.drop_nil]
  refine ⟨_, spec_l23Worth_ok vs l V i i hi, ?_⟩; simp (config := { maxSteps := 2000000 }) only [go_sem, Nat.reduceBEq, Nat.reduceAdd, Nat.reduceMul, Nat.reduceMod, Nat.reduceLT, Nat.reduceDiv, Nat.reduceSub, Nat.reduceLeDiff, Int.reduceToNat, Int.reduceLT, Int.reduceLE, reduceCtorEq, List.take_nil, List.drop_nil]
  exact ⟨inR_of (by omega) (by omega), rfl⟩
theorem impl_envies_ok {n1 n2 : Option Bool} (vs : List (List Int)) (l : List Int) (V : Vals vs l.length) (i : Nat) (k : Int) (hi : i < vs.length) :
    CallOk Try.prog 68 [.s n1 (rr vs), .s n2 (ii l), .i i, .i k] [(0, .b (decide (wo vs l i i < wo vs l i k)))] := by
  obtain ⟨code0, hcd1, hcd2⟩ := chk_impl_envies; refine callOk_of Try.func68 hcd1 mo Try.call68 (rs := [8]) (by kernel_rfl) hcd2 (by rw [Try.ntmps68]; simp) (by simp) (by decide) ?_; unfold C_impl_envies K_impl_envies; simp (config := { maxSteps := 2000000 }) only [go_sem, Nat.reduceBEq, Nat.reduceAdd, Nat.reduceMul, Nat.reduceMod, Nat.reduceLT, Nat.reduceDiv, Nat.reduceSub, Nat.reduceLeDiff, Int.reduceToNat, Int.reduceLT, Int.reduceLE, reduceCtorEq, List.take_nil, List.drop_nil]
  refine ⟨_, impl_worth_ok vs l V i k hi, ?_⟩; simp (config := { maxSteps := 2000000 }) only [go_sem, Nat.reduceBEq, Nat.reduceAdd, Nat.reduceMul, Nat.reduceMod, Nat.reduceLT, Nat.reduceDiv, Nat.reduceSub, Nat.reduceLeDiff, Int.reduceToNat, Int.reduceLT, Int.reduceLE, reduceCtorEq, List.take_nil, List.drop_nil]
  refine ⟨_, impl_worth_ok vs l V i i hi, ?_⟩; simp (config := { maxSteps := 2000000 }) only [go_sem, Nat.reduceBEq, Nat.reduceAdd, Nat.reduceMul, Nat.reduceMod, Nat.reduceLT, Nat.reduceDiv, Nat.reduceSub, Nat.reduceLeDiff, Int.reduceToNat, Int.reduceLT, Int.reduceLE, reduceCtorEq, List.take_nil, List.drop_nil]
def K_spec_l13Sum : List Nat := [0, 2, 3, 5, 6, 7, 8]
def C_spec_l13Sum : C :=
  let ks := K_spec_l13Sum
  (.seq
    (.rg 0 [(none, .v 2 .mv [.k (.i 0)])])
    (.cl ks (.seq
      (.rg 0 [(none, .v 3 .mv [.k (.i 0)])])
      (.cl ks (.seq
        (.seq
          (.rg 0 [(none, .v 6 .mv [.s 0]), (none, .v 7 .len [.s 6]), (none, .v 8 .mv [.k (.i 0)])])
          (.cl ks (.block 0
            (.loop
              (.seq
                (.rg 0 [(none, .v 9 (.bin .lss) [.s 8, .s 7])])
                (.seq
                  (.cond (.s 9)
                    .skip
                    (.exit 0))
                  (.cl ks (.seq
                    (.block 1
                      (.seq
                        (.rg 0 [(none, .v 10 .idx [.s 6, .s 8]), (none, .v 11 .ld [.s 10]), (none, .tk 5 11)])
                        (.cl ks (.rg 0 [(none, .v 12 .mv [.s 3]), (none, .v 13 .mv [.s 5]), (none, .v 14 (.bin .add) [.s 12, .s 13]), (none, .tk 3 14)]))))
                    (.cl ks (.rg 0 [(none, .v 15 (.bin .add) [.s 8, .k (.i 1)]), (none, .v 8 .mv [.s 15])]))))))))))
        (.cl ks (.seq
          (.rg 0 [(none, .v 16 .mv [.s 3]), (none, .tk 2 16)])
          .ret)))))))

theorem chk_spec_l13Sum : ∃ b, Try.f104.body = some b ∧ chk Try.prog Try.f104.ntmps true C_spec_l13Sum b = true := ⟨_, rfl, by kernel_rfl⟩
def K_impl_sumOf : List Nat := [0, 2, 3, 5, 6, 7, 8]
def C_impl_sumOf : C :=
  let ks := K_impl_sumOf
  (.seq
    (.rg 0 [(none, .v 2 .mv [.k (.i 0)])])
    (.cl ks (.seq
      (.rg 0 [(none, .v 3 .mv [.k (.i 0)])])
      (.cl ks (.seq
        (.seq
          (.rg 0 [(none, .v 6 .mv [.s 0]), (none, .v 7 .len [.s 6]), (none, .v 8 .mv [.k (.i 0)])])
          (.cl ks (.block 0
            (.loop
              (.seq
                (.rg 0 [(none, .v 9 (.bin .lss) [.s 8, .s 7])])
                (.seq
                  (.cond (.s 9)
                    .skip
                    (.exit 0))
                  (.cl ks (.seq
                    (.block 1
                      (.seq
                        (.rg 0 [(none, .v 10 .idx [.s 6, .s 8]), (none, .v 11 .ld [.s 10]), (none, .tk 5 11)])
                        (.cl ks (.rg 0 [(none, .v 12 .mv [.s 3]), (none, .v 13 .mv [.s 5]), (none, .v 14 (.bin .add) [.s 12, .s 13]), (none, .tk 3 14)]))))
                    (.cl ks (.rg 0 [(none, .v 15 (.bin .add) [.s 8, .k (.i 1)]), (none, .v 8 .mv [.s 15])]))))))))))
        (.cl ks (.seq
          (.rg 0 [(none, .v 16 .mv [.s 3]), (none, .tk 2 16)])
          .ret)))))))

theorem chk_impl_sumOf : ∃ b, Try.f109.body = some b ∧ chk Try.prog Try.f109.ntmps true C_impl_sumOf b = true := ⟨_, rfl, by kernel_rfl⟩
/- spec_IsProportional: not in this cut -/
/- impl_IsProportional: not in this cut -/
theorem sum_take_bd {xs : List Int} {B : Int} (hB : 0 ≤ B) (hb : ∀ x ∈ xs, -B ≤ x ∧ x ≤ B) : ∀ {j : Nat}, j ≤ xs.length → -(j * B) ≤ (xs.take j).sum ∧ (xs.take j).sum ≤ j * B
  | 0, _ => by simp
  | j + 1, h => by
    have h1 := sum_take_bd hB hb (j := j) (by omega)
    have h2 := hb _ (getD_mem (d := 0) (show j < xs.length by omega))
    rw [take_getD 0 (show j < xs.length by omega), List.sum_append, List.sum_cons, List.sum_nil]
    have h3 : ((j + 1 : Nat) : Int) * B = j * B + B := by rw [Int.natCast_add, Int.add_mul]; simp
    rw [h3]; omega
theorem spec_l13Sum_ok {nl : Option Bool} (xs : List Int) (B : Int) (hB : 0 ≤ B) (hb : ∀ x ∈ xs, -B ≤ x ∧ x ≤ B) (hl : xs.length * B ≤ 1000000000000000000) (hll : xs.length ≤ 1048576) :
    CallOk Try.prog 104 [.s nl (ii xs)] [(0, .i xs.sum)] := by
  obtain ⟨code0, hcd1, hcd2⟩ := chk_spec_l13Sum; refine callOk_of Try.func104 hcd1 mo Try.call104 (rs := [2]) (by kernel_rfl) hcd2 (by rw [Try.ntmps104]; simp) (by simp) (by decide) ?_; unfold C_spec_l13Sum K_spec_l13Sum; simp (config := { maxSteps := 2000000 }) only [go_sem, Nat.reduceBEq, Nat.reduceAdd, Nat.reduceMul, Nat.reduceMod, Nat.reduceLT, Nat.reduceDiv, Nat.reduceSub, Nat.reduceLeDiff, Int.reduceToNat, Int.reduceLT, Int.reduceLE, reduceCtorEq, List.take_nil, List.drop_nil]
  refine loopN xs.length (fun j => [(0, .t .arg (.s nl (ii xs))), (3, .i (xs.take j).sum), (6, .t .arg (.s nl (ii xs))), (7, .i xs.length), (8, .i (j : Nat))]) (fun _ => True) ⟨trivial, by simp (config := { maxSteps := 2000000 }) only [go_sem, Nat.reduceBEq, Nat.reduceAdd, Nat.reduceMul, Nat.reduceMod, Nat.reduceLT, Nat.reduceDiv, Nat.reduceSub, Nat.reduceLeDiff, Int.reduceToNat, Int.reduceLT, Int.reduceLE, reduceCtorEq, List.take_nil, List.drop_nil]; simp⟩ fun j hj _ => ?_
  simp (config := { maxSteps := 2000000 }) only [go_sem, Nat.reduceBEq, Nat.reduceAdd, Nat.reduceMul, Nat.reduceMod, Nat.reduceLT, Nat.reduceDiv, Nat.reduceSub, Nat.reduceLeDiff, Int.reduceToNat, Int.reduceLT, Int.reduceLE, reduceCtorEq, List.take_nil, List.drop_nil]
  refine ⟨fun hlt => ?_, fun hge => ?_⟩
  · have hj' : j < xs.length := by omega
    have h1 := sum_take_bd hB hb (j := j + 1) (by omega)
    have h4 : ((j + 1 : Nat) : Int) * B ≤ xs.length * B := Int.mul_le_mul_of_nonneg_right (by omega) hB
    rw [take_getD 0 hj', List.sum_append, List.sum_cons, List.sum_nil, Int.add_zero] at h1
    refine ⟨by omega, by omega, by omega, inR_of (by omega) (by omega), inR_of (by omega) (by omega), hj', ?_, by simp⟩
    rw [take_getD 0 hj', List.sum_append, List.sum_cons, List.sum_nil, Int.add_zero]
  · have : j = xs.length := by omega
    subst this
    rw [List.take_length]
theorem impl_sumOf_ok {nl : Option Bool} (xs : List Int) (B : Int) (hB : 0 ≤ B) (hb : ∀ x ∈ xs, -B ≤ x ∧ x ≤ B) (hl : xs.length * B ≤ 1000000000000000000) (hll : xs.length ≤ 1048576) :
    CallOk Try.prog 109 [.s nl (ii xs)] [(0, .i xs.sum)] := by
  obtain ⟨code0, hcd1, hcd2⟩ := chk_impl_sumOf; refine callOk_of Try.func109 hcd1 mo Try.call109 (rs := [2]) (by kernel_rfl) hcd2 (by rw [Try.ntmps109]; simp) (by simp) (by decide) ?_; unfold C_impl_sumOf K_impl_sumOf; simp (config := { maxSteps := 2000000 }) only [go_sem, Nat.reduceBEq, Nat.reduceAdd, Nat.reduceMul, Nat.reduceMod, Nat.reduceLT, Nat.reduceDiv, Nat.reduceSub, Nat.reduceLeDiff, Int.reduceToNat, Int.reduceLT, Int.reduceLE, reduceCtorEq, List.take_nil, List.drop_nil]
  refine loopN xs.length (fun j => [(0, .t .arg (.s nl (ii xs))), (3, .i (xs.take j).sum), (6, .t .arg (.s nl (ii xs))), (7, .i xs.length), (8, .i (j : Nat))]) (fun _ => True) ⟨trivial, by simp (config := { maxSteps := 2000000 }) only [go_sem, Nat.reduceBEq, Nat.reduceAdd, Nat.reduceMul, Nat.reduceMod, Nat.reduceLT, Nat.reduceDiv, Nat.reduceSub, Nat.reduceLeDiff, Int.reduceToNat, Int.reduceLT, Int.reduceLE, reduceCtorEq, List.take_nil, List.drop_nil]; simp⟩ fun j hj _ => ?_
  simp (config := { maxSteps := 2000000 }) only [go_sem, Nat.reduceBEq, Nat.reduceAdd, Nat.reduceMul, Nat.reduceMod, Nat.reduceLT, Nat.reduceDiv, Nat.reduceSub, Nat.reduceLeDiff, Int.reduceToNat, Int.reduceLT, Int.reduceLE, reduceCtorEq, List.take_nil, List.drop_nil]
  refine ⟨fun hlt => ?_, fun hge => ?_⟩
  · have hj' : j < xs.length := by omega
    have h1 := sum_take_bd hB hb (j := j + 1) (by omega)
    have h4 : ((j + 1 : Nat) : Int) * B ≤ xs.length * B := Int.mul_le_mul_of_nonneg_right (by omega) hB
    rw [take_getD 0 hj', List.sum_append, List.sum_cons, List.sum_nil, Int.add_zero] at h1
    refine ⟨by omega, by omega, by omega, inR_of (by omega) (by omega), inR_of (by omega) (by omega), hj', ?_, by simp⟩
    rw [take_getD 0 hj', List.sum_append, List.sum_cons, List.sum_nil, Int.add_zero]
  · have : j = xs.length := by omega
    subst this
    rw [List.take_length]
def propB (vs : List (List Int)) (l : List Int) : Bool := (List.range vs.length).all fun i => decide ((vs.getD i []).sum ≤ vs.length * wo vs l i i)
theorem row_mem_bd {vs : List (List Int)} {m i : Nat} (V : Vals vs m) (hi : i < vs.length) : ∀ x ∈ vs.getD i [], -100 ≤ x ∧ x ≤ 100 := fun x hx => by
  obtain ⟨g, hg, rfl⟩ := mem_getD 0 hx
  have := V.bd i g hi (by rw [← V.len i hi]; exact hg)
  omega

end Go.Proofs.Ytelblnfnfeoapaa
