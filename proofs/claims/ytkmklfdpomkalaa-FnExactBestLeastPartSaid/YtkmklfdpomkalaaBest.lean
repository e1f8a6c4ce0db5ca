/- Own work: contracts of functions that the claim reaches. No condition beyond those that each theorem names. -/
import Derived.Test.YtkmklfdpomkalaaProg
import Derived.Test.YtkmklfdpomkalaaCount
namespace Go.Proofs.Ytkmklfdpomkalaa
open Go Go.Vc
set_option maxRecDepth 100000
set_option linter.unusedSimpArgs false
set_option linter.unusedVariables false
/-! The first best of all lists. -/
def cmpI (a b : Int) : Int := if a < b then -1 else if b < a then 1 else 0
/-- Which list comes first, by its numbers. -/
def cmpL : List Int → List Int → Int
  | [], [] => 0
  | [], _ :: _ => -1
  | _ :: _, [] => 1
  | x :: xs, y :: ys => if cmpI x y = 0 then cmpL xs ys else cmpI x y
def K_cmp_isNaN_int : List Nat := [0, 2]
def C_cmp_isNaN_int : C :=
  let ks := K_cmp_isNaN_int
  (.seq
    (.rg 0 [(none, .v 2 .mv [.k (.b false)])])
    (.cl ks (.seq
      (.rg 0 [(none, .v 3 .mv [.s 0]), (none, .v 4 .mv [.s 0]), (none, .v 5 (.bin .neq) [.s 3, .s 4]), (none, .tk 2 5)])
      .ret)))

theorem chk_cmp_isNaN_int : ∃ b, Try.f85.body = some b ∧ chk Try.prog Try.f85.ntmps true C_cmp_isNaN_int b = true := ⟨_, rfl, by kernel_rfl⟩
def K_cmp_Compare_int : List Nat := [0, 1, 4, 5, 6]
def C_cmp_Compare_int : C :=
  let ks := K_cmp_Compare_int
  (.seq
    (.rg 0 [(none, .v 4 .mv [.k (.i 0)])])
    (.cl ks (.seq
      (.rg 0 [(none, .v 7 .mv [.s 0]), (none, .co 8 85 [.s 7]), (none, .tk 5 8)])
      (.cl ks (.seq
        (.rg 0 [(none, .v 9 .mv [.s 1]), (none, .co 10 85 [.s 9]), (none, .tk 6 10)])
        (.cl ks (.seq
          (.seq
            (.rg 0 [(none, .v 11 .mv [.s 5])])
            (.cond (.s 11)
              (.seq
                (.seq
                  (.rg 0 [(none, .v 12 .mv [.s 6])])
                  (.cond (.s 12)
                    (.seq
                      (.rg 0 [(none, .v 4 .mv [.k (.i 0)])])
                      .ret)
                    .skip))
                (.cl ks (.seq
                  (.rg 0 [(none, .v 4 .mv [.k (.i (-1))])])
                  .ret)))
              .skip))
          (.cl ks (.seq
            (.seq
              (.rg 0 [(none, .v 13 .mv [.s 6])])
              (.cond (.s 13)
                (.seq
                  (.rg 0 [(none, .v 4 .mv [.k (.i 1)])])
                  .ret)
                .skip))
            (.cl ks (.seq
              (.seq
                (.rg 0 [(none, .v 14 .mv [.s 0]), (none, .v 15 .mv [.s 1]), (none, .v 16 (.bin .lss) [.s 14, .s 15])])
                (.cond (.s 16)
                  (.seq
                    (.rg 0 [(none, .v 4 .mv [.k (.i (-1))])])
                    .ret)
                  .skip))
              (.cl ks (.seq
                (.seq
                  (.rg 0 [(none, .v 17 .mv [.s 0]), (none, .v 18 .mv [.s 1]), (none, .v 19 (.bin .gtr) [.s 17, .s 18])])
                  (.cond (.s 19)
                    (.seq
                      (.rg 0 [(none, .v 4 .mv [.k (.i 1)])])
                      .ret)
                    .skip))
                (.cl ks (.seq
                  (.rg 0 [(none, .v 4 .mv [.k (.i 0)])])
                  .ret)))))))))))))))

theorem chk_cmp_Compare_int : ∃ b, Try.f77.body = some b ∧ chk Try.prog Try.f77.ntmps true C_cmp_Compare_int b = true := ⟨_, rfl, by kernel_rfl⟩
def K_slices_Compare_Sint_int : List Nat := [0, 1, 4, 5, 6, 7, 8, 9, 10, 11]
def C_slices_Compare_Sint_int : C :=
  let ks := K_slices_Compare_Sint_int
  (.seq
    (.rg 0 [(none, .v 4 .mv [.k (.i 0)])])
    (.cl ks (.seq
      (.seq
        (.rg 0 [(none, .v 9 .mv [.s 0]), (none, .v 10 .len [.s 9]), (none, .v 11 .mv [.k (.i 0)])])
        (.cl ks (.block 0
          (.loop
            (.seq
              (.rg 0 [(none, .v 12 (.bin .lss) [.s 11, .s 10])])
              (.seq
                (.cond (.s 12)
                  .skip
                  (.exit 0))
                (.cl ks (.seq
                  (.block 1
                    (.seq
                      (.rg 0 [(none, .v 13 .mv [.s 11]), (none, .v 14 .idx [.s 9, .s 11]), (none, .v 15 .ld [.s 14]), (none, .tk 5 13), (none, .tk 6 15)])
                      (.cl ks (.seq
                        (.seq
                          (.rg 0 [(none, .v 16 .mv [.s 5]), (none, .v 17 .mv [.s 1]), (none, .v 18 .len [.s 17]), (none, .v 19 (.bin .geq) [.s 16, .s 18])])
                          (.cond (.s 19)
                            (.seq
                              (.rg 0 [(none, .v 4 .mv [.k (.i 1)])])
                              .ret)
                            .skip))
                        (.cl ks (.seq
                          (.rg 0 [(none, .v 20 .mv [.s 1]), (none, .v 21 .mv [.s 5]), (none, .v 22 .idx [.s 20, .s 21]), (none, .v 23 .ld [.s 22]), (none, .tk 7 23)])
                          (.cl ks (.seq
                            (.rg 0 [(none, .v 24 .mv [.s 6]), (none, .v 25 .mv [.s 7]), (none, .co 26 77 [.s 24, .s 25]), (none, .tk 8 26)])
                            (.cl ks (.seq
                              (.rg 0 [(none, .v 27 .mv [.s 8]), (none, .v 28 (.bin .neq) [.s 27, .k (.i 0)])])
                              (.cond (.s 28)
                                (.seq
                                  (.rg 0 [(none, .v 29 .mv [.s 8]), (none, .tk 4 29)])
                                  .ret)
                                .skip)))))))))))
                  (.cl ks (.rg 0 [(none, .v 30 (.bin .add) [.s 11, .k (.i 1)]), (none, .v 11 .mv [.s 30])]))))))))))
      (.cl ks (.seq
        (.seq
          (.rg 0 [(none, .v 31 .mv [.s 0]), (none, .v 32 .len [.s 31]), (none, .v 33 .mv [.s 1]), (none, .v 34 .len [.s 33]), (none, .v 35 (.bin .lss) [.s 32, .s 34])])
          (.cond (.s 35)
            (.seq
              (.rg 0 [(none, .v 4 .mv [.k (.i (-1))])])
              .ret)
            .skip))
        (.cl ks (.seq
          (.rg 0 [(none, .v 4 .mv [.k (.i 0)])])
          .ret)))))))

theorem chk_slices_Compare_Sint_int : ∃ b, Try.f70.body = some b ∧ chk Try.prog Try.f70.ntmps true C_slices_Compare_Sint_int b = true := ⟨_, rfl, by kernel_rfl⟩
def K_slices_Clone_Sint_int : List Nat := [0, 2]
def C_slices_Clone_Sint_int : C :=
  let ks := K_slices_Clone_Sint_int
  (.seq
    (.rg 0 [(none, .mkn 2)])
    (.cl ks (.seq
      (.seq
        (.rg 0 [(none, .v 3 .mv [.s 0]), (none, .v 4 .nil [.s 3])])
        (.cond (.s 4)
          (.seq
            (.rg 0 [(none, .mkn 2)])
            .ret)
          .skip))
      (.cl ks (.seq
        (.rg 0 [(none, .lit 5 [] 0), (none, .v 6 .mv [.s 0]), (none, .app 7 (.s 5) (.s 6) 0), (none, .tk 2 7)])
        .ret)))))

theorem chk_slices_Clone_Sint_int : ∃ b, Try.f71.body = some b ∧ chk Try.prog Try.f71.ntmps true C_slices_Clone_Sint_int b = true := ⟨_, rfl, by kernel_rfl⟩
theorem isNaN_ok (a : Int) : CallOk Try.prog 85 [.i a] [(0, .b false)] := by
  obtain ⟨code0, hcd1, hcd2⟩ := chk_cmp_isNaN_int; refine callOk_of Try.func85 hcd1 mo Try.call85 (rs := [2]) (by kernel_rfl) hcd2 (by rw [Try.ntmps85]; simp) (by simp) (by decide) ?_; unfold C_cmp_isNaN_int K_cmp_isNaN_int; simp (config := { maxSteps := 2000000 }) only [go_sem, Nat.reduceBEq, Nat.reduceAdd, Nat.reduceMul, Nat.reduceMod, Nat.reduceLT, Nat.reduceDiv, Nat.reduceSub, Nat.reduceLeDiff, Int.reduceToNat, Int.reduceLT, Int.reduceLE, reduceCtorEq, List.take_nil, List.drop_nil]
theorem Compare_ok (a b : Int) : CallOk Try.prog 77 [.i a, .i b] [(0, .i (cmpI a b))] := by
  obtain ⟨code0, hcd1, hcd2⟩ := chk_cmp_Compare_int; refine callOk_of Try.func77 hcd1 mo Try.call77 (rs := [4]) (by kernel_rfl) hcd2 (by rw [Try.ntmps77]; simp) (by simp) (by decide) ?_; unfold C_cmp_Compare_int K_cmp_Compare_int; simp (config := { maxSteps := 2000000 }) only [go_sem, Nat.reduceBEq, Nat.reduceAdd, Nat.reduceMul, Nat.reduceMod, Nat.reduceLT, Nat.reduceDiv, Nat.reduceSub, Nat.reduceLeDiff, Int.reduceToNat, Int.reduceLT, Int.reduceLE, reduceCtorEq, List.take_nil, List.drop_nil]
  refine ⟨_, isNaN_ok a, ?_⟩; simp (config := { maxSteps := 2000000 }) only [go_sem, Nat.reduceBEq, Nat.reduceAdd, Nat.reduceMul, Nat.reduceMod, Nat.reduceLT, Nat.reduceDiv, Nat.reduceSub, Nat.reduceLeDiff, Int.reduceToNat, Int.reduceLT, Int.reduceLE, reduceCtorEq, List.take_nil, List.drop_nil]
  refine ⟨_, isNaN_ok b, ?_⟩; simp (config := { maxSteps := 2000000 }) only [go_sem, Nat.reduceBEq, Nat.reduceAdd, Nat.reduceMul, Nat.reduceMod, Nat.reduceLT, Nat.reduceDiv, Nat.reduceSub, Nat.reduceLeDiff, Int.reduceToNat, Int.reduceLT, Int.reduceLE, reduceCtorEq, List.take_nil, List.drop_nil]
  unfold cmpI
  refine ⟨fun h => by rw [if_pos h], fun h => ⟨fun h2 => by rw [if_neg h, if_pos h2], fun h2 => by rw [if_neg h, if_neg h2]⟩⟩
theorem drop_cons {xs : List Int} {j : Nat} (h : j < xs.length) : xs.drop j = xs.getD j 0 :: xs.drop (j + 1) := by
  rw [List.drop_eq_getElem_cons h]; simp [List.getD, h]
theorem CompareL_ok {n1 n2 : Option Bool} (xs ys : List Int) (hx : xs.length ≤ 1048576) (hy : ys.length ≤ 1048576) : CallOk Try.prog 70 [.s n1 (ii xs), .s n2 (ii ys)] [(0, .i (cmpL xs ys))] := by
  obtain ⟨code0, hcd1, hcd2⟩ := chk_slices_Compare_Sint_int; refine callOk_of Try.func70 hcd1 mo Try.call70 (rs := [4]) (by kernel_rfl) hcd2 (by rw [Try.ntmps70]; simp) (by simp) (by decide) ?_; unfold C_slices_Compare_Sint_int K_slices_Compare_Sint_int; simp (config := { maxSteps := 2000000 }) only [go_sem, Nat.reduceBEq, Nat.reduceAdd, Nat.reduceMul, Nat.reduceMod, Nat.reduceLT, Nat.reduceDiv, Nat.reduceSub, Nat.reduceLeDiff, Int.reduceToNat, Int.reduceLT, Int.reduceLE, reduceCtorEq, List.take_nil, List.drop_nil]
  refine loopN xs.length (fun j => [(0, .t .arg (.s n1 (ii xs))), (1, .t .arg (.s n2 (ii ys))), (9, .t .arg (.s n1 (ii xs))), (10, .i xs.length), (11, .i (j : Nat))]) (fun j => j ≤ ys.length ∧ cmpL xs ys = cmpL (xs.drop j) (ys.drop j)) ⟨by simp, by simp (config := { maxSteps := 2000000 }) only [go_sem, Nat.reduceBEq, Nat.reduceAdd, Nat.reduceMul, Nat.reduceMod, Nat.reduceLT, Nat.reduceDiv, Nat.reduceSub, Nat.reduceLeDiff, Int.reduceToNat, Int.reduceLT, Int.reduceLE, reduceCtorEq, List.take_nil, List.drop_nil]; simp⟩ fun j hj hI => ?_
  obtain ⟨hjy, hI⟩ := hI
  simp (config := { maxSteps := 2000000 }) only [go_sem, Nat.reduceBEq, Nat.reduceAdd, Nat.reduceMul, Nat.reduceMod, Nat.reduceLT, Nat.reduceDiv, Nat.reduceSub, Nat.reduceLeDiff, Int.reduceToNat, Int.reduceLT, Int.reduceLE, reduceCtorEq, List.take_nil, List.drop_nil]
  refine ⟨fun hlt => ?_, fun hge => ?_⟩
  · have hj' : j < xs.length := by omega
    rw [drop_cons hj'] at hI
    refine ⟨by omega, by omega, by omega, fun h1 => ?_, fun h1 => ?_⟩
    · have : ys.drop j = [] := List.drop_eq_nil_of_le (by omega)
      rw [this] at hI; exact hI.symm
    · have hj2 : j < ys.length := by omega
      rw [drop_cons hj2, cmpL] at hI
      refine ⟨by omega, by omega, by omega, ?_⟩
      refine ⟨_, Compare_ok (xs.getD j 0) (ys.getD j 0), ?_⟩; simp (config := { maxSteps := 2000000 }) only [go_sem, Nat.reduceBEq, Nat.reduceAdd, Nat.reduceMul, Nat.reduceMod, Nat.reduceLT, Nat.reduceDiv, Nat.reduceSub, Nat.reduceLeDiff, Int.reduceToNat, Int.reduceLT, Int.reduceLE, reduceCtorEq, List.take_nil, List.drop_nil]
      exact ⟨fun h2 => by rw [if_neg h2] at hI; exact hI.symm, fun h2 => ⟨inR_of (by omega) (by omega), hj', ⟨by omega, by rw [if_pos h2] at hI; exact hI⟩, by simp⟩⟩
  · have : j = xs.length := by omega
    subst this
    have e : xs.drop xs.length = [] := List.drop_eq_nil_of_le (Nat.le_refl _)
    rw [e] at hI
    refine ⟨fun h => ?_, fun h => ?_⟩
    · rw [drop_cons (show xs.length < ys.length by omega)] at hI; exact hI.symm
    · have : ys.drop xs.length = [] := List.drop_eq_nil_of_le (by omega)
      rw [this] at hI; exact hI.symm
theorem Clone_ok {n1 : Option Bool} (l : List Int) (h0 : 0 < l.length) (hl : l.length ≤ 1048576) (hn : n1 ≠ some true := by simp) : CallOk Try.prog 71 [.s n1 (ii l)] [(0, .own 1 none (ii l))] := by
  obtain ⟨code0, hcd1, hcd2⟩ := chk_slices_Clone_Sint_int; refine callOk_of Try.func71 hcd1 mo Try.call71 (rs := [2]) (by kernel_rfl) hcd2 (by rw [Try.ntmps71]; simp) (by simp) (by decide) ?_; unfold C_slices_Clone_Sint_int K_slices_Clone_Sint_int; simp (config := { maxSteps := 2000000 }) only [go_sem, Nat.reduceBEq, Nat.reduceAdd, Nat.reduceMul, Nat.reduceMod, Nat.reduceLT, Nat.reduceDiv, Nat.reduceSub, Nat.reduceLeDiff, Int.reduceToNat, Int.reduceLT, Int.reduceLE, reduceCtorEq, List.take_nil, List.drop_nil]
  have hne : l ≠ [] := fun e => by rw [e] at h0; simp at h0
  have hni : ii l ≠ [] := fun e => hne (List.map_eq_nil_iff.1 e)
  rcases n1 with _ | _ | _
  · simp (config := { maxSteps := 2000000 }) only [go_sem, Nat.reduceBEq, Nat.reduceAdd, Nat.reduceMul, Nat.reduceMod, Nat.reduceLT, Nat.reduceDiv, Nat.reduceSub, Nat.reduceLeDiff, Int.reduceToNat, Int.reduceLT, Int.reduceLE, reduceCtorEq, List.take_nil, List.drop_nil]
    exact ⟨hni, by omega⟩
  · simp (config := { maxSteps := 2000000 }) only [go_sem, Nat.reduceBEq, Nat.reduceAdd, Nat.reduceMul, Nat.reduceMod, Nat.reduceLT, Nat.reduceDiv, Nat.reduceSub, Nat.reduceLeDiff, Int.reduceToNat, Int.reduceLT, Int.reduceLE, reduceCtorEq, List.take_nil, List.drop_nil]
    omega
  · exact absurd rfl hn
/-- The first best of the first k. -/
def bstL (c : List Int → List Int) (S : Nat → List Int) : Nat → List Int
  | 0 => []
  | k + 1 => if k = 0 ∨ 0 < cmpL (c (S k)) (c (bstL c S k)) then S k else bstL c S k
theorem bstL_in {c : List Int → List Int} {S : Nat → List Int} : ∀ {k : Nat}, ∃ j, j < k + 1 ∧ bstL c S (k + 1) = S j
  | 0 => ⟨0, by omega, by simp [bstL]⟩
  | k + 1 => by
    rw [bstL]
    split
    · exact ⟨k + 1, by omega, rfl⟩
    · obtain ⟨j, h1, h2⟩ := bstL_in (c := c) (S := S) (k := k); exact ⟨j, by omega, h2⟩
def nlK (k : Nat) : Option Bool := if k = 0 then some true else none
def mostV (c : List Int → List Int) (S : Nat → List Int) : Nat → V
  | 0 => .own 1 (some true) []
  | k + 1 => .own 1 none (ii (c (bstL c S (k + 1))))
/-- The first best allocation. -/
def bstF (vs : List (List Int)) (c : List Int → List Int) : List Int := bstL c (sn 0 vs.length (vs.getD 0 []).length) (vs.length ^ (vs.getD 0 []).length)
def K_impl_bestAllocation : List Nat := [0, 1, 3, 4, 5, 6, 7, 8, 9, 20, 21, 1003, 1006, 1007]
def C_impl_bestAllocation_p0 : C :=
  let ks := K_impl_bestAllocation
  (.cl ks (.rg 0 [(none, .v 3 .boxF [.s 1]), (none, .mkn 4), (none, .v 5 .mv [.k (.b false)])]))
def C_impl_bestAllocation_p1 : C :=
  let ks := K_impl_bestAllocation
  (.cl ks (.seq
    (.rg 0 [(none, .v 10 .mv [.s 0]), (none, .co 11 54 [.s 10]), (none, .v 12 .not [.s 11])])
    (.cond (.s 12)
      (.seq
        (.rg 0 [(none, .mkn 4), (none, .v 5 .mv [.k (.b false)])])
        .ret)
      .skip)))
def C_impl_bestAllocation_p2 : C :=
  let ks := K_impl_bestAllocation
  (.cl ks (.rg 0 [(none, .new 6 [.s (some true) []]), (none, .new 7 [.s (some true) []])]))
def C_impl_bestAllocation_c4 : C :=
  let ks := K_impl_bestAllocation
  (.cl ks (.rg 0 [(none, .onl 1006), (none, .onl 1007), (none, .v 13 .mv [.s 0]), (none, .v 14 .idx [.s 13, .k (.i 0)]), (none, .v 15 .ld [.s 14]), (none, .v 16 .len [.s 15]), (none, .v 17 .mv [.s 0]), (none, .v 18 .len [.s 17]), (none, .v 19 (.bin .sub) [.s 18, .k (.i 1)]), (none, .co 20 68 [.s 16, .k (.i 0), .s 19])]))
def C_impl_bestAllocation_ca : C :=
  let ks := K_impl_bestAllocation
  (.cl ks (.rg 0 [(none, .v 8 .mv [.s 21])]))
def C_impl_bestAllocation_cb : C :=
  let ks := K_impl_bestAllocation
  (.cl ks (.block 1
    (.seq
      (.rg 0 [(none, .v 22 .ld [.s 3]), (none, .v 23 .mv [.s 8]), (none, .coC 24 [.s 22, .s 23]), (none, .tk 9 24)])
      (.cl ks (.seq
        (.rg 0 [(none, .v 25 .ld [.s 6]), (none, .v 26 .nil [.s 25]), (none, .v 27 .mv [.s 26]), (some (27, false), .v 28 .mv [.s 9]), (some (27, false), .v 29 .ld [.s 7]), (some (27, false), .co 30 70 [.s 28, .s 29]), (some (27, false), .v 31 (.bin .gtr) [.s 30, .k (.i 0)]), (none, .v 32 .pick [.s 27, .k (.b true), .s 31])])
        (.cond (.s 32)
          (.rg 0 [(none, .v 33 .mv [.s 8]), (none, .co 34 71 [.s 33]), (none, .tk 35 9), (none, .st (.s 6) (.s 34)), (none, .st (.s 7) (.s 35))])
          .skip))))))
def C_impl_bestAllocation_cp : C :=
  let ks := K_impl_bestAllocation
  (.cl ks (.seq
    (.rg 0 [(none, .v 36 .ld [.s 6]), (none, .tk 4 36), (none, .v 5 .mv [.k (.b true)])])
    .ret))

def D_impl_bestAllocation : Nat → Bool := fun d => d == 0 || d == 1 || d == 3 || d == 4 || d == 5 || d == 6 || d == 7 || d == 20 || d == 21
theorem chkS_impl_bestAllocation : ∃ b, Try.f49.body = some b ∧ chkS Try.prog Try.f49.ntmps 20 21 D_impl_bestAllocation C_impl_bestAllocation_c4 C_impl_bestAllocation_ca C_impl_bestAllocation_cb C_impl_bestAllocation_cp [C_impl_bestAllocation_p0, C_impl_bestAllocation_p1, C_impl_bestAllocation_p2] b = true := ⟨_, rfl, by kernel_rfl⟩
theorem bestAllocation_no {n1 : Option Bool} (vs : List (List Int)) (f : Nat) (ts : List T) (h0 : rectB vs 3 6 100 = false) (hl : vs.length ≤ 1048576) (hr : ∀ r ∈ vs, r.length ≤ 1048576) :
    CallOk Try.prog 49 [.s n1 (rr vs), .c f ts] [(0, .tp 2), (100000, .own 1 (some true) []), (101000, .b false)] := by
  obtain ⟨code0, hcd1, hcd2⟩ := chkS_impl_bestAllocation; obtain ⟨codeI, hci1, hci2⟩ := chkIt_impl_lists_1; refine callOk_rf (m := 3) (y := 5) (t := 21) (g := 20) Try.func49 hcd1 mo Try.call49 (rs := [4, 5]) (by kernel_rfl) hcd2 (by rw [Try.ntmps49]; simp) (by simp) (by decide) Try.func76 hci1 Try.call76 (by kernel_rfl) hci2 (by decide) (by decide) (by rw [Try.ntmps76]; decide) (by decide) (by rw [Try.ntmps49]; decide) (by decide) (by decide) (by kernel_rfl) ?_; unfold C_impl_bestAllocation_p0 C_impl_bestAllocation_p1 C_impl_bestAllocation_p2 C_impl_bestAllocation_c4 K_impl_bestAllocation; simp (config := { maxSteps := 2000000 }) only [go_sem, Nat.reduceBEq, Nat.reduceAdd, Nat.reduceMul, Nat.reduceMod, Nat.reduceLT, Nat.reduceDiv, Nat.reduceSub, Nat.reduceLeDiff, Int.reduceToNat, Int.reduceLT, Int.reduceLE, reduceCtorEq, List.take_nil, List.drop_nil]
  refine ⟨_, impl_ValuesOk_ok vs hl hr, ?_⟩; simp (config := { maxSteps := 2000000 }) only [go_sem, Nat.reduceBEq, Nat.reduceAdd, Nat.reduceMul, Nat.reduceMod, Nat.reduceLT, Nat.reduceDiv, Nat.reduceSub, Nat.reduceLeDiff, Int.reduceToNat, Int.reduceLT, Int.reduceLE, reduceCtorEq, List.take_nil, List.drop_nil]
  exact ⟨fun _ => by simp, fun h => absurd (h0.symm.trans h) (by simp)⟩
theorem bestAllocation_ok {n1 : Option Bool} (vs : List (List Int)) (f : Nat) (ts : List T) (c : List Int → List Int) (h0 : rectB vs 3 6 100 = true) (hl : vs.length ≤ 1048576) (hr : ∀ r ∈ vs, r.length ≤ 1048576)
    (hp : ∀ m (l : List Int), Vals vs m → l.length = m → (∀ v ∈ l, 0 ≤ v ∧ v < vs.length) → (c l).length ≤ 1048576 ∧ CallOk Try.prog f (.s none (ii l) :: ts) [(0, .own 1 none (ii (c l)))]) :
    CallOk Try.prog 49 [.s n1 (rr vs), .c f ts] [(0, .tp 2), (100000, .own 1 none (ii (bstF vs c))), (101000, .b true)] := by
  obtain ⟨code0, hcd1, hcd2⟩ := chkS_impl_bestAllocation; obtain ⟨codeI, hci1, hci2⟩ := chkIt_impl_lists_1; refine callOk_rf (m := 3) (y := 5) (t := 21) (g := 20) Try.func49 hcd1 mo Try.call49 (rs := [4, 5]) (by kernel_rfl) hcd2 (by rw [Try.ntmps49]; simp) (by simp) (by decide) Try.func76 hci1 Try.call76 (by kernel_rfl) hci2 (by decide) (by decide) (by rw [Try.ntmps76]; decide) (by decide) (by rw [Try.ntmps49]; decide) (by decide) (by decide) (by kernel_rfl) ?_; unfold C_impl_bestAllocation_p0 C_impl_bestAllocation_p1 C_impl_bestAllocation_p2 C_impl_bestAllocation_c4 K_impl_bestAllocation; simp (config := { maxSteps := 2000000 }) only [go_sem, Nat.reduceBEq, Nat.reduceAdd, Nat.reduceMul, Nat.reduceMod, Nat.reduceLT, Nat.reduceDiv, Nat.reduceSub, Nat.reduceLeDiff, Int.reduceToNat, Int.reduceLT, Int.reduceLE, reduceCtorEq, List.take_nil, List.drop_nil]
  refine ⟨_, impl_ValuesOk_ok vs hl hr, ?_⟩; simp (config := { maxSteps := 2000000 }) only [go_sem, Nat.reduceBEq, Nat.reduceAdd, Nat.reduceMul, Nat.reduceMod, Nat.reduceLT, Nat.reduceDiv, Nat.reduceSub, Nat.reduceLeDiff, Int.reduceToNat, Int.reduceLT, Int.reduceLE, reduceCtorEq, List.take_nil, List.drop_nil]
  refine ⟨fun h => absurd (h0.symm.trans h) (by simp), fun _ => ?_⟩
  have V := vals_of h0
  unfold bstF
  revert V
  generalize hm : (vs.getD 0 []).length = m
  intro V
  have n1' := V.n1
  have n3 := V.n3
  have m6 := V.m6
  have m1 := V.m1
  have hN := pow_bd n1' n3 m6
  refine ⟨by omega, by omega, inR_of (by omega) (by omega), ?_⟩
  refine ⟨_, impl_lists_ok m 0 (vs.length - 1), ?_⟩; simp (config := { maxSteps := 2000000 }) only [go_sem, Nat.reduceBEq, Nat.reduceAdd, Nat.reduceMul, Nat.reduceMod, Nat.reduceLT, Nat.reduceDiv, Nat.reduceSub, Nat.reduceLeDiff, Int.reduceToNat, Int.reduceLT, Int.reduceLE, reduceCtorEq, List.take_nil, List.drop_nil]
  refine ⟨vs.length ^ m, m, fun j => ii (sn 0 vs.length m j), fun j => [(0, .t .arg (.s n1 (rr vs))), (1, .t .arg (.c f ts)), (3, .t .arg (.q [.c f ts] 0)), (6, .bx 1), (7, .bx 1), (20, .t .arg (.c 76 (capT 0 m (vs.length - 1)))), (1006, .own 1 (nlK j) (ii (bstL c (sn 0 vs.length m) j))), (1007, mostV c (sn 0 vs.length m) j)], capT 0 m (vs.length - 1), Nat.pow_pos (by omega), rfl, ?_, fun j hj => ⟨by cases j <;> kernel_rfl, rfl⟩, fun j hj => ⟨by rw [scalL_ii]; trivial, ii_ne (by rw [sn_len]; omega), by simp [ii, sn_len]⟩, itA (by omega) (by omega), fun j hj => itB (by omega) (by omega) (by omega) rfl hj (by omega) (by omega), fun j hj => ?_, ?_⟩
  · simp (config := { maxSteps := 2000000 }) only [go_sem, Nat.reduceBEq, Nat.reduceAdd, Nat.reduceMul, Nat.reduceMod, Nat.reduceLT, Nat.reduceDiv, Nat.reduceSub, Nat.reduceLeDiff, Int.reduceToNat, Int.reduceLT, Int.reduceLE, reduceCtorEq, List.take_nil, List.drop_nil]
    exact ⟨⟨rfl, .inr rfl⟩, Vc.V.le_refl _⟩
  · unfold C_impl_bestAllocation_ca C_impl_bestAllocation_cb K_impl_bestAllocation
    have hb : ∀ v ∈ sn 0 vs.length m j, 0 ≤ v ∧ v < vs.length := fun v hv => by have := sn_bd (by omega) v hv; omega
    obtain ⟨w1, w2⟩ := hp m (sn 0 vs.length m j) V sn_len hb
    rcases j with _ | j
    · have n0 : nlK 0 = some true := rfl
      have m0 : mostV c (sn 0 vs.length m) 0 = .own 1 (some true) [] := rfl
      simp (config := { maxSteps := 2000000 }) only [go_sem, Nat.reduceBEq, Nat.reduceAdd, Nat.reduceMul, Nat.reduceMod, Nat.reduceLT, Nat.reduceDiv, Nat.reduceSub, Nat.reduceLeDiff, Int.reduceToNat, Int.reduceLT, Int.reduceLE, reduceCtorEq, List.take_nil, List.drop_nil, n0, m0]
      refine ⟨by kernel_rfl, ?_⟩
      refine ⟨_, w2, ?_⟩; simp (config := { maxSteps := 2000000 }) only [go_sem, Nat.reduceBEq, Nat.reduceAdd, Nat.reduceMul, Nat.reduceMod, Nat.reduceLT, Nat.reduceDiv, Nat.reduceSub, Nat.reduceLeDiff, Int.reduceToNat, Int.reduceLT, Int.reduceLE, reduceCtorEq, List.take_nil, List.drop_nil]
      refine ⟨_, Clone_ok (sn 0 vs.length m 0) (by rw [sn_len]; omega) (by rw [sn_len]; omega), ?_⟩; simp (config := { maxSteps := 2000000 }) only [go_sem, Nat.reduceBEq, Nat.reduceAdd, Nat.reduceMul, Nat.reduceMod, Nat.reduceLT, Nat.reduceDiv, Nat.reduceSub, Nat.reduceLeDiff, Int.reduceToNat, Int.reduceLT, Int.reduceLE, reduceCtorEq, List.take_nil, List.drop_nil]
      have e1 : bstL c (sn 0 vs.length m) 1 = sn 0 vs.length m 0 := by simp [bstL]
      have m1 : mostV c (sn 0 vs.length m) 1 = .own 1 none (ii (c (bstL c (sn 0 vs.length m) 1))) := rfl
      rw [m1, e1]; exact ⟨⟨rfl, .inl rfl⟩, Vc.V.le_refl _⟩
    · have n0 : nlK (j + 1) = none := rfl
      have m0 : mostV c (sn 0 vs.length m) (j + 1) = .own 1 none (ii (c (bstL c (sn 0 vs.length m) (j + 1)))) := rfl
      simp (config := { maxSteps := 2000000 }) only [go_sem, Nat.reduceBEq, Nat.reduceAdd, Nat.reduceMul, Nat.reduceMod, Nat.reduceLT, Nat.reduceDiv, Nat.reduceSub, Nat.reduceLeDiff, Int.reduceToNat, Int.reduceLT, Int.reduceLE, reduceCtorEq, List.take_nil, List.drop_nil, n0, m0]
      refine ⟨by kernel_rfl, ?_⟩
      refine ⟨_, w2, ?_⟩; simp (config := { maxSteps := 2000000 }) only [go_sem, Nat.reduceBEq, Nat.reduceAdd, Nat.reduceMul, Nat.reduceMod, Nat.reduceLT, Nat.reduceDiv, Nat.reduceSub, Nat.reduceLeDiff, Int.reduceToNat, Int.reduceLT, Int.reduceLE, reduceCtorEq, List.take_nil, List.drop_nil]
      obtain ⟨q, _, hq⟩ := bstL_in (c := c) (S := sn 0 vs.length m) (k := j)
      have hbl : (bstL c (sn 0 vs.length m) (j + 1)).length = m := by rw [hq, sn_len]
      obtain ⟨u1, _⟩ := hp m (bstL c (sn 0 vs.length m) (j + 1)) V hbl (fun v hv => by rw [hq] at hv; have := sn_bd (by omega) v hv; omega)
      have e1 : bstL c (sn 0 vs.length m) (j + 1 + 1) = if 0 < cmpL (c (sn 0 vs.length m (j + 1))) (c (bstL c (sn 0 vs.length m) (j + 1))) then sn 0 vs.length m (j + 1) else bstL c (sn 0 vs.length m) (j + 1) := by rw [bstL]; simp
      refine ⟨ii_ne (by omega), ?_⟩
      refine ⟨_, CompareL_ok (c (sn 0 vs.length m (j + 1))) (c (bstL c (sn 0 vs.length m) (j + 1))) w1 u1, ?_⟩; simp (config := { maxSteps := 2000000 }) only [go_sem, Nat.reduceBEq, Nat.reduceAdd, Nat.reduceMul, Nat.reduceMod, Nat.reduceLT, Nat.reduceDiv, Nat.reduceSub, Nat.reduceLeDiff, Int.reduceToNat, Int.reduceLT, Int.reduceLE, reduceCtorEq, List.take_nil, List.drop_nil]
      have m1 : mostV c (sn 0 vs.length m) (j + 1 + 1) = .own 1 none (ii (c (bstL c (sn 0 vs.length m) (j + 1 + 1)))) := rfl
      rw [m1, e1]
      refine ⟨fun h => ?_, fun h => ?_⟩
      · refine ⟨_, Clone_ok (sn 0 vs.length m (j + 1)) (by rw [sn_len]; omega) (by rw [sn_len]; omega), ?_⟩; simp (config := { maxSteps := 2000000 }) only [go_sem, Nat.reduceBEq, Nat.reduceAdd, Nat.reduceMul, Nat.reduceMod, Nat.reduceLT, Nat.reduceDiv, Nat.reduceSub, Nat.reduceLeDiff, Int.reduceToNat, Int.reduceLT, Int.reduceLE, reduceCtorEq, List.take_nil, List.drop_nil]
        rw [if_pos h]; exact ⟨⟨rfl, .inl rfl⟩, rfl⟩
      · rw [if_neg h]; exact ⟨⟨rfl, .inl rfl⟩, Vc.V.le_refl _⟩
  · obtain ⟨q, hq⟩ : ∃ q, vs.length ^ m = q + 1 := ⟨vs.length ^ m - 1, by have : 0 < vs.length ^ m := Nat.pow_pos (by omega); omega⟩
    have n0 : nlK (q + 1) = none := rfl
    rw [hq]
    unfold C_impl_bestAllocation_cp K_impl_bestAllocation; simp (config := { maxSteps := 2000000 }) only [go_sem, Nat.reduceBEq, Nat.reduceAdd, Nat.reduceMul, Nat.reduceMod, Nat.reduceLT, Nat.reduceDiv, Nat.reduceSub, Nat.reduceLeDiff, Int.reduceToNat, Int.reduceLT, Int.reduceLE, reduceCtorEq, List.take_nil, List.drop_nil, n0]
    omega

end Go.Proofs.Ytkmklfdpomkalaa
