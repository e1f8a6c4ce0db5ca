/- Own work: contracts of functions that the claim reaches. No condition beyond those that each theorem names. -/
import Derived.Test.YtfdoddeccnjcmaaProg
import Derived.Test.YtfdoddeccnjcmaaConcat
namespace Go.Proofs.Ytfdoddeccnjcmaa
open Go Go.Vc
set_option maxRecDepth 100000
set_option linter.unusedSimpArgs false
set_option linter.unusedVariables false
def K_spec_l13Sum : List Nat := [0, 2, 3, 5, 6, 7, 8]
def C_spec_l13Sum : C :=
  let ks := K_spec_l13Sum
  (.seq
   (.rg 0 [(none, .v 2 .mv [.k (.i 0)])])
   (.cl ks (.seq
   (.rg 0 [(none, .v 3 .mv [.k (.i 0)])])
   (.cl ks (.seq
   (.seq
   (.rg 0 [(none, .v 6 .mv [.s 0]), (none, .v 7 .len [.s 6]), (none, .v 8 .mv [.k (.i 0)])])
   (.cl ks (.block 0
   (.loop
   (.seq
   (.rg 0 [(none, .v 9 (.bin .lss) [.s 8, .s 7])])
   (.seq
   (.cond (.s 9)
   .skip
   (.exit 0))
   (.cl ks (.seq
   (.block 1
   (.seq
   (.rg 0 [(none, .v 10 .idx [.s 6, .s 8]), (none, .v 11 .ld [.s 10]), (none, .tk 5 11)])
   (.cl ks (.rg 0 [(none, .v 12 .mv [.s 3]), (none, .v 13 .mv [.s 5]), (none, .v 14 (.bin .add) [.s 12, .s 13]), (none, .tk 3 14)]))))
   (.cl ks (.rg 0 [(none, .v 15 (.bin .add) [.s 8, .k (.i 1)]), (none, .v 8 .mv [.s 15])]))))))))))
   (.cl ks (.seq
   (.rg 0 [(none, .v 16 .mv [.s 3]), (none, .tk 2 16)])
   .ret)))))))

theorem chk_spec_l13Sum : ∃ b, Try.f129.body = some b ∧ chk Try.prog Try.f129.ntmps true C_spec_l13Sum b = true := ⟨_, rfl, by kernel_rfl⟩
def K_impl_sumOf : List Nat := [0, 2, 3, 5, 6, 7, 8]
def C_impl_sumOf : C :=
  let ks := K_impl_sumOf
  (.seq
   (.rg 0 [(none, .v 2 .mv [.k (.i 0)])])
   (.cl ks (.seq
   (.rg 0 [(none, .v 3 .mv [.k (.i 0)])])
   (.cl ks (.seq
   (.seq
   (.rg 0 [(none, .v 6 .mv [.s 0]), (none, .v 7 .len [.s 6]), (none, .v 8 .mv [.k (.i 0)])])
   (.cl ks (.block 0
   (.loop
   (.seq
   (.rg 0 [(none, .v 9 (.bin .lss) [.s 8, .s 7])])
   (.seq
   (.cond (.s 9)
   .skip
   (.exit 0))
   (.cl ks (.seq
   (.block 1
   (.seq
   (.rg 0 [(none, .v 10 .idx [.s 6, .s 8]), (none, .v 11 .ld [.s 10]), (none, .tk 5 11)])
   (.cl ks (.rg 0 [(none, .v 12 .mv [.s 3]), (none, .v 13 .mv [.s 5]), (none, .v 14 (.bin .add) [.s 12, .s 13]), (none, .tk 3 14)]))))
   (.cl ks (.rg 0 [(none, .v 15 (.bin .add) [.s 8, .k (.i 1)]), (none, .v 8 .mv [.s 15])]))))))))))
   (.cl ks (.seq
   (.rg 0 [(none, .v 16 .mv [.s 3]), (none, .tk 2 16)])
   .ret)))))))

theorem chk_impl_sumOf : ∃ b, Try.f77.body = some b ∧ chk Try.prog Try.f77.ntmps true C_impl_sumOf b = true := ⟨_, rfl, by kernel_rfl⟩
def K_slices_Max_Sint_int : List Nat := [0, 2, 3, 4]
def C_slices_Max_Sint_int : C :=
  let ks := K_slices_Max_Sint_int
  (.seq
   (.rg 0 [(none, .v 2 .mv [.k (.i 0)])])
   (.cl ks (.seq
   (.seq
   (.rg 0 [(none, .v 5 .mv [.s 0]), (none, .v 6 .len [.s 5]), (none, .v 7 (.bin .lss) [.s 6, .k (.i 1)])])
   (.cond (.s 7)
   .no
   .skip))
   (.cl ks (.seq
   (.rg 0 [(none, .v 9 .mv [.s 0]), (none, .v 10 .idx [.s 9, .k (.i 0)]), (none, .v 11 .ld [.s 10]), (none, .tk 3 11)])
   (.cl ks (.seq
   (.seq
   (.rg 0 [(none, .v 4 .mv [.k (.i 1)])])
   (.cl ks (.block 0
   (.loop
   (.seq
   (.seq
   (.rg 0 [(none, .v 12 .mv [.s 4]), (none, .v 13 .mv [.s 0]), (none, .v 14 .len [.s 13]), (none, .v 15 (.bin .lss) [.s 12, .s 14])])
   (.cond (.s 15)
   .skip
   (.exit 0)))
   (.cl ks (.seq
   (.block 1
   (.rg 0 [(none, .v 18 .mv [.s 3]), (none, .v 19 .mv [.s 0]), (none, .v 20 .mv [.s 4]), (none, .v 21 .idx [.s 19, .s 20]), (none, .v 22 .ld [.s 21]), (none, .v 23 .mx [.s 18, .s 22]), (none, .tk 3 23)]))
   (.cl ks (.rg 0 [(none, .v 16 .mv [.s 4]), (none, .v 17 (.bin .add) [.s 16, .k (.i 1)]), (none, .tk 4 17)])))))))))
   (.cl ks (.seq
   (.rg 0 [(none, .v 24 .mv [.s 3]), (none, .tk 2 24)])
   .ret)))))))))

theorem chk_slices_Max_Sint_int : ∃ b, Try.f83.body = some b ∧ chk Try.prog Try.f83.ntmps true C_slices_Max_Sint_int b = true := ⟨_, rfl, by kernel_rfl⟩
def K_impl_CountsOk : List Nat := [0, 2]
def C_impl_CountsOk : C :=
  let ks := K_impl_CountsOk
  (.seq
   (.rg 0 [(none, .v 2 .mv [.k (.b false)])])
   (.cl ks (.seq
   (.rg 0 [(none, .v 3 .mv [.s 0]), (none, .v 4 .len [.s 3]), (none, .co 5 69 [.s 4, .k (.i 1), .k (.i 6)]), (none, .v 6 .mv [.s 5]), (some (6, true), .v 7 .mv [.s 0]), (some (6, true), .co 8 82 [.s 7, .k (.i 0), .k (.i 1000000)]), (none, .v 9 .pick [.s 6, .s 8, .k (.b false)]), (none, .v 10 .mv [.s 9]), (some (10, true), .v 11 .mv [.s 0]), (some (10, true), .co 12 83 [.s 11]), (some (10, true), .v 13 (.bin .gtr) [.s 12, .k (.i 0)]), (none, .v 14 .pick [.s 10, .s 13, .k (.b false)]), (none, .tk 2 14)])
   .ret)))

theorem chk_impl_CountsOk : ∃ b, Try.f26.body = some b ∧ chk Try.prog Try.f26.ntmps true C_impl_CountsOk b = true := ⟨_, rfl, by kernel_rfl⟩
/- spec_CountsOk: not in this cut -/
def K_impl_quotaAsked : List Nat := [0, 1, 4]
def C_impl_quotaAsked : C :=
  let ks := K_impl_quotaAsked
  (.seq
   (.rg 0 [(none, .v 4 .mv [.k (.b false)])])
   (.cl ks (.seq
   (.rg 0 [(none, .v 5 .mv [.s 0]), (none, .co 6 26 [.s 5]), (none, .v 7 .mv [.s 6]), (some (7, true), .v 8 .mv [.s 1]), (some (7, true), .co 9 69 [.s 8, .k (.i 0), .k (.i 100)]), (none, .v 10 .pick [.s 7, .s 9, .k (.b false)]), (none, .tk 4 10)])
   .ret)))

theorem chk_impl_quotaAsked : ∃ b, Try.f75.body = some b ∧ chk Try.prog Try.f75.ntmps true C_impl_quotaAsked b = true := ⟨_, rfl, by kernel_rfl⟩
/- spec_l13Ok: not in this cut -/
/-- The sum of the first j. -/
def sumN (xs : List Int) : Nat → Int
  | 0 => 0
  | j + 1 => sumN xs j + xs.getD j 0
def sumL (xs : List Int) : Int := sumN xs xs.length
theorem sumN_bd {xs : List Int} {B : Int} (h : ∀ x ∈ xs, 0 ≤ x ∧ x ≤ B) : ∀ {j : Nat}, j ≤ xs.length → 0 ≤ sumN xs j ∧ sumN xs j ≤ B * j
  | 0, _ => by simp [sumN]
  | j + 1, hj => by
    have h1 := sumN_bd h (j := j) (by omega)
    have h2 := h _ (getD_mem (d := 0) (show j < xs.length by omega))
    simp only [sumN]
    have : B * ((j + 1 : Nat) : Int) = B * j + B := by rw [Int.natCast_add, Int.mul_add]; simp
    omega
theorem spec_l13Sum_ok {n1 : Option Bool} (xs : List Int) (hl : xs.length ≤ 1048576) (hb : ∀ x ∈ xs, 0 ≤ x ∧ x ≤ 1000000000) : CallOk Try.prog 129 [.s n1 (ii xs)] [(0, .i (sumL xs))] := by
  obtain ⟨code0, hcd1, hcd2⟩ := chk_spec_l13Sum; refine callOk_of Try.func129 hcd1 mo Try.call129 (rs := [2]) (by kernel_rfl) hcd2 (by rw [Try.ntmps129]; simp) (by simp) (by decide) ?_; unfold C_spec_l13Sum K_spec_l13Sum; simp (config := { maxSteps := 2000000 }) only [go_sem, Nat.reduceBEq, Nat.reduceAdd, Nat.reduceMul, Nat.reduceMod, Nat.reduceLT, Nat.reduceDiv, Nat.reduceSub, Nat.reduceLeDiff, Int.reduceToNat, Int.reduceLT, Int.reduceLE, reduceCtorEq, List.take_nil, List.drop_nil]
  refine loopN xs.length (fun j => [(0, .t .arg (.s n1 (ii xs))), (3, .i (sumN xs j)), (6, .t .arg (.s n1 (ii xs))), (7, .i xs.length), (8, .i (j : Nat))]) (fun _ => True) ⟨trivial, by simp (config := { maxSteps := 2000000 }) only [go_sem, Nat.reduceBEq, Nat.reduceAdd, Nat.reduceMul, Nat.reduceMod, Nat.reduceLT, Nat.reduceDiv, Nat.reduceSub, Nat.reduceLeDiff, Int.reduceToNat, Int.reduceLT, Int.reduceLE, reduceCtorEq, List.take_nil, List.drop_nil]; simp [sumN]⟩ fun j hj _ => ?_
  simp (config := { maxSteps := 2000000 }) only [go_sem, Nat.reduceBEq, Nat.reduceAdd, Nat.reduceMul, Nat.reduceMod, Nat.reduceLT, Nat.reduceDiv, Nat.reduceSub, Nat.reduceLeDiff, Int.reduceToNat, Int.reduceLT, Int.reduceLE, reduceCtorEq, List.take_nil, List.drop_nil]
  refine ⟨fun hlt => ?_, fun hge => ?_⟩
  · have hj' : j < xs.length := by omega
    have h1 := sumN_bd hb hj
    have h2 := hb _ (getD_mem (d := 0) hj')
    exact ⟨by omega, hj', hj', inR_of (by omega) (by omega), inR_of (by omega) (by omega), hj', rfl, by simp⟩
  · have : j = xs.length := by omega
    subst this
    rfl
theorem impl_sumOf_ok {n1 : Option Bool} (xs : List Int) (hl : xs.length ≤ 1048576) (hb : ∀ x ∈ xs, 0 ≤ x ∧ x ≤ 1000000000) : CallOk Try.prog 77 [.s n1 (ii xs)] [(0, .i (sumL xs))] := by
  obtain ⟨code0, hcd1, hcd2⟩ := chk_impl_sumOf; refine callOk_of Try.func77 hcd1 mo Try.call77 (rs := [2]) (by kernel_rfl) hcd2 (by rw [Try.ntmps77]; simp) (by simp) (by decide) ?_; unfold C_impl_sumOf K_impl_sumOf; simp (config := { maxSteps := 2000000 }) only [go_sem, Nat.reduceBEq, Nat.reduceAdd, Nat.reduceMul, Nat.reduceMod, Nat.reduceLT, Nat.reduceDiv, Nat.reduceSub, Nat.reduceLeDiff, Int.reduceToNat, Int.reduceLT, Int.reduceLE, reduceCtorEq, List.take_nil, List.drop_nil]
  refine loopN xs.length (fun j => [(0, .t .arg (.s n1 (ii xs))), (3, .i (sumN xs j)), (6, .t .arg (.s n1 (ii xs))), (7, .i xs.length), (8, .i (j : Nat))]) (fun _ => True) ⟨trivial, by simp (config := { maxSteps := 2000000 }) only [go_sem, Nat.reduceBEq, Nat.reduceAdd, Nat.reduceMul, Nat.reduceMod, Nat.reduceLT, Nat.reduceDiv, Nat.reduceSub, Nat.reduceLeDiff, Int.reduceToNat, Int.reduceLT, Int.reduceLE, reduceCtorEq, List.take_nil, List.drop_nil]; simp [sumN]⟩ fun j hj _ => ?_
  simp (config := { maxSteps := 2000000 }) only [go_sem, Nat.reduceBEq, Nat.reduceAdd, Nat.reduceMul, Nat.reduceMod, Nat.reduceLT, Nat.reduceDiv, Nat.reduceSub, Nat.reduceLeDiff, Int.reduceToNat, Int.reduceLT, Int.reduceLE, reduceCtorEq, List.take_nil, List.drop_nil]
  refine ⟨fun hlt => ?_, fun hge => ?_⟩
  · have hj' : j < xs.length := by omega
    have h1 := sumN_bd hb hj
    have h2 := hb _ (getD_mem (d := 0) hj')
    exact ⟨by omega, hj', hj', inR_of (by omega) (by omega), inR_of (by omega) (by omega), hj', rfl, by simp⟩
  · have : j = xs.length := by omega
    subst this
    rfl
/-- The greatest of the first j + 1. -/
def maxN (xs : List Int) : Nat → Int
  | 0 => xs.getD 0 0
  | j + 1 => max (maxN xs j) (xs.getD (j + 1) 0)
theorem Max_ok {n1 : Option Bool} (xs : List Int) (hl : xs.length ≤ 1048576) (h0 : 0 < xs.length) : CallOk Try.prog 83 [.s n1 (ii xs)] [(0, .i (maxN xs (xs.length - 1)))] := by
  obtain ⟨code0, hcd1, hcd2⟩ := chk_slices_Max_Sint_int; refine callOk_of Try.func83 hcd1 mo Try.call83 (rs := [2]) (by kernel_rfl) hcd2 (by rw [Try.ntmps83]; simp) (by simp) (by decide) ?_; unfold C_slices_Max_Sint_int K_slices_Max_Sint_int; simp (config := { maxSteps := 2000000 }) only [go_sem, Nat.reduceBEq, Nat.reduceAdd, Nat.reduceMul, Nat.reduceMod, Nat.reduceLT, Nat.reduceDiv, Nat.reduceSub, Nat.reduceLeDiff, Int.reduceToNat, Int.reduceLT, Int.reduceLE, reduceCtorEq, List.take_nil, List.drop_nil]
  refine ⟨fun h => by omega, fun _ => ⟨h0, h0, ?_⟩⟩
  refine loopN (xs.length - 1) (fun j => [(0, .t .arg (.s n1 (ii xs))), (3, .i (maxN xs j)), (4, .i (j + 1 : Nat))]) (fun _ => True) ⟨trivial, by simp (config := { maxSteps := 2000000 }) only [go_sem, Nat.reduceBEq, Nat.reduceAdd, Nat.reduceMul, Nat.reduceMod, Nat.reduceLT, Nat.reduceDiv, Nat.reduceSub, Nat.reduceLeDiff, Int.reduceToNat, Int.reduceLT, Int.reduceLE, reduceCtorEq, List.take_nil, List.drop_nil]; simp [maxN]⟩ fun j hj _ => ?_
  simp (config := { maxSteps := 2000000 }) only [go_sem, Nat.reduceBEq, Nat.reduceAdd, Nat.reduceMul, Nat.reduceMod, Nat.reduceLT, Nat.reduceDiv, Nat.reduceSub, Nat.reduceLeDiff, Int.reduceToNat, Int.reduceLT, Int.reduceLE, reduceCtorEq, List.take_nil, List.drop_nil]
  refine ⟨fun hlt => ?_, fun hge => ?_⟩
  · have hj' : j + 1 < xs.length := by omega
    exact ⟨by omega, hj', hj', inR_of (by omega) (by omega), by omega, rfl, by simp⟩
  · have : j = xs.length - 1 := by omega
    subst this
    rfl
def countsB (cs : List Int) : Bool := inI cs.length 1 6 && (cs.all fun n => inI n 0 1000000) && decide (0 < sumL cs)
theorem maxN_pos {xs : List Int} (h : ∀ x ∈ xs, 0 ≤ x) : ∀ {j : Nat}, j < xs.length → ((0 < maxN xs j) ↔ 0 < sumN xs (j + 1))
  | 0, _ => by simp [maxN, sumN]
  | j + 1, hj => by
    have h1 := maxN_pos h (j := j) (by omega)
    have h2 := h _ (getD_mem (d := 0) hj)
    have h3 : ∀ {i : Nat}, i ≤ xs.length → 0 ≤ sumN xs i := by
      intro i
      induction i with
      | zero => intro _; simp [sumN]
      | succ i ih =>
        intro hi
        have := ih (by omega)
        have := h _ (getD_mem (d := 0) (show i < xs.length by omega))
        simp only [sumN]; omega
    have h4 := h3 (i := j + 1) (by omega)
    have e1 : maxN xs (j + 1) = max (maxN xs j) (xs.getD (j + 1) 0) := rfl
    have e2 : sumN xs (j + 1 + 1) = sumN xs (j + 1) + xs.getD (j + 1) 0 := rfl
    rw [e1, e2]
    omega
theorem impl_CountsOk_ok {n1 : Option Bool} (cs : List Int) (hl : cs.length ≤ 1048576) : CallOk Try.prog 26 [.s n1 (ii cs)] [(0, .b (countsB cs))] := by
  obtain ⟨code0, hcd1, hcd2⟩ := chk_impl_CountsOk; refine callOk_of Try.func26 hcd1 mo Try.call26 (rs := [2]) (by kernel_rfl) hcd2 (by rw [Try.ntmps26]; simp) (by simp) (by decide) ?_; unfold C_impl_CountsOk K_impl_CountsOk; simp (config := { maxSteps := 2000000 }) only [go_sem, Nat.reduceBEq, Nat.reduceAdd, Nat.reduceMul, Nat.reduceMod, Nat.reduceLT, Nat.reduceDiv, Nat.reduceSub, Nat.reduceLeDiff, Int.reduceToNat, Int.reduceLT, Int.reduceLE, reduceCtorEq, List.take_nil, List.drop_nil]
  refine ⟨_, within_ok _ _ _, ?_⟩; simp (config := { maxSteps := 2000000 }) only [go_sem, Nat.reduceBEq, Nat.reduceAdd, Nat.reduceMul, Nat.reduceMod, Nat.reduceLT, Nat.reduceDiv, Nat.reduceSub, Nat.reduceLeDiff, Int.reduceToNat, Int.reduceLT, Int.reduceLE, reduceCtorEq, List.take_nil, List.drop_nil]
  refine ⟨fun h => ?_, fun h => by simp [countsB, h]⟩
  refine ⟨_, allWithin_ok cs 0 1000000 hl, ?_⟩; simp (config := { maxSteps := 2000000 }) only [go_sem, Nat.reduceBEq, Nat.reduceAdd, Nat.reduceMul, Nat.reduceMod, Nat.reduceLT, Nat.reduceDiv, Nat.reduceSub, Nat.reduceLeDiff, Int.reduceToNat, Int.reduceLT, Int.reduceLE, reduceCtorEq, List.take_nil, List.drop_nil]
  refine ⟨fun h1 => ?_, fun h1 => by simp [countsB, h1]⟩
  have h0 : 0 < cs.length := by simp only [inI, Bool.and_eq_true, decide_eq_true_eq] at h; omega
  refine ⟨_, Max_ok cs hl h0, ?_⟩; simp (config := { maxSteps := 2000000 }) only [go_sem, Nat.reduceBEq, Nat.reduceAdd, Nat.reduceMul, Nat.reduceMod, Nat.reduceLT, Nat.reduceDiv, Nat.reduceSub, Nat.reduceLeDiff, Int.reduceToNat, Int.reduceLT, Int.reduceLE, reduceCtorEq, List.take_nil, List.drop_nil]
  have hp : ∀ x ∈ cs, 0 ≤ x := fun x hx => by
    have := List.all_eq_true.1 h1 x hx
    simp only [inI, Bool.and_eq_true, decide_eq_true_eq] at this; omega
  have := maxN_pos hp (j := cs.length - 1) (by omega)
  rw [show cs.length - 1 + 1 = cs.length from by omega] at this
  rw [countsB, h, h1, sumL]
  simp [this]
def askB (cs : List Int) (n : Int) : Bool := countsB cs && inI n 0 100
theorem impl_quotaAsked_ok {n1 : Option Bool} (cs : List Int) (n : Int) (hl : cs.length ≤ 1048576) : CallOk Try.prog 75 [.s n1 (ii cs), .i n] [(0, .b (askB cs n))] := by
  obtain ⟨code0, hcd1, hcd2⟩ := chk_impl_quotaAsked; refine callOk_of Try.func75 hcd1 mo Try.call75 (rs := [4]) (by kernel_rfl) hcd2 (by rw [Try.ntmps75]; simp) (by simp) (by decide) ?_; unfold C_impl_quotaAsked K_impl_quotaAsked; simp (config := { maxSteps := 2000000 }) only [go_sem, Nat.reduceBEq, Nat.reduceAdd, Nat.reduceMul, Nat.reduceMod, Nat.reduceLT, Nat.reduceDiv, Nat.reduceSub, Nat.reduceLeDiff, Int.reduceToNat, Int.reduceLT, Int.reduceLE, reduceCtorEq, List.take_nil, List.drop_nil]
  refine ⟨_, impl_CountsOk_ok cs hl, ?_⟩; simp (config := { maxSteps := 2000000 }) only [go_sem, Nat.reduceBEq, Nat.reduceAdd, Nat.reduceMul, Nat.reduceMod, Nat.reduceLT, Nat.reduceDiv, Nat.reduceSub, Nat.reduceLeDiff, Int.reduceToNat, Int.reduceLT, Int.reduceLE, reduceCtorEq, List.take_nil, List.drop_nil]
  refine ⟨fun h => ?_, fun h => by simp [askB, h]⟩
  refine ⟨_, within_ok _ _ _, ?_⟩; simp (config := { maxSteps := 2000000 }) only [go_sem, Nat.reduceBEq, Nat.reduceAdd, Nat.reduceMul, Nat.reduceMod, Nat.reduceLT, Nat.reduceDiv, Nat.reduceSub, Nat.reduceLeDiff, Int.reduceToNat, Int.reduceLT, Int.reduceLE, reduceCtorEq, List.take_nil, List.drop_nil]
  simp [askB, h]
/-- Valid counts, and a number of seats. -/
structure Ask (cs : List Int) (n : Int) : Prop where
  l1 : 1 ≤ cs.length
  l6 : cs.length ≤ 6
  bd : ∀ x ∈ cs, 0 ≤ x ∧ x ≤ 1000000
  pos : 0 < sumL cs
  le : sumL cs ≤ 6000000
  n0 : 0 ≤ n
  n1 : n ≤ 100
theorem ask_of {cs : List Int} {n : Int} (h : askB cs n = true) : Ask cs n := by
  simp only [askB, countsB, inI, Bool.and_eq_true, decide_eq_true_eq, List.all_eq_true] at h
  obtain ⟨⟨⟨h1, h2⟩, h3⟩, h4⟩ := h
  have hb : ∀ x ∈ cs, 0 ≤ x ∧ x ≤ 1000000 := fun x hx => h2 x hx
  have := (sumN_bd hb (Nat.le_refl cs.length)).2
  exact ⟨by omega, by omega, hb, h3, by unfold sumL; omega, h4.1, h4.2⟩

end Go.Proofs.Ytfdoddeccnjcmaa
