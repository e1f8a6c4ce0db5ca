/- Own work: contracts of functions that the claim reaches. No condition beyond those that each theorem names. -/
import Derived.Test.YtfdoddeccnjcmaaProg
import Derived.Test.YtfdoddeccnjcmaaFracs
import Derived.Test.YtfdoddeccnjcmaaHamd
import Derived.Test.YtfdoddeccnjcmaaSeats
import Derived.Test.YtfdoddeccnjcmaaConcat
import Derived.Test.YtfdoddeccnjcmaaCdraw
namespace Go.Proofs.Ytfdoddeccnjcmaa
open Go Go.Vc
set_option maxRecDepth 100000
set_option linter.unusedSimpArgs false
set_option linter.unusedVariables false
/-! Quotas as fractions, distances, and seats by Droop. -/
def K_impl_seatsAsked : List Nat := [0, 1, 4]
def C_impl_seatsAsked : C :=
  let ks := K_impl_seatsAsked
  (.seq
   (.rg 0 [(none, .v 4 .mv [.k (.b false)])])
   (.cl ks (.seq
   (.rg 0 [(none, .v 5 .mv [.s 0]), (none, .co 6 26 [.s 5]), (none, .v 7 .mv [.s 6]), (some (7, true), .v 8 .mv [.s 1]), (some (7, true), .v 9 .len [.s 8]), (some (7, true), .v 10 .mv [.s 0]), (some (7, true), .v 11 .len [.s 10]), (some (7, true), .v 12 (.bin .eql) [.s 9, .s 11]), (none, .v 13 .pick [.s 7, .s 12, .k (.b false)]), (none, .v 14 .mv [.s 13]), (some (14, true), .v 15 .mv [.s 1]), (some (14, true), .co 16 82 [.s 15, .k (.i 0), .k (.i 100)]), (none, .v 17 .pick [.s 14, .s 16, .k (.b false)]), (none, .v 18 .mv [.s 17]), (some (18, true), .v 19 .mv [.s 1]), (some (18, true), .co 20 77 [.s 19]), (some (18, true), .v 21 (.bin .leq) [.s 20, .k (.i 100)]), (none, .v 22 .pick [.s 18, .s 21, .k (.b false)]), (none, .tk 4 22)])
   .ret)))

theorem chk_impl_seatsAsked : ∃ b, Try.f84.body = some b ∧ chk Try.prog Try.f84.ntmps true C_impl_seatsAsked b = true := ⟨_, rfl, by kernel_rfl⟩
def K_impl_QuotaOf : List Nat := [0, 1, 2, 6, 7, 1006, 2006]
def C_impl_QuotaOf : C :=
  let ks := K_impl_QuotaOf
  (.seq
   (.rg 0 [(none, .new 6 [.i 0, .i 0]), (none, .v 7 .mv [.k (.b false)])])
   (.cl ks (.seq
   (.seq
   (.rg 0 [(none, .v 8 .mv [.s 0]), (none, .v 9 .mv [.s 1]), (none, .co 10 75 [.s 8, .s 9]), (none, .v 11 .not [.s 10]), (none, .v 12 .mv [.s 11]), (some (12, false), .v 13 .mv [.s 2]), (some (12, false), .v 14 .mv [.s 0]), (some (12, false), .v 15 .len [.s 14]), (some (12, false), .v 16 (.bin .sub) [.s 15, .k (.i 1)]), (some (12, false), .co 17 69 [.s 13, .k (.i 0), .s 16]), (some (12, false), .v 18 .not [.s 17]), (none, .v 19 .pick [.s 12, .k (.b true), .s 18])])
   (.cond (.s 19)
   (.seq
   (.rg 0 [(none, .v 20 .bld [.k (.i 0), .k (.i 0)]), (none, .sts (.s 6) (.s 20) 2), (none, .v 7 .mv [.k (.b false)])])
   .ret)
   .skip))
   (.cl ks (.seq
   (.rg 11 [(none, .v 21 .mv [.s 0]), (none, .v 22 .mv [.s 2]), (none, .v 23 .idx [.s 21, .s 22]), (none, .v 24 .ld [.s 23]), (none, .v 25 .mv [.s 1]), (none, .v 26 (.bin .mul) [.s 24, .s 25]), (none, .v 27 .mv [.s 0]), (none, .v 28 (.call 77) [.s 27]), (none, .v 29 (.call 85) [.s 26, .s 28]), (none, .v 30 (.ext 0) [.s 29]), (none, .v 31 (.ext 1) [.s 29]), (none, .sts (.s 6) (.s 30) 2), (none, .tk 7 31)])
   .ret)))))

theorem chk_impl_QuotaOf : ∃ b, Try.f29.body = some b ∧ chk Try.prog Try.f29.ntmps true C_impl_QuotaOf b = true := ⟨_, rfl, by kernel_rfl⟩
def K_impl_DistanceOf : List Nat := [0, 1, 4, 5, 6, 7, 8, 9, 20, 21, 22, 1004, 2004]
def C_impl_DistanceOf : C :=
  let ks := K_impl_DistanceOf
  (.seq
   (.rg 0 [(none, .new 4 [.i 0, .i 0]), (none, .v 5 .mv [.k (.b false)])])
   (.cl ks (.seq
   (.seq
   (.rg 0 [(none, .v 10 .mv [.s 0]), (none, .v 11 .mv [.s 1]), (none, .co 12 84 [.s 10, .s 11]), (none, .v 13 .not [.s 12]), (none, .v 14 .mv [.s 13]), (some (14, false), .v 15 .mv [.s 1]), (some (14, false), .co 16 77 [.s 15]), (some (14, false), .v 17 (.bin .eql) [.s 16, .k (.i 0)]), (none, .v 18 .pick [.s 14, .k (.b true), .s 17])])
   (.cond (.s 18)
   (.seq
   (.rg 0 [(none, .v 19 .bld [.k (.i 0), .k (.i 0)]), (none, .sts (.s 4) (.s 19) 2), (none, .v 5 .mv [.k (.b false)])])
   .ret)
   .skip))
   (.cl ks (.seq
   (.rg 0 [(none, .v 6 .mv [.k (.i 0)])])
   (.cl ks (.seq
   (.seq
   (.rg 0 [(none, .v 20 .mv [.s 1]), (none, .v 21 .len [.s 20]), (none, .v 22 .mv [.k (.i 0)])])
   (.cl ks (.block 0
   (.loop
   (.seq
   (.rg 0 [(none, .v 23 (.bin .lss) [.s 22, .s 21])])
   (.seq
   (.cond (.s 23)
   .skip
   (.exit 0))
   (.cl ks (.seq
   (.block 1
   (.seq
   (.rg 0 [(none, .v 24 .mv [.s 22]), (none, .v 25 .idx [.s 20, .s 22]), (none, .v 26 .ld [.s 25]), (none, .tk 7 24), (none, .tk 8 26)])
   (.cl ks (.seq
   (.rg 11 [(none, .v 27 .mv [.s 8]), (none, .v 28 .mv [.s 0]), (none, .v 29 (.call 77) [.s 28]), (none, .v 30 (.bin .mul) [.s 27, .s 29]), (none, .v 31 .mv [.s 0]), (none, .v 32 .mv [.s 7]), (none, .v 33 .idx [.s 31, .s 32]), (none, .v 34 .ld [.s 33]), (none, .v 35 .mv [.s 1]), (none, .v 36 (.call 77) [.s 35]), (none, .v 37 (.bin .mul) [.s 34, .s 36]), (none, .v 38 (.bin .sub) [.s 30, .s 37]), (none, .tk 9 38)])
   (.cl ks (.rg 0 [(none, .v 39 .mv [.s 6]), (none, .v 40 .mv [.s 9]), (none, .v 41 .mv [.s 9]), (none, .v 42 .neg [.s 41]), (none, .v 43 .mx [.s 40, .s 42]), (none, .v 44 (.bin .add) [.s 39, .s 43]), (none, .tk 6 44)]))))))
   (.cl ks (.rg 0 [(none, .v 45 (.bin .add) [.s 22, .k (.i 1)]), (none, .v 22 .mv [.s 45])]))))))))))
   (.cl ks (.seq
   (.rg 0 [(none, .v 46 .mv [.s 6]), (none, .v 47 .mv [.s 1]), (none, .co 48 77 [.s 47]), (none, .v 49 (.bin .mul) [.k (.i 2), .s 48]), (none, .v 50 .mv [.s 0]), (none, .co 51 77 [.s 50]), (none, .v 52 (.bin .mul) [.s 49, .s 51]), (none, .co 53 85 [.s 46, .s 52]), (none, .tk 54 100053), (none, .tk 55 101053), (none, .sts (.s 4) (.s 54) 2), (none, .tk 5 55)])
   .ret)))))))))

theorem chk_impl_DistanceOf : ∃ b, Try.f31.body = some b ∧ chk Try.prog Try.f31.ntmps true C_impl_DistanceOf b = true := ⟨_, rfl, by kernel_rfl⟩
def K_impl_KeepsQuota : List Nat := [0, 1, 4, 5, 6, 7, 8, 21, 22, 23]
def C_impl_KeepsQuota : C :=
  let ks := K_impl_KeepsQuota
  (.seq
   (.rg 0 [(none, .v 4 .mv [.k (.b false)])])
   (.cl ks (.seq
   (.seq
   (.rg 0 [(none, .v 9 .mv [.s 0]), (none, .v 10 .mv [.s 1]), (none, .co 11 84 [.s 9, .s 10]), (none, .v 12 .not [.s 11])])
   (.cond (.s 12)
   (.seq
   (.rg 0 [(none, .v 4 .mv [.k (.b false)])])
   .ret)
   .skip))
   (.cl ks (.seq
   (.rg 0 [(none, .v 13 .mv [.s 0]), (none, .v 14 .mv [.s 1]), (none, .co 15 77 [.s 14]), (none, .co 16 23 [.s 13, .s 15]), (none, .v 17 .mv [.s 0]), (none, .v 18 .mv [.s 1]), (none, .co 19 77 [.s 18]), (none, .co 20 24 [.s 17, .s 19]), (none, .tk 5 16), (none, .tk 6 20)])
   (.cl ks (.seq
   (.seq
   (.rg 0 [(none, .v 21 .mv [.s 1]), (none, .v 22 .len [.s 21]), (none, .v 23 .mv [.k (.i 0)])])
   (.cl ks (.block 0
   (.loop
   (.seq
   (.rg 0 [(none, .v 24 (.bin .lss) [.s 23, .s 22])])
   (.seq
   (.cond (.s 24)
   .skip
   (.exit 0))
   (.cl ks (.seq
   (.block 1
   (.seq
   (.rg 0 [(none, .v 25 .mv [.s 23]), (none, .v 26 .idx [.s 21, .s 23]), (none, .v 27 .ld [.s 26]), (none, .tk 7 25), (none, .tk 8 27)])
   (.cl ks (.seq
   (.rg 9 [(none, .v 28 .mv [.s 8]), (none, .v 29 .mv [.s 5]), (none, .v 30 .mv [.s 7]), (none, .v 31 .idx [.s 29, .s 30]), (none, .v 32 .ld [.s 31]), (none, .v 33 .mv [.s 6]), (none, .v 34 .mv [.s 7]), (none, .v 35 .idx [.s 33, .s 34]), (none, .v 36 .ld [.s 35]), (none, .co 37 69 [.s 28, .s 32, .s 36]), (none, .v 38 .not [.s 37])])
   (.cond (.s 38)
   (.seq
   (.rg 0 [(none, .v 4 .mv [.k (.b false)])])
   .ret)
   .skip)))))
   (.cl ks (.rg 0 [(none, .v 39 (.bin .add) [.s 23, .k (.i 1)]), (none, .v 23 .mv [.s 39])]))))))))))
   (.cl ks (.seq
   (.rg 0 [(none, .v 4 .mv [.k (.b true)])])
   .ret)))))))))

theorem chk_impl_KeepsQuota : ∃ b, Try.f28.body = some b ∧ chk Try.prog Try.f28.ntmps true C_impl_KeepsQuota b = true := ⟨_, rfl, by kernel_rfl⟩
def K_impl_DroopSeats : List Nat := [0, 1, 4, 5, 6, 7, 9, 10, 21, 22, 23, 48, 49]
def C_impl_DroopSeats : C :=
  let ks := K_impl_DroopSeats
  (.seq
   (.rg 0 [(none, .mkn 4)])
   (.cl ks (.seq
   (.seq
   (.rg 0 [(none, .v 11 .mv [.s 0]), (none, .v 12 .mv [.s 1]), (none, .co 13 75 [.s 11, .s 12]), (none, .v 14 .not [.s 13])])
   (.cond (.s 14)
   (.seq
   (.rg 0 [(none, .mkn 4)])
   .ret)
   .skip))
   (.cl ks (.seq
   (.rg 0 [(none, .v 15 .mv [.s 0]), (none, .co 16 77 [.s 15]), (none, .v 17 .mv [.s 1]), (none, .v 18 (.bin .add) [.s 17, .k (.i 1)]), (none, .v 19 (.bin .quo) [.s 16, .s 18]), (none, .v 20 (.bin .add) [.s 19, .k (.i 1)]), (none, .tk 5 20)])
   (.cl ks (.seq
   (.rg 0 [(none, .mkn 6), (none, .mkn 7)])
   (.cl ks (.seq
   (.seq
   (.rg 0 [(none, .v 21 .mv [.s 0]), (none, .v 22 .len [.s 21]), (none, .v 23 .mv [.k (.i 0)])])
   (.cl ks (.block 0
   (.loop
   (.seq
   (.rg 0 [(none, .v 24 (.bin .lss) [.s 23, .s 22])])
   (.seq
   (.cond (.s 24)
   .skip
   (.exit 0))
   (.cl ks (.seq
   (.block 1
   (.seq
   (.rg 0 [(none, .v 25 .idx [.s 21, .s 23]), (none, .v 26 .ld [.s 25]), (none, .tk 9 26)])
   (.cl ks (.seq
   (.rg 0 [(none, .v 27 .mv [.s 6]), (none, .v 28 .mv [.s 9]), (none, .v 29 .mv [.s 5]), (none, .v 30 (.bin .quo) [.s 28, .s 29]), (none, .lit 31 [.s 30] 0), (none, .app 32 (.s 27) (.s 31) 0), (none, .tk 6 32)])
   (.cl ks (.rg 0 [(none, .v 33 .mv [.s 7]), (none, .v 34 .mv [.s 9]), (none, .v 35 .mv [.s 5]), (none, .v 36 (.bin .rem) [.s 34, .s 35]), (none, .lit 37 [.s 36] 0), (none, .app 38 (.s 33) (.s 37) 0), (none, .tk 7 38)]))))))
   (.cl ks (.rg 0 [(none, .v 39 (.bin .add) [.s 23, .k (.i 1)]), (none, .v 23 .mv [.s 39])]))))))))))
   (.cl ks (.seq
   (.block 2
   (.loop
   (.seq
   (.seq
   (.rg 0 [(none, .v 40 .mv [.s 1]), (none, .v 41 .mv [.s 6]), (none, .co 42 77 [.s 41]), (none, .v 43 (.bin .sub) [.s 40, .s 42]), (none, .v 44 .mv [.s 6]), (none, .v 45 .len [.s 44]), (none, .v 46 (.bin .gtr) [.s 43, .s 45])])
   (.cond (.s 46)
   .skip
   (.exit 2)))
   (.cl ks (.block 3
   (.seq
   (.rg 0 [(none, .v 47 .mv [.s 6]), (none, .v 48 .len [.s 47]), (none, .v 49 .mv [.k (.i 0)])])
   (.cl ks (.block 4
   (.loop
   (.seq
   (.rg 0 [(none, .v 50 (.bin .lss) [.s 49, .s 48])])
   (.seq
   (.cond (.s 50)
   .skip
   (.exit 4))
   (.cl ks (.seq
   (.block 5
   (.seq
   (.rg 0 [(none, .v 51 .mv [.s 49]), (none, .tk 10 51)])
   (.cl ks (.rg 0 [(none, .v 52 .mv [.s 6]), (none, .v 53 .mv [.s 10]), (none, .v 54 .idx [.s 52, .s 53]), (none, .v 55 .ld [.s 54]), (none, .v 56 (.bin .add) [.s 55, .k (.i 1)]), (none, .v 57 .idx [.s 52, .s 53]), (none, .st (.s 57) (.s 56))]))))
   (.cl ks (.rg 0 [(none, .v 58 (.bin .add) [.s 49, .k (.i 1)]), (none, .v 49 .mv [.s 58])])))))))))))))))
   (.cl ks (.seq
   (.rg 0 [(none, .v 59 .mv [.s 6]), (none, .v 60 .mv [.s 7]), (none, .v 61 .mv [.s 1]), (none, .coc 62 76 [.s 59, .s 60, .s 61] [0]), (none, .tk 4 62)])
   .ret)))))))))))))

theorem chk_impl_DroopSeats : ∃ b, Try.f22.body = some b ∧ chk Try.prog Try.f22.ntmps true C_impl_DroopSeats b = true := ⟨_, rfl, by kernel_rfl⟩
theorem impl_QuotaOf_ok {n1 : Option Bool} (cs : List Int) (n : Int) (h : askB cs n = true) (hb : ∀ x ∈ cs, x ≤ 1000000) (hm : ∀ x ∈ cs, x * n ≤ 1000000000) {i : Nat} (hi : i < cs.length) : ∃ p q g : Int, Fr p q ∧ 1 ≤ g ∧ cs.getD i 0 * n = p * g ∧ sumL cs = q * g ∧
    CallOk Try.prog 29 [.s n1 (ii cs), .i n, .i i] [(0, .tp 2), (100000, .t .fr (.a [.i p, .i q])), (101000, .b true)] := by
  have A := ask_of h
  have l6 := A.l6
  have b := A.bd _ (getD_mem (d := 0) hi)
  have m0 := (mul_bd b.1 b.2 A.n0 A.n1).1
  have m1 := hm _ (getD_mem (d := 0) hi)
  have sp := A.pos
  have sl := A.le
  obtain ⟨p, q, g, F, g1, e1, e2, W⟩ := impl_reduced_ok (t := cs.getD i 0 * n) (b := sumL cs) m0 m1 (by omega) (by omega)
  refine ⟨p, q, g, F, g1, e1, e2, ?_⟩
  have c1 : CallOk Try.prog 75 [.s n1 (ii cs), .i n] [(0, .b true)] := by have := impl_quotaAsked_ok (n1 := n1) cs n (by omega); rwa [h] at this
  have c2 : CallOk Try.prog 69 [.i i, .i 0, .i ((cs.length : Int) - 1)] [(0, .b true)] := by have := within_ok i 0 ((cs.length : Int) - 1); rwa [show inI i 0 ((cs.length : Int) - 1) = true by simp [inI]; omega] at this
  obtain ⟨code0, hcd1, hcd2⟩ := chk_impl_QuotaOf; refine callT_of Try.func29 hcd1 mo Try.call29 (z := 6) (ty := 42) (r := 7) (by kernel_rfl) (by kernel_rfl) hcd2 (by rw [Try.ntmps29]; simp) (by simp) (by decide) (by decide) ?_; unfold C_impl_QuotaOf K_impl_QuotaOf; simp (config := { maxSteps := 2000000 }) only [go_sem, Nat.reduceBEq, Nat.reduceAdd, Nat.reduceMul, Nat.reduceMod, Nat.reduceLT, Nat.reduceDiv, Nat.reduceSub, Nat.reduceLeDiff, Int.reduceToNat, Int.reduceLT, Int.reduceLE, reduceCtorEq, List.take_nil, List.drop_nil]
  refine ⟨_, c1, ?_⟩; simp (config := { maxSteps := 2000000 }) only [go_sem, Nat.reduceBEq, Nat.reduceAdd, Nat.reduceMul, Nat.reduceMod, Nat.reduceLT, Nat.reduceDiv, Nat.reduceSub, Nat.reduceLeDiff, Int.reduceToNat, Int.reduceLT, Int.reduceLE, reduceCtorEq, List.take_nil, List.drop_nil]
  refine ⟨inR_of (by omega) (by omega), ?_⟩
  refine ⟨_, c2, ?_⟩; simp (config := { maxSteps := 2000000 }) only [go_sem, Nat.reduceBEq, Nat.reduceAdd, Nat.reduceMul, Nat.reduceMod, Nat.reduceLT, Nat.reduceDiv, Nat.reduceSub, Nat.reduceLeDiff, Int.reduceToNat, Int.reduceLT, Int.reduceLE, reduceCtorEq, List.take_nil, List.drop_nil]
  refine ⟨by omega, hi, hi, inR_of (by omega) (by omega), ?_⟩
  refine ⟨_, impl_sumOf_ok cs (by omega) (ask_bd A), ?_⟩; simp (config := { maxSteps := 2000000 }) only [go_sem, Nat.reduceBEq, Nat.reduceAdd, Nat.reduceMul, Nat.reduceMod, Nat.reduceLT, Nat.reduceDiv, Nat.reduceSub, Nat.reduceLeDiff, Int.reduceToNat, Int.reduceLT, Int.reduceLE, reduceCtorEq, List.take_nil, List.drop_nil]
  refine ⟨_, W, ?_⟩; simp (config := { maxSteps := 2000000 }) only [go_sem, Nat.reduceBEq, Nat.reduceAdd, Nat.reduceMul, Nat.reduceMod, Nat.reduceLT, Nat.reduceDiv, Nat.reduceSub, Nat.reduceLeDiff, Int.reduceToNat, Int.reduceLT, Int.reduceLE, reduceCtorEq, List.take_nil, List.drop_nil]
/-- Counts, and as many seats. -/
structure Sts (cs ss : List Int) : Prop where
  ask : askB cs (sumL ss) = true
  len : ss.length = cs.length
  bd : ∀ x ∈ ss, 0 ≤ x ∧ x ≤ 100
theorem impl_seatsAsked_ok {n1 n2 : Option Bool} (cs ss : List Int) (h : Sts cs ss) : CallOk Try.prog 84 [.s n1 (ii cs), .s n2 (ii ss)] [(0, .b true)] := by
  have A := ask_of h.ask
  have l6 := A.l6
  have hl := h.len
  have n1' := A.n1
  have c1 : CallOk Try.prog 26 [.s n1 (ii cs)] [(0, .b true)] := by
    have := impl_CountsOk_ok (n1 := n1) cs (by omega)
    have e : countsB cs = true := by have := h.ask; simp only [askB, Bool.and_eq_true] at this; exact this.1
    rwa [e] at this
  have c2 : CallOk Try.prog 82 [.s n2 (ii ss), .i 0, .i 100] [(0, .b true)] := by
    have := allWithin_ok (nl := n2) ss 0 100 (by omega)
    have e : (ss.all fun n => inI n 0 100) = true := by
      rw [List.all_eq_true]; intro x hx; have := h.bd x hx; simp [inI]; omega
    rwa [e] at this
  obtain ⟨code0, hcd1, hcd2⟩ := chk_impl_seatsAsked; refine callOk_of Try.func84 hcd1 mo Try.call84 (rs := [4]) (by kernel_rfl) hcd2 (by rw [Try.ntmps84]; simp) (by simp) (by decide) ?_; unfold C_impl_seatsAsked K_impl_seatsAsked; simp (config := { maxSteps := 2000000 }) only [go_sem, Nat.reduceBEq, Nat.reduceAdd, Nat.reduceMul, Nat.reduceMod, Nat.reduceLT, Nat.reduceDiv, Nat.reduceSub, Nat.reduceLeDiff, Int.reduceToNat, Int.reduceLT, Int.reduceLE, reduceCtorEq, List.take_nil, List.drop_nil]
  refine ⟨_, c1, ?_⟩; simp (config := { maxSteps := 2000000 }) only [go_sem, Nat.reduceBEq, Nat.reduceAdd, Nat.reduceMul, Nat.reduceMod, Nat.reduceLT, Nat.reduceDiv, Nat.reduceSub, Nat.reduceLeDiff, Int.reduceToNat, Int.reduceLT, Int.reduceLE, reduceCtorEq, List.take_nil, List.drop_nil]
  refine ⟨fun _ => ?_, fun e => absurd hl e⟩
  refine ⟨_, c2, ?_⟩; simp (config := { maxSteps := 2000000 }) only [go_sem, Nat.reduceBEq, Nat.reduceAdd, Nat.reduceMul, Nat.reduceMod, Nat.reduceLT, Nat.reduceDiv, Nat.reduceSub, Nat.reduceLeDiff, Int.reduceToNat, Int.reduceLT, Int.reduceLE, reduceCtorEq, List.take_nil, List.drop_nil]
  refine ⟨_, impl_sumOf_ok ss (by omega) (fun x hx => by have := h.bd x hx; omega), ?_⟩; simp (config := { maxSteps := 2000000 }) only [go_sem, Nat.reduceBEq, Nat.reduceAdd, Nat.reduceMul, Nat.reduceMod, Nat.reduceLT, Nat.reduceDiv, Nat.reduceSub, Nat.reduceLeDiff, Int.reduceToNat, Int.reduceLT, Int.reduceLE, reduceCtorEq, List.take_nil, List.drop_nil]
  simp [n1']
/-- The distance of the first j. -/
def distJ (cs ss : List Int) (j : Nat) : Int := sumF (fun i => absI (ss.getD i 0 * sumL cs - cs.getD i 0 * sumL ss)) j
theorem distJ_bd {cs ss : List Int} (h : Sts cs ss) (hb : ∀ x ∈ cs, x ≤ 10000) : ∀ {j : Nat}, j ≤ cs.length → 0 ≤ distJ cs ss j ∧ distJ cs ss j ≤ 6000000 * j
  | 0, _ => by simp [distJ, sumF]
  | j + 1, hj => by
    have ih := distJ_bd h hb (j := j) (by omega)
    have A := ask_of h.ask
    have l6 := A.l6
    have s := h.bd _ (getD_mem (d := 0) (show j < ss.length by rw [h.len]; omega))
    have c := A.bd _ (getD_mem (d := 0) (show j < cs.length by omega))
    have c' := hb _ (getD_mem (d := 0) (show j < cs.length by omega))
    have sb := (sumN_bd (xs := cs) (B := 10000) (fun x hx => ⟨(A.bd x hx).1, hb x hx⟩) (Nat.le_refl _)).2
    have sp := A.pos
    have m1 := mul_bd2 s.1 s.2 (show 0 ≤ sumL cs by omega) (show sumL cs ≤ 60000 by unfold sumL; omega)
    have m2 := mul_bd2 c.1 c' A.n0 A.n1
    have e : distJ cs ss (j + 1) = distJ cs ss j + absI (ss.getD j 0 * sumL cs - cs.getD j 0 * sumL ss) := rfl
    rw [e]
    unfold absI
    omega
theorem impl_DistanceOf_ok {n1 n2 : Option Bool} (cs ss : List Int) (h : Sts cs ss) (hb : ∀ x ∈ cs, x ≤ 10000) (hn : 0 < sumL ss) : ∃ p q g : Int, Fr p q ∧ 1 ≤ g ∧ distF cs ss = p * g ∧ 2 * sumL ss * sumL cs = q * g ∧
    CallOk Try.prog 31 [.s n1 (ii cs), .s n2 (ii ss)] [(0, .tp 2), (100000, .t .fr (.a [.i p, .i q])), (101000, .b true)] := by
  have A := ask_of h.ask
  have l6 := A.l6
  have l1 := A.l1
  have hl := h.len
  have n1' := A.n1
  have sb := (sumN_bd (xs := cs) (B := 10000) (fun x hx => ⟨(A.bd x hx).1, hb x hx⟩) (Nat.le_refl _)).2
  have sp := A.pos
  have sS : sumL cs ≤ 60000 := by unfold sumL; omega
  have db := distJ_bd h hb (Nat.le_refl _)
  have m3 := mul_bd2 A.n0 A.n1 (show 0 ≤ sumL cs by omega) sS
  have m4 : 1 ≤ sumL ss * sumL cs := Int.mul_pos hn sp
  have ea : 2 * sumL ss * sumL cs = 2 * (sumL ss * sumL cs) := Int.mul_assoc _ _ _
  obtain ⟨p, q, g, F, g1, e1, e2, W⟩ := impl_reduced_ok (t := distF cs ss) (b := 2 * sumL ss * sumL cs) db.1 (by have : distF cs ss = distJ cs ss cs.length := rfl; omega) (by omega) (by omega)
  refine ⟨p, q, g, F, g1, e1, e2, ?_⟩
  have cS : ∀ n1, CallOk Try.prog 77 [.s n1 (ii ss)] [(0, .i (sumL ss))] := fun n1 => impl_sumOf_ok ss (by omega) (fun x hx => by have := h.bd x hx; omega)
  have cC : ∀ n1, CallOk Try.prog 77 [.s n1 (ii cs)] [(0, .i (sumL cs))] := fun n1 => impl_sumOf_ok cs (by omega) (ask_bd A)
  obtain ⟨code0, hcd1, hcd2⟩ := chk_impl_DistanceOf; refine callT_of Try.func31 hcd1 mo Try.call31 (z := 4) (ty := 42) (r := 5) (by kernel_rfl) (by kernel_rfl) hcd2 (by rw [Try.ntmps31]; simp) (by simp) (by decide) (by decide) ?_; unfold C_impl_DistanceOf K_impl_DistanceOf; simp (config := { maxSteps := 2000000 }) only [go_sem, Nat.reduceBEq, Nat.reduceAdd, Nat.reduceMul, Nat.reduceMod, Nat.reduceLT, Nat.reduceDiv, Nat.reduceSub, Nat.reduceLeDiff, Int.reduceToNat, Int.reduceLT, Int.reduceLE, reduceCtorEq, List.take_nil, List.drop_nil]
  refine ⟨_, impl_seatsAsked_ok cs ss h, ?_⟩; simp (config := { maxSteps := 2000000 }) only [go_sem, Nat.reduceBEq, Nat.reduceAdd, Nat.reduceMul, Nat.reduceMod, Nat.reduceLT, Nat.reduceDiv, Nat.reduceSub, Nat.reduceLeDiff, Int.reduceToNat, Int.reduceLT, Int.reduceLE, reduceCtorEq, List.take_nil, List.drop_nil]
  refine ⟨_, cS _, ?_⟩; simp (config := { maxSteps := 2000000 }) only [go_sem, Nat.reduceBEq, Nat.reduceAdd, Nat.reduceMul, Nat.reduceMod, Nat.reduceLT, Nat.reduceDiv, Nat.reduceSub, Nat.reduceLeDiff, Int.reduceToNat, Int.reduceLT, Int.reduceLE, reduceCtorEq, List.take_nil, List.drop_nil]
  refine ⟨fun e => by omega, fun _ => ?_⟩
  refine loopN ss.length (fun j => [(0, .t .arg (.s n1 (ii cs))), (1, .t .arg (.s n2 (ii ss))), (4, .bx 2), (5, .b false), (6, .i (distJ cs ss j)), (20, .t .arg (.s n2 (ii ss))), (21, .i ss.length), (22, .i (j : Nat)), (1004, .i 0), (2004, .i 0)]) (fun _ => True) ⟨trivial, by simp (config := { maxSteps := 2000000 }) only [go_sem, Nat.reduceBEq, Nat.reduceAdd, Nat.reduceMul, Nat.reduceMod, Nat.reduceLT, Nat.reduceDiv, Nat.reduceSub, Nat.reduceLeDiff, Int.reduceToNat, Int.reduceLT, Int.reduceLE, reduceCtorEq, List.take_nil, List.drop_nil]; simp [distJ, sumF]⟩ fun j hj _ => ?_
  simp (config := { maxSteps := 2000000 }) only [go_sem, Nat.reduceBEq, Nat.reduceAdd, Nat.reduceMul, Nat.reduceMod, Nat.reduceLT, Nat.reduceDiv, Nat.reduceSub, Nat.reduceLeDiff, Int.reduceToNat, Int.reduceLT, Int.reduceLE, reduceCtorEq, List.take_nil, List.drop_nil]
  refine ⟨fun hlt => ?_, fun hge => ?_⟩
  · have hj' : j < ss.length := by omega
    have s := h.bd _ (getD_mem (d := 0) hj')
    have c := A.bd _ (getD_mem (d := 0) (show j < cs.length by omega))
    have c' := hb _ (getD_mem (d := 0) (show j < cs.length by omega))
    have m1 := mul_bd2 s.1 s.2 (show 0 ≤ sumL cs by omega) sS
    have m2 := mul_bd2 c.1 c' A.n0 A.n1
    have dj := distJ_bd h hb (j := j) (by omega)
    have dn := distJ_bd h hb (j := j + 1) (by omega)
    have e : distJ cs ss (j + 1) = distJ cs ss j + absI (ss.getD j 0 * sumL cs - cs.getD j 0 * sumL ss) := rfl
    refine ⟨by omega, hj', hj', ?_⟩
    refine ⟨_, cC _, ?_⟩; simp (config := { maxSteps := 2000000 }) only [go_sem, Nat.reduceBEq, Nat.reduceAdd, Nat.reduceMul, Nat.reduceMod, Nat.reduceLT, Nat.reduceDiv, Nat.reduceSub, Nat.reduceLeDiff, Int.reduceToNat, Int.reduceLT, Int.reduceLE, reduceCtorEq, List.take_nil, List.drop_nil]
    refine ⟨inR_of (by omega) (by omega), by omega, by omega, by omega, ?_⟩
    refine ⟨_, cS _, ?_⟩; simp (config := { maxSteps := 2000000 }) only [go_sem, Nat.reduceBEq, Nat.reduceAdd, Nat.reduceMul, Nat.reduceMod, Nat.reduceLT, Nat.reduceDiv, Nat.reduceSub, Nat.reduceLeDiff, Int.reduceToNat, Int.reduceLT, Int.reduceLE, reduceCtorEq, List.take_nil, List.drop_nil]
    unfold absI at e
    exact ⟨inR_of (by omega) (by omega), inR_of (by omega) (by omega), inR_of (by omega) (by omega), inR_of (by omega) (by omega), inR_of (by omega) (by omega), hj', e.symm, by simp⟩
  · have ej : j = ss.length := by omega
    subst ej
    refine ⟨_, cS _, ?_⟩; simp (config := { maxSteps := 2000000 }) only [go_sem, Nat.reduceBEq, Nat.reduceAdd, Nat.reduceMul, Nat.reduceMod, Nat.reduceLT, Nat.reduceDiv, Nat.reduceSub, Nat.reduceLeDiff, Int.reduceToNat, Int.reduceLT, Int.reduceLE, reduceCtorEq, List.take_nil, List.drop_nil]
    refine ⟨inR_of (by omega) (by omega), ?_⟩
    refine ⟨_, cC _, ?_⟩; simp (config := { maxSteps := 2000000 }) only [go_sem, Nat.reduceBEq, Nat.reduceAdd, Nat.reduceMul, Nat.reduceMod, Nat.reduceLT, Nat.reduceDiv, Nat.reduceSub, Nat.reduceLeDiff, Int.reduceToNat, Int.reduceLT, Int.reduceLE, reduceCtorEq, List.take_nil, List.drop_nil]
    refine ⟨inR_of (by omega) (by omega), ?_⟩
    have e : distJ cs ss ss.length = distF cs ss := by rw [hl]; rfl
    rw [e]
    refine ⟨_, W, ?_⟩; simp (config := { maxSteps := 2000000 }) only [go_sem, Nat.reduceBEq, Nat.reduceAdd, Nat.reduceMul, Nat.reduceMod, Nat.reduceLT, Nat.reduceDiv, Nat.reduceSub, Nat.reduceLeDiff, Int.reduceToNat, Int.reduceLT, Int.reduceLE, reduceCtorEq, List.take_nil, List.drop_nil]
theorem impl_KeepsQuota_ok {n1 n2 : Option Bool} (cs ss : List Int) (h : Sts cs ss) (hk : ∀ i, i < cs.length → (quoF lowO cs (sumL ss)).getD i 0 ≤ ss.getD i 0 ∧ ss.getD i 0 ≤ (quoF uppO cs (sumL ss)).getD i 0) : CallOk Try.prog 28 [.s n1 (ii cs), .s n2 (ii ss)] [(0, .b true)] := by
  have A := ask_of h.ask
  have l6 := A.l6
  have hl := h.len
  have cS : ∀ n1, CallOk Try.prog 77 [.s n1 (ii ss)] [(0, .i (sumL ss))] := fun n1 => impl_sumOf_ok ss (by omega) (fun x hx => by have := h.bd x hx; omega)
  have ll := quo_len (op := lowO) h.ask
  have lu := quo_len (op := uppO) h.ask
  obtain ⟨code0, hcd1, hcd2⟩ := chk_impl_KeepsQuota; refine callOk_of Try.func28 hcd1 mo Try.call28 (rs := [4]) (by kernel_rfl) hcd2 (by rw [Try.ntmps28]; simp) (by simp) (by decide) ?_; unfold C_impl_KeepsQuota K_impl_KeepsQuota; simp (config := { maxSteps := 2000000 }) only [go_sem, Nat.reduceBEq, Nat.reduceAdd, Nat.reduceMul, Nat.reduceMod, Nat.reduceLT, Nat.reduceDiv, Nat.reduceSub, Nat.reduceLeDiff, Int.reduceToNat, Int.reduceLT, Int.reduceLE, reduceCtorEq, List.take_nil, List.drop_nil]
  refine ⟨_, impl_seatsAsked_ok cs ss h, ?_⟩; simp (config := { maxSteps := 2000000 }) only [go_sem, Nat.reduceBEq, Nat.reduceAdd, Nat.reduceMul, Nat.reduceMod, Nat.reduceLT, Nat.reduceDiv, Nat.reduceSub, Nat.reduceLeDiff, Int.reduceToNat, Int.reduceLT, Int.reduceLE, reduceCtorEq, List.take_nil, List.drop_nil]
  refine ⟨_, cS _, ?_⟩; simp (config := { maxSteps := 2000000 }) only [go_sem, Nat.reduceBEq, Nat.reduceAdd, Nat.reduceMul, Nat.reduceMod, Nat.reduceLT, Nat.reduceDiv, Nat.reduceSub, Nat.reduceLeDiff, Int.reduceToNat, Int.reduceLT, Int.reduceLE, reduceCtorEq, List.take_nil, List.drop_nil]
  refine ⟨_, impl_LowerQuotas_ok cs (sumL ss) (by omega), ?_⟩; simp (config := { maxSteps := 2000000 }) only [go_sem, Nat.reduceBEq, Nat.reduceAdd, Nat.reduceMul, Nat.reduceMod, Nat.reduceLT, Nat.reduceDiv, Nat.reduceSub, Nat.reduceLeDiff, Int.reduceToNat, Int.reduceLT, Int.reduceLE, reduceCtorEq, List.take_nil, List.drop_nil]
  refine ⟨_, cS _, ?_⟩; simp (config := { maxSteps := 2000000 }) only [go_sem, Nat.reduceBEq, Nat.reduceAdd, Nat.reduceMul, Nat.reduceMod, Nat.reduceLT, Nat.reduceDiv, Nat.reduceSub, Nat.reduceLeDiff, Int.reduceToNat, Int.reduceLT, Int.reduceLE, reduceCtorEq, List.take_nil, List.drop_nil]
  refine ⟨_, impl_UpperQuotas_ok cs (sumL ss) (by omega), ?_⟩; simp (config := { maxSteps := 2000000 }) only [go_sem, Nat.reduceBEq, Nat.reduceAdd, Nat.reduceMul, Nat.reduceMod, Nat.reduceLT, Nat.reduceDiv, Nat.reduceSub, Nat.reduceLeDiff, Int.reduceToNat, Int.reduceLT, Int.reduceLE, reduceCtorEq, List.take_nil, List.drop_nil]
  refine loopN ss.length (fun j => [(0, .t .arg (.s n1 (ii cs))), (1, .t .arg (.s n2 (ii ss))), (4, .b false), (5, .own 1 none (ii (quoF lowO cs (sumL ss)))), (6, .own 1 none (ii (quoF uppO cs (sumL ss)))), (21, .t .arg (.s n2 (ii ss))), (22, .i ss.length), (23, .i (j : Nat))]) (fun _ => True) ⟨trivial, by simp (config := { maxSteps := 2000000 }) only [go_sem, Nat.reduceBEq, Nat.reduceAdd, Nat.reduceMul, Nat.reduceMod, Nat.reduceLT, Nat.reduceDiv, Nat.reduceSub, Nat.reduceLeDiff, Int.reduceToNat, Int.reduceLT, Int.reduceLE, reduceCtorEq, List.take_nil, List.drop_nil]; simp⟩ fun j hj _ => ?_
  simp (config := { maxSteps := 2000000 }) only [go_sem, Nat.reduceBEq, Nat.reduceAdd, Nat.reduceMul, Nat.reduceMod, Nat.reduceLT, Nat.reduceDiv, Nat.reduceSub, Nat.reduceLeDiff, Int.reduceToNat, Int.reduceLT, Int.reduceLE, reduceCtorEq, List.take_nil, List.drop_nil]
  refine ⟨fun hlt => ?_, fun hge => ?_⟩
  · have hj' : j < ss.length := by omega
    have hkj := hk j (by omega)
    have c1 : CallOk Try.prog 69 [.i (ss.getD j 0), .i ((quoF lowO cs (sumL ss)).getD j 0), .i ((quoF uppO cs (sumL ss)).getD j 0)] [(0, .b true)] := by have := within_ok (ss.getD j 0) ((quoF lowO cs (sumL ss)).getD j 0) ((quoF uppO cs (sumL ss)).getD j 0); rwa [show inI (ss.getD j 0) ((quoF lowO cs (sumL ss)).getD j 0) ((quoF uppO cs (sumL ss)).getD j 0) = true by simp only [inI, Bool.and_eq_true, decide_eq_true_eq]; exact hkj] at this
    refine ⟨by omega, hj', hj', by omega, by omega, by omega, by omega, by omega, by omega, ?_⟩
    refine ⟨_, c1, ?_⟩; simp (config := { maxSteps := 2000000 }) only [go_sem, Nat.reduceBEq, Nat.reduceAdd, Nat.reduceMul, Nat.reduceMod, Nat.reduceLT, Nat.reduceDiv, Nat.reduceSub, Nat.reduceLeDiff, Int.reduceToNat, Int.reduceLT, Int.reduceLE, reduceCtorEq, List.take_nil, List.drop_nil]
    exact ⟨inR_of (by omega) (by omega), hj', by simp⟩
  · trivial
/-- All get one more. -/
def upJ (xs : List Int) (j : Nat) : List Int := (List.range xs.length).map fun i => if i < j then xs.getD i 0 + 1 else xs.getD i 0
theorem upJ_len {xs : List Int} {j : Nat} : (upJ xs j).length = xs.length := by simp [upJ]
theorem upJ_get {xs : List Int} {j i : Nat} (hi : i < xs.length) : (upJ xs j).getD i 0 = if i < j then xs.getD i 0 + 1 else xs.getD i 0 := by
  simp [upJ, List.getD, hi]
theorem getD_ext {x y : List Int} (hl : x.length = y.length) (h : ∀ i, i < x.length → x.getD i 0 = y.getD i 0) : x = y := by
  refine List.ext_getElem hl fun i h1 h2 => ?_
  have := h i h1
  simpa [List.getD, h1, h2] using this
theorem upJ_0 {xs : List Int} : upJ xs 0 = xs := getD_ext upJ_len fun i hi => by
  rw [upJ_len] at hi
  rw [upJ_get hi, if_neg (by omega)]
theorem upJ_s {xs : List Int} {j : Nat} (hj : j < xs.length) : (upJ xs j).set j (xs.getD j 0 + 1) = upJ xs (j + 1) := by
  refine getD_ext (by simp [upJ_len]) fun i hi => ?_
  have hi : i < xs.length := by simpa [upJ_len] using hi
  rw [upJ_get hi]
  simp only [List.getD, List.getElem?_set]
  have e := upJ_get (xs := xs) (j := j) hi
  simp only [List.getD] at e
  by_cases h : j = i
  · subst h; simp [upJ_len, hi]
  · rw [if_neg h, e]
    by_cases h2 : i < j
    · rw [if_pos h2, if_pos (by omega)]
    · rw [if_neg h2, if_neg (by omega)]
theorem upJ_sum {xs : List Int} : sumL (upJ xs xs.length) = sumL xs + xs.length := by
  rw [sumL_F (upJ_len (xs := xs) (j := xs.length)), sumL_F (rfl : xs.length = xs.length)]
  have h1 := sumF_eq (f := fun i => (upJ xs xs.length).getD i 0) (g := fun i => 1 * xs.getD i 0 + 1 * (fun _ => (1 : Int)) i) (j := xs.length) fun i hi => by
    simp only
    rw [upJ_get hi, if_pos hi]; omega
  rw [h1, sumF_lin]
  have h2 : ∀ j : Nat, sumF (fun _ => (1 : Int)) j = j := by
    intro j
    induction j with
    | zero => rfl
    | succ j ih => simp only [sumF, ih]; omega
  rw [h2]; omega
def droN (n : Int) : Nat → List Int → List Int
  | 0, xs => xs
  | k + 1, xs => if (xs.length : Int) < n - sumL xs then droN n k (upJ xs xs.length) else xs
theorem droN_ok {n : Int} : ∀ {k : Nat} {xs : List Int}, 1 ≤ xs.length → (∀ x ∈ xs, 0 ≤ x) → sumL xs ≤ n → n - sumL xs ≤ k → (droN n k xs).length = xs.length ∧ (∀ x ∈ droN n k xs, 0 ≤ x) ∧ sumL (droN n k xs) ≤ n ∧ n - sumL (droN n k xs) ≤ xs.length
  | 0, xs, h1, h2, h3, h4 => ⟨rfl, h2, h3, by simp only [droN]; omega⟩
  | k + 1, xs, h1, h2, h3, h4 => by
    simp only [droN]
    split
    · rename_i hlt
      have := droN_ok (n := n) (k := k) (xs := upJ xs xs.length) (by rw [upJ_len]; exact h1) (fun x hx => by
        obtain ⟨i, hi, rfl⟩ := List.mem_map.1 hx
        have := h2 _ (getD_mem (d := 0) (List.mem_range.1 hi))
        split <;> omega) (by rw [upJ_sum]; omega) (by rw [upJ_sum]; omega)
      rw [upJ_len] at this
      exact this
    · exact ⟨rfl, h2, h3, by omega⟩
/-- Whole quotas, and what is left of them. -/
def drD (cs : List Int) (n : Int) : Int := (sumL cs).tdiv (n + 1) + 1
def drB (cs : List Int) (n : Int) : List Int := cs.map fun x => x.tdiv (drD cs n)
def drR (cs : List Int) (n : Int) : List Int := cs.map fun x => x.tmod (drD cs n)
theorem drB_sum {cs : List Int} {n : Int} (h : askB cs n = true) : 1 ≤ drD cs n ∧ sumL (drB cs n) ≤ n ∧ (∀ x ∈ drB cs n, 0 ≤ x) ∧ ∀ x ∈ drR cs n, 0 ≤ x ∧ x ≤ 1000000 := by
  have A := ask_of h
  have n0 := A.n0
  have sp := A.pos
  have d0 := Int.tdiv_nonneg (show 0 ≤ sumL cs by omega) (show 0 ≤ n + 1 by omega)
  obtain ⟨e1, e2, e3⟩ := tdivmod (a := sumL cs) (b := n + 1) (by omega) (by omega)
  have hd : 1 ≤ drD cs n := by unfold drD; omega
  have hdn : sumL cs < drD cs n * (n + 1) := by
    have : drD cs n * (n + 1) = (sumL cs).tdiv (n + 1) * (n + 1) + (n + 1) := by unfold drD; rw [Int.add_mul, Int.one_mul]
    omega
  have g : ∀ i, i < cs.length → (drB cs n).getD i 0 = (cs.getD i 0).tdiv (drD cs n) := fun i hi => getD_map0 hi
  have hle := sumF_le (f := fun i => drD cs n * (drB cs n).getD i 0 + 0 * (drB cs n).getD i 0) (g := fun i => cs.getD i 0) (j := cs.length) fun i hi => by
    have b := A.bd _ (getD_mem (d := 0) hi)
    obtain ⟨f1, f2, f3⟩ := tdivmod (a := cs.getD i 0) (b := drD cs n) b.1 (by omega)
    rw [g i hi, Int.mul_comm]
    omega
  rw [sumF_lin] at hle
  have l : (drB cs n).length = cs.length := by simp [drB]
  rw [← sumL_F l] at hle
  have e : sumF (fun i => cs.getD i 0) cs.length = sumL cs := (sumL_F rfl).symm
  rw [e] at hle
  refine ⟨hd, ?_, fun x hx => ?_, fun x hx => ?_⟩
  · refine Int.not_lt.1 fun hlt => ?_
    have := Int.mul_le_mul_of_nonneg_left (show n + 1 ≤ sumL (drB cs n) by omega) (show 0 ≤ drD cs n by omega)
    omega
  · obtain ⟨y, hy, rfl⟩ := List.mem_map.1 hx
    exact Int.tdiv_nonneg (A.bd y hy).1 (by omega)
  · obtain ⟨y, hy, rfl⟩ := List.mem_map.1 hx
    have b := A.bd y hy
    obtain ⟨f1, f2, f3⟩ := tdivmod (a := y) (b := drD cs n) b.1 (by omega)
    have := Int.mul_nonneg (Int.tdiv_nonneg b.1 (show 0 ≤ drD cs n by omega)) (show 0 ≤ drD cs n by omega)
    omega
theorem impl_DroopSeats_ok {n1 : Option Bool} (cs : List Int) (n : Int) (h : askB cs n = true) : ∃ ds : List Int, ds.length = cs.length ∧ (∀ x ∈ ds, 0 ≤ x) ∧ sumL ds = n ∧ CallOk Try.prog 22 [.s n1 (ii cs), .i n] [(0, .own 1 none (ii ds))] := by
  have A := ask_of h
  have l1 := A.l1
  have l6 := A.l6
  have n0 := A.n0
  have n1' := A.n1
  have sp := A.pos
  have sl := A.le
  obtain ⟨d1, b1, b2, r1⟩ := drB_sum h
  have bl : (drB cs n).length = cs.length := by simp [drB]
  have rl : (drR cs n).length = cs.length := by simp [drR]
  obtain ⟨D1, D2, D3, D4⟩ := droN_ok (n := n) (k := n.toNat) (xs := drB cs n) (by omega) b2 b1 (by have := sumN_nn b2 (Nat.le_refl _); unfold sumL at *; omega)
  rw [bl] at D1 D4
  obtain ⟨D, hD⟩ : ∃ D, D = droN n n.toNat (drB cs n) := ⟨_, rfl⟩
  rw [← hD] at D1 D2 D3 D4
  refine ⟨fillN D (ordR (drR cs n) cs.length) (n - sumL D).toNat, by rw [fillN_len]; exact D1, fun x hx => ?_, ?_, ?_⟩
  · have := fillN_bd (B := n) (fun x hx => ⟨D2 x hx, ?_⟩) x hx
    · omega
    · obtain ⟨i, hi, e⟩ := mem_getD 0 hx
      have := sumN_ge D2 (Nat.le_refl _) hi
      unfold sumL at D3; omega
  · rw [fillN_sum (fun j hj => ?_) (by omega)]
    · omega
    · rw [D1] at hj ⊢
      have hm : (ordR (drR cs n) cs.length).getD j 0 ∈ ordR (drR cs n) cs.length := getD_mem (by rw [ordR_len]; omega)
      exact upto_mem.1 (ordR_perm.mem_iff.1 hm)
  have cA : ∀ n2, CallOk Try.prog 75 [.s n2 (ii cs), .i n] [(0, .b true)] := fun n2 => by have := impl_quotaAsked_ok (n1 := n2) cs n (by omega); rwa [h] at this
  obtain ⟨code0, hcd1, hcd2⟩ := chk_impl_DroopSeats; refine callOk_of Try.func22 hcd1 mo Try.call22 (rs := [4]) (by kernel_rfl) hcd2 (by rw [Try.ntmps22]; simp) (by simp) (by decide) ?_; unfold C_impl_DroopSeats K_impl_DroopSeats; simp (config := { maxSteps := 2000000 }) only [go_sem, Nat.reduceBEq, Nat.reduceAdd, Nat.reduceMul, Nat.reduceMod, Nat.reduceLT, Nat.reduceDiv, Nat.reduceSub, Nat.reduceLeDiff, Int.reduceToNat, Int.reduceLT, Int.reduceLE, reduceCtorEq, List.take_nil, List.drop_nil]
  refine ⟨_, cA _, ?_⟩; simp (config := { maxSteps := 2000000 }) only [go_sem, Nat.reduceBEq, Nat.reduceAdd, Nat.reduceMul, Nat.reduceMod, Nat.reduceLT, Nat.reduceDiv, Nat.reduceSub, Nat.reduceLeDiff, Int.reduceToNat, Int.reduceLT, Int.reduceLE, reduceCtorEq, List.take_nil, List.drop_nil]
  refine ⟨_, impl_sumOf_ok cs (by omega) (ask_bd A), ?_⟩; simp (config := { maxSteps := 2000000 }) only [go_sem, Nat.reduceBEq, Nat.reduceAdd, Nat.reduceMul, Nat.reduceMod, Nat.reduceLT, Nat.reduceDiv, Nat.reduceSub, Nat.reduceLeDiff, Int.reduceToNat, Int.reduceLT, Int.reduceLE, reduceCtorEq, List.take_nil, List.drop_nil]
  have t0 := Int.tdiv_nonneg (show 0 ≤ sumL cs by omega) (show 0 ≤ n + 1 by omega)
  have t1 := Int.tdiv_le_self (n + 1) (show 0 ≤ sumL cs by omega)
  refine ⟨inR_of (by omega) (by omega), by omega, inR_of (by omega) (by omega), inR_of (by omega) (by omega), ?_⟩
  have ed : (sumL cs).tdiv (n + 1) + 1 = drD cs n := rfl
  rw [ed]
  refine loopN cs.length (fun j => [(0, .t .arg (.s n1 (ii cs))), (1, .i n), (5, .i (drD cs n)), (6, .own 1 none (ii ((drB cs n).take j))), (7, .own 1 none (ii ((drR cs n).take j))), (21, .t .arg (.s n1 (ii cs))), (22, .i cs.length), (23, .i (j : Nat))]) (fun _ => True) ⟨trivial, by simp (config := { maxSteps := 2000000 }) only [go_sem, Nat.reduceBEq, Nat.reduceAdd, Nat.reduceMul, Nat.reduceMod, Nat.reduceLT, Nat.reduceDiv, Nat.reduceSub, Nat.reduceLeDiff, Int.reduceToNat, Int.reduceLT, Int.reduceLE, reduceCtorEq, List.take_nil, List.drop_nil]; simp [ii, T.leL]⟩ fun j hj _ => ?_
  simp (config := { maxSteps := 2000000 }) only [go_sem, Nat.reduceBEq, Nat.reduceAdd, Nat.reduceMul, Nat.reduceMod, Nat.reduceLT, Nat.reduceDiv, Nat.reduceSub, Nat.reduceLeDiff, Int.reduceToNat, Int.reduceLT, Int.reduceLE, reduceCtorEq, List.take_nil, List.drop_nil]
  refine ⟨fun hlt => ?_, fun hge => ?_⟩
  · have hj' : j < cs.length := by omega
    have c := A.bd _ (getD_mem (d := 0) hj')
    have e1 : (drB cs n).take (j + 1) = (drB cs n).take j ++ [(cs.getD j 0).tdiv (drD cs n)] := by
      rw [take_getD 0 (show j < (drB cs n).length by omega)]
      congr 2; exact getD_map0 hj'
    have e2 : (drR cs n).take (j + 1) = (drR cs n).take j ++ [(cs.getD j 0).tmod (drD cs n)] := by
      rw [take_getD 0 (show j < (drR cs n).length by omega)]
      congr 2; exact getD_map0 hj'
    have q0 := Int.tdiv_nonneg c.1 (show 0 ≤ drD cs n by omega)
    have q1 := Int.tdiv_le_self (drD cs n) c.1
    exact ⟨by omega, hj', hj', by omega, inR_of (by omega) (by omega), by rw [List.length_take]; omega, by omega, by rw [List.length_take]; omega, inR_of (by omega) (by omega), hj', e1.symm, e2.symm, by simp⟩
  · have ej : j = cs.length := by omega
    subst ej
    rw [List.take_of_length_le (by omega), List.take_of_length_le (by omega)]
    refine ⟨{p : Nat × List Int // droN n p.1 p.2 = D ∧ p.2.length = cs.length ∧ (∀ x ∈ p.2, 0 ≤ x) ∧ sumL p.2 ≤ n ∧ n - sumL p.2 ≤ p.1}, fun p => [(0, .t .arg (.s n1 (ii cs))), (1, .i n), (5, .i (drD cs n)), (6, .own 1 none (ii p.1.2)), (7, .own 1 none (ii (drR cs n)))], fun p => p.1.1, ⟨⟨(n.toNat, drB cs n), hD.symm, bl, b2, b1, by have := sumN_nn b2 (Nat.le_refl _); unfold sumL at *; simp only; omega⟩, ?_⟩, ?_⟩
    · simp (config := { maxSteps := 2000000 }) only [go_sem, Nat.reduceBEq, Nat.reduceAdd, Nat.reduceMul, Nat.reduceMod, Nat.reduceLT, Nat.reduceDiv, Nat.reduceSub, Nat.reduceLeDiff, Int.reduceToNat, Int.reduceLT, Int.reduceLE, reduceCtorEq, List.take_nil, List.drop_nil]
    intro ⟨⟨k, xs⟩, p1, p2, p3, p4, p5⟩
    simp only at p1 p2 p3 p4 p5
    have p6 : ∀ x ∈ xs, 0 ≤ x ∧ x ≤ 1000000000 := fun x hx => ⟨p3 x hx, by
      obtain ⟨i, hi, e⟩ := mem_getD 0 hx
      have := sumN_ge p3 (Nat.le_refl _) hi
      unfold sumL at p4; omega⟩
    have p7 := sumN_nn p3 (Nat.le_refl _)
    have p8 : 0 ≤ sumL xs := p7
    simp (config := { maxSteps := 2000000 }) only [go_sem, Nat.reduceBEq, Nat.reduceAdd, Nat.reduceMul, Nat.reduceMod, Nat.reduceLT, Nat.reduceDiv, Nat.reduceSub, Nat.reduceLeDiff, Int.reduceToNat, Int.reduceLT, Int.reduceLE, reduceCtorEq, List.take_nil, List.drop_nil]
    refine ⟨_, impl_sumOf_ok xs (by omega) p6, ?_⟩
    simp (config := { maxSteps := 2000000 }) only [go_sem, Nat.reduceBEq, Nat.reduceAdd, Nat.reduceMul, Nat.reduceMod, Nat.reduceLT, Nat.reduceDiv, Nat.reduceSub, Nat.reduceLeDiff, Int.reduceToNat, Int.reduceLT, Int.reduceLE, reduceCtorEq, List.take_nil, List.drop_nil]
    refine ⟨inR_of (by omega) (by omega), fun hgt => ?_, fun hle => ?_⟩
    · have hk : 1 ≤ k := by omega
      obtain ⟨k', rfl⟩ : ∃ k', k = k' + 1 := ⟨k - 1, by omega⟩
      refine loopN xs.length (fun j => [(0, .t .arg (.s n1 (ii cs))), (1, .i n), (5, .i (drD cs n)), (6, .own 1 none (ii (upJ xs j))), (7, .own 1 none (ii (drR cs n))), (48, .i xs.length), (49, .i (j : Nat))]) (fun _ => True) ⟨trivial, by simp (config := { maxSteps := 2000000 }) only [go_sem, Nat.reduceBEq, Nat.reduceAdd, Nat.reduceMul, Nat.reduceMod, Nat.reduceLT, Nat.reduceDiv, Nat.reduceSub, Nat.reduceLeDiff, Int.reduceToNat, Int.reduceLT, Int.reduceLE, reduceCtorEq, List.take_nil, List.drop_nil]; simp [upJ_0]⟩ fun j hj _ => ?_
      simp (config := { maxSteps := 2000000 }) only [go_sem, Nat.reduceBEq, Nat.reduceAdd, Nat.reduceMul, Nat.reduceMod, Nat.reduceLT, Nat.reduceDiv, Nat.reduceSub, Nat.reduceLeDiff, Int.reduceToNat, Int.reduceLT, Int.reduceLE, reduceCtorEq, List.take_nil, List.drop_nil]
      refine ⟨fun hlt => ?_, fun hge => ?_⟩
      · have hj' : j < xs.length := by omega
        have ul := upJ_len (xs := xs) (j := j)
        have ug := upJ_get (xs := xs) (j := j) hj'
        rw [if_neg (Nat.lt_irrefl j)] at ug
        have us := upJ_s hj'
        have b := p6 _ (getD_mem (d := 0) hj')
        rw [ug]
        exact ⟨by omega, by omega, by omega, inR_of (by omega) (by omega), by omega, by omega, by omega, inR_of (by omega) (by omega), hj', us, by simp⟩
      · have ej : j = xs.length := by omega
        subst ej
        have us := upJ_sum (xs := xs)
        have ul := upJ_len (xs := xs) (j := xs.length)
        refine ⟨⟨(k', upJ xs xs.length), ?_, by rw [ul]; exact p2, fun x hx => ?_, by rw [us]; omega, by rw [us]; simp only; omega⟩, by simp only; omega, ?_⟩
        · simp only
          rw [← p1]; simp only [droN]; rw [if_pos hgt]
        · obtain ⟨i, hi, rfl⟩ := List.mem_map.1 hx
          have := p3 _ (getD_mem (d := 0) (List.mem_range.1 hi))
          split <;> omega
        · simp (config := { maxSteps := 2000000 }) only [go_sem, Nat.reduceBEq, Nat.reduceAdd, Nat.reduceMul, Nat.reduceMod, Nat.reduceLT, Nat.reduceDiv, Nat.reduceSub, Nat.reduceLeDiff, Int.reduceToNat, Int.reduceLT, Int.reduceLE, reduceCtorEq, List.take_nil, List.drop_nil]
    · have eD : xs = D := by
        rw [← p1]
        cases k with
        | zero => rfl
        | succ k => simp only [droN]; rw [if_neg hle]
      subst eD
      refine ⟨_, impl_filled_ok xs (drR cs n) n (by omega) (by omega) (by omega) p6 (fun x hx => by have := r1 x hx; omega) (n - sumL xs).toNat (by omega) (by omega), ?_⟩
      rw [p2]
      simp (config := { maxSteps := 2000000 }) only [go_sem, Nat.reduceBEq, Nat.reduceAdd, Nat.reduceMul, Nat.reduceMod, Nat.reduceLT, Nat.reduceDiv, Nat.reduceSub, Nat.reduceLeDiff, Int.reduceToNat, Int.reduceLT, Int.reduceLE, reduceCtorEq, List.take_nil, List.drop_nil]

end Go.Proofs.Ytfdoddeccnjcmaa
