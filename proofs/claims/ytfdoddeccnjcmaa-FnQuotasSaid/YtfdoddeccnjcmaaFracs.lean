/- Own work: contracts of functions that the claim reaches. No condition beyond those that each theorem names. -/
import Derived.Test.YtfdoddeccnjcmaaProg
import Derived.Test.YtfdoddeccnjcmaaClaims
import Derived.Test.YtfdoddeccnjcmaaLowq
namespace Go.Proofs.Ytfdoddeccnjcmaa
open Go Go.Vc
set_option maxRecDepth 100000
set_option linter.unusedSimpArgs false
set_option linter.unusedVariables false
/-! Fractions of numbers that are not below nought. -/
def K_impl_gcd : List Nat := [0, 1, 4]
def C_impl_gcd : C :=
  let ks := K_impl_gcd
  (.seq
   (.rg 0 [(none, .v 4 .mv [.k (.i 0)])])
   (.cl ks (.seq
   (.block 0
   (.loop
   (.seq
   (.seq
   (.rg 0 [(none, .v 5 .mv [.s 1]), (none, .v 6 (.bin .neq) [.s 5, .k (.i 0)])])
   (.cond (.s 6)
   .skip
   (.exit 0)))
   (.cl ks (.block 1
   (.rg 5 [(none, .v 7 .mv [.s 1]), (none, .v 8 .mv [.s 0]), (none, .v 9 .mv [.s 1]), (none, .v 10 (.bin .rem) [.s 8, .s 9]), (none, .v 0 .mv [.s 7]), (none, .tk 1 10)]))))))
   (.cl ks (.seq
   (.rg 0 [(none, .v 11 .mv [.s 0]), (none, .v 12 .mv [.s 0]), (none, .v 13 .neg [.s 12]), (none, .v 14 .mx [.s 11, .s 13]), (none, .tk 4 14)])
   .ret)))))

theorem chk_impl_gcd : ∃ b, Try.f136.body = some b ∧ chk Try.prog Try.f136.ntmps true C_impl_gcd b = true := ⟨_, rfl, by kernel_rfl⟩
def K_impl_FractionOk : List Nat := [0, 1, 2, 1001, 2001]
def C_impl_FractionOk : C :=
  let ks := K_impl_FractionOk
  (.seq
   (.rg 0 [(none, .v 1 .boxS [.s 0]), (none, .v 2 .mv [.k (.b false)])])
   (.cl ks (.seq
   (.rg 0 [(none, .v 3 (.fa 0) [.s 1]), (none, .v 4 .ld [.s 3]), (none, .co 5 69 [.s 4, .k (.i (-1000000000)), .k (.i 1000000000)]), (none, .v 6 .mv [.s 5]), (some (6, true), .v 7 (.fa 1) [.s 1]), (some (6, true), .v 8 .ld [.s 7]), (some (6, true), .co 9 69 [.s 8, .k (.i 1), .k (.i 1000000000)]), (none, .v 10 .pick [.s 6, .s 9, .k (.b false)]), (none, .v 11 .mv [.s 10]), (some (11, true), .v 12 (.fa 0) [.s 1]), (some (11, true), .v 13 .ld [.s 12]), (some (11, true), .v 14 (.fa 1) [.s 1]), (some (11, true), .v 15 .ld [.s 14]), (some (11, true), .co 16 136 [.s 13, .s 15]), (some (11, true), .v 17 (.bin .eql) [.s 16, .k (.i 1)]), (none, .v 18 .pick [.s 11, .s 17, .k (.b false)]), (none, .tk 2 18)])
   .ret)))

theorem chk_impl_FractionOk : ∃ b, Try.f86.body = some b ∧ chk Try.prog Try.f86.ntmps true C_impl_FractionOk b = true := ⟨_, rfl, by kernel_rfl⟩
def K_impl_reduced : List Nat := [0, 1, 4, 5, 6, 7, 1004, 2004, 1007, 2007]
def C_impl_reduced : C :=
  let ks := K_impl_reduced
  (.seq
   (.rg 0 [(none, .new 4 [.i 0, .i 0]), (none, .v 5 .mv [.k (.b false)])])
   (.cl ks (.seq
   (.rg 0 [(none, .v 8 .mv [.s 0]), (none, .v 9 .mv [.s 1]), (none, .co 10 136 [.s 8, .s 9]), (none, .tk 6 10)])
   (.cl ks (.seq
   (.seq
   (.rg 0 [(none, .v 11 .mv [.s 1]), (none, .v 12 (.bin .lss) [.s 11, .k (.i 0)])])
   (.cond (.s 12)
   (.rg 0 [(none, .v 13 .mv [.s 6]), (none, .v 14 .neg [.s 13]), (none, .tk 6 14)])
   .skip))
   (.cl ks (.seq
   (.rg 8 [(none, .v 15 .mv [.s 0]), (none, .v 16 .mv [.s 6]), (none, .v 17 (.bin .quo) [.s 15, .s 16]), (none, .v 18 .mv [.s 1]), (none, .v 19 .mv [.s 6]), (none, .v 20 (.bin .quo) [.s 18, .s 19]), (none, .v 21 .bld [.s 17, .s 20]), (none, .v 7 (.newO 507999 1) []), (none, .tkr 7), (none, .sts (.s 7) (.s 21) 2)])
   (.cl ks (.seq
   (.seq
   (.rg 0 [(none, .v 22 (.lds 2) [.s 7]), (none, .co 23 86 [.s 22]), (none, .v 24 .not [.s 23])])
   (.cond (.s 24)
   (.seq
   (.rg 0 [(none, .v 25 .bld [.k (.i 0), .k (.i 0)]), (none, .sts (.s 4) (.s 25) 2), (none, .v 5 .mv [.k (.b false)])])
   .ret)
   .skip))
   (.cl ks (.seq
   (.rg 0 [(none, .v 26 (.lds 2) [.s 7]), (none, .sts (.s 4) (.s 26) 2), (none, .v 5 .mv [.k (.b true)])])
   .ret)))))))))))

theorem chk_impl_reduced : ∃ b, Try.f85.body = some b ∧ chk Try.prog Try.f85.ntmps true C_impl_reduced b = true := ⟨_, rfl, by kernel_rfl⟩
def K_impl_FloorOf : List Nat := [0, 1, 2, 3, 1001, 2001]
def C_impl_FloorOf : C :=
  let ks := K_impl_FloorOf
  (.seq
   (.rg 0 [(none, .v 1 .boxS [.s 0]), (none, .v 2 .mv [.k (.i 0)])])
   (.cl ks (.seq
   (.seq
   (.rg 0 [(none, .v 4 (.lds 2) [.s 1]), (none, .co 5 86 [.s 4]), (none, .v 6 .not [.s 5])])
   (.cond (.s 6)
   (.seq
   (.rg 0 [(none, .v 2 .mv [.k (.i 0)])])
   .ret)
   .skip))
   (.cl ks (.seq
   (.rg 0 [(none, .v 7 (.fa 0) [.s 1]), (none, .v 8 .ld [.s 7]), (none, .v 9 (.fa 1) [.s 1]), (none, .v 10 .ld [.s 9]), (none, .v 11 (.bin .quo) [.s 8, .s 10]), (none, .tk 3 11)])
   (.cl ks (.seq
   (.seq
   (.rg 0 [(none, .v 12 (.fa 0) [.s 1]), (none, .v 13 .ld [.s 12]), (none, .v 14 (.fa 1) [.s 1]), (none, .v 15 .ld [.s 14]), (none, .v 16 (.bin .rem) [.s 13, .s 15]), (none, .v 17 (.bin .lss) [.s 16, .k (.i 0)])])
   (.cond (.s 17)
   (.rg 0 [(none, .v 18 .mv [.s 3]), (none, .v 19 (.bin .sub) [.s 18, .k (.i 1)]), (none, .tk 3 19)])
   .skip))
   (.cl ks (.seq
   (.rg 0 [(none, .v 20 .mv [.s 3]), (none, .tk 2 20)])
   .ret)))))))))

theorem chk_impl_FloorOf : ∃ b, Try.f30.body = some b ∧ chk Try.prog Try.f30.ntmps true C_impl_FloorOf b = true := ⟨_, rfl, by kernel_rfl⟩
def K_impl_CompareFractions : List Nat := [0, 1, 2, 3, 4, 1002, 2002, 1003, 2003]
def C_impl_CompareFractions : C :=
  let ks := K_impl_CompareFractions
  (.seq
   (.rg 0 [(none, .v 2 .boxS [.s 0]), (none, .v 3 .boxS [.s 1]), (none, .v 4 .mv [.k (.i 0)])])
   (.cl ks (.seq
   (.seq
   (.rg 0 [(none, .v 5 (.lds 2) [.s 2]), (none, .co 6 86 [.s 5]), (none, .v 7 .not [.s 6]), (none, .v 8 .mv [.s 7]), (some (8, false), .v 9 (.lds 2) [.s 3]), (some (8, false), .co 10 86 [.s 9]), (some (8, false), .v 11 .not [.s 10]), (none, .v 12 .pick [.s 8, .k (.b true), .s 11])])
   (.cond (.s 12)
   (.seq
   (.rg 0 [(none, .v 4 .mv [.k (.i (-2))])])
   .ret)
   .skip))
   (.cl ks (.seq
   (.rg 0 [(none, .v 13 (.fa 0) [.s 2]), (none, .v 14 .ld [.s 13]), (none, .v 15 (.fa 1) [.s 3]), (none, .v 16 .ld [.s 15]), (none, .v 17 (.bin .mul) [.s 14, .s 16]), (none, .v 18 (.fa 0) [.s 3]), (none, .v 19 .ld [.s 18]), (none, .v 20 (.fa 1) [.s 2]), (none, .v 21 .ld [.s 20]), (none, .v 22 (.bin .mul) [.s 19, .s 21]), (none, .co 23 87 [.s 17, .s 22]), (none, .tk 4 23)])
   .ret)))))

theorem chk_impl_CompareFractions : ∃ b, Try.f32.body = some b ∧ chk Try.prog Try.f32.ntmps true C_impl_CompareFractions b = true := ⟨_, rfl, by kernel_rfl⟩
theorem gcd_step {a b : Int} : Int.gcd b (a.tmod b) = Int.gcd a b := by
  unfold Int.gcd
  rw [Int.natAbs_tmod, Nat.gcd_comm, ← Nat.gcd_rec, Nat.gcd_comm]
theorem impl_gcd_ok (a b : Int) (a0 : 0 ≤ a) (a1 : a ≤ 1000000000000) (b0 : 0 ≤ b) (b1 : b ≤ 1000000000000) : CallOk Try.prog 136 [.i a, .i b] [(0, .i (Int.gcd a b))] := by
  obtain ⟨code0, hcd1, hcd2⟩ := chk_impl_gcd; refine callOk_of Try.func136 hcd1 mo Try.call136 (rs := [4]) (by kernel_rfl) hcd2 (by rw [Try.ntmps136]; simp) (by simp) (by decide) ?_; unfold C_impl_gcd K_impl_gcd; simp (config := { maxSteps := 2000000 }) only [go_sem, Nat.reduceBEq, Nat.reduceAdd, Nat.reduceMul, Nat.reduceMod, Nat.reduceLT, Nat.reduceDiv, Nat.reduceSub, Nat.reduceLeDiff, Int.reduceToNat, Int.reduceLT, Int.reduceLE, reduceCtorEq, List.take_nil, List.drop_nil]
  refine ⟨{p : Int × Int // 0 ≤ p.1 ∧ p.1 ≤ 1000000000000 ∧ 0 ≤ p.2 ∧ p.2 ≤ 1000000000000 ∧ Int.gcd p.1 p.2 = Int.gcd a b}, fun p => [(0, .i p.1.1), (1, .i p.1.2)], fun p => p.1.2.toNat,
    ⟨⟨(a, b), a0, a1, b0, b1, rfl⟩, ?_⟩, ?_⟩
  · simp (config := { maxSteps := 2000000 }) only [go_sem, Nat.reduceBEq, Nat.reduceAdd, Nat.reduceMul, Nat.reduceMod, Nat.reduceLT, Nat.reduceDiv, Nat.reduceSub, Nat.reduceLeDiff, Int.reduceToNat, Int.reduceLT, Int.reduceLE, reduceCtorEq, List.take_nil, List.drop_nil]
  intro ⟨⟨x, y⟩, h1, h2, h3, h4, h5⟩
  simp only at h1 h2 h3 h4 h5
  simp (config := { maxSteps := 2000000 }) only [go_sem, Nat.reduceBEq, Nat.reduceAdd, Nat.reduceMul, Nat.reduceMod, Nat.reduceLT, Nat.reduceDiv, Nat.reduceSub, Nat.reduceLeDiff, Int.reduceToNat, Int.reduceLT, Int.reduceLE, reduceCtorEq, List.take_nil, List.drop_nil]
  refine ⟨fun hne => ⟨hne, ⟨(y, x.tmod y), h3, h4, Int.tmod_nonneg _ h1, ?_, by rw [gcd_step]; exact h5⟩, ?_, ?_⟩, fun he => ⟨inR_of (by omega) (by omega), ?_⟩⟩
  · have := Int.tmod_lt_of_pos x (show 0 < y by omega)
    simp only; omega
  · have := Int.tmod_lt_of_pos x (show 0 < y by omega)
    have := Int.tmod_nonneg y h1
    simp only; omega
  · simp (config := { maxSteps := 2000000 }) only [go_sem, Nat.reduceBEq, Nat.reduceAdd, Nat.reduceMul, Nat.reduceMod, Nat.reduceLT, Nat.reduceDiv, Nat.reduceSub, Nat.reduceLeDiff, Int.reduceToNat, Int.reduceLT, Int.reduceLE, reduceCtorEq, List.take_nil, List.drop_nil]
  · subst he
    rw [Int.gcd_zero_right] at h5
    omega
/-- A fraction as it is kept. -/
structure Fr (p q : Int) : Prop where
  p0 : 0 ≤ p
  p1 : p ≤ 1000000000
  q1 : 1 ≤ q
  q2 : q ≤ 1000000000
  one : Int.gcd p q = 1
theorem impl_FractionOk_ok {p q : Int} (h : Fr p q) : CallOk Try.prog 86 [.a [.i p, .i q]] [(0, .b true)] := by
  obtain ⟨p0, p1, q1, q2, one⟩ := h
  have c1 : CallOk Try.prog 69 [.i p, .i (-1000000000), .i 1000000000] [(0, .b true)] := by have := within_ok p (-1000000000) 1000000000; rwa [show inI p (-1000000000) 1000000000 = true by simp [inI]; omega] at this
  have c2 : CallOk Try.prog 69 [.i q, .i 1, .i 1000000000] [(0, .b true)] := by have := within_ok q 1 1000000000; rwa [show inI q 1 1000000000 = true by simp [inI]; omega] at this
  have c3 : CallOk Try.prog 136 [.i p, .i q] [(0, .i 1)] := by have := impl_gcd_ok p q p0 (by omega) (by omega) (by omega); rwa [one] at this
  obtain ⟨code0, hcd1, hcd2⟩ := chk_impl_FractionOk; refine callOk_of Try.func86 hcd1 mo Try.call86 (rs := [2]) (by kernel_rfl) hcd2 (by rw [Try.ntmps86]; simp) (by simp) (by decide) ?_; unfold C_impl_FractionOk K_impl_FractionOk; simp (config := { maxSteps := 2000000 }) only [go_sem, Nat.reduceBEq, Nat.reduceAdd, Nat.reduceMul, Nat.reduceMod, Nat.reduceLT, Nat.reduceDiv, Nat.reduceSub, Nat.reduceLeDiff, Int.reduceToNat, Int.reduceLT, Int.reduceLE, reduceCtorEq, List.take_nil, List.drop_nil]
  refine ⟨_, c1, ?_⟩; simp (config := { maxSteps := 2000000 }) only [go_sem, Nat.reduceBEq, Nat.reduceAdd, Nat.reduceMul, Nat.reduceMod, Nat.reduceLT, Nat.reduceDiv, Nat.reduceSub, Nat.reduceLeDiff, Int.reduceToNat, Int.reduceLT, Int.reduceLE, reduceCtorEq, List.take_nil, List.drop_nil]
  refine ⟨_, c2, ?_⟩; simp (config := { maxSteps := 2000000 }) only [go_sem, Nat.reduceBEq, Nat.reduceAdd, Nat.reduceMul, Nat.reduceMod, Nat.reduceLT, Nat.reduceDiv, Nat.reduceSub, Nat.reduceLeDiff, Int.reduceToNat, Int.reduceLT, Int.reduceLE, reduceCtorEq, List.take_nil, List.drop_nil]
  refine ⟨_, c3, ?_⟩; simp (config := { maxSteps := 2000000 }) only [go_sem, Nat.reduceBEq, Nat.reduceAdd, Nat.reduceMul, Nat.reduceMod, Nat.reduceLT, Nat.reduceDiv, Nat.reduceSub, Nat.reduceLeDiff, Int.reduceToNat, Int.reduceLT, Int.reduceLE, reduceCtorEq, List.take_nil, List.drop_nil]
theorem gcd_le {a b : Int} (a0 : 0 ≤ a) (b1 : 1 ≤ b) : 1 ≤ (Int.gcd a b : Int) ∧ (Int.gcd a b : Int) ≤ b ∧ a = a.tdiv (Int.gcd a b) * (Int.gcd a b) ∧ b = b.tdiv (Int.gcd a b) * (Int.gcd a b) ∧ Int.gcd (a.tdiv (Int.gcd a b)) (b.tdiv (Int.gcd a b)) = 1 := by
  have hp : 0 < Int.gcd a b := Int.gcd_pos_of_ne_zero_right a (by omega)
  have d1 : (Int.gcd a b : Int) ∣ a := Int.gcd_dvd_left a b
  have d2 : (Int.gcd a b : Int) ∣ b := Int.gcd_dvd_right a b
  have e1 : a.tdiv (Int.gcd a b) = a / (Int.gcd a b) := Int.tdiv_eq_ediv_of_nonneg a0
  have e2 : b.tdiv (Int.gcd a b) = b / (Int.gcd a b) := Int.tdiv_eq_ediv_of_nonneg (by omega)
  refine ⟨by omega, Int.le_of_dvd (by omega) d2, by rw [e1, Int.ediv_mul_cancel d1], by rw [e2, Int.ediv_mul_cancel d2], ?_⟩
  rw [e1, e2]
  exact Int.gcd_ediv_gcd_ediv_gcd hp
/-- Two numbers over one another. -/
theorem impl_reduced_ok {t b : Int} (t0 : 0 ≤ t) (t1 : t ≤ 1000000000) (b1 : 1 ≤ b) (b2 : b ≤ 1000000000) : ∃ p q g : Int, Fr p q ∧ 1 ≤ g ∧ t = p * g ∧ b = q * g ∧ CallOk Try.prog 85 [.i t, .i b] [(0, .tp 2), (100000, .t .fr (.a [.i p, .i q])), (101000, .b true)] := by
  obtain ⟨g1, g2, g3, g4, g5⟩ := gcd_le t0 b1
  have hg := impl_gcd_ok t b t0 (by omega) (by omega) (by omega)
  generalize (Int.gcd t b : Int) = g at g1 g2 g3 g4 g5 hg
  obtain ⟨p, hp⟩ : ∃ p, p = t.tdiv g := ⟨_, rfl⟩
  obtain ⟨q, hq⟩ : ∃ q, q = b.tdiv g := ⟨_, rfl⟩
  have p0 : 0 ≤ p := by rw [hp]; exact Int.tdiv_nonneg t0 (by omega)
  have q0 : 0 ≤ q := by rw [hq]; exact Int.tdiv_nonneg (by omega) (by omega)
  have p1 : p ≤ t := by rw [hp]; exact Int.tdiv_le_self g t0
  have q1 : q ≤ b := by rw [hq]; exact Int.tdiv_le_self g (by omega)
  rw [← hp] at g3 g5
  rw [← hq] at g4 g5
  have F : Fr p q := ⟨p0, by omega, by
    refine Int.not_lt.1 fun h => ?_
    have : q = 0 := by omega
    rw [this, Int.zero_mul] at g4; omega, by omega, g5⟩
  refine ⟨p, q, g, F, g1, g3, g4, ?_⟩
  obtain ⟨code0, hcd1, hcd2⟩ := chk_impl_reduced; refine callT_of Try.func85 hcd1 mo Try.call85 (z := 4) (ty := 42) (r := 5) (by kernel_rfl) (by kernel_rfl) hcd2 (by rw [Try.ntmps85]; simp) (by simp) (by decide) (by decide) ?_; unfold C_impl_reduced K_impl_reduced; simp (config := { maxSteps := 2000000 }) only [go_sem, Nat.reduceBEq, Nat.reduceAdd, Nat.reduceMul, Nat.reduceMod, Nat.reduceLT, Nat.reduceDiv, Nat.reduceSub, Nat.reduceLeDiff, Int.reduceToNat, Int.reduceLT, Int.reduceLE, reduceCtorEq, List.take_nil, List.drop_nil]
  refine ⟨_, hg, ?_⟩; simp (config := { maxSteps := 2000000 }) only [go_sem, Nat.reduceBEq, Nat.reduceAdd, Nat.reduceMul, Nat.reduceMod, Nat.reduceLT, Nat.reduceDiv, Nat.reduceSub, Nat.reduceLeDiff, Int.reduceToNat, Int.reduceLT, Int.reduceLE, reduceCtorEq, List.take_nil, List.drop_nil]
  rw [← hp, ← hq]
  simp (config := { maxSteps := 2000000 }) only [go_sem, Nat.reduceBEq, Nat.reduceAdd, Nat.reduceMul, Nat.reduceMod, Nat.reduceLT, Nat.reduceDiv, Nat.reduceSub, Nat.reduceLeDiff, Int.reduceToNat, Int.reduceLT, Int.reduceLE, reduceCtorEq, List.take_nil, List.drop_nil, List.length_replicate]
  refine ⟨fun h => by omega, fun _ => ⟨by omega, inR_of (by omega) (by omega), by omega, inR_of (by omega) (by omega), ?_⟩⟩
  refine ⟨_, impl_FractionOk_ok F, ?_⟩; simp (config := { maxSteps := 2000000 }) only [go_sem, Nat.reduceBEq, Nat.reduceAdd, Nat.reduceMul, Nat.reduceMod, Nat.reduceLT, Nat.reduceDiv, Nat.reduceSub, Nat.reduceLeDiff, Int.reduceToNat, Int.reduceLT, Int.reduceLE, reduceCtorEq, List.take_nil, List.drop_nil]
  decide
theorem impl_FloorOf_ok {p q : Int} (h : Fr p q) : CallOk Try.prog 30 [.a [.i p, .i q]] [(0, .i (p.tdiv q))] := by
  have p0 := h.p0
  have p1 := h.p1
  have q1 := h.q1
  have r0 := Int.tmod_nonneg q p0
  have d0 := Int.tdiv_nonneg p0 (show 0 ≤ q by omega)
  have d1 := Int.tdiv_le_self q p0
  obtain ⟨code0, hcd1, hcd2⟩ := chk_impl_FloorOf; refine callOk_of Try.func30 hcd1 mo Try.call30 (rs := [2]) (by kernel_rfl) hcd2 (by rw [Try.ntmps30]; simp) (by simp) (by decide) ?_; unfold C_impl_FloorOf K_impl_FloorOf; simp (config := { maxSteps := 2000000 }) only [go_sem, Nat.reduceBEq, Nat.reduceAdd, Nat.reduceMul, Nat.reduceMod, Nat.reduceLT, Nat.reduceDiv, Nat.reduceSub, Nat.reduceLeDiff, Int.reduceToNat, Int.reduceLT, Int.reduceLE, reduceCtorEq, List.take_nil, List.drop_nil]
  refine ⟨_, impl_FractionOk_ok h, ?_⟩; simp (config := { maxSteps := 2000000 }) only [go_sem, Nat.reduceBEq, Nat.reduceAdd, Nat.reduceMul, Nat.reduceMod, Nat.reduceLT, Nat.reduceDiv, Nat.reduceSub, Nat.reduceLeDiff, Int.reduceToNat, Int.reduceLT, Int.reduceLE, reduceCtorEq, List.take_nil, List.drop_nil]
  exact ⟨by omega, inR_of (by omega) (by omega), by omega, fun h => by omega, fun _ => trivial⟩
theorem impl_CompareFractions_ok {p q r s : Int} (h : Fr p q) (k : Fr r s) : CallOk Try.prog 32 [.a [.i p, .i q], .a [.i r, .i s]] [(0, .i (cmpI (p * s) (r * q)))] := by
  have b1 := mul_bd2 h.p0 h.p1 (show 0 ≤ s by have := k.q1; omega) k.q2
  have b2 := mul_bd2 k.p0 k.p1 (show 0 ≤ q by have := h.q1; omega) h.q2
  obtain ⟨code0, hcd1, hcd2⟩ := chk_impl_CompareFractions; refine callOk_of Try.func32 hcd1 mo Try.call32 (rs := [4]) (by kernel_rfl) hcd2 (by rw [Try.ntmps32]; simp) (by simp) (by decide) ?_; unfold C_impl_CompareFractions K_impl_CompareFractions; simp (config := { maxSteps := 2000000 }) only [go_sem, Nat.reduceBEq, Nat.reduceAdd, Nat.reduceMul, Nat.reduceMod, Nat.reduceLT, Nat.reduceDiv, Nat.reduceSub, Nat.reduceLeDiff, Int.reduceToNat, Int.reduceLT, Int.reduceLE, reduceCtorEq, List.take_nil, List.drop_nil]
  refine ⟨_, impl_FractionOk_ok h, ?_⟩; simp (config := { maxSteps := 2000000 }) only [go_sem, Nat.reduceBEq, Nat.reduceAdd, Nat.reduceMul, Nat.reduceMod, Nat.reduceLT, Nat.reduceDiv, Nat.reduceSub, Nat.reduceLeDiff, Int.reduceToNat, Int.reduceLT, Int.reduceLE, reduceCtorEq, List.take_nil, List.drop_nil]
  refine ⟨_, impl_FractionOk_ok k, ?_⟩; simp (config := { maxSteps := 2000000 }) only [go_sem, Nat.reduceBEq, Nat.reduceAdd, Nat.reduceMul, Nat.reduceMod, Nat.reduceLT, Nat.reduceDiv, Nat.reduceSub, Nat.reduceLeDiff, Int.reduceToNat, Int.reduceLT, Int.reduceLE, reduceCtorEq, List.take_nil, List.drop_nil]
  refine ⟨inR_of (by omega) (by omega), inR_of (by omega) (by omega), ?_⟩
  refine ⟨_, Compare_ok (p * s) (r * q), ?_⟩; simp (config := { maxSteps := 2000000 }) only [go_sem, Nat.reduceBEq, Nat.reduceAdd, Nat.reduceMul, Nat.reduceMod, Nat.reduceLT, Nat.reduceDiv, Nat.reduceSub, Nat.reduceLeDiff, Int.reduceToNat, Int.reduceLT, Int.reduceLE, reduceCtorEq, List.take_nil, List.drop_nil]

end Go.Proofs.Ytfdoddeccnjcmaa
