/- Own work: contracts of functions that the claim reaches. No condition beyond those that each theorem names. -/
import Derived.Test.YtfdoddeccnjcmaaProg
import Derived.Test.YtfdoddeccnjcmaaQuotas
namespace Go.Proofs.Ytfdoddeccnjcmaa
open Go Go.Vc
set_option maxRecDepth 100000
set_option linter.unusedSimpArgs false
set_option linter.unusedVariables false
/- spec_l14Post: not in this cut -/
/- spec_l14Compare: not in this cut -/
def K_impl_compareClaims : List Nat := [0, 1, 2, 3, 4, 5, 10, 11, 12, 13, 14, 15, 1005]
def C_impl_compareClaims : C :=
  let ks := K_impl_compareClaims
  (.seq
   (.rg 0 [(none, .box 5 (.s 0)), (none, .v 10 .mv [.k (.i 0)])])
   (.cl ks (.seq
   (.rg 0 [(none, .v 16 (.clo 132) [.s 5]), (none, .tk 11 16)])
   (.cl ks (.seq
   (.rg 0 [(none, .v 18 .mv [.s 11]), (none, .v 19 .mv [.s 1]), (none, .v 20 .mv [.s 2]), (none, .coC 21 [.s 18, .s 19, .s 20]), (none, .tk 17 21), (none, .tk 22 100017), (none, .tk 23 101017), (none, .tk 12 22), (none, .tk 13 23)])
   (.cl ks (.seq
   (.rg 0 [(none, .v 25 .mv [.s 11]), (none, .v 26 .mv [.s 3]), (none, .v 27 .mv [.s 4]), (none, .coC 28 [.s 25, .s 26, .s 27]), (none, .tk 24 28), (none, .tk 29 100024), (none, .tk 30 101024), (none, .tk 14 29), (none, .tk 15 30)])
   (.cl ks (.seq
   (.block 0
   (.seq
   (.rg 0 [(none, .v 32 .mv [.s 1]), (none, .v 33 (.bin .eql) [.s 32, .k (.i 0)]), (none, .v 34 .mv [.s 33]), (some (34, false), .v 35 .mv [.s 3]), (some (34, false), .v 36 (.bin .eql) [.s 35, .k (.i 0)]), (none, .v 37 .pick [.s 34, .k (.b true), .s 36]), (none, .tk 31 37)])
   (.cond (.s 31)
   (.seq
   (.rg 0 [(none, .v 38 .mv [.s 1]), (none, .v 39 .mv [.s 3]), (none, .co 40 87 [.s 38, .s 39]), (none, .tk 10 40)])
   .ret)
   (.seq
   (.rg 0 [(none, .v 42 .mv [.s 13]), (none, .v 43 (.bin .eql) [.s 42, .k (.i 0)]), (none, .v 44 .mv [.s 43]), (some (44, true), .v 45 .mv [.s 15]), (some (44, true), .v 46 (.bin .eql) [.s 45, .k (.i 0)]), (none, .v 47 .pick [.s 44, .s 46, .k (.b false)]), (none, .tk 41 47)])
   (.cond (.s 41)
   (.seq
   (.rg 0 [(none, .v 48 .mv [.s 1]), (none, .v 49 .mv [.s 3]), (none, .co 50 87 [.s 48, .s 49]), (none, .tk 10 50)])
   .ret)
   (.seq
   (.rg 0 [(none, .v 52 .mv [.s 13]), (none, .v 53 (.bin .eql) [.s 52, .k (.i 0)]), (none, .tk 51 53)])
   (.cond (.s 51)
   (.seq
   (.rg 0 [(none, .v 10 .mv [.k (.i 1)])])
   .ret)
   (.seq
   (.rg 0 [(none, .v 55 .mv [.s 15]), (none, .v 56 (.bin .eql) [.s 55, .k (.i 0)]), (none, .tk 54 56)])
   (.cond (.s 54)
   (.seq
   (.rg 0 [(none, .v 10 .mv [.k (.i (-1))])])
   .ret)
   .skip)))))))))
   (.cl ks (.seq
   (.rg 0 [(none, .v 57 .mv [.s 12]), (none, .v 58 .mv [.s 15]), (none, .v 59 (.bin .mul) [.s 57, .s 58]), (none, .v 60 .mv [.s 14]), (none, .v 61 .mv [.s 13]), (none, .v 62 (.bin .mul) [.s 60, .s 61]), (none, .co 63 87 [.s 59, .s 62]), (none, .tk 10 63)])
   .ret)))))))))))

theorem chk_impl_compareClaims : ∃ b, Try.f74.body = some b ∧ chk Try.prog Try.f74.ntmps true C_impl_compareClaims b = true := ⟨_, rfl, by kernel_rfl⟩
def K_impl_compareClaims_1 : List Nat := [0, 1, 2, 5, 6, 7]
def C_impl_compareClaims_1 : C :=
  let ks := K_impl_compareClaims_1
  (.seq
   (.rg 0 [(none, .v 5 .mv [.k (.i 0)]), (none, .v 6 .mv [.k (.i 0)])])
   (.cl ks (.seq
   (.seq
   (.rg 0 [(none, .v 7 .ld [.s 2])])
   (.cl ks (.block 0
   (.seq
   (.rg 0 [(none, .v 9 (.bin .eql) [.s 7, .k (.i 1)]), (none, .tk 8 9)])
   (.cond (.s 8)
   (.seq
   (.rg 0 [(none, .v 10 .mv [.s 0]), (none, .v 11 .mv [.s 1]), (none, .tk 5 10), (none, .tk 6 11)])
   .ret)
   (.seq
   (.rg 0 [(none, .v 13 (.bin .eql) [.s 7, .k (.i 2)]), (none, .tk 12 13)])
   (.cond (.s 12)
   (.seq
   (.rg 0 [(none, .v 14 .mv [.s 0]), (none, .v 15 .mv [.s 1]), (none, .v 16 (.bin .mul) [.k (.i 2), .s 15]), (none, .v 17 (.bin .add) [.s 16, .k (.i 1)]), (none, .v 18 (.bin .mul) [.s 14, .s 17]), (none, .v 19 .mv [.s 1]), (none, .v 20 (.bin .mul) [.k (.i 2), .s 19]), (none, .v 21 .mv [.s 1]), (none, .v 22 (.bin .add) [.s 21, .k (.i 1)]), (none, .v 23 (.bin .mul) [.s 20, .s 22]), (none, .tk 5 18), (none, .tk 6 23)])
   .ret)
   (.seq
   (.rg 0 [(none, .v 25 (.bin .eql) [.s 7, .k (.i 3)]), (none, .tk 24 25)])
   (.cond (.s 24)
   (.seq
   (.rg 0 [(none, .v 26 .mv [.s 0]), (none, .v 27 .mv [.s 0]), (none, .v 28 (.bin .mul) [.s 26, .s 27]), (none, .v 29 .mv [.s 1]), (none, .v 30 .mv [.s 1]), (none, .v 31 (.bin .add) [.s 30, .k (.i 1)]), (none, .v 32 (.bin .mul) [.s 29, .s 31]), (none, .tk 5 28), (none, .tk 6 32)])
   .ret)
   (.seq
   (.rg 0 [(none, .v 34 (.bin .eql) [.s 7, .k (.i 4)]), (none, .tk 33 34)])
   (.cond (.s 33)
   (.seq
   (.rg 0 [(none, .v 35 .mv [.s 0]), (none, .v 36 (.bin .mul) [.k (.i 2), .s 35]), (none, .v 37 .mv [.s 1]), (none, .v 38 (.bin .mul) [.k (.i 2), .s 37]), (none, .v 39 (.bin .add) [.s 38, .k (.i 1)]), (none, .tk 5 36), (none, .tk 6 39)])
   .ret)
   .skip)))))))))))
   (.cl ks (.seq
   (.rg 0 [(none, .v 40 .mv [.s 0]), (none, .v 41 .mv [.s 1]), (none, .v 42 (.bin .add) [.s 41, .k (.i 1)]), (none, .tk 5 40), (none, .tk 6 42)])
   .ret)))))

theorem chk_impl_compareClaims_1 : ∃ b, Try.f132.body = some b ∧ chk Try.prog Try.f132.ntmps true C_impl_compareClaims_1 b = true := ⟨_, rfl, by kernel_rfl⟩
def K_cmp_Compare_int : List Nat := [0, 1, 4, 5, 6]
def C_cmp_Compare_int : C :=
  let ks := K_cmp_Compare_int
  (.seq
   (.rg 0 [(none, .v 4 .mv [.k (.i 0)])])
   (.cl ks (.seq
   (.rg 0 [(none, .v 7 .mv [.s 0]), (none, .co 8 137 [.s 7]), (none, .tk 5 8)])
   (.cl ks (.seq
   (.rg 0 [(none, .v 9 .mv [.s 1]), (none, .co 10 137 [.s 9]), (none, .tk 6 10)])
   (.cl ks (.seq
   (.seq
   (.rg 0 [(none, .v 11 .mv [.s 5])])
   (.cond (.s 11)
   (.seq
   (.seq
   (.rg 0 [(none, .v 12 .mv [.s 6])])
   (.cond (.s 12)
   (.seq
   (.rg 0 [(none, .v 4 .mv [.k (.i 0)])])
   .ret)
   .skip))
   (.cl ks (.seq
   (.rg 0 [(none, .v 4 .mv [.k (.i (-1))])])
   .ret)))
   .skip))
   (.cl ks (.seq
   (.seq
   (.rg 0 [(none, .v 13 .mv [.s 6])])
   (.cond (.s 13)
   (.seq
   (.rg 0 [(none, .v 4 .mv [.k (.i 1)])])
   .ret)
   .skip))
   (.cl ks (.seq
   (.seq
   (.rg 0 [(none, .v 14 .mv [.s 0]), (none, .v 15 .mv [.s 1]), (none, .v 16 (.bin .lss) [.s 14, .s 15])])
   (.cond (.s 16)
   (.seq
   (.rg 0 [(none, .v 4 .mv [.k (.i (-1))])])
   .ret)
   .skip))
   (.cl ks (.seq
   (.seq
   (.rg 0 [(none, .v 17 .mv [.s 0]), (none, .v 18 .mv [.s 1]), (none, .v 19 (.bin .gtr) [.s 17, .s 18])])
   (.cond (.s 19)
   (.seq
   (.rg 0 [(none, .v 4 .mv [.k (.i 1)])])
   .ret)
   .skip))
   (.cl ks (.seq
   (.rg 0 [(none, .v 4 .mv [.k (.i 0)])])
   .ret)))))))))))))))

theorem chk_cmp_Compare_int : ∃ b, Try.f87.body = some b ∧ chk Try.prog Try.f87.ntmps true C_cmp_Compare_int b = true := ⟨_, rfl, by kernel_rfl⟩
def K_cmp_isNaN_int : List Nat := [0, 2]
def C_cmp_isNaN_int : C :=
  let ks := K_cmp_isNaN_int
  (.seq
   (.rg 0 [(none, .v 2 .mv [.k (.b false)])])
   (.cl ks (.seq
   (.rg 0 [(none, .v 3 .mv [.s 0]), (none, .v 4 .mv [.s 0]), (none, .v 5 (.bin .neq) [.s 3, .s 4]), (none, .tk 2 5)])
   .ret)))

theorem chk_cmp_isNaN_int : ∃ b, Try.f137.body = some b ∧ chk Try.prog Try.f137.ntmps true C_cmp_isNaN_int b = true := ⟨_, rfl, by kernel_rfl⟩
def postP (m a : Int) : Int := if m = 1 then a else if m = 2 then 2 * a * (a + 1) else if m = 3 then a * (a + 1) else if m = 4 then 2 * a + 1 else a + 1
def postQ (m a : Int) : Int := if m = 2 then 2 * a + 1 else if m = 4 then 2 else 1
def topC (m x a : Int) : Int := if m = 3 then x * x else x * postQ m a
def cmpI (a b : Int) : Int := if a < b then -1 else if b < a then 1 else 0
def clmS (m x a y b : Int) : Int := if x = 0 ∨ y = 0 then cmpI x y else if postP m a = 0 ∧ postP m b = 0 then cmpI x y else if postP m a = 0 then 1 else if postP m b = 0 then -1 else cmpI (topC m x a * postP m b) (topC m y b * postP m a)
theorem mul_bd2 {x y : Int} {X Y : Int} (x0 : 0 ≤ x) (xX : x ≤ X) (y0 : 0 ≤ y) (yY : y ≤ Y) : 0 ≤ x * y ∧ x * y ≤ X * Y :=
  ⟨Int.mul_nonneg x0 y0, Int.mul_le_mul xX yY y0 (by omega)⟩
theorem post_bd {m a : Int} (h0 : 0 ≤ a) (h1 : a ≤ 100) : 0 ≤ postP m a ∧ postP m a ≤ 20200 ∧ 1 ≤ postQ m a ∧ postQ m a ≤ 201 := by
  have b1 := mul_bd2 h0 h1 (show 0 ≤ a + 1 by omega) (show a + 1 ≤ 101 by omega)
  have e : 2 * a * (a + 1) = 2 * (a * (a + 1)) := Int.mul_assoc _ _ _
  unfold postP postQ
  rw [e]
  refine ⟨?_, ?_, ?_, ?_⟩ <;> repeat' split
  all_goals omega
theorem top_bd {m x a : Int} (x0 : 0 ≤ x) (x1 : x ≤ 1000000) (h0 : 0 ≤ a) (h1 : a ≤ 100) : 0 ≤ topC m x a ∧ topC m x a ≤ 1000000000000 ∧ (0 < x → 0 < topC m x a) ∧ (x = 0 → topC m x a = 0) := by
  obtain ⟨_, _, q1, q2⟩ := post_bd (m := m) h0 h1
  have b1 := mul_bd2 x0 x1 x0 x1
  have b2 := mul_bd2 x0 x1 (show 0 ≤ postQ m a by omega) q2
  unfold topC
  refine ⟨?_, ?_, fun h => ?_, fun h => ?_⟩
  · split <;> omega
  · split <;> omega
  · split
    · exact Int.mul_pos h h
    · exact Int.mul_pos h (by omega)
  · subst h; split <;> simp
theorem clm_pos {t p : Int} (t0 : 0 ≤ t) (p0 : 0 < p) : (0 < t → 0 < t * p) ∧ (t = 0 → t * p = 0) := ⟨fun h => Int.mul_pos h p0, fun h => by subst h; simp⟩
theorem isNaN_ok (a : Int) : CallOk Try.prog 137 [.i a] [(0, .b false)] := by
  obtain ⟨code0, hcd1, hcd2⟩ := chk_cmp_isNaN_int; refine callOk_of Try.func137 hcd1 mo Try.call137 (rs := [2]) (by kernel_rfl) hcd2 (by rw [Try.ntmps137]; simp) (by simp) (by decide) ?_; unfold C_cmp_isNaN_int K_cmp_isNaN_int; simp (config := { maxSteps := 2000000 }) only [go_sem, Nat.reduceBEq, Nat.reduceAdd, Nat.reduceMul, Nat.reduceMod, Nat.reduceLT, Nat.reduceDiv, Nat.reduceSub, Nat.reduceLeDiff, Int.reduceToNat, Int.reduceLT, Int.reduceLE, reduceCtorEq, List.take_nil, List.drop_nil]
theorem Compare_ok (a b : Int) : CallOk Try.prog 87 [.i a, .i b] [(0, .i (cmpI a b))] := by
  obtain ⟨code0, hcd1, hcd2⟩ := chk_cmp_Compare_int; refine callOk_of Try.func87 hcd1 mo Try.call87 (rs := [4]) (by kernel_rfl) hcd2 (by rw [Try.ntmps87]; simp) (by simp) (by decide) ?_; unfold C_cmp_Compare_int K_cmp_Compare_int; simp (config := { maxSteps := 2000000 }) only [go_sem, Nat.reduceBEq, Nat.reduceAdd, Nat.reduceMul, Nat.reduceMod, Nat.reduceLT, Nat.reduceDiv, Nat.reduceSub, Nat.reduceLeDiff, Int.reduceToNat, Int.reduceLT, Int.reduceLE, reduceCtorEq, List.take_nil, List.drop_nil]
  refine ⟨_, isNaN_ok a, ?_⟩; simp (config := { maxSteps := 2000000 }) only [go_sem, Nat.reduceBEq, Nat.reduceAdd, Nat.reduceMul, Nat.reduceMod, Nat.reduceLT, Nat.reduceDiv, Nat.reduceSub, Nat.reduceLeDiff, Int.reduceToNat, Int.reduceLT, Int.reduceLE, reduceCtorEq, List.take_nil, List.drop_nil]
  refine ⟨_, isNaN_ok b, ?_⟩; simp (config := { maxSteps := 2000000 }) only [go_sem, Nat.reduceBEq, Nat.reduceAdd, Nat.reduceMul, Nat.reduceMod, Nat.reduceLT, Nat.reduceDiv, Nat.reduceSub, Nat.reduceLeDiff, Int.reduceToNat, Int.reduceLT, Int.reduceLE, reduceCtorEq, List.take_nil, List.drop_nil]
  unfold cmpI
  refine ⟨fun h => by rw [if_pos h], fun h => ⟨fun h2 => by rw [if_neg h, if_pos h2], fun h2 => by rw [if_neg h, if_neg h2]⟩⟩
theorem claim1_ok (m x a : Int) (x0 : 0 ≤ x) (x1 : x ≤ 1000000) (h0 : 0 ≤ a) (h1 : a ≤ 100) : CallOk Try.prog 132 [.i x, .i a, .q [.i m] 0] [(0, .tp 2), (100000, .i (topC m x a)), (101000, .i (postP m a))] := by
  obtain ⟨code0, hcd1, hcd2⟩ := chk_impl_compareClaims_1; refine callOk_of Try.func132 hcd1 mo Try.call132 (rs := [5, 6]) (by kernel_rfl) hcd2 (by rw [Try.ntmps132]; simp) (by simp) (by decide) ?_; unfold C_impl_compareClaims_1 K_impl_compareClaims_1; simp (config := { maxSteps := 2000000 }) only [go_sem, Nat.reduceBEq, Nat.reduceAdd, Nat.reduceMul, Nat.reduceMod, Nat.reduceLT, Nat.reduceDiv, Nat.reduceSub, Nat.reduceLeDiff, Int.reduceToNat, Int.reduceLT, Int.reduceLE, reduceCtorEq, List.take_nil, List.drop_nil]
  have b1 := mul_bd2 h0 h1 (show 0 ≤ a + 1 by omega) (show a + 1 ≤ 101 by omega)
  have b2 := mul_bd2 x0 x1 (show 0 ≤ 2 * a + 1 by omega) (show 2 * a + 1 ≤ 201 by omega)
  have b3 := mul_bd2 x0 x1 x0 x1
  have e : 2 * a * (a + 1) = 2 * (a * (a + 1)) := Int.mul_assoc _ _ _
  unfold topC postP postQ
  refine ⟨fun h => ?_, fun h => ⟨fun h2 => ?_, fun h2 => ⟨fun h3 => ?_, fun h3 => ⟨fun h4 => ?_, fun h4 => ?_⟩⟩⟩⟩
  · subst h; exact ⟨by decide, by simp, rfl⟩
  · subst h2; exact ⟨inR_of (by omega) (by omega), inR_of (by omega) (by omega), inR_of (by omega) (by omega), inR_of (by omega) (by omega), inR_of (by omega) (by omega), inR_of (by omega) (by omega), by decide, rfl, rfl⟩
  · subst h3; exact ⟨inR_of (by omega) (by omega), inR_of (by omega) (by omega), inR_of (by omega) (by omega), by decide, rfl, rfl⟩
  · subst h4; exact ⟨inR_of (by omega) (by omega), inR_of (by omega) (by omega), inR_of (by omega) (by omega), by decide, by simp [Int.mul_comm], rfl⟩
  · simp only [h, h2, h3, h4, if_false, Int.mul_one]; exact ⟨inR_of (by omega) (by omega), by decide, trivial, trivial⟩
def clmG (p r L R x y : Int) : Int := if x = 0 ∨ y = 0 then cmpI x y else if p = 0 ∧ r = 0 then cmpI x y else if p = 0 then 1 else if r = 0 then -1 else cmpI L R
theorem cmpI_char {a b : Int} : (a < b → cmpI a b = -1) ∧ (b < a → cmpI a b = 1) ∧ (a = b → cmpI a b = 0) := by
  unfold cmpI
  refine ⟨fun h => by rw [if_pos h], fun h => by rw [if_neg (by omega), if_pos h], fun h => by rw [if_neg (by omega), if_neg (by omega)]⟩
theorem clm_char {p r L R x y : Int} : ((x = 0 ∨ y = 0 ∨ (p = 0 ∧ r = 0)) → (x < y → clmG p r L R x y = -1) ∧ (y < x → clmG p r L R x y = 1) ∧ (x = y → clmG p r L R x y = 0)) ∧ (x ≠ 0 → y ≠ 0 → p = 0 → r ≠ 0 → clmG p r L R x y = 1) ∧ (x ≠ 0 → y ≠ 0 → p ≠ 0 → r = 0 → clmG p r L R x y = -1) ∧ (x ≠ 0 → y ≠ 0 → p ≠ 0 → r ≠ 0 → (L < R → clmG p r L R x y = -1) ∧ (R < L → clmG p r L R x y = 1) ∧ (L = R → clmG p r L R x y = 0)) := by
  unfold clmG
  refine ⟨fun h => ?_, fun h1 h2 h3 h4 => ?_, fun h1 h2 h3 h4 => ?_, fun h1 h2 h3 h4 => ?_⟩
  · by_cases h' : x = 0 ∨ y = 0
    · simp only [if_pos h']; exact cmpI_char
    · have : p = 0 ∧ r = 0 := by omega
      simp only [if_neg h', if_pos this]; exact cmpI_char
  · rw [if_neg (by omega), if_neg (by omega), if_pos h3]
  · rw [if_neg (by omega), if_neg (by omega), if_neg h3, if_pos h4]
  · rw [if_neg (by omega), if_neg (by omega), if_neg h3, if_neg h4]; exact cmpI_char
theorem clm_bd {m x a y b : Int} (x0 : 0 ≤ x) (x1 : x ≤ 1000000) (a0 : 0 ≤ a) (a1 : a ≤ 100) (b0 : 0 ≤ b) (b1 : b ≤ 100) : 0 ≤ topC m x a * postP m b ∧ topC m x a * postP m b ≤ 1000000000000 * 20200 ∧ (x = 0 → topC m x a * postP m b = 0) ∧ (0 < x → postP m b ≠ 0 → 0 < topC m x a * postP m b) := by
  obtain ⟨t0, t1, t2, t3⟩ := top_bd (m := m) x0 x1 a0 a1
  obtain ⟨p0, p1, _, _⟩ := post_bd (m := m) b0 b1
  obtain ⟨m0, m1⟩ := mul_bd2 t0 t1 p0 p1
  exact ⟨m0, m1, fun h => by rw [t3 h]; simp, fun h hp => Int.mul_pos (t2 h) (by omega)⟩
theorem impl_compareClaims_ok (m x a y b : Int) (x0 : 0 ≤ x) (x1 : x ≤ 1000000) (y0 : 0 ≤ y) (y1 : y ≤ 1000000) (a0 : 0 ≤ a) (a1 : a ≤ 100) (b0 : 0 ≤ b) (b1 : b ≤ 100) : CallOk Try.prog 74 [.i m, .i x, .i a, .i y, .i b] [(0, .i (clmS m x a y b))] := by
  obtain ⟨code0, hcd1, hcd2⟩ := chk_impl_compareClaims; refine callOk_of Try.func74 hcd1 mo Try.call74 (rs := [10]) (by kernel_rfl) hcd2 (by rw [Try.ntmps74]; simp) (by simp) (by decide) ?_; unfold C_impl_compareClaims K_impl_compareClaims; simp (config := { maxSteps := 2000000 }) only [go_sem, Nat.reduceBEq, Nat.reduceAdd, Nat.reduceMul, Nat.reduceMod, Nat.reduceLT, Nat.reduceDiv, Nat.reduceSub, Nat.reduceLeDiff, Int.reduceToNat, Int.reduceLT, Int.reduceLE, reduceCtorEq, List.take_nil, List.drop_nil]
  refine ⟨_, claim1_ok m x a x0 x1 a0 a1, ?_⟩; simp (config := { maxSteps := 2000000 }) only [go_sem, Nat.reduceBEq, Nat.reduceAdd, Nat.reduceMul, Nat.reduceMod, Nat.reduceLT, Nat.reduceDiv, Nat.reduceSub, Nat.reduceLeDiff, Int.reduceToNat, Int.reduceLT, Int.reduceLE, reduceCtorEq, List.take_nil, List.drop_nil]
  refine ⟨_, claim1_ok m y b y0 y1 b0 b1, ?_⟩; simp (config := { maxSteps := 2000000 }) only [go_sem, Nat.reduceBEq, Nat.reduceAdd, Nat.reduceMul, Nat.reduceMod, Nat.reduceLT, Nat.reduceDiv, Nat.reduceSub, Nat.reduceLeDiff, Int.reduceToNat, Int.reduceLT, Int.reduceLE, reduceCtorEq, List.take_nil, List.drop_nil]
  obtain ⟨L0, L1, L2, L3⟩ := clm_bd (m := m) (x := x) (a := a) (y := y) (b := b) x0 x1 a0 a1 b0 b1
  obtain ⟨R0, R1, R2, R3⟩ := clm_bd (m := m) (x := y) (a := b) (y := x) (b := a) y0 y1 b0 b1 a0 a1
  have c0 : (x = 0 ∨ y = 0) → clmS m x a y b = cmpI x y := fun h => by unfold clmS; rw [if_pos h]
  have c1 : ¬ (x = 0 ∨ y = 0) → postP m a = 0 → postP m b = 0 → clmS m x a y b = cmpI x y := fun h h1 h2 => by unfold clmS; rw [if_neg h, if_pos ⟨h1, h2⟩]
  have ch := clm_char (p := postP m a) (r := postP m b) (L := topC m x a * postP m b) (R := topC m y b * postP m a) (x := x) (y := y)
  have ec : clmS m x a y b = clmG (postP m a) (postP m b) (topC m x a * postP m b) (topC m y b * postP m a) x y := rfl
  have c2 : ¬ (x = 0 ∨ y = 0) → postP m a ≠ 0 → postP m b ≠ 0 → clmS m x a y b = cmpI (topC m x a * postP m b) (topC m y b * postP m a) := fun h h1 h2 => by unfold clmS; rw [if_neg h, if_neg (by omega), if_neg h1, if_neg h2]
  rw [← ec] at ch
  refine ⟨fun hx => ⟨fun hy => ?_, fun hy => ?_⟩, fun hx => ?_⟩
  · refine ⟨_, Compare_ok x y, ?_⟩; simp (config := { maxSteps := 2000000 }) only [go_sem, Nat.reduceBEq, Nat.reduceAdd, Nat.reduceMul, Nat.reduceMod, Nat.reduceLT, Nat.reduceDiv, Nat.reduceSub, Nat.reduceLeDiff, Int.reduceToNat, Int.reduceLT, Int.reduceLE, reduceCtorEq, List.take_nil, List.drop_nil]
    rw [c0 (.inr hy)]
  · refine ⟨fun ha => ⟨fun hb => ?_, fun hb => ?_⟩, fun ha => ?_⟩
    · refine ⟨_, Compare_ok x y, ?_⟩; simp (config := { maxSteps := 2000000 }) only [go_sem, Nat.reduceBEq, Nat.reduceAdd, Nat.reduceMul, Nat.reduceMod, Nat.reduceLT, Nat.reduceDiv, Nat.reduceSub, Nat.reduceLeDiff, Int.reduceToNat, Int.reduceLT, Int.reduceLE, reduceCtorEq, List.take_nil, List.drop_nil]
      rw [c1 (by omega) ha hb]
    · exact ⟨fun _ => (ch.2.1 hx hy ha hb).symm, fun h => absurd ha h⟩
    · refine ⟨fun h => absurd h ha, fun _ => ⟨fun hb => (ch.2.2.1 hx hy ha hb).symm, fun hb => ⟨inR_of (by omega) (by omega), inR_of (by omega) (by omega), ?_⟩⟩⟩
      refine ⟨_, Compare_ok (topC m x a * postP m b) (topC m y b * postP m a), ?_⟩; simp (config := { maxSteps := 2000000 }) only [go_sem, Nat.reduceBEq, Nat.reduceAdd, Nat.reduceMul, Nat.reduceMod, Nat.reduceLT, Nat.reduceDiv, Nat.reduceSub, Nat.reduceLeDiff, Int.reduceToNat, Int.reduceLT, Int.reduceLE, reduceCtorEq, List.take_nil, List.drop_nil]
      rw [c2 (by omega) ha hb]
  · refine ⟨_, Compare_ok x y, ?_⟩; simp (config := { maxSteps := 2000000 }) only [go_sem, Nat.reduceBEq, Nat.reduceAdd, Nat.reduceMul, Nat.reduceMod, Nat.reduceLT, Nat.reduceDiv, Nat.reduceSub, Nat.reduceLeDiff, Int.reduceToNat, Int.reduceLT, Int.reduceLE, reduceCtorEq, List.take_nil, List.drop_nil]
    rw [c0 (.inl hx)]

end Go.Proofs.Ytfdoddeccnjcmaa
