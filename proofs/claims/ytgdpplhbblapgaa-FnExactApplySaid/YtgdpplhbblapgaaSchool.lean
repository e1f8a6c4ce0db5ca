/- Own work: contracts of functions that the claim reaches. No condition beyond those that each theorem names. -/
import Derived.Test.YtgdpplhbblapgaaProg
import Derived.Test.YtgdpplhbblapgaaMarks
namespace Go.Proofs.Ytgdpplhbblapgaa
open Go Go.Vc
set_option maxRecDepth 100000
set_option linter.unusedSimpArgs false
set_option linter.unusedVariables false
def K_laws_toSchool : List Nat := [0, 1, 2, 3, 1001, 2001, 3001, 1002, 2002, 3002, 1003, 2003, 3003]
def C_laws_toSchool : C :=
 let ks := K_laws_toSchool
 (.seq
  (.rg 0 [(none, .v 1 .boxS [.s 0]), (none, .new 2 [.s (some true) [], .s (some true) [], .s (some true) []])])
  (.cl ks (.seq
  (.rg 0 [(none, .new 3 [.s (some true) [], .s (some true) [], .s (some true) []])])
  (.cl ks (.seq
  (.rg 0 [(none, .v 4 (.fa 0) [.s 1]), (none, .v 5 .ld [.s 4]), (none, .co 6 85 [.s 5]), (none, .v 7 (.fa 0) [.s 3]), (none, .st (.s 7) (.s 6))])
  (.cl ks (.seq
  (.rg 0 [(none, .v 8 (.fa 1) [.s 1]), (none, .v 9 .ld [.s 8]), (none, .co 10 85 [.s 9]), (none, .v 11 (.fa 1) [.s 3]), (none, .st (.s 11) (.s 10))])
  (.cl ks (.seq
  (.rg 0 [(none, .v 12 (.fa 2) [.s 1]), (none, .v 13 .ld [.s 12]), (none, .co 14 26 [.s 13]), (none, .v 15 (.fa 2) [.s 3]), (none, .st (.s 15) (.s 14))])
  (.cl ks (.seq
  (.rg 0 [(none, .v 16 (.lds 3) [.s 3]), (none, .sts (.s 2) (.s 16) 3)])
  .ret)))))))))))
theorem chk_laws_toSchool : ∃ b, Try.f14.body = some b ∧ chk Try.prog Try.f14.ntmps true C_laws_toSchool b = true := ⟨_, rfl, by kernel_rfl⟩
def K_laws_szSchool : List Nat := [0, 1, 2, 4, 1002, 2002, 3002]
def C_laws_szSchool : C :=
 let ks := K_laws_szSchool
 (.seq
  (.rg 0 [(none, .v 2 .boxS [.s 0]), (none, .v 4 .mv [.k (.i 0)])])
  (.cl ks (.seq
  (.rg 0 [(none, .v 5 (.fa 0) [.s 2]), (none, .v 6 .ld [.s 5]), (none, .v 7 .mv [.s 1]), (none, .co 8 80 [.s 6, .s 7]), (none, .tk 1 8)])
  (.cl ks (.seq
  (.seq
  (.rg 0 [(none, .v 9 .mv [.s 1]), (none, .v 10 (.bin .lss) [.s 9, .k (.i 0)])])
  (.cond (.s 10)
  (.seq
  (.rg 0 [(none, .v 4 .mv [.k (.i (-1))])])
  .ret)
  .skip))
  (.cl ks (.seq
  (.rg 0 [(none, .v 11 (.fa 1) [.s 2]), (none, .v 12 .ld [.s 11]), (none, .v 13 .mv [.s 1]), (none, .co 14 80 [.s 12, .s 13]), (none, .tk 1 14)])
  (.cl ks (.seq
  (.seq
  (.rg 0 [(none, .v 15 .mv [.s 1]), (none, .v 16 (.bin .lss) [.s 15, .k (.i 0)])])
  (.cond (.s 16)
  (.seq
  (.rg 0 [(none, .v 4 .mv [.k (.i (-1))])])
  .ret)
  .skip))
  (.cl ks (.seq
  (.rg 0 [(none, .v 17 (.fa 2) [.s 2]), (none, .v 18 .ld [.s 17]), (none, .v 19 .mv [.s 1]), (none, .co 20 81 [.s 18, .s 19]), (none, .tk 1 20)])
  (.cl ks (.seq
  (.seq
  (.rg 0 [(none, .v 21 .mv [.s 1]), (none, .v 22 (.bin .lss) [.s 21, .k (.i 0)])])
  (.cond (.s 22)
  (.seq
  (.rg 0 [(none, .v 4 .mv [.k (.i (-1))])])
  .ret)
  .skip))
  (.cl ks (.seq
  (.rg 0 [(none, .v 23 .mv [.s 1]), (none, .tk 4 23)])
  .ret)))))))))))))))
theorem chk_laws_szSchool : ∃ b, Try.f12.body = some b ∧ chk Try.prog Try.f12.ntmps true C_laws_szSchool b = true := ⟨_, rfl, by kernel_rfl⟩
def K_laws_eqSchool : List Nat := [0, 1, 2, 3, 4, 1002, 2002, 3002, 1003, 2003, 3003]
def C_laws_eqSchool : C :=
 let ks := K_laws_eqSchool
 (.seq
  (.rg 0 [(none, .v 2 .boxS [.s 0]), (none, .v 3 .boxS [.s 1]), (none, .v 4 .mv [.k (.b false)])])
  (.cl ks (.seq
  (.seq
  (.rg 0 [(none, .v 5 (.fa 0) [.s 2]), (none, .v 6 .ld [.s 5]), (none, .v 7 (.fa 0) [.s 3]), (none, .v 8 .ld [.s 7]), (none, .co 9 92 [.s 6, .s 8]), (none, .v 10 .not [.s 9])])
  (.cond (.s 10)
  (.seq
  (.rg 0 [(none, .v 4 .mv [.k (.b false)])])
  .ret)
  .skip))
  (.cl ks (.seq
  (.seq
  (.rg 0 [(none, .v 11 (.fa 1) [.s 2]), (none, .v 12 .ld [.s 11]), (none, .v 13 (.fa 1) [.s 3]), (none, .v 14 .ld [.s 13]), (none, .co 15 92 [.s 12, .s 14]), (none, .v 16 .not [.s 15])])
  (.cond (.s 16)
  (.seq
  (.rg 0 [(none, .v 4 .mv [.k (.b false)])])
  .ret)
  .skip))
  (.cl ks (.seq
  (.seq
  (.rg 0 [(none, .v 17 (.fa 2) [.s 2]), (none, .v 18 .ld [.s 17]), (none, .v 19 (.fa 2) [.s 3]), (none, .v 20 .ld [.s 19]), (none, .co 21 16 [.s 18, .s 20]), (none, .v 22 .not [.s 21])])
  (.cond (.s 22)
  (.seq
  (.rg 0 [(none, .v 4 .mv [.k (.b false)])])
  .ret)
  .skip))
  (.cl ks (.seq
  (.rg 0 [(none, .v 4 .mv [.k (.b true)])])
  .ret)))))))))
theorem chk_laws_eqSchool : ∃ b, Try.f17.body = some b ∧ chk Try.prog Try.f17.ntmps true C_laws_eqSchool b = true := ⟨_, rfl, by kernel_rfl⟩
def K_laws_markSchool : List Nat := [0, 1, 2, 4, 1002, 2002, 3002]
def C_laws_markSchool : C :=
 let ks := K_laws_markSchool
 (.seq
  (.rg 0 [(none, .box 2 (.s 0)), (none, .v 4 .mv [.k (.i 0)])])
  (.cl ks (.seq
  (.rg 0 [(none, .v 5 (.fa 0) [.s 2]), (none, .v 6 .ld [.s 5]), (none, .v 7 .mv [.s 1]), (none, .cox (some 8) 93 [.s 6, .s 7] 0), (none, .tk 1 8)])
  (.cl ks (.seq
  (.rg 0 [(none, .v 9 (.fa 1) [.s 2]), (none, .v 10 .ld [.s 9]), (none, .v 11 .mv [.s 1]), (none, .cox (some 12) 93 [.s 10, .s 11] 0), (none, .tk 1 12)])
  (.cl ks (.seq
  (.rg 0 [(none, .v 13 (.fa 2) [.s 2]), (none, .v 14 .ld [.s 13]), (none, .v 15 .mv [.s 1]), (none, .cox (some 16) 19 [.s 14, .s 15] 0), (none, .tk 1 16)])
  (.cl ks (.seq
  (.rg 0 [(none, .v 17 .mv [.s 1]), (none, .tk 4 17)])
  .ret)))))))))
theorem chk_laws_markSchool : ∃ b, Try.f18.body = some b ∧ chk Try.prog Try.f18.ntmps false C_laws_markSchool b = true := ⟨_, rfl, by kernel_rfl⟩
theorem toSchool_ok (x y : List (List Int)) (z : List Int) (hx : x.length ≤ 1048576) (kx : ∀ r ∈ x, r.length ≤ 1048576) (hy : y.length ≤ 1048576) (ky : ∀ r ∈ y, r.length ≤ 1048576) (hz : z.length ≤ 1048576) :
  CallOk Try.prog 14 [.a [.s none (rr x), .s none (rr y), .s none (ii z)]] [(0, .ag 3), (200000, .own 1 none (rr x)), (201000, .own 1 none (rr y)), (202000, .own 1 none (ii z))] := by
 obtain ⟨code0, hcd1, hcd2⟩ := chk_laws_toSchool; refine callB_of Try.func14 hcd1 mo Try.call14 (z := 2) (ty := 28) (n := 3) (by kernel_rfl) (by kernel_rfl) hcd2 (by rw [Try.ntmps14]; simp) (by simp) (by decide) ?_; unfold C_laws_toSchool K_laws_toSchool; simp (maxSteps := 2000000) only [go_sem, Nat.reduceBEq, Nat.reduceAdd, Nat.reduceMul, Nat.reduceMod, Nat.reduceLT, Nat.reduceDiv, Nat.reduceSub, Nat.reduceLeDiff, Int.reduceToNat, Int.reduceLT, Int.reduceLE, reduceCtorEq]
 refine ⟨_, toIntSS_ok none x hx kx, ?_⟩; simp (maxSteps := 2000000) only [go_sem, Nat.reduceBEq, Nat.reduceAdd, Nat.reduceMul, Nat.reduceMod, Nat.reduceLT, Nat.reduceDiv, Nat.reduceSub, Nat.reduceLeDiff, Int.reduceToNat, Int.reduceLT, Int.reduceLE, reduceCtorEq]
 refine ⟨_, toIntSS_ok none y hy ky, ?_⟩; simp (maxSteps := 2000000) only [go_sem, Nat.reduceBEq, Nat.reduceAdd, Nat.reduceMul, Nat.reduceMod, Nat.reduceLT, Nat.reduceDiv, Nat.reduceSub, Nat.reduceLeDiff, Int.reduceToNat, Int.reduceLT, Int.reduceLE, reduceCtorEq]
 refine ⟨_, toIntS_ok none z hz, ?_⟩; simp (maxSteps := 2000000) only [go_sem, Nat.reduceBEq, Nat.reduceAdd, Nat.reduceMul, Nat.reduceMod, Nat.reduceLT, Nat.reduceDiv, Nat.reduceSub, Nat.reduceLeDiff, Int.reduceToNat, Int.reduceLT, Int.reduceLE, reduceCtorEq]
 decide
theorem szII_bd {a : List (List Int)} {left : Int} (h1 : left ≤ 1048576) : szII a left ≤ 1048576 := by
 have key : ∀ (a : List (List Int)) (left : Int), left ≤ 1048576 → szIL a left ≤ 1048576 := by
  intro a
  induction a with
  | nil => intro left h; simpa [szIL] using h
  | cons r a ih =>
   intro left h
   simp only [szIL]
   have h2 := szI_bd (a := r) h
   split
   ·omega
   ·exact ih _ h2
 unfold szII; split
 ·omega
 ·exact key _ _ (by omega)
def szS (x y : List (List Int)) (z : List Int) (left : Int) : Int :=
 if szII x left < 0 then -1 else if szII y (szII x left) < 0 then -1 else if szI z (szII y (szII x left)) < 0 then -1 else szI z (szII y (szII x left))
theorem szSchool_ok (x y : List (List Int)) (z : List Int) (left : Int) (h0 : 0 ≤ left) (h1 : left ≤ 1048576) (ax : x.length ≤ 9223372036854775807) (bx : ∀ r ∈ x, r.length ≤ 9223372036854775807) (ay : y.length ≤ 9223372036854775807) (bY : ∀ r ∈ y, r.length ≤ 9223372036854775807) (az : z.length ≤ 9223372036854775807) :
  CallOk Try.prog 12 [.a [.s none (rr x), .s none (rr y), .s none (ii z)], .i left] [(0, .i (szS x y z left))] := by
 obtain ⟨code0, hcd1, hcd2⟩ := chk_laws_szSchool; refine callOk_of Try.func12 hcd1 mo Try.call12 (rs := [4]) (by kernel_rfl) hcd2 (by rw [Try.ntmps12]; simp) (by simp) (by decide) ?_; unfold C_laws_szSchool K_laws_szSchool; simp (maxSteps := 2000000) only [go_sem, Nat.reduceBEq, Nat.reduceAdd, Nat.reduceMul, Nat.reduceMod, Nat.reduceLT, Nat.reduceDiv, Nat.reduceSub, Nat.reduceLeDiff, Int.reduceToNat, Int.reduceLT, Int.reduceLE, reduceCtorEq]
 refine ⟨_, szIntSS_ok none x left h0 h1 ax bx, ?_⟩; simp (maxSteps := 2000000) only [go_sem, Nat.reduceBEq, Nat.reduceAdd, Nat.reduceMul, Nat.reduceMod, Nat.reduceLT, Nat.reduceDiv, Nat.reduceSub, Nat.reduceLeDiff, Int.reduceToNat, Int.reduceLT, Int.reduceLE, reduceCtorEq]
 have h2 := szII_bd (a := x) h1
 refine ⟨fun h => by simp [szS, h], fun h => ?_⟩
 refine ⟨_, szIntSS_ok none y (szII x left) (by omega) h2 ay bY, ?_⟩; simp (maxSteps := 2000000) only [go_sem, Nat.reduceBEq, Nat.reduceAdd, Nat.reduceMul, Nat.reduceMod, Nat.reduceLT, Nat.reduceDiv, Nat.reduceSub, Nat.reduceLeDiff, Int.reduceToNat, Int.reduceLT, Int.reduceLE, reduceCtorEq]
 have h5 := szII_bd (a := y) h2
 refine ⟨fun h3 => by simp [szS, h, h3], fun h3 => ?_⟩
 refine ⟨_, szIntS_ok none z (szII y (szII x left)) (by omega) h5 az, ?_⟩; simp (maxSteps := 2000000) only [go_sem, Nat.reduceBEq, Nat.reduceAdd, Nat.reduceMul, Nat.reduceMod, Nat.reduceLT, Nat.reduceDiv, Nat.reduceSub, Nat.reduceLeDiff, Int.reduceToNat, Int.reduceLT, Int.reduceLE, reduceCtorEq]
 refine ⟨fun h4 => by simp [szS, h, h3, h4], fun h4 => by simp [szS, h, h3, h4]⟩
theorem szS_ok {x y : List (List Int)} {z : List Int} {left : Int} (h1 : left ≤ 1048576) (h : ¬ szS x y z left < 0) :
  x.length ≤ 1048576 ∧ (∀ r ∈ x, r.length ≤ 1048576) ∧ y.length ≤ 1048576 ∧ (∀ r ∈ y, r.length ≤ 1048576) ∧ z.length ≤ 1048576 ∧ (tot x : Int) ≤ 1048576 ∧ (tot y : Int) ≤ 1048576 := by
 unfold szS at h
 by_cases h2 : szII x left < 0
 ·rw [if_pos h2] at h; omega
 ·rw [if_neg h2] at h
  by_cases h3 : szII y (szII x left) < 0
  ·rw [if_pos h3] at h; omega
  ·rw [if_neg h3] at h
   by_cases h4 : szI z (szII y (szII x left)) < 0
   ·rw [if_pos h4] at h; omega
   ·have b1 := szII_bd (a := x) h1
    have b2 := szII_bd (a := y) b1
    obtain ⟨p1, p2⟩ := szII_ok (by omega) h2
    obtain ⟨q1, q2⟩ := szII_ok b1 h3
    refine ⟨p1, p2, q1, q2, ?_, Int.le_trans (szII_tot h2) (by omega), Int.le_trans (szII_tot h3) b1⟩
    unfold szI at h4; split at h4 <;> omega
theorem eqSchool_ok {n1 n2 n3 n4 n5 n6 : Option Bool} (x y : List (List Int)) (z : List Int) (hx : x.length ≤ 1048576) (kx : ∀ r ∈ x, r.length ≤ 1048576) (hy : y.length ≤ 1048576) (ky : ∀ r ∈ y, r.length ≤ 1048576) (hz : z.length ≤ 1048576) :
  CallOk Try.prog 17 [.a [.s n1 (rr x), .s n2 (rr y), .s n3 (ii z)], .a [.s n4 (rr x), .s n5 (rr y), .s n6 (ii z)]] [(0, .b true)] := by
 obtain ⟨code0, hcd1, hcd2⟩ := chk_laws_eqSchool; refine callOk_of Try.func17 hcd1 mo Try.call17 (rs := [4]) (by kernel_rfl) hcd2 (by rw [Try.ntmps17]; simp) (by simp) (by decide) ?_; unfold C_laws_eqSchool K_laws_eqSchool; simp (maxSteps := 2000000) only [go_sem, Nat.reduceBEq, Nat.reduceAdd, Nat.reduceMul, Nat.reduceMod, Nat.reduceLT, Nat.reduceDiv, Nat.reduceSub, Nat.reduceLeDiff, Int.reduceToNat, Int.reduceLT, Int.reduceLE, reduceCtorEq]
 refine ⟨_, eqIntSS_ok _ _ x x hx kx, ?_⟩; simp (maxSteps := 2000000) only [go_sem, Nat.reduceBEq, Nat.reduceAdd, Nat.reduceMul, Nat.reduceMod, Nat.reduceLT, Nat.reduceDiv, Nat.reduceSub, Nat.reduceLeDiff, Int.reduceToNat, Int.reduceLT, Int.reduceLE, reduceCtorEq]
 refine ⟨_, eqIntSS_ok _ _ y y hy ky, ?_⟩; simp (maxSteps := 2000000) only [go_sem, Nat.reduceBEq, Nat.reduceAdd, Nat.reduceMul, Nat.reduceMod, Nat.reduceLT, Nat.reduceDiv, Nat.reduceSub, Nat.reduceLeDiff, Int.reduceToNat, Int.reduceLT, Int.reduceLE, reduceCtorEq]
 refine ⟨_, eqIntS_ok _ _ z z hz, ?_⟩; simp (maxSteps := 2000000) only [go_sem, Nat.reduceBEq, Nat.reduceAdd, Nat.reduceMul, Nat.reduceMod, Nat.reduceLT, Nat.reduceDiv, Nat.reduceSub, Nat.reduceLeDiff, Int.reduceToNat, Int.reduceLT, Int.reduceLE, reduceCtorEq]
 done
theorem markSchool_ok {n1 n2 n3 : Option Bool} (x y : List (List Int)) (z : List Int) (k : Int) (h0 : 0 ≤ k) (h1 : k + tot x + tot y + z.length ≤ 1000000000000000000) (hx : x.length ≤ 1048576) (kx : ∀ r ∈ x, r.length ≤ 1048576) (hy : y.length ≤ 1048576) (ky : ∀ r ∈ y, r.length ≤ 1048576) (hz : z.length ≤ 1048576) :
  CallA Try.prog 18 0 [.a [.s n1 (rr x), .s n2 (rr y), .s n3 (ii z)], .i k] (.i (k + tot x + tot y + z.length)) := by
 obtain ⟨code0, hcd1, hcd2⟩ := chk_laws_markSchool; refine callA_of Try.func18 hcd1 mo Try.call18 (rs := [4]) (i := 0) (by kernel_rfl) hcd2 (by rw [Try.ntmps18]; simp) (by simp) (by decide) rfl ?_; unfold C_laws_markSchool K_laws_markSchool; simp (maxSteps := 2000000) only [go_sem, Nat.reduceBEq, Nat.reduceAdd, Nat.reduceMul, Nat.reduceMod, Nat.reduceLT, Nat.reduceDiv, Nat.reduceSub, Nat.reduceLeDiff, Int.reduceToNat, Int.reduceLT, Int.reduceLE, reduceCtorEq]
 refine ⟨_, _, _, markIntSS_ok _ x k h0 (by omega) hx kx, ?_⟩; simp (maxSteps := 2000000) only [go_sem, Nat.reduceBEq, Nat.reduceAdd, Nat.reduceMul, Nat.reduceMod, Nat.reduceLT, Nat.reduceDiv, Nat.reduceSub, Nat.reduceLeDiff, Int.reduceToNat, Int.reduceLT, Int.reduceLE, reduceCtorEq]
 refine ⟨_, _, _, markIntSS_ok _ y _ (by omega) (by omega) hy ky, ?_⟩; simp (maxSteps := 2000000) only [go_sem, Nat.reduceBEq, Nat.reduceAdd, Nat.reduceMul, Nat.reduceMod, Nat.reduceLT, Nat.reduceDiv, Nat.reduceSub, Nat.reduceLeDiff, Int.reduceToNat, Int.reduceLT, Int.reduceLE, reduceCtorEq]
 refine ⟨_, _, _, markIntS_ok _ z _ (by omega) (by omega) hz, ?_⟩; simp (maxSteps := 2000000) only [go_sem, Nat.reduceBEq, Nat.reduceAdd, Nat.reduceMul, Nat.reduceMod, Nat.reduceLT, Nat.reduceDiv, Nat.reduceSub, Nat.reduceLeDiff, Int.reduceToNat, Int.reduceLT, Int.reduceLE, reduceCtorEq]
 done
end Go.Proofs.Ytgdpplhbblapgaa
