/- At every input the law below returns true and leaves its argument alone: the greatest remainders keep quotas, and no other seats are nearer to the shares of the counts. No condition. -/
import Derived.Test.YtfdoddeccnjcmaaRows
import Derived.Test.YtfdoddeccnjcmaaFracq
import Derived.Test.YtfdoddeccnjcmaaCdraw
import Derived.Test.YtfdoddeccnjcmaaClm
import Derived.Test.YtfdoddeccnjcmaaFacts
import Derived.Test.YtfdoddeccnjcmaaMarks
namespace Go.Proofs.Ytfdoddeccnjcmaa
open Go Go.Vc
set_option maxRecDepth 100000
set_option linter.unusedSimpArgs false
set_option linter.unusedVariables false
open Go.ChangeShapes Go.WideShapes Go.RowKit
def K_laws_sum : List Nat := [0, 2, 3, 5, 6, 7, 8]
def C_laws_sum : C :=
  let ks := K_laws_sum
  (.seq
   (.rg 0 [(none, .v 2 .mv [.k (.i 0)])])
   (.cl ks (.seq
   (.rg 0 [(none, .v 3 .mv [.k (.i 0)])])
   (.cl ks (.seq
   (.seq
   (.rg 0 [(none, .v 6 .mv [.s 0]), (none, .v 7 .len [.s 6]), (none, .v 8 .mv [.k (.i 0)])])
   (.cl ks (.block 0
   (.loop
   (.seq
   (.rg 0 [(none, .v 9 (.bin .lss) [.s 8, .s 7])])
   (.seq
   (.cond (.s 9)
   .skip
   (.exit 0))
   (.cl ks (.seq
   (.block 1
   (.seq
   (.rg 0 [(none, .v 10 .idx [.s 6, .s 8]), (none, .v 11 .ld [.s 10]), (none, .tk 5 11)])
   (.cl ks (.rg 0 [(none, .v 12 .mv [.s 3]), (none, .v 13 .mv [.s 5]), (none, .v 14 (.bin .add) [.s 12, .s 13]), (none, .tk 3 14)]))))
   (.cl ks (.rg 0 [(none, .v 15 (.bin .add) [.s 8, .k (.i 1)]), (none, .v 8 .mv [.s 15])]))))))))))
   (.cl ks (.seq
   (.rg 0 [(none, .v 16 .mv [.s 3]), (none, .tk 2 16)])
   .ret)))))))

theorem chk_laws_sum : ∃ b, Try.f27.body = some b ∧ chk Try.prog Try.f27.ntmps true C_laws_sum b = true := ⟨_, rfl, by kernel_rfl⟩
def K_laws_FnQuotas : List Nat := [0, 2, 3, 4, 5, 6, 7, 8, 9, 10, 11, 12, 13, 14, 15, 16, 17, 18, 19, 93, 94, 1011, 2011, 1013, 2013, 1016, 2016, 1018, 2018]
def C_laws_FnQuotas : C :=
  let ks := K_laws_FnQuotas
  (.seq
   (.rg 0 [(none, .v 2 .mv [.k (.b false)])])
   (.cl ks (.seq
   (.seq
   (.rg 0 [(none, .v 20 .mv [.s 0]), (none, .v 21 .len [.s 20]), (none, .v 22 (.bin .gtr) [.s 21, .k (.i 1048576)])])
   (.cond (.s 22)
   (.seq
   (.rg 0 [(none, .v 2 .mv [.k (.b true)])])
   .ret)
   .skip))
   (.cl ks (.seq
   (.rg 0 [(none, .v 23 .mv [.s 0]), (none, .co 24 8 [.s 23, .k (.i 0)]), (none, .tk 3 24)])
   (.cl ks (.seq
   (.rg 0 [(none, .v 25 .mv [.s 0]), (none, .co 26 9 [.s 25, .k (.i 40)]), (none, .v 27 (.bin .rem) [.s 26, .k (.i 30)]), (none, .tk 4 27)])
   (.cl ks (.seq
   (.rg 0 [(none, .v 28 .mv [.s 3]), (none, .v 29 .mv [.s 4]), (none, .co 30 21 [.s 28, .s 29]), (none, .tk 5 30)])
   (.cl ks (.seq
   (.rg 0 [(none, .v 31 .mv [.s 3]), (none, .v 32 .mv [.s 4]), (none, .co 33 22 [.s 31, .s 32]), (none, .tk 6 33)])
   (.cl ks (.seq
   (.rg 0 [(none, .v 34 .mv [.s 3]), (none, .v 35 .mv [.s 4]), (none, .co 36 23 [.s 34, .s 35]), (none, .tk 7 36)])
   (.cl ks (.seq
   (.rg 0 [(none, .v 37 .mv [.s 3]), (none, .v 38 .mv [.s 4]), (none, .co 39 24 [.s 37, .s 38]), (none, .tk 8 39)])
   (.cl ks (.seq
   (.rg 0 [(none, .v 40 .mv [.s 3]), (none, .v 41 .mv [.s 4]), (none, .co 42 25 [.s 40, .s 41]), (none, .tk 9 42)])
   (.cl ks (.seq
   (.seq
   (.rg 0 [(none, .v 43 .mv [.s 3]), (none, .co 44 26 [.s 43]), (none, .v 45 .not [.s 44]), (none, .v 46 .mv [.s 45]), (some (46, false), .v 47 .mv [.s 5]), (some (46, false), .co 48 27 [.s 47]), (some (46, false), .v 49 .mv [.s 4]), (some (46, false), .v 50 (.bin .neq) [.s 48, .s 49]), (none, .v 51 .pick [.s 46, .k (.b true), .s 50]), (none, .v 52 .mv [.s 51]), (some (52, false), .v 53 .mv [.s 6]), (some (52, false), .co 54 27 [.s 53]), (some (52, false), .v 55 .mv [.s 4]), (some (52, false), .v 56 (.bin .neq) [.s 54, .s 55]), (none, .v 57 .pick [.s 52, .k (.b true), .s 56]), (none, .v 58 .mv [.s 57]), (some (58, false), .v 59 .mv [.s 5]), (some (58, false), .v 60 .len [.s 59]), (some (58, false), .v 61 .mv [.s 3]), (some (58, false), .v 62 .len [.s 61]), (some (58, false), .v 63 (.bin .neq) [.s 60, .s 62]), (none, .v 64 .pick [.s 58, .k (.b true), .s 63]), (none, .v 65 .mv [.s 64]), (some (65, false), .v 66 .mv [.s 7]), (some (65, false), .v 67 .len [.s 66]), (some (65, false), .v 68 .mv [.s 3]), (some (65, false), .v 69 .len [.s 68]), (some (65, false), .v 70 (.bin .neq) [.s 67, .s 69]), (none, .v 71 .pick [.s 65, .k (.b true), .s 70]), (none, .v 72 .mv [.s 71]), (some (72, false), .v 73 .mv [.s 8]), (some (72, false), .v 74 .len [.s 73]), (some (72, false), .v 75 .mv [.s 3]), (some (72, false), .v 76 .len [.s 75]), (some (72, false), .v 77 (.bin .neq) [.s 74, .s 76]), (none, .v 78 .pick [.s 72, .k (.b true), .s 77]), (none, .v 79 .mv [.s 78]), (some (79, false), .v 80 .mv [.s 9]), (some (79, false), .v 81 .len [.s 80]), (some (79, false), .v 82 .mv [.s 3]), (some (79, false), .v 83 .len [.s 82]), (some (79, false), .v 84 (.bin .neq) [.s 81, .s 83]), (none, .v 85 .pick [.s 79, .k (.b true), .s 84]), (none, .v 86 .mv [.s 85]), (some (86, false), .v 87 .mv [.s 3]), (some (86, false), .v 88 .mv [.s 5]), (some (86, false), .co 89 28 [.s 87, .s 88]), (some (86, false), .v 90 .not [.s 89]), (none, .v 91 .pick [.s 86, .k (.b true), .s 90])])
   (.cond (.s 91)
   (.seq
   (.rg 0 [(none, .v 2 .mv [.k (.b false)])])
   .ret)
   .skip))
   (.cl ks (.seq
   (.seq
   (.rg 0 [(none, .v 92 .mv [.s 3]), (none, .v 93 .len [.s 92]), (none, .v 94 .mv [.k (.i 0)])])
   (.cl ks (.block 0
   (.loop
   (.seq
   (.rg 0 [(none, .v 95 (.bin .lss) [.s 94, .s 93])])
   (.seq
   (.cond (.s 95)
   .skip
   (.exit 0))
   (.cl ks (.seq
   (.block 1
   (.seq
   (.rg 0 [(none, .v 96 .mv [.s 94]), (none, .tk 10 96)])
   (.cl ks (.seq
   (.rg 0 [(none, .v 98 .mv [.s 3]), (none, .v 99 .mv [.s 4]), (none, .v 100 .mv [.s 10]), (none, .co 101 29 [.s 98, .s 99, .s 100]), (none, .tk 97 101), (none, .tk 102 100097), (none, .tk 103 101097), (none, .new 11 [.i 0, .i 0]), (none, .sts (.s 11) (.s 102) 2), (none, .tk 12 103)])
   (.cl ks (.seq
   (.rg 57 [(none, .v 104 .mv [.s 12]), (none, .v 105 .not [.s 104]), (none, .v 106 .mv [.s 105]), (some (106, false), .v 107 (.lds 2) [.s 11]), (some (106, false), .v 108 (.call 30) [.s 107]), (some (106, false), .v 109 .mv [.s 7]), (some (106, false), .v 110 .mv [.s 10]), (some (106, false), .v 111 .idx [.s 109, .s 110]), (some (106, false), .v 112 .ld [.s 111]), (some (106, false), .v 113 (.bin .neq) [.s 108, .s 112]), (none, .v 114 .pick [.s 106, .k (.b true), .s 113]), (none, .v 115 .mv [.s 114]), (some (115, false), .v 116 .mv [.s 7]), (some (115, false), .v 117 .mv [.s 10]), (some (115, false), .v 118 .idx [.s 116, .s 117]), (some (115, false), .v 119 .ld [.s 118]), (some (115, false), .v 120 .mv [.s 8]), (some (115, false), .v 121 .mv [.s 10]), (some (115, false), .v 122 .idx [.s 120, .s 121]), (some (115, false), .v 123 .ld [.s 122]), (some (115, false), .v 124 (.bin .eql) [.s 119, .s 123]), (some (115, false), .v 125 (.fa 1) [.s 11]), (some (115, false), .v 126 .ld [.s 125]), (some (115, false), .v 127 (.bin .eql) [.s 126, .k (.i 1)]), (some (115, false), .v 128 .bne [.s 124, .s 127]), (none, .v 129 .pick [.s 115, .k (.b true), .s 128]), (none, .v 130 .mv [.s 129]), (some (130, false), .v 131 .mv [.s 8]), (some (130, false), .v 132 .mv [.s 10]), (some (130, false), .v 133 .idx [.s 131, .s 132]), (some (130, false), .v 134 .ld [.s 133]), (some (130, false), .v 135 .mv [.s 7]), (some (130, false), .v 136 .mv [.s 10]), (some (130, false), .v 137 .idx [.s 135, .s 136]), (some (130, false), .v 138 .ld [.s 137]), (some (130, false), .v 139 (.bin .sub) [.s 134, .s 138]), (some (130, false), .v 140 (.bin .gtr) [.s 139, .k (.i 1)]), (none, .v 141 .pick [.s 130, .k (.b true), .s 140]), (none, .v 142 .mv [.s 141]), (some (142, false), .v 143 .mv [.s 7]), (some (142, false), .v 144 .mv [.s 10]), (some (142, false), .v 145 .idx [.s 143, .s 144]), (some (142, false), .v 146 .ld [.s 145]), (some (142, false), .v 147 .mv [.s 3]), (some (142, false), .v 148 (.call 27) [.s 147]), (some (142, false), .v 149 (.bin .mul) [.s 146, .s 148]), (some (142, false), .v 150 .mv [.s 9]), (some (142, false), .v 151 .mv [.s 10]), (some (142, false), .v 152 .idx [.s 150, .s 151]), (some (142, false), .v 153 .ld [.s 152]), (some (142, false), .v 154 (.bin .add) [.s 149, .s 153]), (some (142, false), .v 155 .mv [.s 3]), (some (142, false), .v 156 .mv [.s 10]), (some (142, false), .v 157 .idx [.s 155, .s 156]), (some (142, false), .v 158 .ld [.s 157]), (some (142, false), .v 159 .mv [.s 4]), (some (142, false), .v 160 (.bin .mul) [.s 158, .s 159]), (some (142, false), .v 161 (.bin .neq) [.s 154, .s 160]), (none, .v 162 .pick [.s 142, .k (.b true), .s 161])])
   (.cond (.s 162)
   (.seq
   (.rg 0 [(none, .v 2 .mv [.k (.b false)])])
   .ret)
   .skip)))))))
   (.cl ks (.rg 0 [(none, .v 163 (.bin .add) [.s 94, .k (.i 1)]), (none, .v 94 .mv [.s 163])]))))))))))
   (.cl ks (.seq
   (.seq
   (.rg 0 [(none, .v 164 .mv [.s 4]), (none, .v 165 (.bin .eql) [.s 164, .k (.i 0)])])
   (.cond (.s 165)
   (.seq
   (.rg 0 [(none, .v 2 .mv [.k (.b true)])])
   .ret)
   .skip))
   (.cl ks (.seq
   (.rg 0 [(none, .v 167 .mv [.s 3]), (none, .v 168 .mv [.s 5]), (none, .co 169 31 [.s 167, .s 168]), (none, .tk 166 169), (none, .tk 170 100166), (none, .tk 171 101166), (none, .new 13 [.i 0, .i 0]), (none, .sts (.s 13) (.s 170) 2), (none, .tk 14 171)])
   (.cl ks (.seq
   (.seq
   (.rg 0 [(none, .v 15 .mv [.k (.i 1)])])
   (.cl ks (.block 2
   (.loop
   (.seq
   (.seq
   (.rg 0 [(none, .v 172 .mv [.s 15]), (none, .v 173 (.bin .leq) [.s 172, .k (.i 5)])])
   (.cond (.s 173)
   .skip
   (.exit 2)))
   (.cl ks (.seq
   (.block 3
   (.seq
   (.rg 0 [(none, .v 177 .mv [.s 3]), (none, .v 178 .mv [.s 15]), (none, .v 179 .mv [.s 3]), (none, .v 180 .mv [.s 4]), (none, .co 181 20 [.s 178, .s 179, .s 180]), (none, .co 182 31 [.s 177, .s 181]), (none, .tk 176 182), (none, .tk 183 100176), (none, .tk 184 101176), (none, .new 16 [.i 0, .i 0]), (none, .sts (.s 16) (.s 183) 2), (none, .tk 17 184)])
   (.cl ks (.seq
   (.rg 0 [(none, .v 185 .mv [.s 14]), (none, .v 186 .mv [.s 185]), (some (186, true), .v 187 .mv [.s 17]), (none, .v 188 .pick [.s 186, .s 187, .k (.b false)]), (none, .v 189 .mv [.s 188]), (some (189, true), .v 190 (.lds 2) [.s 13]), (some (189, true), .v 191 (.lds 2) [.s 16]), (some (189, true), .co 192 32 [.s 190, .s 191]), (some (189, true), .v 193 (.bin .gtr) [.s 192, .k (.i 0)]), (none, .v 194 .pick [.s 189, .s 193, .k (.b false)])])
   (.cond (.s 194)
   (.seq
   (.rg 0 [(none, .v 2 .mv [.k (.b false)])])
   .ret)
   .skip)))))
   (.cl ks (.rg 0 [(none, .v 174 .mv [.s 15]), (none, .v 175 (.bin .add) [.s 174, .k (.i 1)]), (none, .tk 15 175)])))))))))
   (.cl ks (.seq
   (.rg 0 [(none, .v 196 .mv [.s 3]), (none, .v 197 .mv [.s 6]), (none, .co 198 31 [.s 196, .s 197]), (none, .tk 195 198), (none, .tk 199 100195), (none, .tk 200 101195), (none, .new 18 [.i 0, .i 0]), (none, .sts (.s 18) (.s 199) 2), (none, .tk 19 200)])
   (.cl ks (.seq
   (.rg 0 [(none, .v 201 .mv [.s 14]), (none, .v 202 .not [.s 201]), (none, .v 203 .mv [.s 202]), (some (203, false), .v 204 .mv [.s 19]), (some (203, false), .v 205 .not [.s 204]), (none, .v 206 .pick [.s 203, .k (.b true), .s 205]), (none, .v 207 .mv [.s 206]), (some (207, false), .v 208 (.lds 2) [.s 13]), (some (207, false), .v 209 (.lds 2) [.s 18]), (some (207, false), .co 210 32 [.s 208, .s 209]), (some (207, false), .v 211 (.bin .leq) [.s 210, .k (.i 0)]), (some (207, false), .v 212 .mv [.s 211]), (some (212, true), .v 213 (.fa 0) [.s 13]), (some (212, true), .v 214 .ld [.s 213]), (some (212, true), .v 215 (.bin .geq) [.s 214, .k (.i 0)]), (some (207, false), .v 216 .pick [.s 212, .s 215, .k (.b false)]), (none, .v 217 .pick [.s 207, .k (.b true), .s 216]), (none, .tk 2 217)])
   .ret)))))))))))))))))))))))))))))))

theorem chk_laws_FnQuotas : ∃ b, Try.f4.body = some b ∧ chk Try.prog Try.f4.ntmps true C_laws_FnQuotas b = true := ⟨_, rfl, by kernel_rfl⟩
theorem laws_sumL_ok {n1 : Option Bool} (xs : List Int) (hl : xs.length ≤ 1048576) (hb : ∀ x ∈ xs, 0 ≤ x ∧ x ≤ 1000000000) : CallOk Try.prog 27 [.s n1 (ii xs)] [(0, .i (sumL xs))] := by
  obtain ⟨code0, hcd1, hcd2⟩ := chk_laws_sum; refine callOk_of Try.func27 hcd1 mo Try.call27 (rs := [2]) (by kernel_rfl) hcd2 (by rw [Try.ntmps27]; simp) (by simp) (by decide) ?_; unfold C_laws_sum K_laws_sum; simp (config := { maxSteps := 2000000 }) only [go_sem, Nat.reduceBEq, Nat.reduceAdd, Nat.reduceMul, Nat.reduceMod, Nat.reduceLT, Nat.reduceDiv, Nat.reduceSub, Nat.reduceLeDiff, Int.reduceToNat, Int.reduceLT, Int.reduceLE, reduceCtorEq, List.take_nil, List.drop_nil]
  refine loopN xs.length (fun j => [(0, .t .arg (.s n1 (ii xs))), (3, .i (sumN xs j)), (6, .t .arg (.s n1 (ii xs))), (7, .i xs.length), (8, .i (j : Nat))]) (fun _ => True) ⟨trivial, by simp (config := { maxSteps := 2000000 }) only [go_sem, Nat.reduceBEq, Nat.reduceAdd, Nat.reduceMul, Nat.reduceMod, Nat.reduceLT, Nat.reduceDiv, Nat.reduceSub, Nat.reduceLeDiff, Int.reduceToNat, Int.reduceLT, Int.reduceLE, reduceCtorEq, List.take_nil, List.drop_nil]; simp [sumN]⟩ fun j hj _ => ?_
  simp (config := { maxSteps := 2000000 }) only [go_sem, Nat.reduceBEq, Nat.reduceAdd, Nat.reduceMul, Nat.reduceMod, Nat.reduceLT, Nat.reduceDiv, Nat.reduceSub, Nat.reduceLeDiff, Int.reduceToNat, Int.reduceLT, Int.reduceLE, reduceCtorEq, List.take_nil, List.drop_nil]
  refine ⟨fun hlt => ?_, fun hge => ?_⟩
  · have hj' : j < xs.length := by omega
    have h1 := sumN_bd hb hj
    have h2 := hb _ (getD_mem (d := 0) hj')
    exact ⟨by omega, hj', hj', inR_of (by omega) (by omega), inR_of (by omega) (by omega), hj', rfl, by simp⟩
  · have : j = xs.length := by omega
    subst this
    rfl
theorem quota_frac {cs : List Int} {n p q g : Int} {j : Nat} (F : Fr p q) (g1 : 1 ≤ g) (e1 : cs.getD j 0 * n = p * g) (e2 : sumL cs = q * g) (Q : Quo cs n j) : p.tdiv q = (quoF lowO cs n).getD j 0 ∧ (q = 1 ↔ (quoF remO cs n).getD j 0 = 0) := by
  have q1 := F.q1
  obtain ⟨f1, f2, f3⟩ := tdivmod (a := p) (b := q) F.p0 (by omega)
  have h1 := Q.eq
  have m1 := Int.mul_nonneg f2 (show 0 ≤ g by omega)
  have m2 := Int.mul_lt_mul_of_pos_right f3 (show 0 < g by omega)
  obtain ⟨h2, h3⟩ := quot_uniq (q := p.tdiv q) (q' := (quoF lowO cs n).getD j 0) (r := p.tmod q * g) (r' := (quoF remO cs n).getD j 0) (b := sumL cs) (by rw [h1, e1, e2]; grind) m1 (by rw [e2]; exact m2) Q.r0 Q.rS
  refine ⟨h2, fun h => ?_, fun h => ?_⟩
  · rw [← h3]
    have : p.tmod q = 0 := by omega
    rw [this]; simp
  · rw [h] at h3
    have hz : p.tmod q = 0 := by
      rcases Int.mul_eq_zero.1 h3 with h | h
      · exact h
      · omega
    rw [hz, Int.add_zero] at f1
    have hd : q ∣ p := ⟨p.tdiv q, by rw [Int.mul_comm]; exact f1.symm⟩
    have h4 : q ∣ (Int.gcd p q : Int) := Int.dvd_coe_gcd hd (Int.dvd_refl q)
    rw [F.one] at h4
    have := Int.le_of_dvd (by omega) h4
    omega
theorem frac_le {px qx gx py qy gy A B M : Int} (gx1 : 1 ≤ gx) (gy1 : 1 ≤ gy) (ex : A = px * gx) (ey : B = py * gy) (fx : M = qx * gx) (fy : M = qy * gy) (hM : 0 < M) (h : A ≤ B) : cmpI (px * qy) (py * qx) ≤ 0 := by
  have hle : px * qy ≤ py * qx := by
    refine Int.le_of_mul_le_mul_right (a := gx * gy) ?_ (Int.mul_pos (by omega) (by omega))
    have h1 := Int.mul_le_mul_of_nonneg_right h (show 0 ≤ M by omega)
    have e1 : px * qy * (gx * gy) = A * M := by rw [ex, fy]; grind
    have e2 : py * qx * (gx * gy) = B * M := by rw [ey, fx]; grind
    omega
  unfold cmpI
  split
  · omega
  · split <;> omega
set_option maxHeartbeats 4000000 in
theorem FnQuotas_ok (u : Value) (l : List Int) (a : l.length ≤ 9223372036854775807) (hb : ∀ x ∈ l, 0 ≤ x ∧ x < 256) : CallOk Try.prog 4 [.xv u (.s none (byt l))] [(0, .b true)] := by
  obtain ⟨code0, hcd1, hcd2⟩ := chk_laws_FnQuotas; refine callOk_of Try.func4 hcd1 mo Try.call4 (rs := [2]) (by kernel_rfl) hcd2 (by rw [Try.ntmps4]; simp) (by simp) (by decide) ?_; unfold C_laws_FnQuotas K_laws_FnQuotas; simp (config := { maxSteps := 2000000 }) only [go_sem, Nat.reduceBEq, Nat.reduceAdd, Nat.reduceMul, Nat.reduceMod, Nat.reduceLT, Nat.reduceDiv, Nat.reduceSub, Nat.reduceLeDiff, Int.reduceToNat, Int.reduceLT, Int.reduceLE, reduceCtorEq, List.take_nil, List.drop_nil]
  simp only [byt_len]
  refine ⟨fun _ => trivial, fun hlen => ?_⟩
  have C : CodeL l := ⟨by omega, hb⟩
  obtain ⟨cs, l1, l5, cb, cpos, W⟩ := spec_MakeCounts_ok u none C
  obtain ⟨x40, y0, y1, W40⟩ := spec_MakeNum_ok u none C (n := 40) (by omega) (by omega)
  refine ⟨_, W, ?_⟩; simp (config := { maxSteps := 2000000 }) only [go_sem, Nat.reduceBEq, Nat.reduceAdd, Nat.reduceMul, Nat.reduceMod, Nat.reduceLT, Nat.reduceDiv, Nat.reduceSub, Nat.reduceLeDiff, Int.reduceToNat, Int.reduceLT, Int.reduceLE, reduceCtorEq, List.take_nil, List.drop_nil]
  refine ⟨_, W40, ?_⟩; simp (config := { maxSteps := 2000000 }) only [go_sem, Nat.reduceBEq, Nat.reduceAdd, Nat.reduceMul, Nat.reduceMod, Nat.reduceLT, Nat.reduceDiv, Nat.reduceSub, Nat.reduceLeDiff, Int.reduceToNat, Int.reduceLT, Int.reduceLE, reduceCtorEq, List.take_nil, List.drop_nil]
  have t40 := And.intro (Int.tmod_nonneg 30 y0) (Int.tmod_lt_of_pos x40 (show (0 : Int) < 30 by omega))
  generalize x40.tmod 30 = n at t40 ⊢
  have hl : cs.length ≤ 1048576 := by omega
  have hask : ∀ k : Int, 0 ≤ k → k ≤ 100 → askB cs k = true := fun k k0 k1 => by
    simp only [askB, countsB, inI, Bool.and_eq_true, decide_eq_true_eq, List.all_eq_true]
    exact ⟨⟨⟨⟨by omega, by omega⟩, fun x hx => by have := cb x hx; omega⟩, cpos⟩, k0, k1⟩
  have h := hask n (by omega) (by omega)
  have A := ask_of h
  have cH : ∀ n1, CallOk Try.prog 21 [.s n1 (ii cs), .i n] [(0, .own 1 none (ii (hamF cs n)))] := fun n1 => by have := impl_HamiltonSeats_ok (n1 := n1) cs n hl; rwa [h] at this
  obtain ⟨ds, dl, d0, dsum, cD⟩ := impl_DroopSeats_ok (n1 := none) cs n h
  have hsum := ham_sum h
  have hlenh := hamF_len h
  have hq := fun i (hi : i < cs.length) => ham_quota h hi
  have hbd : ∀ x ∈ hamF cs n, 0 ≤ x := fun x hx => by
    obtain ⟨i, hi, e⟩ := mem_getD 0 hx
    have := (hq i (by omega)).1
    have := (quo_at h (show i < cs.length by omega)).l0
    omega
  have bdle : ∀ xs : List Int, (∀ x ∈ xs, 0 ≤ x) → sumL xs = n → ∀ x ∈ xs, 0 ≤ x ∧ x ≤ n := fun xs h0 hs x hx => ⟨h0 x hx, by
    obtain ⟨i, hi, e⟩ := mem_getD 0 hx
    have := sumN_ge h0 (Nat.le_refl _) hi
    unfold sumL at hs; omega⟩
  have hb1 := bdle _ hbd hsum
  have db1 := bdle _ d0 dsum
  have SH : Sts cs (hamF cs n) := ⟨by rw [hsum]; exact h, hlenh, fun x hx => by have := hb1 x hx; omega⟩
  have SD : Sts cs ds := ⟨by rw [dsum]; exact h, dl, fun x hx => by have := db1 x hx; omega⟩
  have cC : ∀ n1, CallOk Try.prog 26 [.s n1 (ii cs)] [(0, .b true)] := fun n1 => by
    have := impl_CountsOk_ok (n1 := n1) cs hl
    have e : countsB cs = true := by simp only [askB, Bool.and_eq_true] at h; exact h.1
    rwa [e] at this
  have cSh : ∀ n1, CallOk Try.prog 27 [.s n1 (ii (hamF cs n))] [(0, .i n)] := fun n1 => by have := laws_sumL_ok (n1 := n1) (hamF cs n) (by omega) (fun x hx => by have := hb1 x hx; omega); rwa [hsum] at this
  have cSd : ∀ n1, CallOk Try.prog 27 [.s n1 (ii ds)] [(0, .i n)] := fun n1 => by have := laws_sumL_ok (n1 := n1) ds (by omega) (fun x hx => by have := db1 x hx; omega); rwa [dsum] at this
  have ll := quo_len (op := lowO) h
  have lu := quo_len (op := uppO) h
  have lr := quo_len (op := remO) h
  refine ⟨by omega, ?_⟩
  refine ⟨_, cH _, ?_⟩; simp (config := { maxSteps := 2000000 }) only [go_sem, Nat.reduceBEq, Nat.reduceAdd, Nat.reduceMul, Nat.reduceMod, Nat.reduceLT, Nat.reduceDiv, Nat.reduceSub, Nat.reduceLeDiff, Int.reduceToNat, Int.reduceLT, Int.reduceLE, reduceCtorEq, List.take_nil, List.drop_nil]
  refine ⟨_, cD, ?_⟩; simp (config := { maxSteps := 2000000 }) only [go_sem, Nat.reduceBEq, Nat.reduceAdd, Nat.reduceMul, Nat.reduceMod, Nat.reduceLT, Nat.reduceDiv, Nat.reduceSub, Nat.reduceLeDiff, Int.reduceToNat, Int.reduceLT, Int.reduceLE, reduceCtorEq, List.take_nil, List.drop_nil]
  refine ⟨_, impl_LowerQuotas_ok cs n hl, ?_⟩; simp (config := { maxSteps := 2000000 }) only [go_sem, Nat.reduceBEq, Nat.reduceAdd, Nat.reduceMul, Nat.reduceMod, Nat.reduceLT, Nat.reduceDiv, Nat.reduceSub, Nat.reduceLeDiff, Int.reduceToNat, Int.reduceLT, Int.reduceLE, reduceCtorEq, List.take_nil, List.drop_nil]
  refine ⟨_, impl_UpperQuotas_ok cs n hl, ?_⟩; simp (config := { maxSteps := 2000000 }) only [go_sem, Nat.reduceBEq, Nat.reduceAdd, Nat.reduceMul, Nat.reduceMod, Nat.reduceLT, Nat.reduceDiv, Nat.reduceSub, Nat.reduceLeDiff, Int.reduceToNat, Int.reduceLT, Int.reduceLE, reduceCtorEq, List.take_nil, List.drop_nil]
  refine ⟨_, impl_RemaindersOf_ok cs n hl, ?_⟩; simp (config := { maxSteps := 2000000 }) only [go_sem, Nat.reduceBEq, Nat.reduceAdd, Nat.reduceMul, Nat.reduceMod, Nat.reduceLT, Nat.reduceDiv, Nat.reduceSub, Nat.reduceLeDiff, Int.reduceToNat, Int.reduceLT, Int.reduceLE, reduceCtorEq, List.take_nil, List.drop_nil]
  refine ⟨_, cC _, ?_⟩; simp (config := { maxSteps := 2000000 }) only [go_sem, Nat.reduceBEq, Nat.reduceAdd, Nat.reduceMul, Nat.reduceMod, Nat.reduceLT, Nat.reduceDiv, Nat.reduceSub, Nat.reduceLeDiff, Int.reduceToNat, Int.reduceLT, Int.reduceLE, reduceCtorEq, List.take_nil, List.drop_nil]
  refine ⟨_, cSh _, ?_⟩; simp (config := { maxSteps := 2000000 }) only [go_sem, Nat.reduceBEq, Nat.reduceAdd, Nat.reduceMul, Nat.reduceMod, Nat.reduceLT, Nat.reduceDiv, Nat.reduceSub, Nat.reduceLeDiff, Int.reduceToNat, Int.reduceLT, Int.reduceLE, reduceCtorEq, List.take_nil, List.drop_nil]
  simp (config := { maxSteps := 2000000 }) only [go_sem, Nat.reduceBEq, Nat.reduceAdd, Nat.reduceMul, Nat.reduceMod, Nat.reduceLT, Nat.reduceDiv, Nat.reduceSub, Nat.reduceLeDiff, Int.reduceToNat, Int.reduceLT, Int.reduceLE, reduceCtorEq, List.take_nil, List.drop_nil, not_true_eq_false, decide_false]
  refine ⟨_, cSd _, ?_⟩; simp (config := { maxSteps := 2000000 }) only [go_sem, Nat.reduceBEq, Nat.reduceAdd, Nat.reduceMul, Nat.reduceMod, Nat.reduceLT, Nat.reduceDiv, Nat.reduceSub, Nat.reduceLeDiff, Int.reduceToNat, Int.reduceLT, Int.reduceLE, reduceCtorEq, List.take_nil, List.drop_nil]
  simp (config := { maxSteps := 2000000 }) only [go_sem, Nat.reduceBEq, Nat.reduceAdd, Nat.reduceMul, Nat.reduceMod, Nat.reduceLT, Nat.reduceDiv, Nat.reduceSub, Nat.reduceLeDiff, Int.reduceToNat, Int.reduceLT, Int.reduceLE, reduceCtorEq, List.take_nil, List.drop_nil, hlenh, ll, lu, lr, not_true_eq_false, decide_false]
  refine ⟨_, impl_KeepsQuota_ok cs (hamF cs n) SH (by rw [hsum]; exact hq), ?_⟩; simp (config := { maxSteps := 2000000 }) only [go_sem, Nat.reduceBEq, Nat.reduceAdd, Nat.reduceMul, Nat.reduceMod, Nat.reduceLT, Nat.reduceDiv, Nat.reduceSub, Nat.reduceLeDiff, Int.reduceToNat, Int.reduceLT, Int.reduceLE, reduceCtorEq, List.take_nil, List.drop_nil]
  have cSc : ∀ n1, CallOk Try.prog 27 [.s n1 (ii cs)] [(0, .i (sumL cs))] := fun n1 => laws_sumL_ok (n1 := n1) cs (by omega) (fun x hx => by have := cb x hx; omega)
  have sb := (sumN_bd (xs := cs) (B := 5772) cb (Nat.le_refl _)).2
  have sS : sumL cs ≤ 28860 := by unfold sumL; omega
  refine loopN cs.length (fun j => [(0, .t .arg (.xv u (.s none (byt l)))), (2, .b false), (3, .own 1 none (ii cs)), (4, .i n), (5, .own 1 none (ii (hamF cs n))), (6, .own 1 none (ii ds)), (7, .own 1 none (ii (quoF lowO cs n))), (8, .own 1 none (ii (quoF uppO cs n))), (9, .own 1 none (ii (quoF remO cs n))), (93, .i cs.length), (94, .i (j : Nat))]) (fun _ => True) ⟨trivial, by simp (config := { maxSteps := 2000000 }) only [go_sem, Nat.reduceBEq, Nat.reduceAdd, Nat.reduceMul, Nat.reduceMod, Nat.reduceLT, Nat.reduceDiv, Nat.reduceSub, Nat.reduceLeDiff, Int.reduceToNat, Int.reduceLT, Int.reduceLE, reduceCtorEq, List.take_nil, List.drop_nil, le_self]; simp⟩ fun j hj _ => ?_
  simp (config := { maxSteps := 2000000 }) only [go_sem, Nat.reduceBEq, Nat.reduceAdd, Nat.reduceMul, Nat.reduceMod, Nat.reduceLT, Nat.reduceDiv, Nat.reduceSub, Nat.reduceLeDiff, Int.reduceToNat, Int.reduceLT, Int.reduceLE, reduceCtorEq, List.take_nil, List.drop_nil, le_self]
  refine ⟨fun hlt => ?_, fun hge => ?_⟩
  · have hj' : j < cs.length := by omega
    obtain ⟨p, q, g, F, g1, e1, e2, WQ⟩ := impl_QuotaOf_ok (n1 := none) cs n h (fun x hx => by have := cb x hx; omega) (fun x hx => by have := cb x hx; have := mul_bd2 this.1 this.2 t40.1 (show n ≤ 30 by omega); omega) hj'
    have Q := quo_at h hj'
    obtain ⟨kf, k1⟩ := quota_frac F g1 e1 e2 Q
    have k2 := Q.up
    have k3 := Q.eq
    have r0 := Q.r0
    have rS := Q.rS
    have lo0 := Q.l0
    have m0 := (mul_bd2 (cb _ (getD_mem (d := 0) hj')).1 (cb _ (getD_mem (d := 0) hj')).2 t40.1 (show n ≤ 30 by omega))
    have cFl := impl_FloorOf_ok F
    rw [kf] at cFl
    have klh : (decide ((quoF lowO cs n).getD j 0 = (quoF uppO cs n).getD j 0) != decide (q = 1)) = false := by
      by_cases hr : (quoF remO cs n).getD j 0 = 0
      · rw [if_pos hr] at k2
        rw [decide_eq_true (show (quoF lowO cs n).getD j 0 = (quoF uppO cs n).getD j 0 by omega), decide_eq_true (k1.2 hr)]; rfl
      · rw [if_neg hr] at k2
        rw [decide_eq_false (show ¬ (quoF lowO cs n).getD j 0 = (quoF uppO cs n).getD j 0 by omega), decide_eq_false (fun h => hr (k1.1 h))]; rfl
    have k4 : (quoF uppO cs n).getD j 0 - (quoF lowO cs n).getD j 0 ≤ 1 := by rw [k2]; split <;> omega
    have k5 : 0 ≤ (quoF lowO cs n).getD j 0 * sumL cs := Int.mul_nonneg lo0 (by omega)
    refine ⟨_, WQ, ?_⟩; simp (config := { maxSteps := 2000000 }) only [go_sem, Nat.reduceBEq, Nat.reduceAdd, Nat.reduceMul, Nat.reduceMod, Nat.reduceLT, Nat.reduceDiv, Nat.reduceSub, Nat.reduceLeDiff, Int.reduceToNat, Int.reduceLT, Int.reduceLE, reduceCtorEq, List.take_nil, List.drop_nil]
    refine ⟨_, cFl, ?_⟩; simp (config := { maxSteps := 2000000 }) only [go_sem, Nat.reduceBEq, Nat.reduceAdd, Nat.reduceMul, Nat.reduceMod, Nat.reduceLT, Nat.reduceDiv, Nat.reduceSub, Nat.reduceLeDiff, Int.reduceToNat, Int.reduceLT, Int.reduceLE, reduceCtorEq, List.take_nil, List.drop_nil]
    simp (config := { maxSteps := 2000000 }) only [go_sem, Nat.reduceBEq, Nat.reduceAdd, Nat.reduceMul, Nat.reduceMod, Nat.reduceLT, Nat.reduceDiv, Nat.reduceSub, Nat.reduceLeDiff, Int.reduceToNat, Int.reduceLT, Int.reduceLE, reduceCtorEq, List.take_nil, List.drop_nil, not_true_eq_false, decide_false]
    refine ⟨by omega, by omega, by omega, by omega, by omega, by omega, by omega, by omega, by omega, fun _ => ⟨by omega, by omega, by omega, by omega, by omega, by omega, inR_of (by omega) (by omega), fun _ => ⟨by omega, by omega, by omega, ?_⟩, fun h => by omega⟩, fun h => by rw [klh] at h; cases h⟩
    refine ⟨_, cSc _, ?_⟩; simp (config := { maxSteps := 2000000 }) only [go_sem, Nat.reduceBEq, Nat.reduceAdd, Nat.reduceMul, Nat.reduceMod, Nat.reduceLT, Nat.reduceDiv, Nat.reduceSub, Nat.reduceLeDiff, Int.reduceToNat, Int.reduceLT, Int.reduceLE, reduceCtorEq, List.take_nil, List.drop_nil]
    exact ⟨inR_of (by omega) (by omega), by omega, by omega, by omega, inR_of (by omega) (by omega), by omega, hj', hj', inR_of (by omega) (by omega), fun h => h k3, fun _ => ⟨inR_of (by omega) (by omega), hj', Vc.V.le_refl _, by simp⟩⟩
  · have ej : j = cs.length := by omega
    refine ⟨fun _ => trivial, fun hn0 => ?_⟩
    have n0 : 0 < n := by omega
    have cb' : ∀ x ∈ cs, x ≤ 10000 := fun x hx => by have := cb x hx; omega
    have near : ∀ ts : List Int, ts.length = cs.length → sumL ts = n → distF cs (hamF cs n) ≤ distF cs ts := fun ts => ham_near h
    obtain ⟨px, qx, gx, FX, gx1, ex1, ex2, WX⟩ := impl_DistanceOf_ok (n1 := none) (n2 := none) cs (hamF cs n) SH cb' (by omega)
    obtain ⟨pz, qz, gz, FZ, gz1, ez1, ez2, WZ⟩ := impl_DistanceOf_ok (n1 := none) (n2 := none) cs ds SD cb' (by omega)
    rw [hsum] at ex2
    rw [dsum] at ez2
    have hM : 0 < 2 * n * sumL cs := Int.mul_pos (by omega) (by omega)
    refine ⟨_, WX, ?_⟩; simp (config := { maxSteps := 2000000 }) only [go_sem, Nat.reduceBEq, Nat.reduceAdd, Nat.reduceMul, Nat.reduceMod, Nat.reduceLT, Nat.reduceDiv, Nat.reduceSub, Nat.reduceLeDiff, Int.reduceToNat, Int.reduceLT, Int.reduceLE, reduceCtorEq, List.take_nil, List.drop_nil]
    refine loopN 5 (fun k => [(0, .t .arg (.xv u (.s none (byt l)))), (2, .b false), (3, .own 1 none (ii cs)), (4, .i n), (5, .own 1 none (ii (hamF cs n))), (6, .own 1 none (ii ds)), (13, .bx 2), (14, .b true), (15, .i ((k + 1 : Nat) : Int)), (1013, .i px), (2013, .i qx)]) (fun _ => True) ⟨trivial, by simp (config := { maxSteps := 2000000 }) only [go_sem, Nat.reduceBEq, Nat.reduceAdd, Nat.reduceMul, Nat.reduceMod, Nat.reduceLT, Nat.reduceDiv, Nat.reduceSub, Nat.reduceLeDiff, Int.reduceToNat, Int.reduceLT, Int.reduceLE, reduceCtorEq, List.take_nil, List.drop_nil, le_self]; simp⟩ fun k hk _ => ?_
    simp (config := { maxSteps := 2000000 }) only [go_sem, Nat.reduceBEq, Nat.reduceAdd, Nat.reduceMul, Nat.reduceMod, Nat.reduceLT, Nat.reduceDiv, Nat.reduceSub, Nat.reduceLeDiff, Int.reduceToNat, Int.reduceLT, Int.reduceLE, reduceCtorEq, List.take_nil, List.drop_nil, le_self]
    refine ⟨fun hlt => ?_, fun hge => ?_⟩
    · have hko : okB ((k + 1 : Nat) : Int) cs n = true := by
        simp only [okB, inI, Bool.and_eq_true, decide_eq_true_eq]
        exact ⟨⟨by omega, by omega⟩, h⟩
      have cBy := impl_SeatsBy_ok (n1 := none) ((k + 1 : Nat) : Int) cs n hl
      rw [hko] at cBy
      have eB : byF ((k + 1 : Nat) : Int) cs n = (ordS ((k + 1 : Nat) : Int) cs n.toNat).2 := if_pos hko
      have tl := (ordS_len (m := ((k + 1 : Nat) : Int)) (cs := cs) (t := n.toNat)).2
      have tb := ordS_bd (m := ((k + 1 : Nat) : Int)) (cs := cs) (t := n.toNat)
      have ts := ord_sum (m := ((k + 1 : Nat) : Int)) (cs := cs) (by omega) (t := n.toNat)
      rw [eB] at cBy
      generalize (ordS ((k + 1 : Nat) : Int) cs n.toNat).2 = T at tl tb ts cBy
      have ts : sumL T = n := by omega
      have ST : Sts cs T := ⟨by rw [ts]; exact h, tl, fun x hx => by have := tb x hx; omega⟩
      obtain ⟨py, qy, gy, FY, gy1, ey1, ey2, WY⟩ := impl_DistanceOf_ok (n1 := none) (n2 := none) cs T ST cb' (by omega)
      rw [ts] at ey2
      have hc := frac_le gx1 gy1 ex1 ey1 ex2 ey2 hM (near T tl ts)
      refine ⟨_, cBy, ?_⟩; simp (config := { maxSteps := 2000000 }) only [go_sem, Nat.reduceBEq, Nat.reduceAdd, Nat.reduceMul, Nat.reduceMod, Nat.reduceLT, Nat.reduceDiv, Nat.reduceSub, Nat.reduceLeDiff, Int.reduceToNat, Int.reduceLT, Int.reduceLE, reduceCtorEq, List.take_nil, List.drop_nil]
      refine ⟨_, WY, ?_⟩; simp (config := { maxSteps := 2000000 }) only [go_sem, Nat.reduceBEq, Nat.reduceAdd, Nat.reduceMul, Nat.reduceMod, Nat.reduceLT, Nat.reduceDiv, Nat.reduceSub, Nat.reduceLeDiff, Int.reduceToNat, Int.reduceLT, Int.reduceLE, reduceCtorEq, List.take_nil, List.drop_nil]
      refine ⟨_, impl_CompareFractions_ok FX FY, ?_⟩; simp (config := { maxSteps := 2000000 }) only [go_sem, Nat.reduceBEq, Nat.reduceAdd, Nat.reduceMul, Nat.reduceMod, Nat.reduceLT, Nat.reduceDiv, Nat.reduceSub, Nat.reduceLeDiff, Int.reduceToNat, Int.reduceLT, Int.reduceLE, reduceCtorEq, List.take_nil, List.drop_nil]
      exact ⟨fun h => by omega, fun _ => ⟨inR_of (by omega) (by omega), by omega, Vc.V.le_refl _, by omega⟩⟩
    · refine ⟨_, WZ, ?_⟩; simp (config := { maxSteps := 2000000 }) only [go_sem, Nat.reduceBEq, Nat.reduceAdd, Nat.reduceMul, Nat.reduceMod, Nat.reduceLT, Nat.reduceDiv, Nat.reduceSub, Nat.reduceLeDiff, Int.reduceToNat, Int.reduceLT, Int.reduceLE, reduceCtorEq, List.take_nil, List.drop_nil]
      have hc := frac_le gx1 gz1 ex1 ez1 ex2 ez2 hM (near ds dl dsum)
      refine ⟨_, impl_CompareFractions_ok FX FZ, ?_⟩; simp (config := { maxSteps := 2000000 }) only [go_sem, Nat.reduceBEq, Nat.reduceAdd, Nat.reduceMul, Nat.reduceMod, Nat.reduceLT, Nat.reduceDiv, Nat.reduceSub, Nat.reduceLeDiff, Int.reduceToNat, Int.reduceLT, Int.reduceLE, reduceCtorEq, List.take_nil, List.drop_nil]
      have p0 := FX.p0
      exact ⟨fun _ => p0, fun h => h hc⟩
theorem FnQuotas_lifted (os : Os) (started : os.Started) (H : Type) (enc : TypeId × Value → H) :
    ReturnsInHanded {} Try.checked os 4 .any (Rows.fnQuotasSpec.pre6 enc Try.prog Try.f4 Rows.fnQuotasRow.domain false) (Rows.fnQuotasSpec.post enc Try.prog Try.f4 false true false false) := by
  refine returnsInHanded_of_change (C := Try.checked) ownk started (by as_aux_lemma => kernel_rfl) Try.func4
    (ChangeSpec.witness6 (enc := enc) (C := Try.checked) false ⟨#[], #[.slice none 0 0], []⟩ 8 (by kernel_rfl) (by kernel_rfl) (by kernel_rfl) (by kernel_rfl)) ?_
  intro W base args ds gs before hval0 hW _ _
  have hval : ∀ (j : Nat) t v, Try.f4.params[j]? = some t → args[j]? = some v → Value.okWide Try.prog W .any base t v := hval0
  have hW' := hW
  obtain ⟨p, q, hA0, _⟩ := hW
  have hA : DataW.TrodAll enc Try.prog W 0 (fun _ => true) true Try.f4.params.toList args.toList ds p := hA0
  rw [Try.params4] at hA hval
  clear hA0 hval0
  obtain ⟨v0, d0, rfl, rfl, h0⟩ := trodAll_one hA
  obtain ⟨x0, a0, b0, f0⟩ := fz_bytes Try.underlying22 Try.underlying5 (by kernel_rfl : Try.prog.cellsOf 5 = 1) (hval 0 22 v0 rfl rfl) h0
  exact law_post (P := Try.prog) pfacts.laid (fun t ht => by rw [Try.params4] at ht; revert t; simp only [List.mem_cons, List.not_mem_nil, or_false, forall_eq_or_imp, forall_eq]; exact ⟨by kernel_rfl, of_decide_eq_true (by kernel_rfl)⟩) rfl (by kernel_rfl) rfl (fun ds hds => by
    have hds : ds.length = 1 := hds
    match ds, hds with
    | [d0], _ => rfl) hW' (ts := [.xv v0 (.s none (byt x0))]) (by simp only [FzL]; exact ⟨_, _, rfl, f0, rfl⟩) (FnQuotas_ok v0 x0 a0 b0)
theorem FnQuotas_holds : Rows.FnQuotasSaid :=
  OpenClaim.holds_of_wide (p := Try.pinned) (s := Rows.fnQuotasSpec) (c := Rows.fnQuotasRow) 4 Try.f4 rfl rfl rfl rfl rfl rfl rfl ⟨rfl, rfl, rfl, rfl, rfl⟩ rfl rfl rfl rfl rfl (by as_aux_lemma => kernel_rfl) Try.func4 (joined_of pfacts rfl rfl rfl (by as_aux_lemma => kernel_rfl) (by as_aux_lemma => kernel_rfl) (by as_aux_lemma => kernel_rfl) (by as_aux_lemma => kernel_rfl) (by as_aux_lemma => kernel_rfl) (by as_aux_lemma => kernel_rfl) (by as_aux_lemma => kernel_rfl) (by as_aux_lemma => kernel_rfl) (by as_aux_lemma => kernel_rfl) (by as_aux_lemma => kernel_rfl) (by as_aux_lemma => kernel_rfl) (by as_aux_lemma => kernel_rfl) (by as_aux_lemma => kernel_rfl) (by as_aux_lemma => kernel_rfl) (by as_aux_lemma => kernel_rfl) (by as_aux_lemma => kernel_rfl) (by as_aux_lemma => kernel_rfl) (by as_aux_lemma => kernel_rfl) (by as_aux_lemma => kernel_rfl) (by as_aux_lemma => kernel_rfl) (by as_aux_lemma => kernel_rfl) (by as_aux_lemma => kernel_rfl) (by as_aux_lemma => kernel_rfl))
    (of_decide_eq_true (by kernel_rfl)) (by unfold Func.isWrapper; rw [if_neg (of_decide_eq_false (by kernel_rfl))]; exact ⟨rfl, rfl⟩)
    (fun os started H enc _ => FnQuotas_lifted os started H enc)

end Go.Proofs.Ytfdoddeccnjcmaa
