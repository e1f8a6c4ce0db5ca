/- At every input the law below returns true and leaves its argument alone: rotations lead from the men's best stable matching to the women's, on every way as many. No condition. -/
import Derived.Test.YtgdpplhbblapgaaRows
import Derived.Test.YtgdpplhbblapgaaRfacts
import Derived.Test.YtgdpplhbblapgaaL17
import Derived.Test.YtgdpplhbblapgaaLsame
import Derived.Test.YtgdpplhbblapgaaFacts
import Derived.Test.YtgdpplhbblapgaaMarks
import Derived.Test.YtgdpplhbblapgaaTurnk
namespace Go.Proofs.Ytgdpplhbblapgaa
open Go Go.Vc
set_option maxRecDepth 100000
set_option linter.unusedSimpArgs false
set_option linter.unusedVariables false
open Go.ChangeShapes Go.WideShapes Go.RowKit
def K_laws_FnRotations : List Nat := [0, 2, 3, 4, 5, 7, 9, 10, 12, 13, 14, 16, 17, 80, 81, 82, 113, 114, 115, 162, 163, 164, 1003, 2003]
def C_laws_FnRotations : C :=
 let ks := K_laws_FnRotations
 (.seq
  (.rg 0 [(none, .v 2 .mv [.k (.b false)])])
  (.cl ks (.seq
  (.seq
  (.rg 0 [(none, .v 18 .mv [.s 0]), (none, .v 19 .len [.s 18]), (none, .v 20 (.bin .gtr) [.s 19, .k (.i 1048576)])])
  (.cond (.s 20)
  (.seq
  (.rg 0 [(none, .v 2 .mv [.k (.b true)])])
  .ret)
  .skip))
  (.cl ks (.seq
  (.rg 0 [(none, .v 21 .mv [.s 0]), (none, .co 22 43 [.s 21, .k (.i 0), .k (.i 4)]), (none, .new 3 [.s (some true) [], .s (some true) []]), (none, .sts (.s 3) (.s 22) 2)])
  (.cl ks (.seq
  (.rg 0 [(none, .v 23 (.lds 2) [.s 3]), (none, .co 24 63 [.s 23]), (none, .tk 4 24)])
  (.cl ks (.seq
  (.rg 0 [(none, .v 26 (.lds 2) [.s 3]), (none, .co 27 44 [.s 26]), (none, .tk 25 27), (none, .tk 28 100025), (none, .tk 29 101025), (none, .tk 5 28), (none, .tk 6 29)])
  (.cl ks (.seq
  (.rg 0 [(none, .v 31 (.lds 2) [.s 3]), (none, .co 32 45 [.s 31]), (none, .tk 30 32), (none, .tk 33 100030), (none, .tk 34 101030), (none, .tk 7 33), (none, .tk 8 34)])
  (.cl ks (.seq
  (.seq
  (.rg 0 [(none, .v 35 .mv [.s 4]), (none, .v 36 .len [.s 35]), (none, .v 37 (.bin .eql) [.s 36, .k (.i 0)]), (none, .v 38 .mv [.s 37]), (some (38, false), .v 39 .mv [.s 4]), (some (38, false), .v 40 .idx [.s 39, .k (.i 0)]), (some (38, false), .v 41 .ld [.s 40]), (some (38, false), .v 42 .mv [.s 5]), (some (38, false), .co 43 38 [.s 41, .s 42]), (some (38, false), .v 44 .not [.s 43]), (none, .v 45 .pick [.s 38, .k (.b true), .s 44]), (none, .v 46 .mv [.s 45]), (some (46, false), .v 47 .mv [.s 4]), (some (46, false), .v 48 .mv [.s 4]), (some (46, false), .v 49 .len [.s 48]), (some (46, false), .v 50 (.bin .sub) [.s 49, .k (.i 1)]), (some (46, false), .v 51 .idx [.s 47, .s 50]), (some (46, false), .v 52 .ld [.s 51]), (some (46, false), .v 53 .mv [.s 7]), (some (46, false), .co 54 38 [.s 52, .s 53]), (some (46, false), .v 55 .not [.s 54]), (none, .v 56 .pick [.s 46, .k (.b true), .s 55]), (none, .v 57 .mv [.s 56]), (some (57, false), .v 58 (.lds 2) [.s 3]), (some (57, false), .co 59 64 [.s 58]), (some (57, false), .v 60 .mv [.s 4]), (some (57, false), .v 61 .len [.s 60]), (some (57, false), .v 62 (.bin .sub) [.s 61, .k (.i 1)]), (some (57, false), .v 63 (.bin .neq) [.s 59, .s 62]), (none, .v 64 .pick [.s 57, .k (.b true), .s 63]), (none, .v 65 .mv [.s 64]), (some (65, false), .v 66 (.lds 2) [.s 3]), (some (65, false), .v 67 .mv [.s 7]), (some (65, false), .co 68 27 [.s 66, .s 67]), (some (65, false), .v 69 .mv [.s 4]), (some (65, false), .v 70 .len [.s 69]), (some (65, false), .v 71 (.bin .sub) [.s 70, .k (.i 1)]), (some (65, false), .v 72 (.bin .neq) [.s 68, .s 71]), (none, .v 73 .pick [.s 65, .k (.b true), .s 72]), (none, .v 74 .mv [.s 73]), (some (74, false), .v 75 (.lds 2) [.s 3]), (some (74, false), .v 76 .mv [.s 5]), (some (74, false), .co 77 27 [.s 75, .s 76]), (some (74, false), .v 78 (.bin .neq) [.s 77, .k (.i 0)]), (none, .v 79 .pick [.s 74, .k (.b true), .s 78])])
  (.cond (.s 79)
  (.seq
  (.rg 0 [(none, .v 2 .mv [.k (.b false)])])
  .ret)
  .skip))
  (.cl ks (.seq
  (.seq
  (.rg 0 [(none, .v 80 .mv [.s 4]), (none, .v 81 .len [.s 80]), (none, .v 82 .mv [.k (.i 0)])])
  (.cl ks (.block 0
  (.loop
  (.seq
  (.rg 0 [(none, .v 83 (.bin .lss) [.s 82, .s 81])])
  (.seq
  (.cond (.s 83)
  .skip
  (.exit 0))
  (.cl ks (.seq
  (.block 1
  (.seq
  (.rg 0 [(none, .v 84 .mv [.s 82]), (none, .v 85 .idx [.s 80, .s 82]), (none, .v 86 .ld [.s 85]), (none, .tk 9 84), (none, .tk 10 86)])
  (.cl ks (.seq
  (.seq
  (.rg 0 [(none, .v 87 (.lds 2) [.s 3]), (none, .v 88 .mv [.s 10]), (none, .co 89 47 [.s 87, .s 88]), (none, .v 90 .not [.s 89]), (none, .v 91 .mv [.s 90]), (some (91, false), .v 92 (.lds 2) [.s 3]), (some (91, false), .v 93 .mv [.s 10]), (some (91, false), .co 94 27 [.s 92, .s 93]), (some (91, false), .v 95 .mv [.s 9]), (some (91, false), .v 96 (.bin .neq) [.s 94, .s 95]), (none, .v 97 .pick [.s 91, .k (.b true), .s 96]), (none, .v 98 .mv [.s 97]), (some (98, false), .v 99 (.lds 2) [.s 3]), (some (98, false), .v 100 .mv [.s 10]), (some (98, false), .co 101 65 [.s 99, .s 100]), (some (98, false), .v 102 .len [.s 101]), (some (98, false), .v 103 (.bin .eql) [.s 102, .k (.i 0)]), (some (98, false), .v 104 .mv [.s 9]), (some (98, false), .v 105 .mv [.s 4]), (some (98, false), .v 106 .len [.s 105]), (some (98, false), .v 107 (.bin .sub) [.s 106, .k (.i 1)]), (some (98, false), .v 108 (.bin .eql) [.s 104, .s 107]), (some (98, false), .v 109 .bne [.s 103, .s 108]), (none, .v 110 .pick [.s 98, .k (.b true), .s 109])])
  (.cond (.s 110)
  (.seq
  (.rg 0 [(none, .v 2 .mv [.k (.b false)])])
  .ret)
  .skip))
  (.cl ks (.seq
  (.rg 0 [(none, .v 111 (.lds 2) [.s 3]), (none, .v 112 .mv [.s 10]), (none, .co 113 65 [.s 111, .s 112]), (none, .v 114 .len [.s 113]), (none, .v 115 .mv [.k (.i 0)])])
  (.cl ks (.block 2
  (.loop
  (.seq
  (.rg 0 [(none, .v 116 (.bin .lss) [.s 115, .s 114])])
  (.seq
  (.cond (.s 116)
  .skip
  (.exit 2))
  (.cl ks (.seq
  (.block 3
  (.seq
  (.rg 0 [(none, .v 117 .idx [.s 113, .s 115]), (none, .v 118 .ld [.s 117]), (none, .tk 12 118)])
  (.cl ks (.seq
  (.rg 0 [(none, .v 120 (.lds 2) [.s 3]), (none, .v 121 .mv [.s 10]), (none, .v 122 .mv [.s 12]), (none, .co 123 66 [.s 120, .s 121, .s 122]), (none, .tk 119 123), (none, .tk 124 100119), (none, .tk 125 101119), (none, .tk 13 124), (none, .tk 14 125)])
  (.cl ks (.seq
  (.seq
  (.rg 0 [(none, .v 126 .mv [.s 14]), (none, .v 127 .not [.s 126]), (none, .v 128 .mv [.s 127]), (some (128, false), .v 129 (.fa 0) [.s 3]), (some (128, false), .v 130 .ld [.s 129]), (some (128, false), .v 131 .len [.s 130]), (some (128, false), .v 132 .mv [.s 13]), (some (128, false), .co 133 67 [.s 131, .s 132]), (some (128, false), .v 134 .not [.s 133]), (none, .v 135 .pick [.s 128, .k (.b true), .s 134]), (none, .v 136 .mv [.s 135]), (some (136, false), .v 137 .mv [.s 12]), (some (136, false), .v 138 .len [.s 137]), (some (136, false), .v 139 (.bin .lss) [.s 138, .k (.i 2)]), (none, .v 140 .pick [.s 136, .k (.b true), .s 139]), (none, .v 141 .mv [.s 140]), (some (141, false), .v 142 .mv [.s 12]), (some (141, false), .v 143 .len [.s 142]), (some (141, false), .v 144 (.fa 0) [.s 3]), (some (141, false), .v 145 .ld [.s 144]), (some (141, false), .v 146 .len [.s 145]), (some (141, false), .v 147 (.bin .gtr) [.s 143, .s 146]), (none, .v 148 .pick [.s 141, .k (.b true), .s 147]), (none, .v 149 .mv [.s 148]), (some (149, false), .v 150 (.lds 2) [.s 3]), (some (149, false), .v 151 .mv [.s 13]), (some (149, false), .co 152 47 [.s 150, .s 151]), (some (149, false), .v 153 .not [.s 152]), (none, .v 154 .pick [.s 149, .k (.b true), .s 153]), (none, .v 155 .mv [.s 154]), (some (155, false), .v 156 (.lds 2) [.s 3]), (some (155, false), .v 157 .mv [.s 10]), (some (155, false), .v 158 .mv [.s 13]), (some (155, false), .co 159 49 [.s 156, .s 157, .s 158]), (some (155, false), .v 160 .not [.s 159]), (none, .v 161 .pick [.s 155, .k (.b true), .s 160])])
  (.cond (.s 161)
  (.seq
  (.rg 0 [(none, .v 2 .mv [.k (.b false)])])
  .ret)
  .skip))
  (.cl ks (.seq
  (.rg 0 [(none, .v 162 .mv [.s 12]), (none, .v 163 .len [.s 162]), (none, .v 164 .mv [.k (.i 0)])])
  (.cl ks (.block 4
  (.loop
  (.seq
  (.rg 0 [(none, .v 165 (.bin .lss) [.s 164, .s 163])])
  (.seq
  (.cond (.s 165)
  .skip
  (.exit 4))
  (.cl ks (.seq
  (.block 5
  (.seq
  (.rg 0 [(none, .v 166 .idx [.s 162, .s 164]), (none, .v 167 .ld [.s 166]), (none, .tk 16 167)])
  (.cl ks (.seq
  (.rg 18 [(none, .v 168 .mv [.s 16]), (none, .v 169 (.bin .lss) [.s 168, .k (.i 0)]), (none, .v 170 .mv [.s 169]), (some (170, false), .v 171 .mv [.s 16]), (some (170, false), .v 172 (.fa 0) [.s 3]), (some (170, false), .v 173 .ld [.s 172]), (some (170, false), .v 174 .len [.s 173]), (some (170, false), .v 175 (.bin .geq) [.s 171, .s 174]), (none, .v 176 .pick [.s 170, .k (.b true), .s 175]), (none, .v 177 .mv [.s 176]), (some (177, false), .v 178 (.lds 2) [.s 3]), (some (177, false), .v 179 .mv [.s 10]), (some (177, false), .v 180 .mv [.s 16]), (some (177, false), .v 181 (.call 68) [.s 178, .s 179, .s 180]), (some (177, false), .v 182 .mv [.s 13]), (some (177, false), .v 183 .mv [.s 16]), (some (177, false), .v 184 .idx [.s 182, .s 183]), (some (177, false), .v 185 .ld [.s 184]), (some (177, false), .v 186 (.bin .neq) [.s 181, .s 185]), (none, .v 187 .pick [.s 177, .k (.b true), .s 186])])
  (.cond (.s 187)
  (.seq
  (.rg 0 [(none, .v 2 .mv [.k (.b false)])])
  .ret)
  .skip)))))
  (.cl ks (.rg 0 [(none, .v 188 (.bin .add) [.s 164, .k (.i 1)]), (none, .v 164 .mv [.s 188])])))))))))))))))))
  (.cl ks (.rg 0 [(none, .v 189 (.bin .add) [.s 115, .k (.i 1)]), (none, .v 115 .mv [.s 189])])))))))))))))))
  (.cl ks (.rg 0 [(none, .v 190 (.bin .add) [.s 82, .k (.i 1)]), (none, .v 82 .mv [.s 190])]))))))))))
  (.cl ks (.seq
  (.rg 0 [(none, .v 191 (.lds 2) [.s 3]), (none, .co 192 69 [.s 191]), (none, .tk 17 192)])
  (.cl ks (.seq
  (.rg 0 [(none, .v 193 .mv [.s 17]), (none, .v 194 (.bin .gtr) [.s 193, .k (.i 0)]), (none, .v 195 .mv [.s 4]), (none, .v 196 .len [.s 195]), (none, .v 197 (.bin .gtr) [.s 196, .k (.i 1)]), (none, .v 198 .beq [.s 194, .s 197]), (none, .v 199 .mv [.s 198]), (some (199, true), .v 200 .mv [.s 17]), (some (199, true), .v 201 (.bin .neq) [.s 200, .k (.i 1)]), (none, .v 202 .pick [.s 199, .s 201, .k (.b false)]), (none, .v 203 .mv [.s 202]), (some (203, true), .v 204 .mv [.s 4]), (some (203, true), .v 205 .len [.s 204]), (some (203, true), .v 206 (.lds 2) [.s 3]), (some (203, true), .co 207 46 [.s 206]), (some (203, true), .v 208 .len [.s 207]), (some (203, true), .v 209 (.bin .leq) [.s 205, .s 208]), (none, .v 210 .pick [.s 203, .s 209, .k (.b false)]), (none, .tk 2 210)])
  .ret)))))))))))))))))))
theorem chk_laws_FnRotations : ∃ b, Try.f10.body = some b ∧ chk Try.prog Try.f10.ntmps true C_laws_FnRotations b = true := ⟨_, rfl, by kernel_rfl⟩
set_option maxHeartbeats 4000000 in
theorem FnRotations_ok (u : Value) (l : List Int) (a : l.length ≤ 9223372036854775807) (hb : ∀ x ∈ l, 0 ≤ x ∧ x < 256) : CallOk Try.prog 10 [.xv u (.s none (byt l))] [(0, .b true)] := by
 obtain ⟨code0, hcd1, hcd2⟩ := chk_laws_FnRotations; refine callOk_of Try.func10 hcd1 mo Try.call10 (rs := [2]) (by kernel_rfl) hcd2 (by rw [Try.ntmps10]; simp) (by simp) (by decide) ?_; unfold C_laws_FnRotations K_laws_FnRotations; simp (maxSteps := 2000000) only [go_sem, Nat.reduceBEq, Nat.reduceAdd, Nat.reduceMul, Nat.reduceMod, Nat.reduceLT, Nat.reduceDiv, Nat.reduceSub, Nat.reduceLeDiff, Int.reduceToNat, Int.reduceLT, Int.reduceLE, reduceCtorEq]
 simp only [byt_len]
 refine ⟨fun _ => trivial, fun hlen => ?_⟩
 have C : CodeL l := ⟨by omega, hb⟩
 obtain ⟨x, y, hm, x4, W⟩ := spec_MakeMarket_ok u none C (n := 0) (by omega) (by omega) (m := 4) (by omega) (by omega)
 have M := mk_of hm
 have n1 := M.m.n1
 have n5 := M.m.n5
 have hyl := M.w.len
 have hx : x.length ≤ 1048576 := by omega
 have hy : y.length ≤ 1048576 := by omega
 have kx : ∀ r ∈ x, r.length ≤ 1048576 := fun r hr => by
  obtain ⟨i, hi, rfl⟩ := mem_getD [] hr
  have := rank_len (M.m.rk i hi); omega
 have ky : ∀ r ∈ y, r.length ≤ 1048576 := fun r hr => by
  obtain ⟨i, hi, rfl⟩ := mem_getD [] hr
  have := rank_len (M.w.rk i (by omega)); omega
 obtain ⟨m, h31, hc, h0, hE, hJ, hA, hL, hL2⟩ := chain_facts hm
 have hlon := impl_LongestRotation_ok (n1 := none) (n2 := none) x y hx kx hy ky
 refine ⟨_, W, ?_⟩; simp (maxSteps := 2000000) only [go_sem, Nat.reduceBEq, Nat.reduceAdd, Nat.reduceMul, Nat.reduceMod, Nat.reduceLT, Nat.reduceDiv, Nat.reduceSub, Nat.reduceLeDiff, Int.reduceToNat, Int.reduceLT, Int.reduceLE, reduceCtorEq]
 refine ⟨_, impl_RotationChain_ok x y hx kx hy ky, ?_⟩; simp (maxSteps := 2000000) only [go_sem, Nat.reduceBEq, Nat.reduceAdd, Nat.reduceMul, Nat.reduceMod, Nat.reduceLT, Nat.reduceDiv, Nat.reduceSub, Nat.reduceLeDiff, Int.reduceToNat, Int.reduceLT, Int.reduceLE, reduceCtorEq]
 refine ⟨_, impl_ProposeMen_ok x y hm hx kx hy ky, ?_⟩; simp (maxSteps := 2000000) only [go_sem, Nat.reduceBEq, Nat.reduceAdd, Nat.reduceMul, Nat.reduceMod, Nat.reduceLT, Nat.reduceDiv, Nat.reduceSub, Nat.reduceLeDiff, Int.reduceToNat, Int.reduceLT, Int.reduceLE, reduceCtorEq]
 refine ⟨_, impl_ProposeWomen_ok x y hm hx kx hy ky, ?_⟩; simp (maxSteps := 2000000) only [go_sem, Nat.reduceBEq, Nat.reduceAdd, Nat.reduceMul, Nat.reduceMod, Nat.reduceLT, Nat.reduceDiv, Nat.reduceSub, Nat.reduceLeDiff, Int.reduceToNat, Int.reduceLT, Int.reduceLE, reduceCtorEq]
 rw [hc, ← h0, ← hE]
 have el : (chK x y (m + 1)).length = m + 1 := chK_len
 have eg : ∀ j, j < m + 1 → (chK x y (m + 1)).getD j [] = chI x y j := fun j hj => chK_get hj
 have cl : ∀ j, j ≤ m → (chI x y j).length ≤ 1048576 := fun j hj => by
  obtain ⟨_, R, _⟩ := stab_of (hJ j hj).1
  have := rank_len R; omega
 rw [hc] at hL hL2 hlon
 generalize chK x y (m + 1) = L at el eg hL hL2 hlon ⊢
 have z0 : (((m + 1 : Nat) : Int) = 0) = False := by simp; omega
 have z1 : ((m + 1 : Nat) : Int) - 1 = m := by omega
 simp (maxSteps := 2000000) only [go_sem, Nat.reduceBEq, Nat.reduceAdd, Nat.reduceMul, Nat.reduceMod, Nat.reduceLT, Nat.reduceDiv, Nat.reduceSub, Nat.reduceLeDiff, Int.reduceToNat, Int.reduceLT, Int.reduceLE, reduceCtorEq, el, z0, z1, decide_false]
 refine fun _ => ⟨by omega, by omega, ?_⟩
 rw [eg 0 (by omega)]
 refine ⟨_, laws_same_yes (chI x y 0) (chI x y 0) (cl 0 (by omega)) rfl, ?_⟩; simp (maxSteps := 2000000) only [go_sem, Nat.reduceBEq, Nat.reduceAdd, Nat.reduceMul, Nat.reduceMod, Nat.reduceLT, Nat.reduceDiv, Nat.reduceSub, Nat.reduceLeDiff, Int.reduceToNat, Int.reduceLT, Int.reduceLE, reduceCtorEq]
 simp (maxSteps := 2000000) only [go_sem, Nat.reduceBEq, Nat.reduceAdd, Nat.reduceMul, Nat.reduceMod, Nat.reduceLT, Nat.reduceDiv, Nat.reduceSub, Nat.reduceLeDiff, Int.reduceToNat, Int.reduceLT, Int.reduceLE, reduceCtorEq, z1, el]
 refine ⟨inR_of (by omega) (by omega), by omega, by omega, by omega, ?_⟩
 rw [eg m (by omega)]
 refine ⟨_, laws_same_yes (chI x y m) (chI x y m) (cl m (by omega)) rfl, ?_⟩; simp (maxSteps := 2000000) only [go_sem, Nat.reduceBEq, Nat.reduceAdd, Nat.reduceMul, Nat.reduceMod, Nat.reduceLT, Nat.reduceDiv, Nat.reduceSub, Nat.reduceLeDiff, Int.reduceToNat, Int.reduceLT, Int.reduceLE, reduceCtorEq]
 have cCR : CallOk Try.prog 64 [.a [.s none (rr x), .s none (rr y)]] [(0, .i m)] := by
  have := impl_CountRotations_ok (n1 := none) (n2 := none) x y hx kx hy ky
  rw [hc, chK_len] at this
  rwa [z1] at this
 have cSt : ∀ j, j ≤ m → ∀ n3, CallOk Try.prog 27 [.a [.s none (rr x), .s none (rr y)], .s n3 (ii (chI x y j))] [(0, .i j)] := fun j hj n3 => by
  have := impl_StepsTo_ok (n1 := none) (n2 := none) (n3 := n3) x y (chI x y j) hx kx hy ky (cl j hj)
  rwa [(hJ j hj).2.1] at this
 have cIs : ∀ z, stabB x y z = true → ∀ n3, CallOk Try.prog 47 [.a [.s none (rr x), .s none (rr y)], .s n3 (ii z)] [(0, .b true)] := fun z hz n3 => by
  obtain ⟨_, R, _⟩ := stab_of hz
  have := rank_len R
  have := impl_IsStable_ok (n1 := none) (n2 := none) (n3 := n3) x y z hx kx hy ky (by omega)
  rwa [hz] at this
 have cRo : ∀ j, j ≤ m → ∀ n3, CallOk Try.prog 65 [.a [.s none (rr x), .s none (rr y)], .s n3 (ii (chI x y j))] [(0, .own 1 none (rr (rotsF x y (chI x y j))))] := fun j hj n3 => impl_RotationsIn_ok x y _ hx kx hy ky (cl j hj)
 refine ⟨_, cCR, ?_⟩; simp (maxSteps := 2000000) only [go_sem, Nat.reduceBEq, Nat.reduceAdd, Nat.reduceMul, Nat.reduceMod, Nat.reduceLT, Nat.reduceDiv, Nat.reduceSub, Nat.reduceLeDiff, Int.reduceToNat, Int.reduceLT, Int.reduceLE, reduceCtorEq]
 try simp (maxSteps := 2000000) only [go_sem, Nat.reduceBEq, Nat.reduceAdd, Nat.reduceMul, Nat.reduceMod, Nat.reduceLT, Nat.reduceDiv, Nat.reduceSub, Nat.reduceLeDiff, Int.reduceToNat, Int.reduceLT, Int.reduceLE, reduceCtorEq, el, z1, not_true_eq_false, decide_false]
 refine ⟨inR_of (by omega) (by omega), ?_⟩
 try simp (maxSteps := 2000000) only [go_sem, Nat.reduceBEq, Nat.reduceAdd, Nat.reduceMul, Nat.reduceMod, Nat.reduceLT, Nat.reduceDiv, Nat.reduceSub, Nat.reduceLeDiff, Int.reduceToNat, Int.reduceLT, Int.reduceLE, reduceCtorEq, el, z1, not_true_eq_false, decide_false]
 refine ⟨_, cSt m (Nat.le_refl _) _, ?_⟩; simp (maxSteps := 2000000) only [go_sem, Nat.reduceBEq, Nat.reduceAdd, Nat.reduceMul, Nat.reduceMod, Nat.reduceLT, Nat.reduceDiv, Nat.reduceSub, Nat.reduceLeDiff, Int.reduceToNat, Int.reduceLT, Int.reduceLE, reduceCtorEq]
 try simp (maxSteps := 2000000) only [go_sem, Nat.reduceBEq, Nat.reduceAdd, Nat.reduceMul, Nat.reduceMod, Nat.reduceLT, Nat.reduceDiv, Nat.reduceSub, Nat.reduceLeDiff, Int.reduceToNat, Int.reduceLT, Int.reduceLE, reduceCtorEq, el, z1, not_true_eq_false, decide_false]
 refine ⟨inR_of (by omega) (by omega), ?_⟩
 try simp (maxSteps := 2000000) only [go_sem, Nat.reduceBEq, Nat.reduceAdd, Nat.reduceMul, Nat.reduceMod, Nat.reduceLT, Nat.reduceDiv, Nat.reduceSub, Nat.reduceLeDiff, Int.reduceToNat, Int.reduceLT, Int.reduceLE, reduceCtorEq, el, z1, not_true_eq_false, decide_false]
 refine ⟨_, cSt 0 (by omega) _, ?_⟩; simp (maxSteps := 2000000) only [go_sem, Nat.reduceBEq, Nat.reduceAdd, Nat.reduceMul, Nat.reduceMod, Nat.reduceLT, Nat.reduceDiv, Nat.reduceSub, Nat.reduceLeDiff, Int.reduceToNat, Int.reduceLT, Int.reduceLE, reduceCtorEq]
 refine ⟨fun h => absurd rfl h, fun _ => ?_⟩
 refine loopN (m + 1) (fun j => [(0, .t .arg (.xv u (.s none (byt l)))), (2, .b false), (3, .bx 2), (4, .own 1 none (rr L)), (80, .al 4), (81, .i (m + 1 : Nat)), (82, .i (j : Nat)), (1003, .own 1 none (rr x)), (2003, .own 1 none (rr y))]) (fun _ => True) ⟨trivial, by simp (maxSteps := 2000000) only [go_sem, Nat.reduceBEq, Nat.reduceAdd, Nat.reduceMul, Nat.reduceMod, Nat.reduceLT, Nat.reduceDiv, Nat.reduceSub, Nat.reduceLeDiff, Int.reduceToNat, Int.reduceLT, Int.reduceLE, reduceCtorEq, le_self]; simp [el]⟩ fun j hj _ => ?_
 simp (maxSteps := 2000000) only [go_sem, Nat.reduceBEq, Nat.reduceAdd, Nat.reduceMul, Nat.reduceMod, Nat.reduceLT, Nat.reduceDiv, Nat.reduceSub, Nat.reduceLeDiff, Int.reduceToNat, Int.reduceLT, Int.reduceLE, reduceCtorEq, le_self, el]
 refine ⟨fun hlt => ?_, fun hge => ?_⟩
 ·have hj' : j ≤ m := by omega
  obtain ⟨hs, hst, hem⟩ := hJ j hj'
  refine ⟨by omega, by omega, by omega, ?_⟩
  rw [eg j (by omega)]
  refine ⟨_, cIs _ hs _, ?_⟩; simp (maxSteps := 2000000) only [go_sem, Nat.reduceBEq, Nat.reduceAdd, Nat.reduceMul, Nat.reduceMod, Nat.reduceLT, Nat.reduceDiv, Nat.reduceSub, Nat.reduceLeDiff, Int.reduceToNat, Int.reduceLT, Int.reduceLE, reduceCtorEq]
  refine ⟨_, cSt j hj' _, ?_⟩; simp (maxSteps := 2000000) only [go_sem, Nat.reduceBEq, Nat.reduceAdd, Nat.reduceMul, Nat.reduceMod, Nat.reduceLT, Nat.reduceDiv, Nat.reduceSub, Nat.reduceLeDiff, Int.reduceToNat, Int.reduceLT, Int.reduceLE, reduceCtorEq]
  try simp (maxSteps := 2000000) only [go_sem, Nat.reduceBEq, Nat.reduceAdd, Nat.reduceMul, Nat.reduceMod, Nat.reduceLT, Nat.reduceDiv, Nat.reduceSub, Nat.reduceLeDiff, Int.reduceToNat, Int.reduceLT, Int.reduceLE, reduceCtorEq, not_true_eq_false, decide_false]
  refine ⟨_, cRo j hj' _, ?_⟩; simp (maxSteps := 2000000) only [go_sem, Nat.reduceBEq, Nat.reduceAdd, Nat.reduceMul, Nat.reduceMod, Nat.reduceLT, Nat.reduceDiv, Nat.reduceSub, Nat.reduceLeDiff, Int.reduceToNat, Int.reduceLT, Int.reduceLE, reduceCtorEq]
  try simp (maxSteps := 2000000) only [go_sem, Nat.reduceBEq, Nat.reduceAdd, Nat.reduceMul, Nat.reduceMod, Nat.reduceLT, Nat.reduceDiv, Nat.reduceSub, Nat.reduceLeDiff, Int.reduceToNat, Int.reduceLT, Int.reduceLE, reduceCtorEq, el, z1]
  have hb : (decide (((rotsF x y (chI x y j)).length : Int) = 0) != decide (j = m)) = false := by
   by_cases e : j = m
   ·rw [hem.2 e]; simp [e]
   ·have : (rotsF x y (chI x y j)).length ≠ 0 := fun h => e (hem.1 (List.eq_nil_of_length_eq_zero h))
    simp [e, List.length_eq_zero_iff] at this ⊢; exact this
  refine ⟨inR_of (by omega) (by omega), fun h => (by rw [hb] at h; cases h), fun _ => ?_⟩
  refine ⟨_, cRo j hj' _, ?_⟩; simp (maxSteps := 2000000) only [go_sem, Nat.reduceBEq, Nat.reduceAdd, Nat.reduceMul, Nat.reduceMod, Nat.reduceLT, Nat.reduceDiv, Nat.reduceSub, Nat.reduceLeDiff, Int.reduceToNat, Int.reduceLT, Int.reduceLE, reduceCtorEq]
  have hR5 := (rotsF_len (x := x) (y := y) (l := chI x y j)).1
  have hRm := fun r (hr : r ∈ rotsF x y (chI x y j)) => (⟨rot_two hr, rot_short hr, rot_turn hr, trL_stab hr, rot_good hr, fun v hv => rot_next hr hv⟩ : 2 ≤ r.length ∧ r.length ≤ x.length ∧ (turnB x y (chI x y j) r = true ∧ turnF x y (chI x y j) r = trL x y (chI x y j) r) ∧ stabB x y (trL x y (chI x y j) r) = true ∧ goodB x y (chI x y j) (trL x y (chI x y j) r) = true ∧ ∀ v ∈ r, 0 ≤ v ∧ v < x.length ∧ (trL x y (chI x y j) r).getD v.toNat 0 = nwI x y (chI x y j) v.toNat)
  have clj := cl j hj'
  generalize rotsF x y (chI x y j) = R at hR5 hRm ⊢
  generalize chI x y j = z at hs hRm clj ⊢
  refine loopN R.length (fun t => [(0, .t .arg (.xv u (.s none (byt l)))), (2, .b false), (3, .bx 2), (4, .own 1 none (rr L)), (9, .i (j : Nat)), (10, .t (.rw 4) (.s none (ii z))), (80, .al 4), (81, .i (m + 1 : Nat)), (82, .i (j : Nat)), (113, .own 1 none (rr R)), (114, .i R.length), (115, .i (t : Nat)), (1003, .own 1 none (rr x)), (2003, .own 1 none (rr y))]) (fun _ => True) ⟨trivial, by simp (maxSteps := 2000000) only [go_sem, Nat.reduceBEq, Nat.reduceAdd, Nat.reduceMul, Nat.reduceMod, Nat.reduceLT, Nat.reduceDiv, Nat.reduceSub, Nat.reduceLeDiff, Int.reduceToNat, Int.reduceLT, Int.reduceLE, reduceCtorEq, le_self]; simp⟩ fun t ht _ => ?_
  simp (maxSteps := 2000000) only [go_sem, Nat.reduceBEq, Nat.reduceAdd, Nat.reduceMul, Nat.reduceMod, Nat.reduceLT, Nat.reduceDiv, Nat.reduceSub, Nat.reduceLeDiff, Int.reduceToNat, Int.reduceLT, Int.reduceLE, reduceCtorEq, le_self]
  refine ⟨fun hlt => ?_, fun hge => ?_⟩
  ·have ht' : t < R.length := by omega
   obtain ⟨r2, rn, ⟨rb, rf⟩, rs, rg, rv⟩ := hRm _ (getD_mem (d := []) ht')
   refine ⟨by omega, ht', ht', ?_⟩
   generalize R.getD t [] = r at r2 rn rb rf rs rg rv ⊢
   obtain ⟨_, rk, _⟩ := stab_of rs
   have rl := rank_len rk
   have cTr : ∀ n3 n4, n3 ≠ some true → CallOk Try.prog 66 [.a [.s none (rr x), .s none (rr y)], .s n3 (ii z), .s n4 (ii r)] [(0, .tp 2), (100000, .own 1 none (ii (trL x y z r))), (101000, .b true)] := fun n3 n4 h3 => by
    have := impl_TurnRotation_ok (n1 := none) (n2 := none) (n3 := n3) (n4 := n4) x y z r hx kx hy ky clj (by omega) h3
    rwa [rb, rf] at this
   have cRk : ∀ n3, CallOk Try.prog 67 [.i x.length, .s n3 (ii (trL x y z r))] [(0, .b true)] := fun n3 => by
    have := spec_RankingOk_ok (nl := n3) (x.length : Int) (trL x y z r) (by omega)
    rwa [rk] at this
   have cGd : ∀ n3 n4, CallOk Try.prog 49 [.a [.s none (rr x), .s none (rr y)], .s n3 (ii z), .s n4 (ii (trL x y z r))] [(0, .b true)] := fun n3 n4 => by
    have := impl_AtLeastAsGood_ok (n1 := none) (n2 := none) (n3 := n3) (n4 := n4) x y z (trL x y z r) hx kx hy ky clj (by omega)
    rwa [rg] at this
   have cIt := cIs _ rs
   generalize trL x y z r = q at cTr cRk cGd cIt rl rv ⊢
   refine ⟨_, cTr _ _ (by simp), ?_⟩; simp (maxSteps := 2000000) only [go_sem, Nat.reduceBEq, Nat.reduceAdd, Nat.reduceMul, Nat.reduceMod, Nat.reduceLT, Nat.reduceDiv, Nat.reduceSub, Nat.reduceLeDiff, Int.reduceToNat, Int.reduceLT, Int.reduceLE, reduceCtorEq]
   refine ⟨_, cRk _, ?_⟩; simp (maxSteps := 2000000) only [go_sem, Nat.reduceBEq, Nat.reduceAdd, Nat.reduceMul, Nat.reduceMod, Nat.reduceLT, Nat.reduceDiv, Nat.reduceSub, Nat.reduceLeDiff, Int.reduceToNat, Int.reduceLT, Int.reduceLE, reduceCtorEq]
   have f2 : ((r.length : Int) < 2) = False := by simp; omega
   have f3 : ((x.length : Int) < r.length) = False := by simp; omega
   simp (maxSteps := 2000000) only [go_sem, Nat.reduceBEq, Nat.reduceAdd, Nat.reduceMul, Nat.reduceMod, Nat.reduceLT, Nat.reduceDiv, Nat.reduceSub, Nat.reduceLeDiff, Int.reduceToNat, Int.reduceLT, Int.reduceLE, reduceCtorEq, f2, f3, decide_false, not_false_eq_true]
   refine ⟨_, cIt _, ?_⟩; simp (maxSteps := 2000000) only [go_sem, Nat.reduceBEq, Nat.reduceAdd, Nat.reduceMul, Nat.reduceMod, Nat.reduceLT, Nat.reduceDiv, Nat.reduceSub, Nat.reduceLeDiff, Int.reduceToNat, Int.reduceLT, Int.reduceLE, reduceCtorEq]
   refine ⟨_, cGd _ _, ?_⟩; simp (maxSteps := 2000000) only [go_sem, Nat.reduceBEq, Nat.reduceAdd, Nat.reduceMul, Nat.reduceMod, Nat.reduceLT, Nat.reduceDiv, Nat.reduceSub, Nat.reduceLeDiff, Int.reduceToNat, Int.reduceLT, Int.reduceLE, reduceCtorEq]
   refine loopN r.length (fun k => [(0, .t .arg (.xv u (.s none (byt l)))), (2, .b false), (3, .bx 2), (4, .own 1 none (rr L)), (9, .i (j : Nat)), (10, .t (.rw 4) (.s none (ii z))), (12, .t (.rw 113) (.s none (ii r))), (13, .own 1 none (ii q)), (80, .al 4), (81, .i (m + 1 : Nat)), (82, .i (j : Nat)), (113, .own 1 none (rr R)), (114, .i R.length), (115, .i (t : Nat)), (162, .t (.rw 113) (.s none (ii r))), (163, .i r.length), (164, .i (k : Nat)), (1003, .own 1 none (rr x)), (2003, .own 1 none (rr y))]) (fun _ => True) ⟨trivial, by simp (maxSteps := 2000000) only [go_sem, Nat.reduceBEq, Nat.reduceAdd, Nat.reduceMul, Nat.reduceMod, Nat.reduceLT, Nat.reduceDiv, Nat.reduceSub, Nat.reduceLeDiff, Int.reduceToNat, Int.reduceLT, Int.reduceLE, reduceCtorEq, le_self]; simp⟩ fun k hk _ => ?_
   simp (maxSteps := 2000000) only [go_sem, Nat.reduceBEq, Nat.reduceAdd, Nat.reduceMul, Nat.reduceMod, Nat.reduceLT, Nat.reduceDiv, Nat.reduceSub, Nat.reduceLeDiff, Int.reduceToNat, Int.reduceLT, Int.reduceLE, reduceCtorEq, le_self]
   refine ⟨fun hlt => ?_, fun hge => ?_⟩
   ·have hk' : k < r.length := by omega
    obtain ⟨v0, v1, ve⟩ := rv _ (getD_mem (d := 0) hk')
    refine ⟨by omega, hk', hk', ?_⟩
    obtain ⟨V, hV⟩ : ∃ V : Nat, r.getD k 0 = V := ⟨(r.getD k 0).toNat, by omega⟩
    rw [hV] at v0 v1 ve ⊢
    rw [Int.toNat_natCast] at ve
    have g1 : ((V : Int) < 0) = False := by simp
    have g2 : ((x.length : Int) ≤ V) = False := by simp; omega
    have cNw := fun n3 => impl_NextWoman_ok (n1 := none) (n2 := none) (n3 := n3) x y z V hs (by omega) hx kx hy ky clj
    simp (maxSteps := 2000000) only [go_sem, Nat.reduceBEq, Nat.reduceAdd, Nat.reduceMul, Nat.reduceMod, Nat.reduceLT, Nat.reduceDiv, Nat.reduceSub, Nat.reduceLeDiff, Int.reduceToNat, Int.reduceLT, Int.reduceLE, reduceCtorEq, g1, g2, decide_false, not_false_eq_true]
    refine ⟨_, cNw _, ?_⟩
    simp (maxSteps := 2000000) only [go_sem, Nat.reduceBEq, Nat.reduceAdd, Nat.reduceMul, Nat.reduceMod, Nat.reduceLT, Nat.reduceDiv, Nat.reduceSub, Nat.reduceLeDiff, Int.reduceToNat, Int.reduceLT, Int.reduceLE, reduceCtorEq]
    refine ⟨by omega, by omega, by omega, ?_⟩
    exact ⟨fun h => h ve.symm, fun _ => ⟨inR_of (by omega) (by omega), hk', by simp⟩⟩
   ·have : k = r.length := by omega
    subst this
    exact ⟨inR_of (by omega) (by omega), ht', by simp⟩
  ·have : t = R.length := by omega
   subst this
   exact ⟨inR_of (by omega) (by omega), by omega, by simp⟩
 ·have : j = m + 1 := by omega
  subst this
  refine ⟨_, hlon, ?_⟩; simp (maxSteps := 2000000) only [go_sem, Nat.reduceBEq, Nat.reduceAdd, Nat.reduceMul, Nat.reduceMod, Nat.reduceLT, Nat.reduceDiv, Nat.reduceSub, Nat.reduceLeDiff, Int.reduceToNat, Int.reduceLT, Int.reduceLE, reduceCtorEq]
  have e1 : (decide (0 < lonN x y L L.length) == decide ((1 : Int) < L.length)) = true := by
   by_cases e : 0 < m
   ·have := hL.2 e
    simp [this]; omega
   ·have : ¬ 0 < lonN x y L L.length := fun h => e (hL.1 h)
    simp [this]; omega
  refine ⟨fun _ => ⟨fun _ => ?_, fun h => by omega⟩, fun h => by rw [e1] at h; cases h⟩
  refine ⟨_, impl_StableMatchings_ok x y hx kx hy ky, ?_⟩; simp (maxSteps := 2000000) only [go_sem, Nat.reduceBEq, Nat.reduceAdd, Nat.reduceMul, Nat.reduceMod, Nat.reduceLT, Nat.reduceDiv, Nat.reduceSub, Nat.reduceLeDiff, Int.reduceToNat, Int.reduceLT, Int.reduceLE, reduceCtorEq]
  omega
theorem FnRotations_lifted (os : Os) (started : os.Started) (H : Type) (enc : TypeId × Value → H) :
  ReturnsInHanded {} Try.checked os 10 .any (Rows.fnRotationsSpec.pre6 enc Try.prog Try.f10 Rows.fnRotationsRow.domain false) (Rows.fnRotationsSpec.post enc Try.prog Try.f10 false true false false) := by
 refine returnsInHanded_of_change (C := Try.checked) ownk started (by as_aux_lemma => kernel_rfl) Try.func10
  (ChangeSpec.witness6 (enc := enc) (C := Try.checked) false ⟨#[], #[.slice none 0 0], []⟩ 8 (by kernel_rfl) (by kernel_rfl) (by kernel_rfl) (by kernel_rfl)) ?_
 intro W base args ds gs before hval0 hW _ _
 have hval : ∀ (j : Nat) t v, Try.f10.params[j]? = some t → args[j]? = some v → Value.okWide Try.prog W .any base t v := hval0
 have hW' := hW
 obtain ⟨p, q, hA0, _⟩ := hW
 have hA : DataW.TrodAll enc Try.prog W 0 (fun _ => true) true Try.f10.params.toList args.toList ds p := hA0
 rw [Try.params10] at hA hval
 clear hA0 hval0
 obtain ⟨v0, d0, rfl, rfl, h0⟩ := trodAll_one hA
 obtain ⟨x0, a0, b0, f0⟩ := fz_bytes Try.underlying48 Try.underlying5 (by kernel_rfl : Try.prog.cellsOf 5 = 1) (hval 0 48 v0 rfl rfl) h0
 exact law_post (P := Try.prog) pfacts.laid (fun t ht => by rw [Try.params10] at ht; revert t; simp only [List.mem_cons, List.not_mem_nil, or_false, forall_eq_or_imp, forall_eq]; exact ⟨by kernel_rfl, of_decide_eq_true (by kernel_rfl)⟩) rfl (by kernel_rfl) rfl (fun ds hds => by
  have hds : ds.length = 1 := hds
  match ds, hds with
  | [d0], _ => rfl) hW' (ts := [.xv v0 (.s none (byt x0))]) (by simp only [FzL]; exact ⟨_, _, rfl, f0, rfl⟩) (FnRotations_ok v0 x0 a0 b0)
set_option maxHeartbeats 4000000 in
theorem FnRotations_holds : Rows.FnRotationsSaid :=
 OpenClaim.holds_of_wide (p := Try.pinned) (s := Rows.fnRotationsSpec) (c := Rows.fnRotationsRow) 10 Try.f10 rfl rfl rfl rfl rfl rfl rfl ⟨rfl, rfl, rfl, rfl, rfl⟩ rfl rfl rfl rfl rfl (by as_aux_lemma => kernel_rfl) Try.func10 (joined_of pfacts rfl rfl rfl (by as_aux_lemma => kernel_rfl) (by as_aux_lemma => kernel_rfl) (by as_aux_lemma => kernel_rfl) (by as_aux_lemma => kernel_rfl) (by as_aux_lemma => kernel_rfl) (by as_aux_lemma => kernel_rfl) (by as_aux_lemma => kernel_rfl) (by as_aux_lemma => kernel_rfl) (by as_aux_lemma => kernel_rfl) (by as_aux_lemma => kernel_rfl) (by as_aux_lemma => kernel_rfl) (by as_aux_lemma => kernel_rfl) (by as_aux_lemma => kernel_rfl) (by as_aux_lemma => kernel_rfl) (by as_aux_lemma => kernel_rfl) (by as_aux_lemma => kernel_rfl) (by as_aux_lemma => kernel_rfl) (by as_aux_lemma => kernel_rfl) (by as_aux_lemma => kernel_rfl) (by as_aux_lemma => kernel_rfl) (by as_aux_lemma => kernel_rfl) (by as_aux_lemma => kernel_rfl) (by as_aux_lemma => kernel_rfl))
  (of_decide_eq_true (by kernel_rfl)) (by unfold Func.isWrapper; rw [if_neg (of_decide_eq_false (by kernel_rfl))]; exact ⟨rfl, rfl⟩)
  (fun os started H enc _ => FnRotations_lifted os started H enc)
end Go.Proofs.Ytgdpplhbblapgaa
