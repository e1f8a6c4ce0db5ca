/- At every input the law below returns true and leaves its argument alone: proposing ends with the best stable matching of who proposes, and blocking pairs are what they are named for. No condition. -/
import Derived.Test.YtgdpplhbblapgaaRows
import Derived.Test.YtgdpplhbblapgaaMarrf
import Derived.Test.YtgdpplhbblapgaaL17
import Derived.Test.YtgdpplhbblapgaaLsame
import Derived.Test.YtgdpplhbblapgaaFacts
import Derived.Test.YtgdpplhbblapgaaMarks
import Derived.Test.YtgdpplhbblapgaaTurnk
import Derived.Test.YtgdpplhbblapgaaBlockp
namespace Go.Proofs.Ytgdpplhbblapgaa
open Go Go.Vc
set_option maxRecDepth 100000
set_option linter.unusedSimpArgs false
set_option linter.unusedVariables false
open Go.ChangeShapes Go.WideShapes Go.RowKit
def K_laws_FnMarriages : List Nat := [0, 2, 3, 4, 5, 6, 7, 8, 9, 10, 11, 12, 13, 15, 16, 17, 19, 20, 21, 115, 116, 117, 146, 147, 148, 1003, 2003, 1020, 2020]
def C_laws_FnMarriages : C :=
 let ks := K_laws_FnMarriages
 (.seq
  (.rg 0 [(none, .v 2 .mv [.k (.b false)])])
  (.cl ks (.seq
  (.seq
  (.rg 0 [(none, .v 22 .mv [.s 0]), (none, .v 23 .len [.s 22]), (none, .v 24 (.bin .gtr) [.s 23, .k (.i 1048576)])])
  (.cond (.s 24)
  (.seq
  (.rg 0 [(none, .v 2 .mv [.k (.b true)])])
  .ret)
  .skip))
  (.cl ks (.seq
  (.rg 0 [(none, .v 25 .mv [.s 0]), (none, .co 26 43 [.s 25, .k (.i 0), .k (.i 4)]), (none, .new 3 [.s (some true) [], .s (some true) []]), (none, .sts (.s 3) (.s 26) 2)])
  (.cl ks (.seq
  (.rg 0 [(none, .v 28 (.lds 2) [.s 3]), (none, .co 29 44 [.s 28]), (none, .tk 27 29), (none, .tk 30 100027), (none, .tk 31 101027), (none, .tk 4 30), (none, .tk 5 31)])
  (.cl ks (.seq
  (.rg 0 [(none, .v 33 (.lds 2) [.s 3]), (none, .co 34 45 [.s 33]), (none, .tk 32 34), (none, .tk 35 100032), (none, .tk 36 101032), (none, .tk 6 35), (none, .tk 7 36)])
  (.cl ks (.seq
  (.rg 0 [(none, .v 37 (.lds 2) [.s 3]), (none, .co 38 46 [.s 37]), (none, .tk 8 38)])
  (.cl ks (.seq
  (.rg 0 [(none, .v 39 (.fa 0) [.s 3]), (none, .v 40 .ld [.s 39]), (none, .v 41 .len [.s 40]), (none, .tk 9 41)])
  (.cl ks (.seq
  (.seq
  (.rg 0 [(none, .v 42 (.lds 2) [.s 3]), (none, .v 43 .mv [.s 4]), (none, .co 44 47 [.s 42, .s 43]), (none, .v 45 .not [.s 44]), (none, .v 46 .mv [.s 45]), (some (46, false), .v 47 (.lds 2) [.s 3]), (some (46, false), .v 48 .mv [.s 6]), (some (46, false), .co 49 47 [.s 47, .s 48]), (some (46, false), .v 50 .not [.s 49]), (none, .v 51 .pick [.s 46, .k (.b true), .s 50]), (none, .v 52 .mv [.s 51]), (some (52, false), .v 53 .mv [.s 8]), (some (52, false), .v 54 .len [.s 53]), (some (52, false), .v 55 (.bin .eql) [.s 54, .k (.i 0)]), (none, .v 56 .pick [.s 52, .k (.b true), .s 55]), (none, .v 57 .mv [.s 56]), (some (57, false), .v 58 .mv [.s 5]), (some (57, false), .v 59 .mv [.s 9]), (some (57, false), .v 60 (.bin .lss) [.s 58, .s 59]), (none, .v 61 .pick [.s 57, .k (.b true), .s 60]), (none, .v 62 .mv [.s 61]), (some (62, false), .v 63 .mv [.s 5]), (some (62, false), .v 64 .mv [.s 9]), (some (62, false), .v 65 .mv [.s 9]), (some (62, false), .v 66 (.bin .mul) [.s 64, .s 65]), (some (62, false), .v 67 (.bin .gtr) [.s 63, .s 66]), (none, .v 68 .pick [.s 62, .k (.b true), .s 67]), (none, .v 69 .mv [.s 68]), (some (69, false), .v 70 .mv [.s 7]), (some (69, false), .v 71 .mv [.s 9]), (some (69, false), .v 72 (.bin .lss) [.s 70, .s 71]), (none, .v 73 .pick [.s 69, .k (.b true), .s 72]), (none, .v 74 .mv [.s 73]), (some (74, false), .v 75 .mv [.s 7]), (some (74, false), .v 76 .mv [.s 9]), (some (74, false), .v 77 .mv [.s 9]), (some (74, false), .v 78 (.bin .mul) [.s 76, .s 77]), (some (74, false), .v 79 (.bin .gtr) [.s 75, .s 78]), (none, .v 80 .pick [.s 74, .k (.b true), .s 79])])
  (.cond (.s 80)
  (.seq
  (.rg 0 [(none, .v 2 .mv [.k (.b false)])])
  .ret)
  .skip))
  (.cl ks (.seq
  (.rg 0 [(none, .v 82 (.lds 2) [.s 3]), (none, .v 83 .mv [.s 4]), (none, .co 84 48 [.s 82, .s 83]), (none, .tk 81 84), (none, .tk 85 100081), (none, .tk 86 101081), (none, .tk 10 85), (none, .tk 11 86)])
  (.cl ks (.seq
  (.rg 0 [(none, .v 88 (.lds 2) [.s 3]), (none, .v 89 .mv [.s 6]), (none, .co 90 48 [.s 88, .s 89]), (none, .tk 87 90), (none, .tk 91 100087), (none, .tk 92 101087), (none, .tk 12 91), (none, .tk 13 92)])
  (.cl ks (.seq
  (.seq
  (.rg 0 [(none, .v 93 .mv [.s 10]), (none, .v 94 .mv [.s 9]), (none, .v 95 (.bin .add) [.s 93, .s 94]), (none, .v 96 .mv [.s 5]), (none, .v 97 (.bin .neq) [.s 95, .s 96]), (none, .v 98 .mv [.s 97]), (some (98, false), .v 99 .mv [.s 13]), (some (98, false), .v 100 .mv [.s 9]), (some (98, false), .v 101 (.bin .add) [.s 99, .s 100]), (some (98, false), .v 102 .mv [.s 7]), (some (98, false), .v 103 (.bin .neq) [.s 101, .s 102]), (none, .v 104 .pick [.s 98, .k (.b true), .s 103]), (none, .v 105 .mv [.s 104]), (some (105, false), .v 106 .mv [.s 11]), (some (105, false), .v 107 .mv [.s 13]), (some (105, false), .v 108 (.bin .lss) [.s 106, .s 107]), (none, .v 109 .pick [.s 105, .k (.b true), .s 108]), (none, .v 110 .mv [.s 109]), (some (110, false), .v 111 .mv [.s 12]), (some (110, false), .v 112 .mv [.s 10]), (some (110, false), .v 113 (.bin .lss) [.s 111, .s 112]), (none, .v 114 .pick [.s 110, .k (.b true), .s 113])])
  (.cond (.s 114)
  (.seq
  (.rg 0 [(none, .v 2 .mv [.k (.b false)])])
  .ret)
  .skip))
  (.cl ks (.seq
  (.seq
  (.rg 0 [(none, .v 115 .mv [.s 8]), (none, .v 116 .len [.s 115]), (none, .v 117 .mv [.k (.i 0)])])
  (.cl ks (.block 0
  (.loop
  (.seq
  (.rg 0 [(none, .v 118 (.bin .lss) [.s 117, .s 116])])
  (.seq
  (.cond (.s 118)
  .skip
  (.exit 0))
  (.cl ks (.seq
  (.block 1
  (.seq
  (.rg 0 [(none, .v 119 .idx [.s 115, .s 117]), (none, .v 120 .ld [.s 119]), (none, .tk 15 120)])
  (.cl ks (.seq
  (.rg 0 [(none, .v 121 (.lds 2) [.s 3]), (none, .v 122 .mv [.s 15]), (none, .co 123 47 [.s 121, .s 122]), (none, .v 124 .not [.s 123]), (none, .v 125 .mv [.s 124]), (some (125, false), .v 126 (.lds 2) [.s 3]), (some (125, false), .v 127 .mv [.s 4]), (some (125, false), .v 128 .mv [.s 15]), (some (125, false), .co 129 49 [.s 126, .s 127, .s 128]), (some (125, false), .v 130 .not [.s 129]), (none, .v 131 .pick [.s 125, .k (.b true), .s 130]), (none, .v 132 .mv [.s 131]), (some (132, false), .v 133 (.lds 2) [.s 3]), (some (132, false), .v 134 .mv [.s 15]), (some (132, false), .v 135 .mv [.s 6]), (some (132, false), .co 136 49 [.s 133, .s 134, .s 135]), (some (132, false), .v 137 .not [.s 136]), (none, .v 138 .pick [.s 132, .k (.b true), .s 137])])
  (.cond (.s 138)
  (.seq
  (.rg 0 [(none, .v 2 .mv [.k (.b false)])])
  .ret)
  .skip)))))
  (.cl ks (.rg 0 [(none, .v 139 (.bin .add) [.s 117, .k (.i 1)]), (none, .v 117 .mv [.s 139])]))))))))))
  (.cl ks (.seq
  (.rg 0 [(none, .v 140 .mv [.s 0]), (none, .v 141 .mv [.s 9]), (none, .co 142 50 [.s 140, .k (.i 60), .s 141]), (none, .tk 16 142)])
  (.cl ks (.seq
  (.rg 0 [(none, .v 143 (.lds 2) [.s 3]), (none, .v 144 .mv [.s 16]), (none, .co 145 51 [.s 143, .s 144]), (none, .tk 17 145)])
  (.cl ks (.seq
  (.seq
  (.rg 0 [(none, .v 146 .mv [.s 17]), (none, .v 147 .len [.s 146]), (none, .v 148 .mv [.k (.i 0)])])
  (.cl ks (.block 2
  (.loop
  (.seq
  (.rg 0 [(none, .v 149 (.bin .lss) [.s 148, .s 147])])
  (.seq
  (.cond (.s 149)
  .skip
  (.exit 2))
  (.cl ks (.seq
  (.block 3
  (.seq
  (.rg 0 [(none, .v 150 .idx [.s 146, .s 148]), (none, .v 151 .ld [.s 150]), (none, .tk 19 151)])
  (.cl ks (.seq
  (.rg 45 [(none, .v 152 .mv [.s 19]), (none, .v 153 .len [.s 152]), (none, .v 154 (.bin .neq) [.s 153, .k (.i 2)]), (none, .v 155 .mv [.s 154]), (some (155, false), .v 156 .mv [.s 19]), (some (155, false), .v 157 .idx [.s 156, .k (.i 0)]), (some (155, false), .v 158 .ld [.s 157]), (some (155, false), .v 159 (.bin .lss) [.s 158, .k (.i 0)]), (none, .v 160 .pick [.s 155, .k (.b true), .s 159]), (none, .v 161 .mv [.s 160]), (some (161, false), .v 162 .mv [.s 19]), (some (161, false), .v 163 .idx [.s 162, .k (.i 0)]), (some (161, false), .v 164 .ld [.s 163]), (some (161, false), .v 165 .mv [.s 9]), (some (161, false), .v 166 (.bin .geq) [.s 164, .s 165]), (none, .v 167 .pick [.s 161, .k (.b true), .s 166]), (none, .v 168 .mv [.s 167]), (some (168, false), .v 169 .mv [.s 16]), (some (168, false), .v 170 .mv [.s 19]), (some (168, false), .v 171 .idx [.s 170, .k (.i 0)]), (some (168, false), .v 172 .ld [.s 171]), (some (168, false), .v 173 .idx [.s 169, .s 172]), (some (168, false), .v 174 .ld [.s 173]), (some (168, false), .v 175 .mv [.s 19]), (some (168, false), .v 176 .idx [.s 175, .k (.i 1)]), (some (168, false), .v 177 .ld [.s 176]), (some (168, false), .v 178 (.bin .eql) [.s 174, .s 177]), (none, .v 179 .pick [.s 168, .k (.b true), .s 178]), (none, .v 180 .mv [.s 179]), (some (180, false), .v 181 (.fa 0) [.s 3]), (some (180, false), .v 182 .ld [.s 181]), (some (180, false), .v 183 .mv [.s 19]), (some (180, false), .v 184 .idx [.s 183, .k (.i 0)]), (some (180, false), .v 185 .ld [.s 184]), (some (180, false), .v 186 .idx [.s 182, .s 185]), (some (180, false), .v 187 .ld [.s 186]), (some (180, false), .v 188 .mv [.s 19]), (some (180, false), .v 189 .idx [.s 188, .k (.i 1)]), (some (180, false), .v 190 .ld [.s 189]), (some (180, false), .v 191 .mv [.s 16]), (some (180, false), .v 192 .mv [.s 19]), (some (180, false), .v 193 .idx [.s 192, .k (.i 0)]), (some (180, false), .v 194 .ld [.s 193]), (some (180, false), .v 195 .idx [.s 191, .s 194]), (some (180, false), .v 196 .ld [.s 195]), (some (180, false), .co 197 39 [.s 187, .s 190, .s 196]), (some (180, false), .v 198 .not [.s 197]), (none, .v 199 .pick [.s 180, .k (.b true), .s 198])])
  (.cond (.s 199)
  (.seq
  (.rg 0 [(none, .v 2 .mv [.k (.b false)])])
  .ret)
  .skip)))))
  (.cl ks (.rg 0 [(none, .v 200 (.bin .add) [.s 148, .k (.i 1)]), (none, .v 148 .mv [.s 200])]))))))))))
  (.cl ks (.seq
  (.rg 0 [(none, .v 202 (.lds 2) [.s 3]), (none, .co 203 52 [.s 202]), (none, .tk 201 203), (none, .tk 204 100201), (none, .tk 205 101201), (none, .new 20 [.s (some true) [], .s (some true) []]), (none, .sts (.s 20) (.s 204) 2), (none, .tk 21 205)])
  (.cl ks (.seq
  (.rg 21 [(none, .v 206 .mv [.s 21]), (none, .v 207 .mv [.s 206]), (some (207, true), .v 208 (.lds 2) [.s 20]), (some (207, true), .v 209 .mv [.s 4]), (some (207, true), .v 210 (.call 53) [.s 209]), (some (207, true), .v 211 (.call 47) [.s 208, .s 210]), (none, .v 212 .pick [.s 207, .s 211, .k (.b false)]), (none, .v 213 .mv [.s 212]), (some (213, true), .v 214 (.lds 2) [.s 3]), (some (213, true), .v 215 .mv [.s 16]), (some (213, true), .v 216 (.call 47) [.s 214, .s 215]), (some (213, true), .v 217 .mv [.s 17]), (some (213, true), .v 218 .len [.s 217]), (some (213, true), .v 219 (.bin .eql) [.s 218, .k (.i 0)]), (some (213, true), .v 220 .beq [.s 216, .s 219]), (none, .v 221 .pick [.s 213, .s 220, .k (.b false)]), (none, .v 222 .mv [.s 221]), (some (222, true), .v 223 .mv [.s 16]), (some (222, true), .v 224 (.call 53) [.s 223]), (some (222, true), .v 225 (.call 53) [.s 224]), (some (222, true), .v 226 .mv [.s 16]), (some (222, true), .co 227 38 [.s 225, .s 226]), (none, .v 228 .pick [.s 222, .s 227, .k (.b false)]), (none, .tk 2 228)])
  .ret)))))))))))))))))))))))))))))))))
theorem chk_laws_FnMarriages : ∃ b, Try.f8.body = some b ∧ chk Try.prog Try.f8.ntmps true C_laws_FnMarriages b = true := ⟨_, rfl, by kernel_rfl⟩
set_option maxHeartbeats 4000000 in
theorem FnMarriages_ok (u : Value) (l : List Int) (a : l.length ≤ 9223372036854775807) (hb : ∀ x ∈ l, 0 ≤ x ∧ x < 256) : CallOk Try.prog 8 [.xv u (.s none (byt l))] [(0, .b true)] := by
 obtain ⟨code0, hcd1, hcd2⟩ := chk_laws_FnMarriages; refine callOk_of Try.func8 hcd1 mo Try.call8 (rs := [2]) (by kernel_rfl) hcd2 (by rw [Try.ntmps8]; simp) (by simp) (by decide) ?_; unfold C_laws_FnMarriages K_laws_FnMarriages; simp (maxSteps := 2000000) only [go_sem, Nat.reduceBEq, Nat.reduceAdd, Nat.reduceMul, Nat.reduceMod, Nat.reduceLT, Nat.reduceDiv, Nat.reduceSub, Nat.reduceLeDiff, Int.reduceToNat, Int.reduceLT, Int.reduceLE, reduceCtorEq]
 simp only [byt_len]
 refine ⟨fun _ => trivial, fun hlen => ?_⟩
 have C : CodeL l := ⟨by omega, hb⟩
 obtain ⟨x, y, hm, x4, W⟩ := spec_MakeMarket_ok u none C (n := 0) (by omega) (by omega) (m := 4) (by omega) (by omega)
 have M := mk_of hm
 have n1 := M.m.n1
 have n5 := M.m.n5
 have hyl := M.w.len
 have hx : x.length ≤ 1048576 := by omega
 have hy : y.length ≤ 1048576 := by omega
 have kx : ∀ r ∈ x, r.length ≤ 1048576 := fun r hr => by
  obtain ⟨i, hi, rfl⟩ := mem_getD [] hr
  have := rank_len (M.m.rk i hi); omega
 have ky : ∀ r ∈ y, r.length ≤ 1048576 := fun r hr => by
  obtain ⟨i, hi, rfl⟩ := mem_getD [] hr
  have := rank_len (M.w.rk i (by omega)); omega
 obtain ⟨ea, eb, eg, et, es, ew, ec⟩ := ends hm
 obtain ⟨c1, c2, c3⟩ := psF_ct hm
 obtain ⟨d1, d2, d3⟩ := psF_ct (market_swap hm)
 rw [hyl] at d2 d3
 obtain ⟨_, Ra, _⟩ := stab_of ea
 obtain ⟨_, Rb, _⟩ := stab_of eb
 have la := rank_len Ra
 have lb := rank_len Rb
 have hmem := fun {z} => (stab_mem (x := x) (y := y) (l := z))
 have hall : 0 < (stabF x y).length := List.length_pos_of_mem (hmem.2 ea)
 have hal := stabF_len (x := x) (y := y)
 have cIs : ∀ z, stabB x y z = true → ∀ n3, CallOk Try.prog 47 [.a [.s none (rr x), .s none (rr y)], .s n3 (ii z)] [(0, .b true)] := fun z hz n3 => by
  obtain ⟨_, R, _⟩ := stab_of hz
  have := rank_len R
  have := impl_IsStable_ok (n1 := none) (n2 := none) (n3 := n3) x y z hx kx hy ky (by omega)
  rwa [hz] at this
 have cPa := fun n3 => impl_PlaceSums_ok (n1 := none) (n2 := none) (n3 := n3) x y _ hm Ra hx kx hy ky
 have cPb := fun n3 => impl_PlaceSums_ok (n1 := none) (n2 := none) (n3 := n3) x y _ hm Rb hx kx hy ky
 have cT1 := fun n3 => impl_TurnMatching_ok (n1 := n3) (psF x y).wo (by omega)
 have cT2 : ∀ n3, CallOk Try.prog 47 [.a [.s none (rr y), .s none (rr x)], .s n3 (ii (invL (psF x y).wo))] [(0, .b true)] := fun n3 => by
  have hl := inv_len Ra
  have := impl_IsStable_ok (n1 := none) (n2 := none) (n3 := n3) y x (invL (psF x y).wo) hy ky hx kx (by omega)
  rwa [et] at this
 refine ⟨_, W, ?_⟩; simp (maxSteps := 2000000) only [go_sem, Nat.reduceBEq, Nat.reduceAdd, Nat.reduceMul, Nat.reduceMod, Nat.reduceLT, Nat.reduceDiv, Nat.reduceSub, Nat.reduceLeDiff, Int.reduceToNat, Int.reduceLT, Int.reduceLE, reduceCtorEq]
 refine ⟨_, impl_ProposeMen_ok x y hm hx kx hy ky, ?_⟩; simp (maxSteps := 2000000) only [go_sem, Nat.reduceBEq, Nat.reduceAdd, Nat.reduceMul, Nat.reduceMod, Nat.reduceLT, Nat.reduceDiv, Nat.reduceSub, Nat.reduceLeDiff, Int.reduceToNat, Int.reduceLT, Int.reduceLE, reduceCtorEq]
 refine ⟨_, impl_ProposeWomen_ok x y hm hx kx hy ky, ?_⟩; simp (maxSteps := 2000000) only [go_sem, Nat.reduceBEq, Nat.reduceAdd, Nat.reduceMul, Nat.reduceMod, Nat.reduceLT, Nat.reduceDiv, Nat.reduceSub, Nat.reduceLeDiff, Int.reduceToNat, Int.reduceLT, Int.reduceLE, reduceCtorEq]
 refine ⟨_, impl_StableMatchings_ok x y hx kx hy ky, ?_⟩; simp (maxSteps := 2000000) only [go_sem, Nat.reduceBEq, Nat.reduceAdd, Nat.reduceMul, Nat.reduceMod, Nat.reduceLT, Nat.reduceDiv, Nat.reduceSub, Nat.reduceLeDiff, Int.reduceToNat, Int.reduceLT, Int.reduceLE, reduceCtorEq]
 generalize (psF x y).wo = A at *
 generalize invL (psF y x).wo = B at *
 generalize (psF x y).ct = p at *
 generalize (psF y x).ct = q at *
 have hnn : (x.length : Int) * x.length ≤ 25 := by
  have h5 : (x.length : Int) ≤ 5 := by omega
  have := Int.mul_le_mul h5 h5 (by omega) (by omega)
  omega
 have hn0 : 0 ≤ (x.length : Int) * x.length := Int.mul_nonneg (by omega) (by omega)
 refine ⟨_, cIs A ea _, ?_⟩; simp (maxSteps := 2000000) only [go_sem, Nat.reduceBEq, Nat.reduceAdd, Nat.reduceMul, Nat.reduceMod, Nat.reduceLT, Nat.reduceDiv, Nat.reduceSub, Nat.reduceLeDiff, Int.reduceToNat, Int.reduceLT, Int.reduceLE, reduceCtorEq]
 refine ⟨_, cIs B eb _, ?_⟩; simp (maxSteps := 2000000) only [go_sem, Nat.reduceBEq, Nat.reduceAdd, Nat.reduceMul, Nat.reduceMod, Nat.reduceLT, Nat.reduceDiv, Nat.reduceSub, Nat.reduceLeDiff, Int.reduceToNat, Int.reduceLT, Int.reduceLE, reduceCtorEq]
 have f1 : (((stabF x y).length : Int) = 0) = False := by simp; intro h; rw [h] at hall; simp at hall
 have f2 : (p < (x.length : Int)) = False := by simp; omega
 have f3 : ((x.length : Int) * x.length < p) = False := by simp; omega
 have f4 : (q < (x.length : Int)) = False := by simp; omega
 have f5 : ((x.length : Int) * x.length < q) = False := by simp; omega
 simp (maxSteps := 2000000) only [go_sem, Nat.reduceBEq, Nat.reduceAdd, Nat.reduceMul, Nat.reduceMod, Nat.reduceLT, Nat.reduceDiv, Nat.reduceSub, Nat.reduceLeDiff, Int.reduceToNat, Int.reduceLT, Int.reduceLE, reduceCtorEq, f1, f2, f3, f4, f5, decide_false]
 refine fun _ _ => ⟨inR_of (by omega) (by omega), fun _ _ => ⟨inR_of (by omega) (by omega), fun _ => ?_⟩⟩
 refine ⟨_, cPa _, ?_⟩; simp (maxSteps := 2000000) only [go_sem, Nat.reduceBEq, Nat.reduceAdd, Nat.reduceMul, Nat.reduceMod, Nat.reduceLT, Nat.reduceDiv, Nat.reduceSub, Nat.reduceLeDiff, Int.reduceToNat, Int.reduceLT, Int.reduceLE, reduceCtorEq]
 refine ⟨_, cPb _, ?_⟩; simp (maxSteps := 2000000) only [go_sem, Nat.reduceBEq, Nat.reduceAdd, Nat.reduceMul, Nat.reduceMod, Nat.reduceLT, Nat.reduceDiv, Nat.reduceSub, Nat.reduceLeDiff, Int.reduceToNat, Int.reduceLT, Int.reduceLE, reduceCtorEq]
 generalize sumF (placeM x A) x.length = sa at *
 generalize sumF (placeM x B) x.length = sb at *
 generalize sumF (placeW y A) x.length = wa at *
 generalize sumF (placeW y B) x.length = wb at *
 refine ⟨inR_of (by omega) (by omega), ⟨fun _ => ⟨inR_of (by omega) (by omega), ⟨fun _ => ⟨fun _ => ⟨fun h => by omega, fun _ => ?_⟩, fun h => by omega⟩, fun h => by omega⟩⟩, fun h => by omega⟩⟩
 have hS := fun z (hz : z ∈ stabF x y) => hmem.1 hz
 generalize stabF x y = S at hS hall hal ⊢
 refine loopN S.length (fun t => [(0, .t .arg (.xv u (.s none (byt l)))), (2, .b false), (3, .bx 2), (4, .own 1 none (ii A)), (6, .own 1 none (ii B)), (8, .own 1 none (rr S)), (9, .i x.length), (115, .al 8), (116, .i S.length), (117, .i (t : Nat)), (1003, .own 1 none (rr x)), (2003, .own 1 none (rr y))]) (fun _ => True) ⟨trivial, by simp (maxSteps := 2000000) only [go_sem, Nat.reduceBEq, Nat.reduceAdd, Nat.reduceMul, Nat.reduceMod, Nat.reduceLT, Nat.reduceDiv, Nat.reduceSub, Nat.reduceLeDiff, Int.reduceToNat, Int.reduceLT, Int.reduceLE, reduceCtorEq, le_self]; simp [le_self]⟩ fun t ht _ => ?_
 simp (maxSteps := 2000000) only [go_sem, Nat.reduceBEq, Nat.reduceAdd, Nat.reduceMul, Nat.reduceMod, Nat.reduceLT, Nat.reduceDiv, Nat.reduceSub, Nat.reduceLeDiff, Int.reduceToNat, Int.reduceLT, Int.reduceLE, reduceCtorEq, le_self]
 refine ⟨fun hlt => ?_, fun hge => ?_⟩
 ·have ht' : t < S.length := by omega
  have hs := hS _ (getD_mem (d := []) ht')
  refine ⟨by omega, ht', ht', ?_⟩
  generalize S.getD t [] = z at hs ⊢
  obtain ⟨g1, g2⟩ := eg z hs
  obtain ⟨_, Rz, _⟩ := stab_of hs
  have lz := rank_len Rz
  have cG1 : ∀ n3 n4, CallOk Try.prog 49 [.a [.s none (rr x), .s none (rr y)], .s n3 (ii A), .s n4 (ii z)] [(0, .b true)] := fun n3 n4 => by
   have := impl_AtLeastAsGood_ok (n1 := none) (n2 := none) (n3 := n3) (n4 := n4) x y A z hx kx hy ky (by omega) (by omega)
   rwa [g1] at this
  have cG2 : ∀ n3 n4, CallOk Try.prog 49 [.a [.s none (rr x), .s none (rr y)], .s n3 (ii z), .s n4 (ii B)] [(0, .b true)] := fun n3 n4 => by
   have := impl_AtLeastAsGood_ok (n1 := none) (n2 := none) (n3 := n3) (n4 := n4) x y z B hx kx hy ky (by omega) (by omega)
   rwa [g2] at this
  refine ⟨_, cIs z hs _, ?_⟩; simp (maxSteps := 2000000) only [go_sem, Nat.reduceBEq, Nat.reduceAdd, Nat.reduceMul, Nat.reduceMod, Nat.reduceLT, Nat.reduceDiv, Nat.reduceSub, Nat.reduceLeDiff, Int.reduceToNat, Int.reduceLT, Int.reduceLE, reduceCtorEq]
  refine ⟨_, cG1 _ _, ?_⟩; simp (maxSteps := 2000000) only [go_sem, Nat.reduceBEq, Nat.reduceAdd, Nat.reduceMul, Nat.reduceMod, Nat.reduceLT, Nat.reduceDiv, Nat.reduceSub, Nat.reduceLeDiff, Int.reduceToNat, Int.reduceLT, Int.reduceLE, reduceCtorEq]
  refine ⟨_, cG2 _ _, ?_⟩; simp (maxSteps := 2000000) only [go_sem, Nat.reduceBEq, Nat.reduceAdd, Nat.reduceMul, Nat.reduceMod, Nat.reduceLT, Nat.reduceDiv, Nat.reduceSub, Nat.reduceLeDiff, Int.reduceToNat, Int.reduceLT, Int.reduceLE, reduceCtorEq]
  exact ⟨inR_of (by omega) (by omega), ht', by simp [le_self]⟩
 ·have : t = S.length := by omega
  subst this
  obtain ⟨z, hz, Wz⟩ := spec_MakeRanking_ok u none C (n := 60) (by omega) (by omega) (m := x.length) (by omega) (by omega)
  have zl := rank_len hz
  have hmz : matchB x y z = true := by simp [matchB, hm, hz]
  refine ⟨_, Wz, ?_⟩; simp (maxSteps := 2000000) only [go_sem, Nat.reduceBEq, Nat.reduceAdd, Nat.reduceMul, Nat.reduceMod, Nat.reduceLT, Nat.reduceDiv, Nat.reduceSub, Nat.reduceLeDiff, Int.reduceToNat, Int.reduceLT, Int.reduceLE, reduceCtorEq]
  refine ⟨_, impl_BlockingPairs_ok x y z hmz hx kx hy ky (by omega), ?_⟩; simp (maxSteps := 2000000) only [go_sem, Nat.reduceBEq, Nat.reduceAdd, Nat.reduceMul, Nat.reduceMod, Nat.reduceLT, Nat.reduceDiv, Nat.reduceSub, Nat.reduceLeDiff, Int.reduceToNat, Int.reduceLT, Int.reduceLE, reduceCtorEq]
  have hB := fun c (hc : c ∈ blkL x y z x.length x.length) => blkL_mem hc
  have hBl := blkL_len (x := x) (y := y) (l := z) (n := x.length) (i := x.length)
  have hBs := blkL_st (x := x) (y := y) (l := z) (n := x.length)
  generalize blkL x y z x.length x.length = P at hB hBl hBs ⊢
  have hnn2 : x.length * x.length ≤ 25 := by
   have := Nat.mul_le_mul n5 n5
   omega
  refine loopN P.length (fun t => [(0, .t .arg (.xv u (.s none (byt l)))), (2, .b false), (3, .bx 2), (4, .own 1 none (ii A)), (9, .i x.length), (16, .own 1 none (ii z)), (17, .own 1 none (rr P)), (146, .al 17), (147, .i P.length), (148, .i (t : Nat)), (1003, .own 1 none (rr x)), (2003, .own 1 none (rr y))]) (fun _ => True) ⟨trivial, by simp (maxSteps := 2000000) only [go_sem, Nat.reduceBEq, Nat.reduceAdd, Nat.reduceMul, Nat.reduceMod, Nat.reduceLT, Nat.reduceDiv, Nat.reduceSub, Nat.reduceLeDiff, Int.reduceToNat, Int.reduceLT, Int.reduceLE, reduceCtorEq, le_self]; simp [le_self]⟩ fun t ht _ => ?_
  simp (maxSteps := 2000000) only [go_sem, Nat.reduceBEq, Nat.reduceAdd, Nat.reduceMul, Nat.reduceMod, Nat.reduceLT, Nat.reduceDiv, Nat.reduceSub, Nat.reduceLeDiff, Int.reduceToNat, Int.reduceLT, Int.reduceLE, reduceCtorEq, le_self]
  refine ⟨fun hlt => ?_, fun hge => ?_⟩
  ·have ht' : t < P.length := by omega
   obtain ⟨i, v, hi, hv, ec, hbl⟩ := hB _ (getD_mem (d := []) ht')
   refine ⟨by omega, ht', ht', ?_⟩
   rw [ec]
   have bz := rank_bd hz (i := i) (by omega)
   have hp : prefB (x.getD i []) v (z.getD i 0) = true := by
    unfold blkI at hbl
    simp only [Bool.and_eq_true] at hbl; exact hbl.1
   have hne : ¬ z.getD i 0 = (v : Int) := fun e => by
    rw [e] at hp
    simp [prefB] at hp
   have hxl : (x.getD i []).length ≤ 1048576 := kx _ (getD_mem hi)
   have cPr : ∀ n3, CallOk Try.prog 39 [.s n3 (ii (x.getD i [])), .i v, .i (z.getD i 0)] [(0, .b true)] := fun n3 => by
    have := impl_Prefers_ok (nl := n3) (x.getD i []) v (z.getD i 0) hxl
    rwa [hp] at this
   have q1 : ((([(i : Int), (v : Int)] : List Int).length : Int) = 2) = True := by simp
   have q2 : ([(i : Int), (v : Int)] : List Int).getD 0 0 = i := rfl
   have q3 : ([(i : Int), (v : Int)] : List Int).getD 1 0 = v := rfl
   have q4 : ((i : Int) < 0) = False := by simp
   have q5 : ((x.length : Int) ≤ i) = False := by simp; omega
   simp (maxSteps := 2000000) only [go_sem, Nat.reduceBEq, Nat.reduceAdd, Nat.reduceMul, Nat.reduceMod, Nat.reduceLT, Nat.reduceDiv, Nat.reduceSub, Nat.reduceLeDiff, Int.reduceToNat, Int.reduceLT, Int.reduceLE, reduceCtorEq, q1, q2, q3, q4, q5, not_true_eq_false, decide_false]
   refine ⟨fun _ _ _ => ⟨by omega, by omega, by omega, ⟨fun _ => ⟨by omega, hi, hi, by omega, by omega, by omega, ?_⟩, fun h => absurd h hne⟩⟩, fun h => absurd rfl h⟩
   refine ⟨_, cPr _, ?_⟩; simp (maxSteps := 2000000) only [go_sem, Nat.reduceBEq, Nat.reduceAdd, Nat.reduceMul, Nat.reduceMod, Nat.reduceLT, Nat.reduceDiv, Nat.reduceSub, Nat.reduceLeDiff, Int.reduceToNat, Int.reduceLT, Int.reduceLE, reduceCtorEq]
   exact ⟨inR_of (by omega) (by omega), ht', by simp [le_self]⟩
  ·have : t = P.length := by omega
   subst this
   refine ⟨_, impl_TurnMarket_ok x y hm hx kx hy ky, ?_⟩; simp (maxSteps := 2000000) only [go_sem, Nat.reduceBEq, Nat.reduceAdd, Nat.reduceMul, Nat.reduceMod, Nat.reduceLT, Nat.reduceDiv, Nat.reduceSub, Nat.reduceLeDiff, Int.reduceToNat, Int.reduceLT, Int.reduceLE, reduceCtorEq]
   refine ⟨_, cT1 _, ?_⟩; simp (maxSteps := 2000000) only [go_sem, Nat.reduceBEq, Nat.reduceAdd, Nat.reduceMul, Nat.reduceMod, Nat.reduceLT, Nat.reduceDiv, Nat.reduceSub, Nat.reduceLeDiff, Int.reduceToNat, Int.reduceLT, Int.reduceLE, reduceCtorEq]
   refine ⟨_, cT2 _, ?_⟩; simp (maxSteps := 2000000) only [go_sem, Nat.reduceBEq, Nat.reduceAdd, Nat.reduceMul, Nat.reduceMod, Nat.reduceLT, Nat.reduceDiv, Nat.reduceSub, Nat.reduceLeDiff, Int.reduceToNat, Int.reduceLT, Int.reduceLE, reduceCtorEq]
   have hz2 : stabB x y z = decide ((P.length : Int) = 0) := by
    unfold stabB
    rw [hmz, Bool.true_and, Bool.eq_iff_iff, decide_eq_true_eq]
    exact hBs.symm
   have cZ : ∀ n3, CallOk Try.prog 47 [.a [.s none (rr x), .s none (rr y)], .s n3 (ii z)] [(0, .b (decide ((P.length : Int) = 0)))] := fun n3 => by
    have := impl_IsStable_ok (n1 := none) (n2 := none) (n3 := n3) x y z hx kx hy ky (by omega)
    rwa [hz2] at this
   have il := inv_len hz
   refine ⟨_, cZ _, ?_⟩; simp (maxSteps := 2000000) only [go_sem, Nat.reduceBEq, Nat.reduceAdd, Nat.reduceMul, Nat.reduceMod, Nat.reduceLT, Nat.reduceDiv, Nat.reduceSub, Nat.reduceLeDiff, Int.reduceToNat, Int.reduceLT, Int.reduceLE, reduceCtorEq]
   simp (maxSteps := 2000000) only [go_sem, Nat.reduceBEq, Nat.reduceAdd, Nat.reduceMul, Nat.reduceMod, Nat.reduceLT, Nat.reduceDiv, Nat.reduceSub, Nat.reduceLeDiff, Int.reduceToNat, Int.reduceLT, Int.reduceLE, reduceCtorEq, beq_self_eq_true]
   refine ⟨_, impl_TurnMatching_ok z (by omega), ?_⟩; simp (maxSteps := 2000000) only [go_sem, Nat.reduceBEq, Nat.reduceAdd, Nat.reduceMul, Nat.reduceMod, Nat.reduceLT, Nat.reduceDiv, Nat.reduceSub, Nat.reduceLeDiff, Int.reduceToNat, Int.reduceLT, Int.reduceLE, reduceCtorEq]
   refine ⟨_, impl_TurnMatching_ok (invL z) (by omega), ?_⟩; simp (maxSteps := 2000000) only [go_sem, Nat.reduceBEq, Nat.reduceAdd, Nat.reduceMul, Nat.reduceMod, Nat.reduceLT, Nat.reduceDiv, Nat.reduceSub, Nat.reduceLeDiff, Int.reduceToNat, Int.reduceLT, Int.reduceLE, reduceCtorEq]
   refine ⟨_, laws_same_yes (invL (invL z)) z (by rw [inv_inv hz]; omega) (inv_inv hz), ?_⟩; simp (maxSteps := 2000000) only [go_sem, Nat.reduceBEq, Nat.reduceAdd, Nat.reduceMul, Nat.reduceMod, Nat.reduceLT, Nat.reduceDiv, Nat.reduceSub, Nat.reduceLeDiff, Int.reduceToNat, Int.reduceLT, Int.reduceLE, reduceCtorEq]
theorem FnMarriages_lifted (os : Os) (started : os.Started) (H : Type) (enc : TypeId × Value → H) :
  ReturnsInHanded {} Try.checked os 8 .any (Rows.fnMarriagesSpec.pre6 enc Try.prog Try.f8 Rows.fnMarriagesRow.domain false) (Rows.fnMarriagesSpec.post enc Try.prog Try.f8 false true false false) := by
 refine returnsInHanded_of_change (C := Try.checked) ownk started (by as_aux_lemma => kernel_rfl) Try.func8
  (ChangeSpec.witness6 (enc := enc) (C := Try.checked) false ⟨#[], #[.slice none 0 0], []⟩ 8 (by kernel_rfl) (by kernel_rfl) (by kernel_rfl) (by kernel_rfl)) ?_
 intro W base args ds gs before hval0 hW _ _
 have hval : ∀ (j : Nat) t v, Try.f8.params[j]? = some t → args[j]? = some v → Value.okWide Try.prog W .any base t v := hval0
 have hW' := hW
 obtain ⟨p, q, hA0, _⟩ := hW
 have hA : DataW.TrodAll enc Try.prog W 0 (fun _ => true) true Try.f8.params.toList args.toList ds p := hA0
 rw [Try.params8] at hA hval
 clear hA0 hval0
 obtain ⟨v0, d0, rfl, rfl, h0⟩ := trodAll_one hA
 obtain ⟨x0, a0, b0, f0⟩ := fz_bytes Try.underlying48 Try.underlying5 (by kernel_rfl : Try.prog.cellsOf 5 = 1) (hval 0 48 v0 rfl rfl) h0
 exact law_post (P := Try.prog) pfacts.laid (fun t ht => by rw [Try.params8] at ht; revert t; simp only [List.mem_cons, List.not_mem_nil, or_false, forall_eq_or_imp, forall_eq]; exact ⟨by kernel_rfl, of_decide_eq_true (by kernel_rfl)⟩) rfl (by kernel_rfl) rfl (fun ds hds => by
  have hds : ds.length = 1 := hds
  match ds, hds with
  | [d0], _ => rfl) hW' (ts := [.xv v0 (.s none (byt x0))]) (by simp only [FzL]; exact ⟨_, _, rfl, f0, rfl⟩) (FnMarriages_ok v0 x0 a0 b0)
set_option maxHeartbeats 4000000 in
theorem FnMarriages_holds : Rows.FnMarriagesSaid :=
 OpenClaim.holds_of_wide (p := Try.pinned) (s := Rows.fnMarriagesSpec) (c := Rows.fnMarriagesRow) 8 Try.f8 rfl rfl rfl rfl rfl rfl rfl ⟨rfl, rfl, rfl, rfl, rfl⟩ rfl rfl rfl rfl rfl (by as_aux_lemma => kernel_rfl) Try.func8 (joined_of pfacts rfl rfl rfl (by as_aux_lemma => kernel_rfl) (by as_aux_lemma => kernel_rfl) (by as_aux_lemma => kernel_rfl) (by as_aux_lemma => kernel_rfl) (by as_aux_lemma => kernel_rfl) (by as_aux_lemma => kernel_rfl) (by as_aux_lemma => kernel_rfl) (by as_aux_lemma => kernel_rfl) (by as_aux_lemma => kernel_rfl) (by as_aux_lemma => kernel_rfl) (by as_aux_lemma => kernel_rfl) (by as_aux_lemma => kernel_rfl) (by as_aux_lemma => kernel_rfl) (by as_aux_lemma => kernel_rfl) (by as_aux_lemma => kernel_rfl) (by as_aux_lemma => kernel_rfl) (by as_aux_lemma => kernel_rfl) (by as_aux_lemma => kernel_rfl) (by as_aux_lemma => kernel_rfl) (by as_aux_lemma => kernel_rfl) (by as_aux_lemma => kernel_rfl) (by as_aux_lemma => kernel_rfl) (by as_aux_lemma => kernel_rfl))
  (of_decide_eq_true (by kernel_rfl)) (by unfold Func.isWrapper; rw [if_neg (of_decide_eq_false (by kernel_rfl))]; exact ⟨rfl, rfl⟩)
  (fun os started H enc _ => FnMarriages_lifted os started H enc)
end Go.Proofs.Ytgdpplhbblapgaa
