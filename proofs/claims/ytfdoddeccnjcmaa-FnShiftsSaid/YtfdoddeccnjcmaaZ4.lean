/- At every input the law below returns true and leaves its argument alone: a divisor never takes a seat from a party when there are more seats, when it grows, or when another party joins. No condition. -/
import Derived.Test.YtfdoddeccnjcmaaRows
import Derived.Test.YtfdoddeccnjcmaaShiftm
import Derived.Test.YtfdoddeccnjcmaaHamq
import Derived.Test.YtfdoddeccnjcmaaCdraw
import Derived.Test.YtfdoddeccnjcmaaLawfn
import Derived.Test.YtfdoddeccnjcmaaFacts
import Derived.Test.YtfdoddeccnjcmaaMarks
namespace Go.Proofs.Ytfdoddeccnjcmaa
open Go Go.Vc
set_option maxRecDepth 100000
set_option linter.unusedSimpArgs false
set_option linter.unusedVariables false
open Go.ChangeShapes Go.WideShapes Go.RowKit
def K_impl_LastOf : List Nat := [0, 2]
def C_impl_LastOf : C :=
  let ks := K_impl_LastOf
  (.seq
   (.rg 0 [(none, .v 2 .mv [.k (.i 0)])])
   (.cl ks (.seq
   (.seq
   (.rg 0 [(none, .v 3 .mv [.s 0]), (none, .v 4 .len [.s 3]), (none, .v 5 (.bin .eql) [.s 4, .k (.i 0)])])
   (.cond (.s 5)
   (.seq
   (.rg 0 [(none, .v 2 .mv [.k (.i (-1))])])
   .ret)
   .skip))
   (.cl ks (.seq
   (.rg 0 [(none, .v 6 .mv [.s 0]), (none, .v 7 .mv [.s 0]), (none, .v 8 .len [.s 7]), (none, .v 9 (.bin .sub) [.s 8, .k (.i 1)]), (none, .v 10 .idx [.s 6, .s 9]), (none, .v 11 .ld [.s 10]), (none, .tk 2 11)])
   .ret)))))

theorem chk_impl_LastOf : ∃ b, Try.f72.body = some b ∧ chk Try.prog Try.f72.ntmps true C_impl_LastOf b = true := ⟨_, rfl, by kernel_rfl⟩
def K_impl_IsTied : List Nat := [0, 1, 2, 6, 7, 8, 9, 26, 27]
def C_impl_IsTied : C :=
  let ks := K_impl_IsTied
  (.seq
   (.rg 0 [(none, .v 6 .mv [.k (.b false)])])
   (.cl ks (.seq
   (.rg 0 [(none, .v 10 .mv [.s 0]), (none, .v 11 .mv [.s 1]), (none, .v 12 .mv [.s 2]), (none, .co 13 20 [.s 10, .s 11, .s 12]), (none, .tk 7 13)])
   (.cl ks (.seq
   (.seq
   (.rg 0 [(none, .v 14 .mv [.s 7]), (none, .v 15 .nil [.s 14]), (none, .v 16 .mv [.s 15]), (some (16, false), .v 17 .mv [.s 2]), (some (16, false), .v 18 (.bin .eql) [.s 17, .k (.i 0)]), (none, .v 19 .pick [.s 16, .k (.b true), .s 18])])
   (.cond (.s 19)
   (.seq
   (.rg 0 [(none, .v 6 .mv [.k (.b false)])])
   .ret)
   .skip))
   (.cl ks (.seq
   (.rg 0 [(none, .v 20 .mv [.s 0]), (none, .v 21 .mv [.s 1]), (none, .v 22 .mv [.s 2]), (none, .co 23 73 [.s 20, .s 21, .s 22]), (none, .co 24 72 [.s 23]), (none, .tk 8 24)])
   (.cl ks (.seq
   (.seq
   (.rg 0 [(none, .v 25 .mv [.s 1]), (none, .v 26 .len [.s 25]), (none, .v 27 .mv [.k (.i 0)])])
   (.cl ks (.block 0
   (.loop
   (.seq
   (.rg 0 [(none, .v 28 (.bin .lss) [.s 27, .s 26])])
   (.seq
   (.cond (.s 28)
   .skip
   (.exit 0))
   (.cl ks (.seq
   (.block 1
   (.seq
   (.rg 0 [(none, .v 29 .mv [.s 27]), (none, .tk 9 29)])
   (.cl ks (.seq
   (.rg 22 [(none, .v 30 .mv [.s 9]), (none, .v 31 .mv [.s 8]), (none, .v 32 (.bin .neq) [.s 30, .s 31]), (none, .v 33 .mv [.s 32]), (some (33, true), .v 34 .mv [.s 0]), (some (33, true), .v 35 .mv [.s 1]), (some (33, true), .v 36 .mv [.s 9]), (some (33, true), .v 37 .idx [.s 35, .s 36]), (some (33, true), .v 38 .ld [.s 37]), (some (33, true), .v 39 .mv [.s 7]), (some (33, true), .v 40 .mv [.s 9]), (some (33, true), .v 41 .idx [.s 39, .s 40]), (some (33, true), .v 42 .ld [.s 41]), (some (33, true), .v 43 .mv [.s 1]), (some (33, true), .v 44 .mv [.s 8]), (some (33, true), .v 45 .idx [.s 43, .s 44]), (some (33, true), .v 46 .ld [.s 45]), (some (33, true), .v 47 .mv [.s 7]), (some (33, true), .v 48 .mv [.s 8]), (some (33, true), .v 49 .idx [.s 47, .s 48]), (some (33, true), .v 50 .ld [.s 49]), (some (33, true), .v 51 (.bin .sub) [.s 50, .k (.i 1)]), (some (33, true), .co 52 74 [.s 34, .s 38, .s 42, .s 46, .s 51]), (some (33, true), .v 53 (.bin .eql) [.s 52, .k (.i 0)]), (none, .v 54 .pick [.s 33, .s 53, .k (.b false)])])
   (.cond (.s 54)
   (.seq
   (.rg 0 [(none, .v 6 .mv [.k (.b true)])])
   .ret)
   .skip)))))
   (.cl ks (.rg 0 [(none, .v 55 (.bin .add) [.s 27, .k (.i 1)]), (none, .v 27 .mv [.s 55])]))))))))))
   (.cl ks (.seq
   (.rg 0 [(none, .v 6 .mv [.k (.b false)])])
   .ret)))))))))))

theorem chk_impl_IsTied : ∃ b, Try.f15.body = some b ∧ chk Try.prog Try.f15.ntmps true C_impl_IsTied b = true := ⟨_, rfl, by kernel_rfl⟩
def K_laws_same : List Nat := [0, 1, 4, 5, 6, 12, 13, 14]
def C_laws_same : C :=
  let ks := K_laws_same
  (.seq
   (.rg 0 [(none, .v 4 .mv [.k (.b false)])])
   (.cl ks (.seq
   (.seq
   (.rg 0 [(none, .v 7 .mv [.s 0]), (none, .v 8 .len [.s 7]), (none, .v 9 .mv [.s 1]), (none, .v 10 .len [.s 9]), (none, .v 11 (.bin .neq) [.s 8, .s 10])])
   (.cond (.s 11)
   (.seq
   (.rg 0 [(none, .v 4 .mv [.k (.b false)])])
   .ret)
   .skip))
   (.cl ks (.seq
   (.seq
   (.rg 0 [(none, .v 12 .mv [.s 0]), (none, .v 13 .len [.s 12]), (none, .v 14 .mv [.k (.i 0)])])
   (.cl ks (.block 0
   (.loop
   (.seq
   (.rg 0 [(none, .v 15 (.bin .lss) [.s 14, .s 13])])
   (.seq
   (.cond (.s 15)
   .skip
   (.exit 0))
   (.cl ks (.seq
   (.block 1
   (.seq
   (.rg 0 [(none, .v 16 .mv [.s 14]), (none, .v 17 .idx [.s 12, .s 14]), (none, .v 18 .ld [.s 17]), (none, .tk 5 16), (none, .tk 6 18)])
   (.cl ks (.seq
   (.rg 0 [(none, .v 19 .mv [.s 6]), (none, .v 20 .mv [.s 1]), (none, .v 21 .mv [.s 5]), (none, .v 22 .idx [.s 20, .s 21]), (none, .v 23 .ld [.s 22]), (none, .v 24 (.bin .neq) [.s 19, .s 23])])
   (.cond (.s 24)
   (.seq
   (.rg 0 [(none, .v 4 .mv [.k (.b false)])])
   .ret)
   .skip)))))
   (.cl ks (.rg 0 [(none, .v 25 (.bin .add) [.s 14, .k (.i 1)]), (none, .v 14 .mv [.s 25])]))))))))))
   (.cl ks (.seq
   (.rg 0 [(none, .v 4 .mv [.k (.b true)])])
   .ret)))))))

theorem chk_laws_same : ∃ b, Try.f17.body = some b ∧ chk Try.prog Try.f17.ntmps true C_laws_same b = true := ⟨_, rfl, by kernel_rfl⟩
def K_laws_FnShifts : List Nat := [0, 2, 3, 4, 5, 6, 7, 8, 9, 10, 11, 12, 13, 14, 15, 16, 33, 34]
def C_laws_FnShifts : C :=
  let ks := K_laws_FnShifts
  (.seq
   (.rg 0 [(none, .v 2 .mv [.k (.b false)])])
   (.cl ks (.seq
   (.seq
   (.rg 0 [(none, .v 17 .mv [.s 0]), (none, .v 18 .len [.s 17]), (none, .v 19 (.bin .gtr) [.s 18, .k (.i 1048576)])])
   (.cond (.s 19)
   (.seq
   (.rg 0 [(none, .v 2 .mv [.k (.b true)])])
   .ret)
   .skip))
   (.cl ks (.seq
   (.rg 0 [(none, .v 20 .mv [.s 0]), (none, .co 21 8 [.s 20, .k (.i 0)]), (none, .tk 3 21)])
   (.cl ks (.seq
   (.rg 0 [(none, .v 22 .mv [.s 0]), (none, .co 23 9 [.s 22, .k (.i 40)]), (none, .v 24 (.bin .rem) [.s 23, .k (.i 20)]), (none, .tk 4 24)])
   (.cl ks (.seq
   (.rg 0 [(none, .v 25 .mv [.s 0]), (none, .co 26 9 [.s 25, .k (.i 42)]), (none, .v 27 (.bin .rem) [.s 26, .k (.i 5)]), (none, .v 28 (.bin .add) [.k (.i 1), .s 27]), (none, .tk 5 28)])
   (.cl ks (.seq
   (.rg 0 [(none, .lit 29 [] 0), (none, .v 30 .mv [.s 3]), (none, .app 31 (.s 29) (.s 30) 0), (none, .tk 6 31)])
   (.cl ks (.seq
   (.seq
   (.rg 0 [(none, .v 32 .mv [.s 6]), (none, .v 33 .len [.s 32]), (none, .v 34 .mv [.k (.i 0)])])
   (.cl ks (.block 0
   (.loop
   (.seq
   (.rg 0 [(none, .v 35 (.bin .lss) [.s 34, .s 33])])
   (.seq
   (.cond (.s 35)
   .skip
   (.exit 0))
   (.cl ks (.seq
   (.block 1
   (.seq
   (.rg 0 [(none, .v 36 .mv [.s 34]), (none, .tk 7 36)])
   (.cl ks (.rg 14 [(none, .v 37 .mv [.s 6]), (none, .v 38 .mv [.s 7]), (none, .v 39 .mv [.s 6]), (none, .v 40 .mv [.s 7]), (none, .v 41 .idx [.s 39, .s 40]), (none, .v 42 .ld [.s 41]), (none, .v 43 .mv [.s 0]), (none, .v 44 .mv [.s 7]), (none, .v 45 (.bin .add) [.k (.i 44), .s 44]), (none, .v 46 (.call 9) [.s 43, .s 45]), (none, .v 47 (.bin .rem) [.s 46, .k (.i 9)]), (none, .v 48 (.bin .add) [.s 42, .s 47]), (none, .v 49 (.bin .sub) [.s 48, .k (.i 4)]), (none, .v 50 .mx [.k (.i 0), .s 49]), (none, .v 51 .idx [.s 37, .s 38]), (none, .st (.s 51) (.s 50))]))))
   (.cl ks (.rg 0 [(none, .v 52 (.bin .add) [.s 34, .k (.i 1)]), (none, .v 34 .mv [.s 52])]))))))))))
   (.cl ks (.seq
   (.rg 0 [(none, .v 54 .mv [.s 5]), (none, .v 55 .mv [.s 3]), (none, .v 56 .mv [.s 6]), (none, .v 57 .mv [.s 4]), (none, .co 58 10 [.s 54, .s 55, .s 56, .s 57]), (none, .tk 53 58), (none, .tk 59 100053), (none, .tk 60 101053), (none, .tk 8 59), (none, .tk 9 60)])
   (.cl ks (.seq
   (.seq
   (.rg 0 [(none, .v 61 .mv [.s 5]), (none, .v 62 .mv [.s 3]), (none, .co 63 11 [.s 61, .s 62, .k (.i 20)]), (none, .v 64 (.bin .neq) [.s 63, .k (.i (-1))]), (none, .v 65 .mv [.s 64]), (some (65, false), .v 66 .mv [.s 5]), (some (65, false), .v 67 .mv [.s 3]), (some (65, false), .v 68 .mv [.s 4]), (some (65, false), .co 69 12 [.s 66, .s 67, .s 68]), (some (65, false), .v 70 (.bin .neq) [.s 69, .k (.i (-1))]), (none, .v 71 .pick [.s 65, .k (.b true), .s 70]), (none, .v 72 .mv [.s 71]), (some (72, false), .v 73 .mv [.s 8]), (some (72, false), .v 74 (.bin .neq) [.s 73, .k (.i (-1))]), (none, .v 75 .pick [.s 72, .k (.b true), .s 74]), (none, .v 76 .mv [.s 75]), (some (76, false), .v 77 .mv [.s 9]), (some (76, false), .v 78 (.bin .neq) [.s 77, .k (.i (-1))]), (none, .v 79 .pick [.s 76, .k (.b true), .s 78]), (none, .v 80 .mv [.s 79]), (some (80, false), .v 81 .mv [.s 5]), (some (80, false), .v 82 .mv [.s 3]), (some (80, false), .v 83 .mv [.s 4]), (some (80, false), .v 84 .mv [.s 0]), (some (80, false), .co 85 9 [.s 84, .k (.i 60)]), (some (80, false), .v 86 (.bin .rem) [.s 85, .k (.i 60)]), (some (80, false), .v 87 .mv [.s 0]), (some (80, false), .co 88 9 [.s 87, .k (.i 62)]), (some (80, false), .v 89 (.bin .rem) [.s 88, .k (.i 6)]), (some (80, false), .co 90 13 [.s 81, .s 82, .s 83, .s 86, .s 89]), (none, .v 91 .pick [.s 80, .k (.b true), .s 90])])
   (.cond (.s 91)
   (.seq
   (.rg 0 [(none, .v 2 .mv [.k (.b false)])])
   .ret)
   .skip))
   (.cl ks (.seq
   (.rg 0 [(none, .v 92 .mv [.s 0]), (none, .co 93 9 [.s 92, .k (.i 64)]), (none, .v 94 .mv [.s 3]), (none, .v 95 .len [.s 94]), (none, .v 96 (.bin .rem) [.s 93, .s 95]), (none, .tk 10 96)])
   (.cl ks (.seq
   (.rg 7 [(none, .v 97 .mv [.s 0]), (none, .v 98 (.call 9) [.s 97, .k (.i 66)]), (none, .v 99 .mv [.s 3]), (none, .v 100 .mv [.s 10]), (none, .v 101 .idx [.s 99, .s 100]), (none, .v 102 .ld [.s 101]), (none, .v 103 (.bin .add) [.s 102, .k (.i 1)]), (none, .v 104 (.bin .rem) [.s 98, .s 103]), (none, .tk 11 104)])
   (.cl ks (.seq
   (.rg 0 [(none, .v 106 .mv [.s 3]), (none, .v 107 .mv [.s 4]), (none, .v 108 .mv [.s 10]), (none, .v 109 .mv [.s 11]), (none, .co 110 14 [.k (.i 5), .s 106, .s 107, .s 108, .s 109]), (none, .tk 105 110), (none, .tk 111 100105), (none, .tk 112 101105), (none, .tk 12 111), (none, .tk 13 112)])
   (.cl ks (.seq
   (.rg 0 [(none, .v 114 .mv [.s 3]), (none, .v 115 .mv [.s 4]), (none, .v 116 (.bin .add) [.s 115, .k (.i 6)]), (none, .v 117 .mv [.s 10]), (none, .v 118 .mv [.s 11]), (none, .co 119 14 [.k (.i 1), .s 114, .s 116, .s 117, .s 118]), (none, .tk 113 119), (none, .tk 120 100113), (none, .tk 121 101113), (none, .tk 14 120), (none, .tk 15 121)])
   (.cl ks (.seq
   (.seq
   (.rg 0 [(none, .v 122 .mv [.s 13]), (none, .v 123 .mv [.s 122]), (some (123, true), .v 124 .mv [.s 12]), (some (123, true), .v 125 (.bin .gtr) [.s 124, .k (.i 0)]), (none, .v 126 .pick [.s 123, .s 125, .k (.b false)]), (none, .v 127 .mv [.s 126]), (some (127, true), .v 128 .mv [.s 3]), (some (127, true), .v 129 .mv [.s 4]), (some (127, true), .co 130 15 [.k (.i 5), .s 128, .s 129]), (some (127, true), .v 131 .not [.s 130]), (none, .v 132 .pick [.s 127, .s 131, .k (.b false)]), (none, .v 133 .mv [.s 132]), (some (133, false), .v 134 .mv [.s 15]), (some (133, false), .v 135 .mv [.s 134]), (some (135, true), .v 136 .mv [.s 14]), (some (135, true), .v 137 (.bin .lss) [.s 136, .k (.i 0)]), (some (133, false), .v 138 .pick [.s 135, .s 137, .k (.b false)]), (some (133, false), .v 139 .mv [.s 138]), (some (139, true), .v 140 .mv [.s 3]), (some (139, true), .v 141 .mv [.s 4]), (some (139, true), .v 142 (.bin .add) [.s 141, .k (.i 6)]), (some (139, true), .co 143 15 [.k (.i 1), .s 140, .s 142]), (some (139, true), .v 144 .not [.s 143]), (some (133, false), .v 145 .pick [.s 139, .s 144, .k (.b false)]), (none, .v 146 .pick [.s 133, .k (.b true), .s 145])])
   (.cond (.s 146)
   (.seq
   (.rg 0 [(none, .v 2 .mv [.k (.b false)])])
   .ret)
   .skip))
   (.cl ks (.seq
   (.rg 0 [(none, .v 147 .mv [.s 5]), (none, .v 148 .mv [.s 3]), (none, .co 149 16 [.s 147, .s 148, .k (.i 5)]), (none, .tk 16 149)])
   (.cl ks (.seq
   (.rg 32 [(none, .v 150 .mv [.s 13]), (none, .v 151 .mv [.s 150]), (some (151, true), .v 152 .mv [.s 15]), (none, .v 153 .pick [.s 151, .s 152, .k (.b false)]), (none, .v 154 .mv [.s 153]), (some (154, true), .v 155 .mv [.s 16]), (some (154, true), .v 156 .len [.s 155]), (some (154, true), .v 157 (.bin .eql) [.s 156, .k (.i 6)]), (none, .v 158 .pick [.s 154, .s 157, .k (.b false)]), (none, .v 159 .mv [.s 158]), (some (159, true), .v 160 .mv [.s 16]), (some (159, true), .v 161 .idx [.s 160, .k (.i 0)]), (some (159, true), .v 162 .ld [.s 161]), (some (159, true), .v 163 .mv [.s 3]), (some (159, true), .v 164 .len [.s 163]), (some (159, true), .v 165 (.mkF (.i 0)) [.s 164, .s 164]), (some (159, true), .v 166 (.call 17) [.s 162, .s 165]), (none, .v 167 .pick [.s 159, .s 166, .k (.b false)]), (none, .v 168 .mv [.s 167]), (some (168, true), .v 169 .mv [.s 3]), (some (168, true), .v 170 .mv [.s 4]), (some (168, true), .v 171 (.call 18) [.k (.i 0), .s 169, .s 170]), (some (168, true), .v 172 (.bin .eql) [.s 171, .k (.i (-1))]), (none, .v 173 .pick [.s 168, .s 172, .k (.b false)]), (none, .v 174 .mv [.s 173]), (some (174, true), .v 175 .mv [.s 5]), (some (174, true), .v 176 .mv [.s 3]), (some (174, true), .v 177 .mv [.s 4]), (some (174, true), .v 178 (.call 19) [.s 175, .s 176, .s 177]), (some (174, true), .v 179 .mv [.s 5]), (some (174, true), .v 180 .mv [.s 3]), (some (174, true), .v 181 .mv [.s 4]), (some (174, true), .co 182 20 [.s 179, .s 180, .s 181]), (some (174, true), .co 183 17 [.s 178, .s 182]), (none, .v 184 .pick [.s 174, .s 183, .k (.b false)]), (none, .v 185 .mv [.s 184]), (some (185, true), .lit 186 [.k (.i 6), .k (.i 6), .k (.i 2)] 0), (some (185, true), .co 187 11 [.k (.i 0), .s 186, .k (.i 20)]), (some (185, true), .v 188 (.bin .eql) [.s 187, .k (.i 3)]), (none, .v 189 .pick [.s 185, .s 188, .k (.b false)]), (none, .tk 2 189)])
   .ret)))))))))))))))))))))))))))))))

theorem chk_laws_FnShifts : ∃ b, Try.f3.body = some b ∧ chk Try.prog Try.f3.ntmps true C_laws_FnShifts b = true := ⟨_, rfl, by kernel_rfl⟩
theorem laws_same_ok {n1 n2 : Option Bool} (a b : List Int) (hl : a.length ≤ 1048576) : CallOk Try.prog 17 [.s n1 (ii a), .s n2 (ii b)] [(0, .b (decide (a = b)))] := by
  obtain ⟨code0, hcd1, hcd2⟩ := chk_laws_same; refine callOk_of Try.func17 hcd1 mo Try.call17 (rs := [4]) (by kernel_rfl) hcd2 (by rw [Try.ntmps17]; simp) (by simp) (by decide) ?_; unfold C_laws_same K_laws_same; simp (config := { maxSteps := 2000000 }) only [go_sem, Nat.reduceBEq, Nat.reduceAdd, Nat.reduceMul, Nat.reduceMod, Nat.reduceLT, Nat.reduceDiv, Nat.reduceSub, Nat.reduceLeDiff, Int.reduceToNat, Int.reduceLT, Int.reduceLE, reduceCtorEq, List.take_nil, List.drop_nil]
  refine ⟨fun h => ?_, fun hab => ?_⟩
  · have : ¬ a = b := fun e => h (by rw [e])
    simp [this]
  refine loopN a.length (fun j => [(0, .t .arg (.s n1 (ii a))), (1, .t .arg (.s n2 (ii b))), (12, .t .arg (.s n1 (ii a))), (13, .i a.length), (14, .i (j : Nat))]) (fun j => a.take j = b.take j) ⟨rfl, by simp (config := { maxSteps := 2000000 }) only [go_sem, Nat.reduceBEq, Nat.reduceAdd, Nat.reduceMul, Nat.reduceMod, Nat.reduceLT, Nat.reduceDiv, Nat.reduceSub, Nat.reduceLeDiff, Int.reduceToNat, Int.reduceLT, Int.reduceLE, reduceCtorEq, List.take_nil, List.drop_nil]; simp⟩ fun j hj he => ?_
  simp (config := { maxSteps := 2000000 }) only [go_sem, Nat.reduceBEq, Nat.reduceAdd, Nat.reduceMul, Nat.reduceMod, Nat.reduceLT, Nat.reduceDiv, Nat.reduceSub, Nat.reduceLeDiff, Int.reduceToNat, Int.reduceLT, Int.reduceLE, reduceCtorEq, List.take_nil, List.drop_nil]
  refine ⟨fun hlt => ?_, fun hge => ?_⟩
  · refine ⟨by omega, by omega, by omega, by omega, by omega, by omega, fun hn => ?_, fun hn => ⟨inR_of (by omega) (by omega), by omega, ?_, by simp⟩⟩
    · have : ¬ a = b := fun e => hn (by rw [e])
      simp [this]
    · rw [take_getD 0 (show j < a.length by omega), take_getD 0 (show j < b.length by omega), he, hn]
  · have : j = a.length := by omega
    subst this
    have : a = b := by rw [List.take_length, hab, List.take_length] at he; exact he
    simp [this]
theorem impl_LastOf_ok {n1 : Option Bool} (l : List Int) (hl : l.length ≤ 1048576) (h0 : 0 < l.length) : CallOk Try.prog 72 [.s n1 (ii l)] [(0, .i (l.getD (l.length - 1) 0))] := by
  obtain ⟨code0, hcd1, hcd2⟩ := chk_impl_LastOf; refine callOk_of Try.func72 hcd1 mo Try.call72 (rs := [2]) (by kernel_rfl) hcd2 (by rw [Try.ntmps72]; simp) (by simp) (by decide) ?_; unfold C_impl_LastOf K_impl_LastOf; simp (config := { maxSteps := 2000000 }) only [go_sem, Nat.reduceBEq, Nat.reduceAdd, Nat.reduceMul, Nat.reduceMod, Nat.reduceLT, Nat.reduceDiv, Nat.reduceSub, Nat.reduceLeDiff, Int.reduceToNat, Int.reduceLT, Int.reduceLE, reduceCtorEq, List.take_nil, List.drop_nil]
  have e : ((l.length : Int) - 1).toNat = l.length - 1 := by omega
  rw [e]
  exact ⟨fun h => by omega, fun _ => ⟨inR_of (by omega) (by omega), by omega, by omega, by omega, rfl⟩⟩
theorem impl_By_yes {n1 : Option Bool} {m : Int} {cs : List Int} {n : Int} (hl : cs.length ≤ 1048576) (h : okB m cs n = true) : CallOk Try.prog 20 [.i m, .s n1 (ii cs), .i n] [(0, .own 1 none (ii (giveF m cs n)))] := by
  have := impl_SeatsBy_ok (n1 := n1) m cs n hl
  rw [h] at this
  have hm := okB_m h
  have e : giveF m cs n = byF m cs n := by unfold giveF; rw [if_neg (by omega)]
  rw [e]; exact this
theorem impl_IsTied_ok {n1 : Option Bool} (m : Int) (cs : List Int) (n : Int) (hl : cs.length ≤ 1048576) (h : okB m cs n = true) : CallOk Try.prog 15 [.i m, .s n1 (ii cs), .i n] [(0, .b (tiedB m cs n))] := by
  obtain ⟨code0, hcd1, hcd2⟩ := chk_impl_IsTied; refine callOk_of Try.func15 hcd1 mo Try.call15 (rs := [6]) (by kernel_rfl) hcd2 (by rw [Try.ntmps15]; simp) (by simp) (by decide) ?_; unfold C_impl_IsTied K_impl_IsTied; simp (config := { maxSteps := 2000000 }) only [go_sem, Nat.reduceBEq, Nat.reduceAdd, Nat.reduceMul, Nat.reduceMod, Nat.reduceLT, Nat.reduceDiv, Nat.reduceSub, Nat.reduceLeDiff, Int.reduceToNat, Int.reduceLT, Int.reduceLE, reduceCtorEq, List.take_nil, List.drop_nil]
  have A := okB_ask h
  have D := div_of h
  have l1 := A.l1
  have dl := D.len
  refine ⟨_, impl_By_yes hl h, ?_⟩; simp (config := { maxSteps := 2000000 }) only [go_sem, Nat.reduceBEq, Nat.reduceAdd, Nat.reduceMul, Nat.reduceMod, Nat.reduceLT, Nat.reduceDiv, Nat.reduceSub, Nat.reduceLeDiff, Int.reduceToNat, Int.reduceLT, Int.reduceLE, reduceCtorEq, List.take_nil, List.drop_nil]
  refine ⟨ii_ne (by omega), ?_⟩
  refine ⟨fun h0 => by simp [tiedB, h0], fun h0 => ?_⟩
  have n0 := A.n0
  have n1' := A.n1
  obtain ⟨lp1, lp2, _⟩ := last_least h (show 0 < n by omega)
  have eO : orderF m cs n = (ordS m cs n.toNat).1 := if_pos h
  have oll := (ordS_len (m := m) (cs := cs) (t := n.toNat)).1
  have eo := ordS_el (m := m) (cs := cs) l1 (t := n.toNat) _ (getD_mem (d := 0) (show n.toNat - 1 < (ordS m cs n.toNat).1.length by omega))
  have eL : (orderF m cs n).getD ((orderF m cs n).length - 1) 0 = (lastP m cs n : Int) := by
    unfold lastP
    rw [eO, oll]
    omega
  refine ⟨_, impl_SeatOrder_ok m cs n hl, ?_⟩; simp (config := { maxSteps := 2000000 }) only [go_sem, Nat.reduceBEq, Nat.reduceAdd, Nat.reduceMul, Nat.reduceMod, Nat.reduceLT, Nat.reduceDiv, Nat.reduceSub, Nat.reduceLeDiff, Int.reduceToNat, Int.reduceLT, Int.reduceLE, reduceCtorEq, List.take_nil, List.drop_nil]
  refine ⟨_, impl_LastOf_ok (orderF m cs n) (by rw [eO, oll]; omega) (by rw [eO, oll]; omega), ?_⟩; simp (config := { maxSteps := 2000000 }) only [go_sem, Nat.reduceBEq, Nat.reduceAdd, Nat.reduceMul, Nat.reduceMod, Nat.reduceLT, Nat.reduceDiv, Nat.reduceSub, Nat.reduceLeDiff, Int.reduceToNat, Int.reduceLT, Int.reduceLE, reduceCtorEq, List.take_nil, List.drop_nil]
  rw [eL]
  have key : tiedB m cs n = (List.range cs.length).any fun i => decide (i ≠ lastP m cs n) && decide (clmS m (cs.getD i 0) ((giveF m cs n).getD i 0) (cs.getD (lastP m cs n) 0) ((giveF m cs n).getD (lastP m cs n) 0 - 1) = 0) := by
    unfold tiedB
    rw [h, decide_eq_true (show n ≠ 0 from h0)]; rfl
  rw [key]
  have bd := D.bd
  generalize giveF m cs n = ss at *
  generalize lastP m cs n = L at *
  have cL := A.bd _ (getD_mem (d := 0) lp1)
  have sL := bd _ (getD_mem (d := 0) (show L < ss.length by omega))
  refine loopN cs.length (fun j => [(0, .i m), (1, .t .arg (.s n1 (ii cs))), (2, .i n), (7, .own 1 none (ii ss)), (8, .i L), (26, .i cs.length), (27, .i (j : Nat))]) (fun j => ∀ i, i < j → (decide (i ≠ L) && decide (clmS m (cs.getD i 0) (ss.getD i 0) (cs.getD L 0) (ss.getD L 0 - 1) = 0)) = false) ⟨fun i hi => by omega, by simp (config := { maxSteps := 2000000 }) only [go_sem, Nat.reduceBEq, Nat.reduceAdd, Nat.reduceMul, Nat.reduceMod, Nat.reduceLT, Nat.reduceDiv, Nat.reduceSub, Nat.reduceLeDiff, Int.reduceToNat, Int.reduceLT, Int.reduceLE, reduceCtorEq, List.take_nil, List.drop_nil]; simp⟩ fun j hj hI => ?_
  simp (config := { maxSteps := 2000000 }) only [go_sem, Nat.reduceBEq, Nat.reduceAdd, Nat.reduceMul, Nat.reduceMod, Nat.reduceLT, Nat.reduceDiv, Nat.reduceSub, Nat.reduceLeDiff, Int.reduceToNat, Int.reduceLT, Int.reduceLE, reduceCtorEq, List.take_nil, List.drop_nil]
  refine ⟨fun hlt => ?_, fun hge => ?_⟩
  · have hj' : j < cs.length := by omega
    have cj := A.bd _ (getD_mem (d := 0) hj')
    have sj := bd _ (getD_mem (d := 0) (show j < ss.length by omega))
    refine ⟨fun hne => ⟨by omega, hj', hj', by omega, by omega, by omega, by omega, lp1, lp1, by omega, by omega, by omega, inR_of (by omega) (by omega), ?_⟩, fun he => ?_⟩
    · refine ⟨_, impl_compareClaims_ok m (cs.getD j 0) (ss.getD j 0) (cs.getD L 0) (ss.getD L 0 - 1) cj.1 cj.2 cL.1 cL.2 sj.1 sj.2 (by omega) (by omega), ?_⟩; simp (config := { maxSteps := 2000000 }) only [go_sem, Nat.reduceBEq, Nat.reduceAdd, Nat.reduceMul, Nat.reduceMod, Nat.reduceLT, Nat.reduceDiv, Nat.reduceSub, Nat.reduceLeDiff, Int.reduceToNat, Int.reduceLT, Int.reduceLE, reduceCtorEq, List.take_nil, List.drop_nil]
      refine ⟨fun hz => ?_, fun hz => ⟨inR_of (by omega) (by omega), hj', fun i hi => ?_, by simp⟩⟩
      · symm
        rw [List.any_eq_true]
        exact ⟨j, List.mem_range.2 hj', by rw [decide_eq_true hz, decide_eq_true (show j ≠ L by omega)]; rfl⟩
      · by_cases e : i = j
        · subst e; rw [decide_eq_false hz, Bool.and_false]
        · exact hI i (by omega)
    · refine ⟨inR_of (by omega) (by omega), hj', fun i hi => ?_, by simp⟩
      by_cases e : i = j
      · subst e
        have : ¬ i ≠ L := by omega
        rw [decide_eq_false this, Bool.false_and]
      · exact hI i (by omega)
  · have : j = cs.length := by omega
    subst this
    symm
    rw [List.any_eq_false]
    intro i hi
    rw [hI i (List.mem_range.1 hi)]; simp
theorem cutG {G H : Prop} (f : G → H) (g : G) : H := f g
theorem rep0 {k i : Nat} : (List.replicate k (0 : Int)).getD i 0 = 0 := by
  simp [List.getD, List.getElem?_replicate]; split <;> rfl
theorem splV_zero {m : Int} {cs : List Int} {a p : Int} (h : okB m cs 0 = true) (hs : splB m cs 0 a p = true) : splV m cs 0 a p = 0 := by
  have hg := splt_give hs
  rw [giveB_ok (okB_m h)] at hg
  unfold splV
  rw [if_pos hs, giveF_ord h, giveF_ord hg]
  simp only [Int.toNat_zero, ordS, rep0]
  rfl
/-- Counts, of which the first j have grown or shrunk. -/
def growJ (cs : List Int) (X : Nat → Int) (j : Nat) : List Int := (List.range cs.length).map fun i => if i < j then max 0 (cs.getD i 0 + (X i).tmod 9 - 4) else cs.getD i 0
theorem growJ_len {cs : List Int} {X : Nat → Int} {j : Nat} : (growJ cs X j).length = cs.length := by simp [growJ]
theorem growJ_get {cs : List Int} {X : Nat → Int} {j i : Nat} (hi : i < cs.length) : (growJ cs X j).getD i 0 = if i < j then max 0 (cs.getD i 0 + (X i).tmod 9 - 4) else cs.getD i 0 := by
  simp [growJ, List.getD, hi]
theorem growJ0 {cs : List Int} {X : Nat → Int} : growJ cs X 0 = cs := by
  refine List.ext_getElem (by simp [growJ]) fun i h1 h2 => ?_
  have := growJ_get (X := X) (j := 0) h2
  rw [if_neg (by omega)] at this
  simpa [List.getD, h1, h2] using this
theorem growJ_s {cs : List Int} {X : Nat → Int} {j : Nat} (hj : j < cs.length) : (growJ cs X j).set j (max 0 (cs.getD j 0 + (X j).tmod 9 - 4)) = growJ cs X (j + 1) := by
  refine List.ext_getElem (by simp [growJ]) fun i h1 h2 => ?_
  rw [growJ_len] at h2
  have e1 := growJ_get (X := X) (j := j) h2
  have e2 := growJ_get (X := X) (j := j + 1) h2
  have e3 : (growJ cs X j).getD i 0 = (growJ cs X j)[i]'(by rw [growJ_len]; exact h2) := by simp [List.getD, growJ_len, h2]
  have e4 : (growJ cs X (j + 1)).getD i 0 = (growJ cs X (j + 1))[i]'(by rw [growJ_len]; exact h2) := by simp [List.getD, growJ_len, h2]
  rw [List.getElem_set, ← e3, ← e4, e1, e2]
  by_cases e : j = i
  · subst e; simp
  · rw [if_neg e]
    by_cases h : i < j
    · rw [if_pos h, if_pos (by omega)]
    · rw [if_neg h, if_neg (by omega)]
set_option maxHeartbeats 4000000 in
theorem FnShifts_ok (u : Value) (l : List Int) (a : l.length ≤ 9223372036854775807) (hb : ∀ x ∈ l, 0 ≤ x ∧ x < 256) : CallOk Try.prog 3 [.xv u (.s none (byt l))] [(0, .b true)] := by
  obtain ⟨code0, hcd1, hcd2⟩ := chk_laws_FnShifts; refine callOk_of Try.func3 hcd1 mo Try.call3 (rs := [2]) (by kernel_rfl) hcd2 (by rw [Try.ntmps3]; simp) (by simp) (by decide) ?_; unfold C_laws_FnShifts K_laws_FnShifts; simp (config := { maxSteps := 2000000 }) only [go_sem, Nat.reduceBEq, Nat.reduceAdd, Nat.reduceMul, Nat.reduceMod, Nat.reduceLT, Nat.reduceDiv, Nat.reduceSub, Nat.reduceLeDiff, Int.reduceToNat, Int.reduceLT, Int.reduceLE, reduceCtorEq, List.take_nil, List.drop_nil]
  simp only [byt_len]
  refine ⟨fun _ => trivial, fun hlen => ?_⟩
  have C : CodeL l := ⟨by omega, hb⟩
  obtain ⟨cs, l1, l5, cb, cpos, W⟩ := spec_MakeCounts_ok u none C
  obtain ⟨x40, y0, y1, W40⟩ := spec_MakeNum_ok u none C (n := 40) (by omega) (by omega)
  obtain ⟨x42, y2, y3, W42⟩ := spec_MakeNum_ok u none C (n := 42) (by omega) (by omega)
  refine ⟨_, W, ?_⟩; simp (config := { maxSteps := 2000000 }) only [go_sem, Nat.reduceBEq, Nat.reduceAdd, Nat.reduceMul, Nat.reduceMod, Nat.reduceLT, Nat.reduceDiv, Nat.reduceSub, Nat.reduceLeDiff, Int.reduceToNat, Int.reduceLT, Int.reduceLE, reduceCtorEq, List.take_nil, List.drop_nil]
  refine ⟨_, W40, ?_⟩; simp (config := { maxSteps := 2000000 }) only [go_sem, Nat.reduceBEq, Nat.reduceAdd, Nat.reduceMul, Nat.reduceMod, Nat.reduceLT, Nat.reduceDiv, Nat.reduceSub, Nat.reduceLeDiff, Int.reduceToNat, Int.reduceLT, Int.reduceLE, reduceCtorEq, List.take_nil, List.drop_nil]
  refine ⟨by omega, ?_⟩
  refine ⟨_, W42, ?_⟩; simp (config := { maxSteps := 2000000 }) only [go_sem, Nat.reduceBEq, Nat.reduceAdd, Nat.reduceMul, Nat.reduceMod, Nat.reduceLT, Nat.reduceDiv, Nat.reduceSub, Nat.reduceLeDiff, Int.reduceToNat, Int.reduceLT, Int.reduceLE, reduceCtorEq, List.take_nil, List.drop_nil]
  have t40 := And.intro (Int.tmod_nonneg 20 y0) (Int.tmod_lt_of_pos x40 (show (0 : Int) < 20 by omega))
  have t42 := And.intro (Int.tmod_nonneg 5 y2) (Int.tmod_lt_of_pos x42 (show (0 : Int) < 5 by omega))
  generalize x40.tmod 20 = n at t40 ⊢
  obtain ⟨m, hmm⟩ : ∃ m, m = 1 + x42.tmod 5 := ⟨_, rfl⟩
  rw [← hmm]
  have hm : 1 ≤ m ∧ m ≤ 5 := by omega
  have hl : cs.length ≤ 1048576 := by omega
  have hask : ∀ k : Int, 0 ≤ k → k ≤ 100 → askB cs k = true := fun k k0 k1 => by
    simp only [askB, countsB, inI, Bool.and_eq_true, decide_eq_true_eq, List.all_eq_true]
    exact ⟨⟨⟨⟨by omega, by omega⟩, fun x hx => by have := cb x hx; omega⟩, cpos⟩, k0, k1⟩
  have hok : ∀ q k : Int, 1 ≤ q → q ≤ 5 → 0 ≤ k → k ≤ 100 → okB q cs k = true := fun q k q1 q5 k0 k1 => by
    simp only [okB, inI, Bool.and_eq_true, decide_eq_true_eq]
    exact ⟨⟨q1, q5⟩, hask k k0 k1⟩
  obtain ⟨X, hX⟩ := Classical.axiomOfChoice (fun i : Nat => show ∃ x : Int, i ≤ 5 → 0 ≤ x ∧ x ≤ 65535 ∧ CallOk Try.prog 9 [.xv u (.s none (byt l)), .i (44 + i)] [(0, .i x)] by
    by_cases hi : i ≤ 5
    · obtain ⟨x, x0, x1, Wx⟩ := spec_MakeNum_ok u none C (n := 44 + i) (by omega) (by omega)
      exact ⟨x, fun _ => ⟨x0, x1, Wx⟩⟩
    · exact ⟨0, fun h => absurd h hi⟩)
  refine ⟨by omega, inR_of (by omega) (by omega), by omega, ?_⟩
  refine loopN cs.length (fun j => [(0, .t .arg (.xv u (.s none (byt l)))), (2, .b false), (3, .own 1 none (ii cs)), (4, .i n), (5, .i m), (6, .own 1 none (ii (growJ cs X j))), (33, .i cs.length), (34, .i (j : Nat))]) (fun _ => True) ⟨trivial, by simp (config := { maxSteps := 2000000 }) only [go_sem, Nat.reduceBEq, Nat.reduceAdd, Nat.reduceMul, Nat.reduceMod, Nat.reduceLT, Nat.reduceDiv, Nat.reduceSub, Nat.reduceLeDiff, Int.reduceToNat, Int.reduceLT, Int.reduceLE, reduceCtorEq, List.take_nil, List.drop_nil, le_self]; simp [growJ0]⟩ fun j hj _ => ?_
  simp (config := { maxSteps := 2000000 }) only [go_sem, Nat.reduceBEq, Nat.reduceAdd, Nat.reduceMul, Nat.reduceMod, Nat.reduceLT, Nat.reduceDiv, Nat.reduceSub, Nat.reduceLeDiff, Int.reduceToNat, Int.reduceLT, Int.reduceLE, reduceCtorEq, List.take_nil, List.drop_nil, le_self]
  refine ⟨fun hlt => ?_, fun hge => ?_⟩
  · have hj' : j < cs.length := by omega
    obtain ⟨x0, x1, Wx⟩ := hX j (by omega)
    have tj := And.intro (Int.tmod_nonneg 9 x0) (Int.tmod_lt_of_pos (X j) (show (0 : Int) < 9 by omega))
    have cj := cb _ (getD_mem (d := 0) hj')
    have gl := growJ_len (cs := cs) (X := X) (j := j)
    have gg := growJ_get (X := X) (j := j) hj'
    rw [if_neg (Nat.lt_irrefl j)] at gg
    have gs := growJ_s (X := X) hj'
    refine ⟨by omega, by omega, by omega, inR_of (by omega) (by omega), ?_⟩
    rw [gg]
    refine ⟨_, Wx, ?_⟩; simp (config := { maxSteps := 2000000 }) only [go_sem, Nat.reduceBEq, Nat.reduceAdd, Nat.reduceMul, Nat.reduceMod, Nat.reduceLT, Nat.reduceDiv, Nat.reduceSub, Nat.reduceLeDiff, Int.reduceToNat, Int.reduceLT, Int.reduceLE, reduceCtorEq, List.take_nil, List.drop_nil]
    exact ⟨by omega, inR_of (by omega) (by omega), inR_of (by omega) (by omega), by omega, by omega, by omega, inR_of (by omega) (by omega), hj', gs, by simp⟩
  · have : j = cs.length := by omega
    subst this
    have gl := growJ_len (cs := cs) (X := X) (j := cs.length)
    generalize growJ cs X cs.length = ds at gl ⊢
    obtain ⟨ga, gk⟩ := gro_none (bs := cs) (cs := ds) (n := n) hm
    have cG : ∀ n1 n2, CallOk Try.prog 10 [.i m, .s n1 (ii cs), .s n2 (ii ds), .i n] [(0, .tp 2), (100000, .i (-1)), (101000, .i (-1))] := fun n1 n2 => by have := impl_LosesByGrowth_ok (n1 := n1) (n2 := n2) m cs ds n hl (by omega); rwa [ga, gk] at this
    have cF : ∀ n1, CallOk Try.prog 11 [.i m, .s n1 (ii cs), .i 20] [(0, .i (-1))] := fun n1 => by have := impl_FirstLoss_ok (n1 := n1) m cs 20 hl; rwa [fst_none (hok m 0 (by omega) (by omega) (by omega) (by omega))] at this
    have cL : ∀ n1, CallOk Try.prog 12 [.i m, .s n1 (ii cs), .i n] [(0, .i (-1))] := fun n1 => by have := impl_LosesByMore_ok (n1 := n1) m cs n hl; rwa [los_none (hok m n (by omega) (by omega) (by omega) (by omega)) (by omega)] at this
    obtain ⟨x60, z0, z1, W60⟩ := spec_MakeNum_ok u none C (n := 60) (by omega) (by omega)
    obtain ⟨x62, z2, z3, W62⟩ := spec_MakeNum_ok u none C (n := 62) (by omega) (by omega)
    have cN : ∀ n1 c q, CallOk Try.prog 13 [.i m, .s n1 (ii cs), .i n, .i c, .i q] [(0, .b false)] := fun n1 c q => by have := impl_ShiftsByNew_ok (n1 := n1) m cs n c q hl; rwa [new_none hm] at this
    refine ⟨_, cG _ _, ?_⟩; simp (config := { maxSteps := 2000000 }) only [go_sem, Nat.reduceBEq, Nat.reduceAdd, Nat.reduceMul, Nat.reduceMod, Nat.reduceLT, Nat.reduceDiv, Nat.reduceSub, Nat.reduceLeDiff, Int.reduceToNat, Int.reduceLT, Int.reduceLE, reduceCtorEq, List.take_nil, List.drop_nil]
    refine ⟨_, cF _, ?_⟩; simp (config := { maxSteps := 2000000 }) only [go_sem, Nat.reduceBEq, Nat.reduceAdd, Nat.reduceMul, Nat.reduceMod, Nat.reduceLT, Nat.reduceDiv, Nat.reduceSub, Nat.reduceLeDiff, Int.reduceToNat, Int.reduceLT, Int.reduceLE, reduceCtorEq, List.take_nil, List.drop_nil]
    simp (config := { maxSteps := 2000000 }) only [go_sem, Nat.reduceBEq, Nat.reduceAdd, Nat.reduceMul, Nat.reduceMod, Nat.reduceLT, Nat.reduceDiv, Nat.reduceSub, Nat.reduceLeDiff, Int.reduceToNat, Int.reduceLT, Int.reduceLE, reduceCtorEq, List.take_nil, List.drop_nil, not_true_eq_false, decide_false]
    refine ⟨_, cL _, ?_⟩; simp (config := { maxSteps := 2000000 }) only [go_sem, Nat.reduceBEq, Nat.reduceAdd, Nat.reduceMul, Nat.reduceMod, Nat.reduceLT, Nat.reduceDiv, Nat.reduceSub, Nat.reduceLeDiff, Int.reduceToNat, Int.reduceLT, Int.reduceLE, reduceCtorEq, List.take_nil, List.drop_nil]
    simp (config := { maxSteps := 2000000 }) only [go_sem, Nat.reduceBEq, Nat.reduceAdd, Nat.reduceMul, Nat.reduceMod, Nat.reduceLT, Nat.reduceDiv, Nat.reduceSub, Nat.reduceLeDiff, Int.reduceToNat, Int.reduceLT, Int.reduceLE, reduceCtorEq, List.take_nil, List.drop_nil, not_true_eq_false, decide_false]
    refine ⟨_, W60, ?_⟩; simp (config := { maxSteps := 2000000 }) only [go_sem, Nat.reduceBEq, Nat.reduceAdd, Nat.reduceMul, Nat.reduceMod, Nat.reduceLT, Nat.reduceDiv, Nat.reduceSub, Nat.reduceLeDiff, Int.reduceToNat, Int.reduceLT, Int.reduceLE, reduceCtorEq, List.take_nil, List.drop_nil]
    refine ⟨by omega, ?_⟩
    refine ⟨_, W62, ?_⟩; simp (config := { maxSteps := 2000000 }) only [go_sem, Nat.reduceBEq, Nat.reduceAdd, Nat.reduceMul, Nat.reduceMod, Nat.reduceLT, Nat.reduceDiv, Nat.reduceSub, Nat.reduceLeDiff, Int.reduceToNat, Int.reduceLT, Int.reduceLE, reduceCtorEq, List.take_nil, List.drop_nil]
    refine ⟨by omega, ?_⟩
    refine ⟨_, cN _ _ _, ?_⟩; simp (config := { maxSteps := 2000000 }) only [go_sem, Nat.reduceBEq, Nat.reduceAdd, Nat.reduceMul, Nat.reduceMod, Nat.reduceLT, Nat.reduceDiv, Nat.reduceSub, Nat.reduceLeDiff, Int.reduceToNat, Int.reduceLT, Int.reduceLE, reduceCtorEq, List.take_nil, List.drop_nil]
    obtain ⟨x64, z4, z5, W64⟩ := spec_MakeNum_ok u none C (n := 64) (by omega) (by omega)
    obtain ⟨x66, z6, z7, W66⟩ := spec_MakeNum_ok u none C (n := 66) (by omega) (by omega)
    have t64 := And.intro (Int.tmod_nonneg (cs.length : Int) z4) (Int.tmod_lt_of_pos x64 (show (0 : Int) < cs.length by omega))
    refine ⟨_, W64, ?_⟩; simp (config := { maxSteps := 2000000 }) only [go_sem, Nat.reduceBEq, Nat.reduceAdd, Nat.reduceMul, Nat.reduceMod, Nat.reduceLT, Nat.reduceDiv, Nat.reduceSub, Nat.reduceLeDiff, Int.reduceToNat, Int.reduceLT, Int.reduceLE, reduceCtorEq, List.take_nil, List.drop_nil]
    refine ⟨by omega, ?_⟩
    obtain ⟨A, hA⟩ : ∃ A : Nat, x64.tmod cs.length = A := ⟨(x64.tmod cs.length).toNat, by omega⟩
    rw [hA] at t64 ⊢
    have hAl : A < cs.length := by omega
    have cA := cb _ (getD_mem (d := 0) hAl)
    have t66 := And.intro (Int.tmod_nonneg (cs.getD A 0 + 1) z6) (Int.tmod_lt_of_pos x66 (show (0 : Int) < cs.getD A 0 + 1 by omega))
    refine ⟨_, W66, ?_⟩; simp (config := { maxSteps := 2000000 }) only [go_sem, Nat.reduceBEq, Nat.reduceAdd, Nat.reduceMul, Nat.reduceMod, Nat.reduceLT, Nat.reduceDiv, Nat.reduceSub, Nat.reduceLeDiff, Int.reduceToNat, Int.reduceLT, Int.reduceLE, reduceCtorEq, List.take_nil, List.drop_nil]
    refine ⟨by omega, hAl, hAl, inR_of (by omega) (by omega), by omega, ?_⟩
    generalize x66.tmod (cs.getD A 0 + 1) = p at t66 ⊢
    have sB : ∀ q k : Int, 1 ≤ q → q ≤ 5 → 0 ≤ k → k ≤ 100 → splB q cs k A p = true := fun q k q1 q5 k0 k1 => by
      simp only [splB, inI, Bool.and_eq_true, decide_eq_true_eq, Int.toNat_natCast]
      exact ⟨⟨⟨by rw [giveB_ok ⟨q1, q5⟩]; exact hok q k q1 q5 k0 k1, by omega, by omega⟩, by omega⟩, by omega, by omega⟩
    have cS : ∀ q k : Int, 1 ≤ q → q ≤ 5 → 0 ≤ k → k ≤ 100 → ∀ n1, CallOk Try.prog 14 [.i q, .s n1 (ii cs), .i k, .i A, .i p] [(0, .tp 2), (100000, .i (splV q cs k A p)), (101000, .b true)] := fun q k q1 q5 k0 k1 n1 => by
      have := impl_GainBySplit_ok (n1 := n1) q cs k (A : Int) p hl
      rwa [sB q k q1 q5 k0 k1] at this
    have cT5 : 0 < splV 5 cs n A p → ∀ n1, CallOk Try.prog 15 [.i 5, .s n1 (ii cs), .i n] [(0, .b true)] := fun hx n1 => by
      have hn : 0 < n := by
        refine Int.not_le.1 fun hle => ?_
        have e : n = 0 := by omega
        rw [e, splV_zero (hok 5 0 (by omega) (by omega) (by omega) (by omega)) (sB 5 0 (by omega) (by omega) (by omega) (by omega))] at hx
        omega
      have := impl_IsTied_ok (n1 := n1) 5 cs n hl (hok 5 n (by omega) (by omega) (by omega) (by omega))
      rwa [split_jeff (hok 5 n (by omega) (by omega) (by omega) (by omega)) hn (sB 5 n (by omega) (by omega) (by omega) (by omega)) hx] at this
    have cT1 : splV 1 cs (n + 6) A p < 0 → ∀ n1, CallOk Try.prog 15 [.i 1, .s n1 (ii cs), .i (n + 6)] [(0, .b true)] := fun hx n1 => by
      have := impl_IsTied_ok (n1 := n1) 1 cs (n + 6) hl (hok 1 (n + 6) (by omega) (by omega) (by omega) (by omega))
      rwa [split_adams (hok 1 (n + 6) (by omega) (by omega) (by omega) (by omega)) (by omega) (sB 1 (n + 6) (by omega) (by omega) (by omega) (by omega)) hx] at this
    refine ⟨_, cS 5 n (by omega) (by omega) (by omega) (by omega) _, ?_⟩; simp (config := { maxSteps := 2000000 }) only [go_sem, Nat.reduceBEq, Nat.reduceAdd, Nat.reduceMul, Nat.reduceMod, Nat.reduceLT, Nat.reduceDiv, Nat.reduceSub, Nat.reduceLeDiff, Int.reduceToNat, Int.reduceLT, Int.reduceLE, reduceCtorEq, List.take_nil, List.drop_nil]
    refine ⟨inR_of (by omega) (by omega), ?_⟩
    refine ⟨_, cS 1 (n + 6) (by omega) (by omega) (by omega) (by omega) _, ?_⟩; simp (config := { maxSteps := 2000000 }) only [go_sem, Nat.reduceBEq, Nat.reduceAdd, Nat.reduceMul, Nat.reduceMod, Nat.reduceLT, Nat.reduceDiv, Nat.reduceSub, Nat.reduceLeDiff, Int.reduceToNat, Int.reduceLT, Int.reduceLE, reduceCtorEq, List.take_nil, List.drop_nil]
    have inn : inR (n + 6) := inR_of (by omega) (by omega)
    apply cutG
    · intro hG
      refine ⟨fun hx => ?_, fun hx => ?_⟩
      · refine ⟨_, cT5 hx _, ?_⟩; simp (config := { maxSteps := 2000000 }) only [go_sem, Nat.reduceBEq, Nat.reduceAdd, Nat.reduceMul, Nat.reduceMod, Nat.reduceLT, Nat.reduceDiv, Nat.reduceSub, Nat.reduceLeDiff, Int.reduceToNat, Int.reduceLT, Int.reduceLE, reduceCtorEq, List.take_nil, List.drop_nil]
        refine ⟨fun hy => ?_, fun hy => ?_⟩
        · refine ⟨inn, ?_⟩
          refine ⟨_, cT1 hy _, ?_⟩; simp (config := { maxSteps := 2000000 }) only [go_sem, Nat.reduceBEq, Nat.reduceAdd, Nat.reduceMul, Nat.reduceMod, Nat.reduceLT, Nat.reduceDiv, Nat.reduceSub, Nat.reduceLeDiff, Int.reduceToNat, Int.reduceLT, Int.reduceLE, reduceCtorEq, List.take_nil, List.drop_nil]
          exact hG
        · exact hG
      · refine ⟨fun hy => ?_, fun hy => ?_⟩
        · refine ⟨inn, ?_⟩
          refine ⟨_, cT1 hy _, ?_⟩; simp (config := { maxSteps := 2000000 }) only [go_sem, Nat.reduceBEq, Nat.reduceAdd, Nat.reduceMul, Nat.reduceMod, Nat.reduceLT, Nat.reduceDiv, Nat.reduceSub, Nat.reduceLeDiff, Int.reduceToNat, Int.reduceLT, Int.reduceLE, reduceCtorEq, List.take_nil, List.drop_nil]
          exact hG
        · exact hG
    have tF : tabF m cs 5 = tabL m cs 6 := if_pos ⟨by decide, by rw [giveB_ok hm]; exact hok m 0 (by omega) (by omega) (by omega) (by omega)⟩
    have t0 : (tabF m cs 5).getD 0 [] = List.replicate cs.length 0 := by
      rw [tF]
      have : (tabL m cs 6).getD 0 [] = giveF m cs 0 := by simp [tabL, List.getD]
      rw [this, giveF_ord (hok m 0 (by omega) (by omega) (by omega) (by omega))]
      rfl
    have tl : (tabF m cs 5).length = 6 := by rw [tF, tabL_len]
    have cZ : ∀ n1 n2, CallOk Try.prog 17 [.s n1 (ii (List.replicate cs.length 0)), .s n2 (ii (List.replicate cs.length 0))] [(0, .b true)] := fun n1 n2 => by
      have := laws_same_ok (n1 := n1) (n2 := n2) (List.replicate cs.length 0) (List.replicate cs.length 0) (by simp; omega)
      rwa [decide_eq_true rfl] at this
    have cB : ∀ n1, CallOk Try.prog 18 [.i 0, .s n1 (ii cs), .i n] [(0, .i (-1))] := fun n1 => by
      have := impl_BreaksQuota_ok (n1 := n1) 0 cs n hl
      rwa [brk_none] at this
    have hmn := hok m n (by omega) (by omega) (by omega) (by omega)
    have cE : ∀ n1 n2, CallOk Try.prog 17 [.s n1 (ii (giveF m cs n)), .s n2 (ii (giveF m cs n))] [(0, .b true)] := fun n1 n2 => by
      have := laws_same_ok (n1 := n1) (n2 := n2) (giveF m cs n) (giveF m cs n) (by have := (div_of hmn).len; omega)
      rwa [decide_eq_true rfl] at this
    have cH : ∀ n1, CallOk Try.prog 11 [.i 0, .s n1 (ii [6, 6, 2]), .i 20] [(0, .i 3)] := fun n1 => by
      have := impl_FirstLoss_ok (n1 := n1) 0 [6, 6, 2] 20 (by simp)
      rwa [fst_ham] at this
    refine ⟨_, impl_SeatTable_ok m cs 5 hl, ?_⟩; simp (config := { maxSteps := 2000000 }) only [go_sem, Nat.reduceBEq, Nat.reduceAdd, Nat.reduceMul, Nat.reduceMod, Nat.reduceLT, Nat.reduceDiv, Nat.reduceSub, Nat.reduceLeDiff, Int.reduceToNat, Int.reduceLT, Int.reduceLE, reduceCtorEq, List.take_nil, List.drop_nil]
    rw [t0]
    refine ⟨fun _ => ⟨by omega, by omega, by omega, by omega, ?_⟩, fun h => absurd (show ((tabF m cs 5).length : Int) = 6 by omega) h⟩
    refine ⟨_, cZ _ _, ?_⟩; simp (config := { maxSteps := 2000000 }) only [go_sem, Nat.reduceBEq, Nat.reduceAdd, Nat.reduceMul, Nat.reduceMod, Nat.reduceLT, Nat.reduceDiv, Nat.reduceSub, Nat.reduceLeDiff, Int.reduceToNat, Int.reduceLT, Int.reduceLE, reduceCtorEq, List.take_nil, List.drop_nil]
    refine ⟨_, cB _, ?_⟩; simp (config := { maxSteps := 2000000 }) only [go_sem, Nat.reduceBEq, Nat.reduceAdd, Nat.reduceMul, Nat.reduceMod, Nat.reduceLT, Nat.reduceDiv, Nat.reduceSub, Nat.reduceLeDiff, Int.reduceToNat, Int.reduceLT, Int.reduceLE, reduceCtorEq, List.take_nil, List.drop_nil]
    refine ⟨_, impl_Give_yes hl (by rw [giveB_ok hm]; exact hmn), ?_⟩; simp (config := { maxSteps := 2000000 }) only [go_sem, Nat.reduceBEq, Nat.reduceAdd, Nat.reduceMul, Nat.reduceMod, Nat.reduceLT, Nat.reduceDiv, Nat.reduceSub, Nat.reduceLeDiff, Int.reduceToNat, Int.reduceLT, Int.reduceLE, reduceCtorEq, List.take_nil, List.drop_nil]
    refine ⟨_, impl_By_yes hl hmn, ?_⟩; simp (config := { maxSteps := 2000000 }) only [go_sem, Nat.reduceBEq, Nat.reduceAdd, Nat.reduceMul, Nat.reduceMod, Nat.reduceLT, Nat.reduceDiv, Nat.reduceSub, Nat.reduceLeDiff, Int.reduceToNat, Int.reduceLT, Int.reduceLE, reduceCtorEq, List.take_nil, List.drop_nil]
    refine ⟨_, cE _ _, ?_⟩; simp (config := { maxSteps := 2000000 }) only [go_sem, Nat.reduceBEq, Nat.reduceAdd, Nat.reduceMul, Nat.reduceMod, Nat.reduceLT, Nat.reduceDiv, Nat.reduceSub, Nat.reduceLeDiff, Int.reduceToNat, Int.reduceLT, Int.reduceLE, reduceCtorEq, List.take_nil, List.drop_nil]
    have cH' : ∀ n1, CallOk Try.prog 11 [.i 0, .s n1 [.i 6, .i 6, .i 2], .i 20] [(0, .i 3)] := cH
    refine ⟨_, cH' _, ?_⟩; simp (config := { maxSteps := 2000000 }) only [go_sem, Nat.reduceBEq, Nat.reduceAdd, Nat.reduceMul, Nat.reduceMod, Nat.reduceLT, Nat.reduceDiv, Nat.reduceSub, Nat.reduceLeDiff, Int.reduceToNat, Int.reduceLT, Int.reduceLE, reduceCtorEq, List.take_nil, List.drop_nil]
theorem FnShifts_lifted (os : Os) (started : os.Started) (H : Type) (enc : TypeId × Value → H) :
    ReturnsInHanded {} Try.checked os 3 .any (Rows.fnShiftsSpec.pre6 enc Try.prog Try.f3 Rows.fnShiftsRow.domain false) (Rows.fnShiftsSpec.post enc Try.prog Try.f3 false true false false) := by
  refine returnsInHanded_of_change (C := Try.checked) ownk started (by as_aux_lemma => kernel_rfl) Try.func3
    (ChangeSpec.witness6 (enc := enc) (C := Try.checked) false ⟨#[], #[.slice none 0 0], []⟩ 8 (by kernel_rfl) (by kernel_rfl) (by kernel_rfl) (by kernel_rfl)) ?_
  intro W base args ds gs before hval0 hW _ _
  have hval : ∀ (j : Nat) t v, Try.f3.params[j]? = some t → args[j]? = some v → Value.okWide Try.prog W .any base t v := hval0
  have hW' := hW
  obtain ⟨p, q, hA0, _⟩ := hW
  have hA : DataW.TrodAll enc Try.prog W 0 (fun _ => true) true Try.f3.params.toList args.toList ds p := hA0
  rw [Try.params3] at hA hval
  clear hA0 hval0
  obtain ⟨v0, d0, rfl, rfl, h0⟩ := trodAll_one hA
  obtain ⟨x0, a0, b0, f0⟩ := fz_bytes Try.underlying22 Try.underlying5 (by kernel_rfl : Try.prog.cellsOf 5 = 1) (hval 0 22 v0 rfl rfl) h0
  exact law_post (P := Try.prog) pfacts.laid (fun t ht => by rw [Try.params3] at ht; revert t; simp only [List.mem_cons, List.not_mem_nil, or_false, forall_eq_or_imp, forall_eq]; exact ⟨by kernel_rfl, of_decide_eq_true (by kernel_rfl)⟩) rfl (by kernel_rfl) rfl (fun ds hds => by
    have hds : ds.length = 1 := hds
    match ds, hds with
    | [d0], _ => rfl) hW' (ts := [.xv v0 (.s none (byt x0))]) (by simp only [FzL]; exact ⟨_, _, rfl, f0, rfl⟩) (FnShifts_ok v0 x0 a0 b0)
theorem FnShifts_holds : Rows.FnShiftsSaid :=
  OpenClaim.holds_of_wide (p := Try.pinned) (s := Rows.fnShiftsSpec) (c := Rows.fnShiftsRow) 3 Try.f3 rfl rfl rfl rfl rfl rfl rfl ⟨rfl, rfl, rfl, rfl, rfl⟩ rfl rfl rfl rfl rfl (by as_aux_lemma => kernel_rfl) Try.func3 (joined_of pfacts rfl rfl rfl (by as_aux_lemma => kernel_rfl) (by as_aux_lemma => kernel_rfl) (by as_aux_lemma => kernel_rfl) (by as_aux_lemma => kernel_rfl) (by as_aux_lemma => kernel_rfl) (by as_aux_lemma => kernel_rfl) (by as_aux_lemma => kernel_rfl) (by as_aux_lemma => kernel_rfl) (by as_aux_lemma => kernel_rfl) (by as_aux_lemma => kernel_rfl) (by as_aux_lemma => kernel_rfl) (by as_aux_lemma => kernel_rfl) (by as_aux_lemma => kernel_rfl) (by as_aux_lemma => kernel_rfl) (by as_aux_lemma => kernel_rfl) (by as_aux_lemma => kernel_rfl) (by as_aux_lemma => kernel_rfl) (by as_aux_lemma => kernel_rfl) (by as_aux_lemma => kernel_rfl) (by as_aux_lemma => kernel_rfl) (by as_aux_lemma => kernel_rfl) (by as_aux_lemma => kernel_rfl) (by as_aux_lemma => kernel_rfl))
    (of_decide_eq_true (by kernel_rfl)) (by unfold Func.isWrapper; rw [if_neg (of_decide_eq_false (by kernel_rfl))]; exact ⟨rfl, rfl⟩)
    (fun os started H enc _ => FnShifts_lifted os started H enc)

end Go.Proofs.Ytfdoddeccnjcmaa
