/- At every input the law below returns true and leaves its argument alone: turns, gifts in order and the greatest product leave no envy that one good would not end. No condition. -/
import Derived.Test.YtfdoddeccnjcmaaRows
import Derived.Test.YtfdoddeccnjcmaaGoodz
import Derived.Test.YtfdoddeccnjcmaaGord
import Derived.Test.YtfdoddeccnjcmaaValues
import Derived.Test.YtfdoddeccnjcmaaDraw
import Derived.Test.YtfdoddeccnjcmaaLawfn
import Derived.Test.YtfdoddeccnjcmaaFacts
import Derived.Test.YtfdoddeccnjcmaaMarks
namespace Go.Proofs.Ytfdoddeccnjcmaa
open Go Go.Vc
set_option maxRecDepth 100000
set_option linter.unusedSimpArgs false
set_option linter.unusedVariables false
open Go.ChangeShapes Go.WideShapes Go.RowKit
theorem cutG {G H : Prop} (f : G → H) (g : G) : H := f g
def K_laws_FnGoods : List Nat := [0, 2, 3, 4, 5, 6, 7, 8, 9, 10, 12, 13, 14, 15, 16, 17, 18, 19, 63, 64, 65]
def C_laws_FnGoods : C :=
  let ks := K_laws_FnGoods
  (.seq
   (.rg 0 [(none, .v 2 .mv [.k (.b false)])])
   (.cl ks (.seq
   (.seq
   (.rg 0 [(none, .v 20 .mv [.s 0]), (none, .v 21 .len [.s 20]), (none, .v 22 (.bin .gtr) [.s 21, .k (.i 1048576)])])
   (.cond (.s 22)
   (.seq
   (.rg 0 [(none, .v 2 .mv [.k (.b true)])])
   .ret)
   .skip))
   (.cl ks (.seq
   (.rg 0 [(none, .v 23 .mv [.s 0]), (none, .co 24 45 [.s 23, .k (.i 0)]), (none, .tk 3 24)])
   (.cl ks (.seq
   (.rg 0 [(none, .v 25 .mv [.s 3]), (none, .v 26 .len [.s 25]), (none, .tk 4 26)])
   (.cl ks (.seq
   (.rg 0 [(none, .v 28 .mv [.s 3]), (none, .v 29 .mv [.s 0]), (none, .v 30 .mv [.s 4]), (none, .co 31 35 [.s 29, .k (.i 60), .s 30]), (none, .co 32 46 [.s 28, .s 31]), (none, .tk 27 32), (none, .tk 33 100027), (none, .tk 34 101027), (none, .tk 5 33), (none, .tk 6 34)])
   (.cl ks (.seq
   (.rg 0 [(none, .v 36 .mv [.s 3]), (none, .co 37 47 [.s 36]), (none, .tk 35 37), (none, .tk 38 100035), (none, .tk 39 101035), (none, .tk 7 38), (none, .tk 8 39)])
   (.cl ks (.seq
   (.rg 0 [(none, .v 41 .mv [.s 3]), (none, .co 42 48 [.s 41]), (none, .tk 40 42), (none, .tk 43 100040), (none, .tk 44 101040), (none, .tk 9 43), (none, .tk 10 44)])
   (.cl ks (.seq
   (.seq
   (.rg 0 [(none, .v 45 .mv [.s 6]), (none, .v 46 .not [.s 45]), (none, .v 47 .mv [.s 46]), (some (47, false), .v 48 .mv [.s 8]), (some (47, false), .v 49 .not [.s 48]), (none, .v 50 .pick [.s 47, .k (.b true), .s 49]), (none, .v 51 .mv [.s 50]), (some (51, false), .v 52 .mv [.s 10]), (some (51, false), .v 53 .not [.s 52]), (none, .v 54 .pick [.s 51, .k (.b true), .s 53]), (none, .v 55 .mv [.s 54]), (some (55, false), .v 56 .mv [.s 3]), (some (55, false), .co 57 49 [.s 56]), (some (55, false), .v 58 .not [.s 57]), (none, .v 59 .pick [.s 55, .k (.b true), .s 58])])
   (.cond (.s 59)
   (.seq
   (.rg 0 [(none, .v 2 .mv [.k (.b false)])])
   .ret)
   .skip))
   (.cl ks (.seq
   (.seq
   (.rg 0 [(none, .frz 5), (none, .frz 7), (none, .frz 9), (none, .v 60 .mv [.s 5]), (none, .v 61 .mv [.s 7]), (none, .v 62 .mv [.s 9]), (none, .lit 63 [.s 60, .s 61, .s 62] 2), (none, .v 64 .len [.s 63]), (none, .v 65 .mv [.k (.i 0)])])
   (.cl ks (.block 0
   (.loop
   (.seq
   (.rg 0 [(none, .v 66 (.bin .lss) [.s 65, .s 64])])
   (.seq
   (.cond (.s 66)
   .skip
   (.exit 0))
   (.cl ks (.seq
   (.block 1
   (.seq
   (.rg 0 [(none, .v 67 .idx [.s 63, .s 65]), (none, .v 68 .ld [.s 67]), (none, .tk 12 68)])
   (.cl ks (.seq
   (.rg 0 [(none, .v 69 .mv [.s 3]), (none, .v 70 .mv [.s 12]), (none, .co 71 50 [.s 69, .s 70]), (none, .v 72 .not [.s 71]), (none, .v 73 .mv [.s 72]), (some (73, false), .v 74 .mv [.s 3]), (some (73, false), .v 75 .mv [.s 12]), (some (73, false), .co 76 51 [.s 74, .s 75]), (some (73, false), .v 77 .not [.s 76]), (none, .v 78 .pick [.s 73, .k (.b true), .s 77]), (none, .v 79 .mv [.s 78]), (some (79, false), .v 80 .mv [.s 12]), (some (79, false), .co 81 52 [.s 80, .k (.i (-1))]), (none, .v 82 .pick [.s 79, .k (.b true), .s 81])])
   (.cond (.s 82)
   (.seq
   (.rg 0 [(none, .v 2 .mv [.k (.b false)])])
   .ret)
   .skip)))))
   (.cl ks (.rg 0 [(none, .v 83 (.bin .add) [.s 65, .k (.i 1)]), (none, .v 65 .mv [.s 83])]))))))))))
   (.cl ks (.seq
   (.rg 0 [(none, .v 84 .mv [.s 3]), (none, .v 85 .mv [.s 5]), (none, .co 86 53 [.s 84, .s 85]), (none, .tk 13 86)])
   (.cl ks (.seq
   (.rg 0 [(none, .v 14 .mv [.k (.i 0)])])
   (.cl ks (.seq
   (.seq
   (.rg 0 [(none, .v 15 .mv [.k (.i 0)])])
   (.cl ks (.block 2
   (.loop
   (.seq
   (.seq
   (.rg 0 [(none, .v 87 .mv [.s 15]), (none, .v 88 .mv [.s 4]), (none, .v 89 (.bin .lss) [.s 87, .s 88])])
   (.cond (.s 89)
   .skip
   (.exit 2)))
   (.cl ks (.seq
   (.block 3
   (.seq
   (.seq
   (.rg 0 [(none, .v 92 .mv [.s 13]), (none, .v 93 .len [.s 92]), (none, .v 94 .mv [.s 4]), (none, .v 95 (.bin .neq) [.s 93, .s 94]), (none, .v 96 .mv [.s 95]), (some (96, false), .v 97 .mv [.s 13]), (some (96, false), .v 98 .mv [.s 15]), (some (96, false), .v 99 .idx [.s 97, .s 98]), (some (96, false), .v 100 .ld [.s 99]), (some (96, false), .v 101 .len [.s 100]), (some (96, false), .v 102 .mv [.s 4]), (some (96, false), .v 103 (.bin .neq) [.s 101, .s 102]), (none, .v 104 .pick [.s 96, .k (.b true), .s 103]), (none, .v 105 .mv [.s 104]), (some (105, false), .v 106 .mv [.s 13]), (some (105, false), .v 107 .mv [.s 15]), (some (105, false), .v 108 .idx [.s 106, .s 107]), (some (105, false), .v 109 .ld [.s 108]), (some (105, false), .v 110 .mv [.s 15]), (some (105, false), .v 111 .idx [.s 109, .s 110]), (some (105, false), .v 112 .ld [.s 111]), (some (105, false), .v 113 (.bin .neq) [.s 112, .k (.i 0)]), (none, .v 114 .pick [.s 105, .k (.b true), .s 113])])
   (.cond (.s 114)
   (.seq
   (.rg 0 [(none, .v 2 .mv [.k (.b false)])])
   .ret)
   .skip))
   (.cl ks (.seq
   (.rg 0 [(none, .v 16 .mv [.k (.i 0)])])
   (.cl ks (.seq
   (.seq
   (.rg 0 [(none, .v 17 .mv [.k (.i 0)])])
   (.cl ks (.block 4
   (.loop
   (.seq
   (.seq
   (.rg 0 [(none, .v 115 .mv [.s 17]), (none, .v 116 .mv [.s 4]), (none, .v 117 (.bin .lss) [.s 115, .s 116])])
   (.cond (.s 117)
   .skip
   (.exit 4)))
   (.cl ks (.seq
   (.block 5
   (.seq
   (.rg 0 [(none, .v 120 .mv [.s 3]), (none, .v 121 .mv [.s 5]), (none, .v 122 .mv [.s 15]), (none, .v 123 .mv [.s 17]), (none, .co 124 54 [.s 120, .s 121, .s 122, .s 123]), (none, .tk 18 124)])
   (.cl ks (.seq
   (.seq
   (.rg 18 [(none, .v 125 .mv [.s 18]), (none, .v 126 (.bin .lss) [.s 125, .k (.i 0)]), (none, .v 127 .mv [.s 126]), (some (127, false), .v 128 .mv [.s 13]), (some (127, false), .v 129 .mv [.s 15]), (some (127, false), .v 130 .idx [.s 128, .s 129]), (some (127, false), .v 131 .ld [.s 130]), (some (127, false), .v 132 .mv [.s 17]), (some (127, false), .v 133 .idx [.s 131, .s 132]), (some (127, false), .v 134 .ld [.s 133]), (some (127, false), .v 135 .mv [.s 18]), (some (127, false), .v 136 .mv [.s 3]), (some (127, false), .v 137 .mv [.s 5]), (some (127, false), .v 138 .mv [.s 15]), (some (127, false), .v 139 .mv [.s 15]), (some (127, false), .v 140 (.call 54) [.s 136, .s 137, .s 138, .s 139]), (some (127, false), .v 141 (.bin .sub) [.s 135, .s 140]), (some (127, false), .v 142 .mx [.k (.i 0), .s 141]), (some (127, false), .v 143 (.bin .neq) [.s 134, .s 142]), (none, .v 144 .pick [.s 127, .k (.b true), .s 143])])
   (.cond (.s 144)
   (.seq
   (.rg 0 [(none, .v 2 .mv [.k (.b false)])])
   .ret)
   .skip))
   (.cl ks (.rg 0 [(none, .v 145 .mv [.s 16]), (none, .v 146 .mv [.s 18]), (none, .v 147 (.bin .add) [.s 145, .s 146]), (none, .tk 16 147)]))))))
   (.cl ks (.rg 0 [(none, .v 118 .mv [.s 17]), (none, .v 119 (.bin .add) [.s 118, .k (.i 1)]), (none, .tk 17 119)])))))))))
   (.cl ks (.seq
   (.seq
   (.rg 0 [(none, .v 148 .mv [.s 16]), (none, .v 149 .mv [.s 3]), (none, .v 150 .mv [.s 15]), (none, .v 151 .idx [.s 149, .s 150]), (none, .v 152 .ld [.s 151]), (none, .co 153 27 [.s 152]), (none, .v 154 (.bin .neq) [.s 148, .s 153])])
   (.cond (.s 154)
   (.seq
   (.rg 0 [(none, .v 2 .mv [.k (.b false)])])
   .ret)
   .skip))
   (.cl ks (.rg 0 [(none, .v 155 .mv [.s 14]), (none, .v 156 .mv [.s 13]), (none, .v 157 .mv [.s 15]), (none, .v 158 .idx [.s 156, .s 157]), (none, .v 159 .ld [.s 158]), (none, .co 160 27 [.s 159]), (none, .v 161 (.bin .add) [.s 155, .s 160]), (none, .tk 14 161)]))))))))))
   (.cl ks (.rg 0 [(none, .v 90 .mv [.s 15]), (none, .v 91 (.bin .add) [.s 90, .k (.i 1)]), (none, .tk 15 91)])))))))))
   (.cl ks (.seq
   (.rg 0 [(none, .v 162 .mv [.s 3]), (none, .co 163 55 [.s 162]), (none, .tk 19 163)])
   (.cl ks (.seq
   (.rg 0 [(none, .v 164 .mv [.s 3]), (none, .v 165 .mv [.s 5]), (none, .co 166 56 [.s 164, .s 165]), (none, .v 167 .mv [.s 14]), (none, .v 168 (.bin .eql) [.s 167, .k (.i 0)]), (none, .v 169 .beq [.s 166, .s 168]), (none, .v 170 .mv [.s 169]), (some (170, true), .v 171 .mv [.s 19]), (some (170, true), .v 172 (.bin .geq) [.s 171, .k (.i 0)]), (none, .v 173 .pick [.s 170, .s 172, .k (.b false)]), (none, .v 174 .mv [.s 173]), (some (174, true), .v 175 .mv [.s 14]), (some (174, true), .v 176 (.bin .gtr) [.s 175, .k (.i 0)]), (some (174, true), .v 177 .mv [.s 176]), (some (177, false), .v 178 .mv [.s 19]), (some (177, false), .v 179 (.bin .geq) [.s 178, .k (.i 1)]), (some (174, true), .v 180 .pick [.s 177, .k (.b true), .s 179]), (none, .v 181 .pick [.s 174, .s 180, .k (.b false)]), (none, .v 182 .mv [.s 181]), (some (182, true), .v 183 .mv [.s 4]), (some (182, true), .v 184 (.bin .gtr) [.s 183, .k (.i 1)]), (some (182, true), .v 185 .mv [.s 184]), (some (185, false), .v 186 .mv [.s 19]), (some (185, false), .v 187 (.bin .eql) [.s 186, .k (.i 1)]), (some (182, true), .v 188 .pick [.s 185, .k (.b true), .s 187]), (none, .v 189 .pick [.s 182, .s 188, .k (.b false)]), (none, .tk 2 189)])
   .ret)))))))))))))))))))))))))))

theorem chk_laws_FnGoods : ∃ b, Try.f6.body = some b ∧ chk Try.prog Try.f6.ntmps true C_laws_FnGoods b = true := ⟨_, rfl, by kernel_rfl⟩
set_option maxHeartbeats 4000000 in
theorem FnGoods_ok (u : Value) (l : List Int) (a : l.length ≤ 9223372036854775807) (hb : ∀ x ∈ l, 0 ≤ x ∧ x < 256) : CallOk Try.prog 6 [.xv u (.s none (byt l))] [(0, .b true)] := by
  obtain ⟨code0, hcd1, hcd2⟩ := chk_laws_FnGoods; refine callOk_of Try.func6 hcd1 mo Try.call6 (rs := [2]) (by kernel_rfl) hcd2 (by rw [Try.ntmps6]; simp) (by simp) (by decide) ?_; unfold C_laws_FnGoods K_laws_FnGoods; simp (config := { maxSteps := 2000000 }) only [go_sem, Nat.reduceBEq, Nat.reduceAdd, Nat.reduceMul, Nat.reduceMod, Nat.reduceLT, Nat.reduceDiv, Nat.reduceSub, Nat.reduceLeDiff, Int.reduceToNat, Int.reduceLT, Int.reduceLE, reduceCtorEq, List.take_nil, List.drop_nil]
  simp only [byt_len]
  refine ⟨fun _ => trivial, fun hlen => ?_⟩
  have C : CodeL l := ⟨by omega, hb⟩
  obtain ⟨vs, hr, m5, W⟩ := spec_MakeValues_ok u none C
  have V := vals_of hr
  have n1 := V.n1
  have n3 := V.n3
  have m1 := V.m1
  have hl : vs.length ≤ 1048576 := by omega
  have hrow : ∀ r ∈ vs, r.length ≤ 1048576 := fun r hr => by
    obtain ⟨i, hi, rfl⟩ := List.getElem_of_mem hr
    have := V.len i hi
    have e : vs.getD i [] = vs[i] := by simp [List.getD, hi]
    rw [← e, this]; omega
  obtain ⟨rk, hrk, Wr⟩ := spec_MakeRanking_ok u none C (n := 60) (by omega) (by omega) (m := vs.length) (by omega) (by omega)
  have hrl := rank_len hrk
  refine ⟨_, W, ?_⟩; simp (config := { maxSteps := 2000000 }) only [go_sem, Nat.reduceBEq, Nat.reduceAdd, Nat.reduceMul, Nat.reduceMod, Nat.reduceLT, Nat.reduceDiv, Nat.reduceSub, Nat.reduceLeDiff, Int.reduceToNat, Int.reduceLT, Int.reduceLE, reduceCtorEq, List.take_nil, List.drop_nil]
  refine ⟨_, Wr, ?_⟩; simp (config := { maxSteps := 2000000 }) only [go_sem, Nat.reduceBEq, Nat.reduceAdd, Nat.reduceMul, Nat.reduceMod, Nat.reduceLT, Nat.reduceDiv, Nat.reduceSub, Nat.reduceLeDiff, Int.reduceToNat, Int.reduceLT, Int.reduceLE, reduceCtorEq, List.take_nil, List.drop_nil]
  obtain ⟨tb, TF, TE⟩ := tak_good hr hrk
  obtain ⟨GF, GE⟩ := giv_good hr
  obtain ⟨MF, ME⟩ := most_good hr
  have cT : CallOk Try.prog 46 [.s none (rr vs), .s none (ii rk)] [(0, .tp 2), (100000, .own 1 none (ii (takF vs rk))), (101000, .b true)] := by have := impl_TakeTurns_ok (n1 := none) (n2 := none) vs rk hl hrow (by omega); rwa [tb] at this
  have cG : CallOk Try.prog 47 [.s none (rr vs)] [(0, .tp 2), (100000, .own 1 none (ii (givF vs))), (101000, .b true)] := by have := impl_GiveInOrder_ok (n1 := none) vs hl hrow; rwa [hr] at this
  have cM : CallOk Try.prog 48 [.s none (rr vs)] [(0, .tp 2), (100000, .own 1 none (ii (mostF vs))), (101000, .b true)] := by have := impl_MostProduct_ok (n1 := none) vs hl hrow; rwa [hr] at this
  have cV : CallOk Try.prog 49 [.s none (rr vs)] [(0, .b true)] := by have := impl_ValuesOk_ok (nl := none) vs hl hrow; rwa [hr] at this
  refine ⟨_, cT, ?_⟩; simp (config := { maxSteps := 2000000 }) only [go_sem, Nat.reduceBEq, Nat.reduceAdd, Nat.reduceMul, Nat.reduceMod, Nat.reduceLT, Nat.reduceDiv, Nat.reduceSub, Nat.reduceLeDiff, Int.reduceToNat, Int.reduceLT, Int.reduceLE, reduceCtorEq, List.take_nil, List.drop_nil]
  refine ⟨_, cG, ?_⟩; simp (config := { maxSteps := 2000000 }) only [go_sem, Nat.reduceBEq, Nat.reduceAdd, Nat.reduceMul, Nat.reduceMod, Nat.reduceLT, Nat.reduceDiv, Nat.reduceSub, Nat.reduceLeDiff, Int.reduceToNat, Int.reduceLT, Int.reduceLE, reduceCtorEq, List.take_nil, List.drop_nil]
  refine ⟨_, cM, ?_⟩; simp (config := { maxSteps := 2000000 }) only [go_sem, Nat.reduceBEq, Nat.reduceAdd, Nat.reduceMul, Nat.reduceMod, Nat.reduceLT, Nat.reduceDiv, Nat.reduceSub, Nat.reduceLeDiff, Int.reduceToNat, Int.reduceLT, Int.reduceLE, reduceCtorEq, List.take_nil, List.drop_nil]
  refine ⟨_, cV, ?_⟩; simp (config := { maxSteps := 2000000 }) only [go_sem, Nat.reduceBEq, Nat.reduceAdd, Nat.reduceMul, Nat.reduceMod, Nat.reduceLT, Nat.reduceDiv, Nat.reduceSub, Nat.reduceLeDiff, Int.reduceToNat, Int.reduceLT, Int.reduceLE, reduceCtorEq, List.take_nil, List.drop_nil]
  generalize takF vs rk = A at TF TE cT ⊢
  generalize givF vs = B at GF GE cG ⊢
  generalize mostF vs = D at MF ME cM ⊢
  have good : ∀ x ∈ [A, B, D], x.length ≤ 1048576 ∧ allocB vs x = true ∧ almF vs x = true ∧ ¬ (-1 : Int) ∈ x := by
    have g : ∀ x, Full vs x (vs.getD 0 []).length → Ef1 vs x → x.length ≤ 1048576 ∧ allocB vs x = true ∧ almF vs x = true ∧ ¬ (-1 : Int) ∈ x := fun x F E => by
      have hA := full_alloc hr V rfl F
      exact ⟨by rw [F.len]; omega, hA, by simp [almF, hA, ef1_alm V F.len E], full_no F⟩
    intro x hx
    simp only [List.mem_cons, List.not_mem_nil, or_false] at hx
    rcases hx with rfl | rfl | rfl
    · exact g _ TF TE
    · exact g _ GF GE
    · exact g _ MF ME
  have hA := full_alloc hr V rfl TF
  have hAl : A.length ≤ 1048576 := by rw [TF.len]; omega
  refine loopN 3 (fun j => [(0, .t .arg (.xv u (.s none (byt l)))), (2, .b false), (3, .own 1 none (rr vs)), (4, .i vs.length), (5, .t .fr (.s none (ii A))), (63, .own 0 (some false) (rr [A, B, D])), (64, .i 3), (65, .i (j : Nat))]) (fun _ => True) ⟨trivial, by simp (config := { maxSteps := 2000000 }) only [go_sem, Nat.reduceBEq, Nat.reduceAdd, Nat.reduceMul, Nat.reduceMod, Nat.reduceLT, Nat.reduceDiv, Nat.reduceSub, Nat.reduceLeDiff, Int.reduceToNat, Int.reduceLT, Int.reduceLE, reduceCtorEq, List.take_nil, List.drop_nil, le_self]; simp⟩ fun j hj _ => ?_
  simp (config := { maxSteps := 2000000 }) only [go_sem, Nat.reduceBEq, Nat.reduceAdd, Nat.reduceMul, Nat.reduceMod, Nat.reduceLT, Nat.reduceDiv, Nat.reduceSub, Nat.reduceLeDiff, Int.reduceToNat, Int.reduceLT, Int.reduceLE, reduceCtorEq, List.take_nil, List.drop_nil, le_self]
  refine ⟨fun hlt => ?_, fun hge => ?_⟩
  · obtain ⟨g1, g2, g3, g4⟩ := good ([A, B, D].getD j []) (getD_mem (show j < [A, B, D].length by simp; omega))
    have cAl : ∀ n1 n2, CallOk Try.prog 50 [.s n1 (rr vs), .s n2 (ii ([A, B, D].getD j []))] [(0, .b true)] := fun n1 n2 => by have := impl_AllocationOk_ok (n1 := n1) (n2 := n2) vs ([A, B, D].getD j []) hl hrow g1; rwa [g2] at this
    have cAm : ∀ n1 n2, CallOk Try.prog 51 [.s n1 (rr vs), .s n2 (ii ([A, B, D].getD j []))] [(0, .b true)] := fun n1 n2 => by have := impl_IsAlmostFree_ok (n1 := n1) (n2 := n2) vs ([A, B, D].getD j []) hl hrow g1; rwa [g3] at this
    refine ⟨by omega, by omega, by omega, ?_⟩
    refine ⟨_, cAl _ _, ?_⟩; simp (config := { maxSteps := 2000000 }) only [go_sem, Nat.reduceBEq, Nat.reduceAdd, Nat.reduceMul, Nat.reduceMod, Nat.reduceLT, Nat.reduceDiv, Nat.reduceSub, Nat.reduceLeDiff, Int.reduceToNat, Int.reduceLT, Int.reduceLE, reduceCtorEq, List.take_nil, List.drop_nil]
    refine ⟨_, cAm _ _, ?_⟩; simp (config := { maxSteps := 2000000 }) only [go_sem, Nat.reduceBEq, Nat.reduceAdd, Nat.reduceMul, Nat.reduceMod, Nat.reduceLT, Nat.reduceDiv, Nat.reduceSub, Nat.reduceLeDiff, Int.reduceToNat, Int.reduceLT, Int.reduceLE, reduceCtorEq, List.take_nil, List.drop_nil]
    refine ⟨_, laws_has_no ([A, B, D].getD j []) (-1) g1 g4, ?_⟩; simp (config := { maxSteps := 2000000 }) only [go_sem, Nat.reduceBEq, Nat.reduceAdd, Nat.reduceMul, Nat.reduceMod, Nat.reduceLT, Nat.reduceDiv, Nat.reduceSub, Nat.reduceLeDiff, Int.reduceToNat, Int.reduceLT, Int.reduceLE, reduceCtorEq, List.take_nil, List.drop_nil]
    exact ⟨inR_of (by omega) (by omega), by omega, Vc.V.le_refl _, by simp⟩
  · have hE : envF vs A = envM vs A vs.length := if_pos hA
    have cE : ∀ n1 n2, CallOk Try.prog 53 [.s n1 (rr vs), .s n2 (ii A)] [(0, .own 1 none (rr (envM vs A vs.length)))] := fun n1 n2 => by have := impl_EnvyMatrix_ok (n1 := n1) (n2 := n2) vs A hl hrow hAl; rwa [hE] at this
    refine ⟨_, cE _ _, ?_⟩; simp (config := { maxSteps := 2000000 }) only [go_sem, Nat.reduceBEq, Nat.reduceAdd, Nat.reduceMul, Nat.reduceMod, Nat.reduceLT, Nat.reduceDiv, Nat.reduceSub, Nat.reduceLeDiff, Int.reduceToNat, Int.reduceLT, Int.reduceLE, reduceCtorEq, List.take_nil, List.drop_nil]
    refine loopN vs.length (fun i => [(0, .t .arg (.xv u (.s none (byt l)))), (2, .b false), (3, .own 1 none (rr vs)), (4, .i vs.length), (5, .t .fr (.s none (ii A))), (13, .own 1 none (rr (envM vs A vs.length))), (14, .i (envS vs A i)), (15, .i (i : Nat))]) (fun _ => True) ⟨trivial, by simp (config := { maxSteps := 2000000 }) only [go_sem, Nat.reduceBEq, Nat.reduceAdd, Nat.reduceMul, Nat.reduceMod, Nat.reduceLT, Nat.reduceDiv, Nat.reduceSub, Nat.reduceLeDiff, Int.reduceToNat, Int.reduceLT, Int.reduceLE, reduceCtorEq, List.take_nil, List.drop_nil, le_self]; simp [envS]⟩ fun i hi _ => ?_
    simp (config := { maxSteps := 2000000 }) only [go_sem, Nat.reduceBEq, Nat.reduceAdd, Nat.reduceMul, Nat.reduceMod, Nat.reduceLT, Nat.reduceDiv, Nat.reduceSub, Nat.reduceLeDiff, Int.reduceToNat, Int.reduceLT, Int.reduceLE, reduceCtorEq, List.take_nil, List.drop_nil, le_self]
    refine ⟨fun hlt => ?_, fun hge => ?_⟩
    · have hi' : i < vs.length := by omega
      have hg := envM_get (vs := vs) (l := A) hi'
      have hz : (envR vs A i vs.length).getD i 0 = 0 := by rw [envR_get hi']; unfold envy; omega
      rw [hg]
      have wE : ∀ b : Nat, b < vs.length → worthOfF vs A i b = wo vs A i b := fun b hb => worthOf_eq hA hi' hb
      have ob := fun k : Nat => ownS_bd V TF.len hi' (k := k)
      have eb := envS_bd V TF.len (i := i) (by omega)
      have en := envS_nn (vs := vs) (l := A) (i := i)
      refine ⟨fun _ => ⟨by omega, by rw [envM_len]; omega, by rw [envM_len]; omega, fun _ => ⟨by omega, by rw [envM_len]; omega, by rw [envM_len]; omega, by omega, by rw [envR_len]; omega, by rw [envR_len]; omega, fun h => absurd hz h, fun _ => ?_⟩, fun h => absurd envR_len h⟩, fun h => absurd envM_len h⟩
      refine loopN vs.length (fun k => [(0, .t .arg (.xv u (.s none (byt l)))), (2, .b false), (3, .own 1 none (rr vs)), (4, .i vs.length), (5, .t .fr (.s none (ii A))), (13, .own 1 none (rr (envM vs A vs.length))), (14, .i (envS vs A i)), (15, .i (i : Nat)), (16, .i (ownS vs A i k)), (17, .i (k : Nat))]) (fun _ => True) ⟨trivial, by simp (config := { maxSteps := 2000000 }) only [go_sem, Nat.reduceBEq, Nat.reduceAdd, Nat.reduceMul, Nat.reduceMod, Nat.reduceLT, Nat.reduceDiv, Nat.reduceSub, Nat.reduceLeDiff, Int.reduceToNat, Int.reduceLT, Int.reduceLE, reduceCtorEq, List.take_nil, List.drop_nil, le_self]; simp [ownS]⟩ fun k hk _ => ?_
      simp (config := { maxSteps := 2000000 }) only [go_sem, Nat.reduceBEq, Nat.reduceAdd, Nat.reduceMul, Nat.reduceMod, Nat.reduceLT, Nat.reduceDiv, Nat.reduceSub, Nat.reduceLeDiff, Int.reduceToNat, Int.reduceLT, Int.reduceLE, reduceCtorEq, List.take_nil, List.drop_nil, le_self]
      refine ⟨fun hlt => ?_, fun hge => ?_⟩
      · have hk' : k < vs.length := by omega
        have w1 := wo_bd (vs := vs) (l := A) (k := (k : Int)) (by rw [TF.len]; exact V) hi'
        have w2 := wo_bd (vs := vs) (l := A) (k := (i : Int)) (by rw [TF.len]; exact V) hi'
        have c1 : ∀ n1 n2, CallOk Try.prog 54 [.s n1 (rr vs), .s n2 (ii A), .i (i : Nat), .i (k : Nat)] [(0, .i (wo vs A i k))] := fun n1 n2 => by have := impl_WorthOf_ok (n1 := n1) (n2 := n2) vs A (i : Int) (k : Int) hl hrow hAl; rwa [wE k hk'] at this
        have c2 : ∀ n1 n2, CallOk Try.prog 54 [.s n1 (rr vs), .s n2 (ii A), .i (i : Nat), .i (i : Nat)] [(0, .i (wo vs A i i))] := fun n1 n2 => by have := impl_WorthOf_ok (n1 := n1) (n2 := n2) vs A (i : Int) (i : Int) hl hrow hAl; rwa [wE i hi'] at this
        refine ⟨_, c1 _ _, ?_⟩; simp (config := { maxSteps := 2000000 }) only [go_sem, Nat.reduceBEq, Nat.reduceAdd, Nat.reduceMul, Nat.reduceMod, Nat.reduceLT, Nat.reduceDiv, Nat.reduceSub, Nat.reduceLeDiff, Int.reduceToNat, Int.reduceLT, Int.reduceLE, reduceCtorEq, List.take_nil, List.drop_nil]
        rw [hg]
        have he : (envR vs A i vs.length).getD k 0 = max 0 (wo vs A i k - wo vs A i i) := envR_get hk'
        refine ⟨fun _ => ⟨by omega, by rw [envM_len]; omega, by rw [envM_len]; omega, by omega, by rw [envR_len]; omega, by rw [envR_len]; omega, ?_⟩, fun h => by exfalso; omega⟩
        refine ⟨_, c2 _ _, ?_⟩; simp (config := { maxSteps := 2000000 }) only [go_sem, Nat.reduceBEq, Nat.reduceAdd, Nat.reduceMul, Nat.reduceMod, Nat.reduceLT, Nat.reduceDiv, Nat.reduceSub, Nat.reduceLeDiff, Int.reduceToNat, Int.reduceLT, Int.reduceLE, reduceCtorEq, List.take_nil, List.drop_nil]
        have o1 := ob k
        exact ⟨inR_of (by omega) (by omega), fun h => absurd he h, fun _ => ⟨inR_of (by omega) (by omega), inR_of (by omega) (by omega), hk', Vc.V.le_refl _, ownS_s.symm, by simp⟩⟩
      · have ek : k = vs.length := by omega
        rw [ek]
        have ho : ownS vs A i vs.length = (vs.getD i []).sum := wo_tot V TF hi'
        have hrl2 := V.len i hi'
        refine ⟨by omega, hi', hi', ?_⟩
        refine ⟨_, laws_sum_ok (vs.getD i []) 100 (by omega) (row_mem_bd V hi') (by omega) (by omega), ?_⟩; simp (config := { maxSteps := 2000000 }) only [go_sem, Nat.reduceBEq, Nat.reduceAdd, Nat.reduceMul, Nat.reduceMod, Nat.reduceLT, Nat.reduceDiv, Nat.reduceSub, Nat.reduceLeDiff, Int.reduceToNat, Int.reduceLT, Int.reduceLE, reduceCtorEq, List.take_nil, List.drop_nil]
        refine ⟨fun h => absurd ho h, fun _ => ?_⟩
        rw [hg]
        have el := envR_len (vs := vs) (l := A) (i := i) (k := vs.length)
        have hsb := sum_take_bd (xs := envR vs A i vs.length) (B := 600) (by omega) (envR_mem V TF.len hi') (j := (envR vs A i vs.length).length) (Nat.le_refl _)
        rw [List.take_length] at hsb
        refine ⟨by omega, by rw [envM_len]; omega, by rw [envM_len]; omega, ?_⟩
        refine ⟨_, laws_sum_ok (envR vs A i vs.length) 600 (by omega) (envR_mem V TF.len hi') (by omega) (by omega), ?_⟩; simp (config := { maxSteps := 2000000 }) only [go_sem, Nat.reduceBEq, Nat.reduceAdd, Nat.reduceMul, Nat.reduceMod, Nat.reduceLT, Nat.reduceDiv, Nat.reduceSub, Nat.reduceLeDiff, Int.reduceToNat, Int.reduceLT, Int.reduceLE, reduceCtorEq, List.take_nil, List.drop_nil]
        exact ⟨inR_of (by omega) (by omega), inR_of (by omega) (by omega), hi', Vc.V.le_refl _, envS_s.symm, by simp⟩
    · have ei : i = vs.length := by omega
      rw [ei]
      have cF : ∀ n1 n2, CallOk Try.prog 56 [.s n1 (rr vs), .s n2 (ii A)] [(0, .b (freeB vs A))] := fun n1 n2 => by have := impl_IsEnvyFree_ok (n1 := n1) (n2 := n2) vs A hl hrow hAl; rwa [hA, Bool.true_and] at this
      refine ⟨_, impl_CountEnvyFree_ok vs hl hrow, ?_⟩; simp (config := { maxSteps := 2000000 }) only [go_sem, Nat.reduceBEq, Nat.reduceAdd, Nat.reduceMul, Nat.reduceMod, Nat.reduceLT, Nat.reduceDiv, Nat.reduceSub, Nat.reduceLeDiff, Int.reduceToNat, Int.reduceLT, Int.reduceLE, reduceCtorEq, List.take_nil, List.drop_nil]
      refine ⟨_, cF _ _, ?_⟩; simp (config := { maxSteps := 2000000 }) only [go_sem, Nat.reduceBEq, Nat.reduceAdd, Nat.reduceMul, Nat.reduceMod, Nat.reduceLT, Nat.reduceDiv, Nat.reduceSub, Nat.reduceLeDiff, Int.reduceToNat, Int.reduceLT, Int.reduceLE, reduceCtorEq, List.take_nil, List.drop_nil]
      have hz := envy_free (vs := vs) (l := A)
      have q1 : 0 ≤ cntF vs (freeB vs) := count_nn hr
      have q2 : vs.length = 1 → cntF vs (freeB vs) = 1 := count_one hr
      have q3 : envS vs A vs.length = 0 → 1 ≤ cntF vs (freeB vs) := fun h => free_count hr TF (hz.1 h)
      have q4 : (freeB vs A == decide (envS vs A vs.length = 0)) = true := by
        cases hf : freeB vs A with
        | false =>
          have : ¬ envS vs A vs.length = 0 := fun h => by rw [hz.1 h] at hf; cases hf
          simp [this]
        | true => simp [hz.2 hf]
      have en := envS_nn (vs := vs) (l := A) (i := vs.length)
      exact ⟨fun _ => ⟨fun _ => ⟨fun h => ⟨fun _ => ⟨fun h' => q2 (by omega), fun _ => trivial⟩, fun h' => h' (q3 (by omega))⟩, fun _ => ⟨fun h' => q2 (by omega), fun _ => trivial⟩⟩, fun h => h q1⟩, fun h => by rw [q4] at h; cases h⟩
theorem FnGoods_lifted (os : Os) (started : os.Started) (H : Type) (enc : TypeId × Value → H) :
    ReturnsInHanded {} Try.checked os 6 .any (Rows.fnGoodsSpec.pre6 enc Try.prog Try.f6 Rows.fnGoodsRow.domain false) (Rows.fnGoodsSpec.post enc Try.prog Try.f6 false true false false) := by
  refine returnsInHanded_of_change (C := Try.checked) ownk started (by as_aux_lemma => kernel_rfl) Try.func6
    (ChangeSpec.witness6 (enc := enc) (C := Try.checked) false ⟨#[], #[.slice none 0 0], []⟩ 8 (by kernel_rfl) (by kernel_rfl) (by kernel_rfl) (by kernel_rfl)) ?_
  intro W base args ds gs before hval0 hW _ _
  have hval : ∀ (j : Nat) t v, Try.f6.params[j]? = some t → args[j]? = some v → Value.okWide Try.prog W .any base t v := hval0
  have hW' := hW
  obtain ⟨p, q, hA0, _⟩ := hW
  have hA : DataW.TrodAll enc Try.prog W 0 (fun _ => true) true Try.f6.params.toList args.toList ds p := hA0
  rw [Try.params6] at hA hval
  clear hA0 hval0
  obtain ⟨v0, d0, rfl, rfl, h0⟩ := trodAll_one hA
  obtain ⟨x0, a0, b0, f0⟩ := fz_bytes Try.underlying22 Try.underlying5 (by kernel_rfl : Try.prog.cellsOf 5 = 1) (hval 0 22 v0 rfl rfl) h0
  exact law_post (P := Try.prog) pfacts.laid (fun t ht => by rw [Try.params6] at ht; revert t; simp only [List.mem_cons, List.not_mem_nil, or_false, forall_eq_or_imp, forall_eq]; exact ⟨by kernel_rfl, of_decide_eq_true (by kernel_rfl)⟩) rfl (by kernel_rfl) rfl (fun ds hds => by
    have hds : ds.length = 1 := hds
    match ds, hds with
    | [d0], _ => rfl) hW' (ts := [.xv v0 (.s none (byt x0))]) (by simp only [FzL]; exact ⟨_, _, rfl, f0, rfl⟩) (FnGoods_ok v0 x0 a0 b0)
theorem FnGoods_holds : Rows.FnGoodsSaid :=
  OpenClaim.holds_of_wide (p := Try.pinned) (s := Rows.fnGoodsSpec) (c := Rows.fnGoodsRow) 6 Try.f6 rfl rfl rfl rfl rfl rfl rfl ⟨rfl, rfl, rfl, rfl, rfl⟩ rfl rfl rfl rfl rfl (by as_aux_lemma => kernel_rfl) Try.func6 (joined_of pfacts rfl rfl rfl (by as_aux_lemma => kernel_rfl) (by as_aux_lemma => kernel_rfl) (by as_aux_lemma => kernel_rfl) (by as_aux_lemma => kernel_rfl) (by as_aux_lemma => kernel_rfl) (by as_aux_lemma => kernel_rfl) (by as_aux_lemma => kernel_rfl) (by as_aux_lemma => kernel_rfl) (by as_aux_lemma => kernel_rfl) (by as_aux_lemma => kernel_rfl) (by as_aux_lemma => kernel_rfl) (by as_aux_lemma => kernel_rfl) (by as_aux_lemma => kernel_rfl) (by as_aux_lemma => kernel_rfl) (by as_aux_lemma => kernel_rfl) (by as_aux_lemma => kernel_rfl) (by as_aux_lemma => kernel_rfl) (by as_aux_lemma => kernel_rfl) (by as_aux_lemma => kernel_rfl) (by as_aux_lemma => kernel_rfl) (by as_aux_lemma => kernel_rfl) (by as_aux_lemma => kernel_rfl) (by as_aux_lemma => kernel_rfl))
    (of_decide_eq_true (by kernel_rfl)) (by unfold Func.isWrapper; rw [if_neg (of_decide_eq_false (by kernel_rfl))]; exact ⟨rfl, rfl⟩)
    (fun os started H enc _ => FnGoods_lifted os started H enc)

end Go.Proofs.Ytfdoddeccnjcmaa
