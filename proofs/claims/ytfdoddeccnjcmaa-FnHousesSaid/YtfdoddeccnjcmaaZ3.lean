/- At every input the law below returns true and leaves its argument alone: the exchange by cycles is the only one that no set of owners can improve, and every serial choice is unimproved. No condition. -/
import Derived.Test.YtfdoddeccnjcmaaRows
import Derived.Test.YtfdoddeccnjcmaaHmath
import Derived.Test.YtfdoddeccnjcmaaHdraw
import Derived.Test.YtfdoddeccnjcmaaLawfn
import Derived.Test.YtfdoddeccnjcmaaFacts
import Derived.Test.YtfdoddeccnjcmaaMarks
namespace Go.Proofs.Ytfdoddeccnjcmaa
open Go Go.Vc
set_option maxRecDepth 100000
set_option linter.unusedSimpArgs false
set_option linter.unusedVariables false
open Go.ChangeShapes Go.WideShapes Go.RowKit
def K_laws_same : List Nat := [0, 1, 4, 5, 6, 12, 13, 14]
def C_laws_same : C :=
  let ks := K_laws_same
  (.seq
   (.rg 0 [(none, .v 4 .mv [.k (.b false)])])
   (.cl ks (.seq
   (.seq
   (.rg 0 [(none, .v 7 .mv [.s 0]), (none, .v 8 .len [.s 7]), (none, .v 9 .mv [.s 1]), (none, .v 10 .len [.s 9]), (none, .v 11 (.bin .neq) [.s 8, .s 10])])
   (.cond (.s 11)
   (.seq
   (.rg 0 [(none, .v 4 .mv [.k (.b false)])])
   .ret)
   .skip))
   (.cl ks (.seq
   (.seq
   (.rg 0 [(none, .v 12 .mv [.s 0]), (none, .v 13 .len [.s 12]), (none, .v 14 .mv [.k (.i 0)])])
   (.cl ks (.block 0
   (.loop
   (.seq
   (.rg 0 [(none, .v 15 (.bin .lss) [.s 14, .s 13])])
   (.seq
   (.cond (.s 15)
   .skip
   (.exit 0))
   (.cl ks (.seq
   (.block 1
   (.seq
   (.rg 0 [(none, .v 16 .mv [.s 14]), (none, .v 17 .idx [.s 12, .s 14]), (none, .v 18 .ld [.s 17]), (none, .tk 5 16), (none, .tk 6 18)])
   (.cl ks (.seq
   (.rg 0 [(none, .v 19 .mv [.s 6]), (none, .v 20 .mv [.s 1]), (none, .v 21 .mv [.s 5]), (none, .v 22 .idx [.s 20, .s 21]), (none, .v 23 .ld [.s 22]), (none, .v 24 (.bin .neq) [.s 19, .s 23])])
   (.cond (.s 24)
   (.seq
   (.rg 0 [(none, .v 4 .mv [.k (.b false)])])
   .ret)
   .skip)))))
   (.cl ks (.rg 0 [(none, .v 25 (.bin .add) [.s 14, .k (.i 1)]), (none, .v 14 .mv [.s 25])]))))))))))
   (.cl ks (.seq
   (.rg 0 [(none, .v 4 .mv [.k (.b true)])])
   .ret)))))))

theorem chk_laws_same : ∃ b, Try.f17.body = some b ∧ chk Try.prog Try.f17.ntmps true C_laws_same b = true := ⟨_, rfl, by kernel_rfl⟩
def K_laws_FnHouses : List Nat := [0, 2, 3, 4, 5, 6, 7, 8, 9, 11, 12, 13, 14, 16, 17, 19, 77, 78, 79, 83, 84, 85, 126, 127, 128, 142, 143, 144]
def C_laws_FnHouses : C :=
  let ks := K_laws_FnHouses
  (.seq
   (.rg 0 [(none, .v 2 .mv [.k (.b false)])])
   (.cl ks (.seq
   (.seq
   (.rg 0 [(none, .v 20 .mv [.s 0]), (none, .v 21 .len [.s 20]), (none, .v 22 (.bin .gtr) [.s 21, .k (.i 1048576)])])
   (.cond (.s 22)
   (.seq
   (.rg 0 [(none, .v 2 .mv [.k (.b true)])])
   .ret)
   .skip))
   (.cl ks (.seq
   (.rg 0 [(none, .v 23 .mv [.s 0]), (none, .co 24 33 [.s 23, .k (.i 0), .k (.i 4)]), (none, .tk 3 24)])
   (.cl ks (.seq
   (.rg 0 [(none, .v 25 .mv [.s 3]), (none, .v 26 .len [.s 25]), (none, .tk 4 26)])
   (.cl ks (.seq
   (.rg 0 [(none, .v 27 .mv [.s 3]), (none, .co 28 34 [.s 27]), (none, .tk 5 28)])
   (.cl ks (.seq
   (.rg 0 [(none, .v 29 .mv [.s 0]), (none, .v 30 .mv [.s 4]), (none, .co 31 35 [.s 29, .k (.i 60), .s 30]), (none, .tk 6 31)])
   (.cl ks (.seq
   (.rg 0 [(none, .v 32 .mv [.s 3]), (none, .v 33 .mv [.s 6]), (none, .co 34 36 [.s 32, .s 33]), (none, .tk 7 34)])
   (.cl ks (.seq
   (.rg 0 [(none, .v 35 .mv [.s 0]), (none, .v 36 .mv [.s 4]), (none, .co 37 35 [.s 35, .k (.i 80), .s 36]), (none, .tk 8 37)])
   (.cl ks (.seq
   (.seq
   (.rg 0 [(none, .v 38 .mv [.s 4]), (none, .v 39 .mv [.s 5]), (none, .co 40 37 [.s 38, .s 39]), (none, .v 41 .not [.s 40]), (none, .v 42 .mv [.s 41]), (some (42, false), .v 43 .mv [.s 3]), (some (42, false), .v 44 .mv [.s 5]), (some (42, false), .co 45 38 [.s 43, .s 44]), (some (42, false), .v 46 .not [.s 45]), (none, .v 47 .pick [.s 42, .k (.b true), .s 46]), (none, .v 48 .mv [.s 47]), (some (48, false), .v 49 .mv [.s 3]), (some (48, false), .v 50 .mv [.s 5]), (some (48, false), .co 51 39 [.s 49, .s 50]), (some (48, false), .v 52 (.bin .neq) [.s 51, .k (.i 0)]), (none, .v 53 .pick [.s 48, .k (.b true), .s 52]), (none, .v 54 .mv [.s 53]), (some (54, false), .v 55 .mv [.s 3]), (some (54, false), .v 56 .mv [.s 5]), (some (54, false), .co 57 40 [.s 55, .s 56]), (some (54, false), .v 58 .not [.s 57]), (none, .v 59 .pick [.s 54, .k (.b true), .s 58]), (none, .v 60 .mv [.s 59]), (some (60, false), .v 61 .mv [.s 3]), (some (60, false), .v 62 .mv [.s 7]), (some (60, false), .co 63 38 [.s 61, .s 62]), (some (60, false), .v 64 .not [.s 63]), (none, .v 65 .pick [.s 60, .k (.b true), .s 64]), (none, .v 66 .mv [.s 65]), (some (66, false), .v 67 .mv [.s 3]), (some (66, false), .v 68 .mv [.s 8]), (some (66, false), .co 69 39 [.s 67, .s 68]), (some (66, false), .v 70 (.bin .eql) [.s 69, .k (.i 0)]), (some (66, false), .v 71 .mv [.s 8]), (some (66, false), .v 72 .mv [.s 5]), (some (66, false), .co 73 17 [.s 71, .s 72]), (some (66, false), .v 74 .bne [.s 70, .s 73]), (none, .v 75 .pick [.s 66, .k (.b true), .s 74])])
   (.cond (.s 75)
   (.seq
   (.rg 0 [(none, .v 2 .mv [.k (.b false)])])
   .ret)
   .skip))
   (.cl ks (.seq
   (.rg 0 [(none, .v 9 .mv [.k (.i 0)])])
   (.cl ks (.seq
   (.seq
   (.rg 0 [(none, .v 76 .mv [.s 3]), (none, .co 77 41 [.s 76]), (none, .v 78 .len [.s 77]), (none, .v 79 .mv [.k (.i 0)])])
   (.cl ks (.block 0
   (.loop
   (.seq
   (.rg 0 [(none, .v 80 (.bin .lss) [.s 79, .s 78])])
   (.seq
   (.cond (.s 80)
   .skip
   (.exit 0))
   (.cl ks (.seq
   (.block 1
   (.seq
   (.rg 0 [(none, .v 81 .idx [.s 77, .s 79]), (none, .v 82 .ld [.s 81]), (none, .tk 11 82)])
   (.cl ks (.seq
   (.seq
   (.rg 0 [(none, .v 83 .mv [.s 11]), (none, .v 84 .len [.s 83]), (none, .v 85 .mv [.k (.i 0)])])
   (.cl ks (.block 2
   (.loop
   (.seq
   (.rg 0 [(none, .v 86 (.bin .lss) [.s 85, .s 84])])
   (.seq
   (.cond (.s 86)
   .skip
   (.exit 2))
   (.cl ks (.seq
   (.block 3
   (.seq
   (.rg 0 [(none, .v 87 .mv [.s 85]), (none, .v 88 .idx [.s 83, .s 85]), (none, .v 89 .ld [.s 88]), (none, .tk 12 87), (none, .tk 13 89)])
   (.cl ks (.seq
   (.rg 27 [(none, .v 90 .mv [.s 13]), (none, .v 91 (.bin .lss) [.s 90, .k (.i 0)]), (none, .v 92 .mv [.s 91]), (some (92, false), .v 93 .mv [.s 13]), (some (92, false), .v 94 .mv [.s 4]), (some (92, false), .v 95 (.bin .geq) [.s 93, .s 94]), (none, .v 96 .pick [.s 92, .k (.b true), .s 95]), (none, .v 97 .mv [.s 96]), (some (97, false), .v 98 .mv [.s 5]), (some (97, false), .v 99 .mv [.s 13]), (some (97, false), .v 100 .idx [.s 98, .s 99]), (some (97, false), .v 101 .ld [.s 100]), (some (97, false), .v 102 .mv [.s 11]), (some (97, false), .v 103 .mv [.s 12]), (some (97, false), .v 104 (.bin .add) [.s 103, .k (.i 1)]), (some (97, false), .v 105 .mv [.s 11]), (some (97, false), .v 106 .len [.s 105]), (some (97, false), .v 107 (.bin .rem) [.s 104, .s 106]), (some (97, false), .v 108 .idx [.s 102, .s 107]), (some (97, false), .v 109 .ld [.s 108]), (some (97, false), .v 110 (.bin .neq) [.s 101, .s 109]), (none, .v 111 .pick [.s 97, .k (.b true), .s 110]), (none, .v 112 .mv [.s 111]), (some (112, false), .v 113 .mv [.s 13]), (some (112, false), .v 114 .mv [.s 11]), (some (112, false), .v 115 .idx [.s 114, .k (.i 0)]), (some (112, false), .v 116 .ld [.s 115]), (some (112, false), .v 117 (.bin .lss) [.s 113, .s 116]), (none, .v 118 .pick [.s 112, .k (.b true), .s 117])])
   (.cond (.s 118)
   (.seq
   (.rg 0 [(none, .v 2 .mv [.k (.b false)])])
   .ret)
   .skip)))))
   (.cl ks (.rg 0 [(none, .v 119 (.bin .add) [.s 85, .k (.i 1)]), (none, .v 85 .mv [.s 119])]))))))))))
   (.cl ks (.rg 0 [(none, .v 120 .mv [.s 9]), (none, .v 121 .mv [.s 11]), (none, .v 122 .len [.s 121]), (none, .v 123 (.bin .add) [.s 120, .s 122]), (none, .tk 9 123)]))))))
   (.cl ks (.rg 0 [(none, .v 124 (.bin .add) [.s 79, .k (.i 1)]), (none, .v 79 .mv [.s 124])]))))))))))
   (.cl ks (.seq
   (.rg 0 [(none, .v 14 .mv [.k (.b false)])])
   (.cl ks (.seq
   (.seq
   (.rg 0 [(none, .v 125 .mv [.s 4]), (none, .co 126 42 [.s 125]), (none, .v 127 .len [.s 126]), (none, .v 128 .mv [.k (.i 0)])])
   (.cl ks (.block 4
   (.loop
   (.seq
   (.rg 0 [(none, .v 129 (.bin .lss) [.s 128, .s 127])])
   (.seq
   (.cond (.s 129)
   .skip
   (.exit 4))
   (.cl ks (.seq
   (.block 5
   (.seq
   (.rg 0 [(none, .v 130 .idx [.s 126, .s 128]), (none, .v 131 .ld [.s 130]), (none, .tk 16 131)])
   (.cl ks (.rg 0 [(none, .v 132 .mv [.s 14]), (none, .v 133 .mv [.s 132]), (some (133, false), .v 134 .mv [.s 3]), (some (133, false), .v 135 .mv [.s 16]), (some (133, false), .co 136 36 [.s 134, .s 135]), (some (133, false), .v 137 .mv [.s 8]), (some (133, false), .co 138 17 [.s 136, .s 137]), (none, .v 139 .pick [.s 133, .k (.b true), .s 138]), (none, .tk 14 139)]))))
   (.cl ks (.rg 0 [(none, .v 140 (.bin .add) [.s 128, .k (.i 1)]), (none, .v 128 .mv [.s 140])]))))))))))
   (.cl ks (.seq
   (.rg 0 [(none, .v 17 .mv [.k (.i 0)])])
   (.cl ks (.seq
   (.seq
   (.rg 0 [(none, .v 141 .mv [.s 3]), (none, .co 142 43 [.s 141]), (none, .v 143 .len [.s 142]), (none, .v 144 .mv [.k (.i 0)])])
   (.cl ks (.block 6
   (.loop
   (.seq
   (.rg 0 [(none, .v 145 (.bin .lss) [.s 144, .s 143])])
   (.seq
   (.cond (.s 145)
   .skip
   (.exit 6))
   (.cl ks (.seq
   (.block 7
   (.seq
   (.rg 0 [(none, .v 146 .idx [.s 142, .s 144]), (none, .v 147 .ld [.s 146]), (none, .tk 19 147)])
   (.cl ks (.seq
   (.seq
   (.rg 0 [(none, .v 148 .mv [.s 3]), (none, .v 149 .mv [.s 19]), (none, .co 150 38 [.s 148, .s 149]), (none, .v 151 .not [.s 150])])
   (.cond (.s 151)
   (.seq
   (.rg 0 [(none, .v 2 .mv [.k (.b false)])])
   .ret)
   .skip))
   (.cl ks (.rg 0 [(none, .v 152 .mv [.s 17]), (none, .v 153 (.bin .add) [.s 152, .k (.i 1)]), (none, .tk 17 153)]))))))
   (.cl ks (.rg 0 [(none, .v 154 (.bin .add) [.s 144, .k (.i 1)]), (none, .v 144 .mv [.s 154])]))))))))))
   (.cl ks (.seq
   (.rg 0 [(none, .v 155 .mv [.s 9]), (none, .v 156 .mv [.s 4]), (none, .v 157 (.bin .eql) [.s 155, .s 156]), (none, .v 158 .mv [.s 157]), (some (158, true), .v 159 .mv [.s 14]), (some (158, true), .v 160 .mv [.s 3]), (some (158, true), .v 161 .mv [.s 8]), (some (158, true), .co 162 38 [.s 160, .s 161]), (some (158, true), .v 163 .beq [.s 159, .s 162]), (none, .v 164 .pick [.s 158, .s 163, .k (.b false)]), (none, .v 165 .mv [.s 164]), (some (165, true), .v 166 .mv [.s 17]), (some (165, true), .v 167 (.bin .geq) [.s 166, .k (.i 1)]), (none, .v 168 .pick [.s 165, .s 167, .k (.b false)]), (none, .v 169 .mv [.s 168]), (some (169, true), .v 170 .mv [.s 3]), (some (169, true), .co 171 44 [.s 170]), (none, .v 172 .pick [.s 169, .s 171, .k (.b false)]), (none, .tk 2 172)])
   .ret)))))))))))))))))))))))))))))))

theorem chk_laws_FnHouses : ∃ b, Try.f5.body = some b ∧ chk Try.prog Try.f5.ntmps true C_laws_FnHouses b = true := ⟨_, rfl, by kernel_rfl⟩
theorem laws_same_ok {n1 n2 : Option Bool} (a b : List Int) (hl : a.length ≤ 1048576) : CallOk Try.prog 17 [.s n1 (ii a), .s n2 (ii b)] [(0, .b (decide (a = b)))] := by
  obtain ⟨code0, hcd1, hcd2⟩ := chk_laws_same; refine callOk_of Try.func17 hcd1 mo Try.call17 (rs := [4]) (by kernel_rfl) hcd2 (by rw [Try.ntmps17]; simp) (by simp) (by decide) ?_; unfold C_laws_same K_laws_same; simp (config := { maxSteps := 2000000 }) only [go_sem, Nat.reduceBEq, Nat.reduceAdd, Nat.reduceMul, Nat.reduceMod, Nat.reduceLT, Nat.reduceDiv, Nat.reduceSub, Nat.reduceLeDiff, Int.reduceToNat, Int.reduceLT, Int.reduceLE, reduceCtorEq, List.take_nil, List.drop_nil]
  refine ⟨fun h => ?_, fun hab => ?_⟩
  · have : ¬ a = b := fun e => h (by rw [e])
    simp [this]
  refine loopN a.length (fun j => [(0, .t .arg (.s n1 (ii a))), (1, .t .arg (.s n2 (ii b))), (12, .t .arg (.s n1 (ii a))), (13, .i a.length), (14, .i (j : Nat))]) (fun j => a.take j = b.take j) ⟨rfl, by simp (config := { maxSteps := 2000000 }) only [go_sem, Nat.reduceBEq, Nat.reduceAdd, Nat.reduceMul, Nat.reduceMod, Nat.reduceLT, Nat.reduceDiv, Nat.reduceSub, Nat.reduceLeDiff, Int.reduceToNat, Int.reduceLT, Int.reduceLE, reduceCtorEq, List.take_nil, List.drop_nil]; simp⟩ fun j hj he => ?_
  simp (config := { maxSteps := 2000000 }) only [go_sem, Nat.reduceBEq, Nat.reduceAdd, Nat.reduceMul, Nat.reduceMod, Nat.reduceLT, Nat.reduceDiv, Nat.reduceSub, Nat.reduceLeDiff, Int.reduceToNat, Int.reduceLT, Int.reduceLE, reduceCtorEq, List.take_nil, List.drop_nil]
  refine ⟨fun hlt => ?_, fun hge => ?_⟩
  · refine ⟨by omega, by omega, by omega, by omega, by omega, by omega, fun hn => ?_, fun hn => ⟨inR_of (by omega) (by omega), by omega, ?_, by simp⟩⟩
    · have : ¬ a = b := fun e => hn (by rw [e])
      simp [this]
    · rw [take_getD 0 (show j < a.length by omega), take_getD 0 (show j < b.length by omega), he, hn]
  · have : j = a.length := by omega
    subst this
    have : a = b := by rw [List.take_length, hab, List.take_length] at he; exact he
    simp [this]
theorem unimpF_len {ls : List (List Int)} : (unimpF ls).length ≤ (allRank (ls.length : Int)).length := by
  unfold unimpF
  split
  · exact unimpK_len
  · exact Nat.zero_le _
theorem unimp_row {ls : List (List Int)} (hh : housesB ls = true) (l4 : ls.length ≤ 4) {c : List Int} (hc : c ∈ unimpF ls) : c.length = ls.length ∧ unimprF ls c = true := by
  unfold unimpF unimpK at hc
  rw [if_pos (by simp [unimpB, hh]; omega), List.take_length, List.mem_filter] at hc
  have hr : rankB ls.length c = true := allRank_rank hc.1
  have := rank_len hr
  exact ⟨by omega, by simp [unimprF, exchB, hh, hr, hc.2]⟩
theorem unimp_some {ls : List (List Int)} (hh : housesB ls = true) (l4 : ls.length ≤ 4) : 1 ≤ (unimpF ls).length := by
  have h := ex_unimpr hh
  unfold unimprF exchB at h
  simp only [Bool.and_eq_true] at h
  unfold unimpF unimpK
  rw [if_pos (by simp [unimpB, hh]; omega), List.take_length]
  exact List.length_pos_of_mem (List.mem_filter.2 ⟨rank_allRank h.1.2, h.2⟩)
/-- Has one of the first j orders this serial choice? -/
def fndK (ls : List (List Int)) (z : List Int) (j : Nat) : Bool := ((allRank (ls.length : Int)).take j).any fun o => decide (serF ls o = z)
theorem fnd_s {ls : List (List Int)} {z : List Int} {j : Nat} (h : j < (allRank (ls.length : Int)).length) : fndK ls z (j + 1) = (fndK ls z j || decide (serF ls ((allRank (ls.length : Int)).getD j []) = z)) := by
  unfold fndK
  rw [take_getD [] h]; simp
theorem fnd_all {ls : List (List Int)} {z : List Int} (hh : housesB ls = true) (hz : rankB ls.length z = true) : fndK ls z (allRank (ls.length : Int)).length = unimprF ls z := by
  unfold fndK
  rw [List.take_length, Bool.eq_iff_iff, List.any_eq_true]
  constructor
  · rintro ⟨o, ho, e⟩
    rw [← of_decide_eq_true e]
    exact ser_unimpr hh (allRank_rank ho)
  · intro h
    unfold unimprF at h
    rw [Bool.and_eq_true] at h
    obtain ⟨o, ho, e⟩ := unimpr_ser hh hz h.2
    exact ⟨o, rank_allRank ho, by simp [e]⟩
theorem cutG {G H : Prop} (f : G → H) (g : G) : H := f g
set_option maxHeartbeats 4000000 in
theorem FnHouses_ok (u : Value) (l : List Int) (a : l.length ≤ 9223372036854775807) (hb : ∀ x ∈ l, 0 ≤ x ∧ x < 256) : CallOk Try.prog 5 [.xv u (.s none (byt l))] [(0, .b true)] := by
  obtain ⟨code0, hcd1, hcd2⟩ := chk_laws_FnHouses; refine callOk_of Try.func5 hcd1 mo Try.call5 (rs := [2]) (by kernel_rfl) hcd2 (by rw [Try.ntmps5]; simp) (by simp) (by decide) ?_; unfold C_laws_FnHouses K_laws_FnHouses; simp (config := { maxSteps := 2000000 }) only [go_sem, Nat.reduceBEq, Nat.reduceAdd, Nat.reduceMul, Nat.reduceMod, Nat.reduceLT, Nat.reduceDiv, Nat.reduceSub, Nat.reduceLeDiff, Int.reduceToNat, Int.reduceLT, Int.reduceLE, reduceCtorEq, List.take_nil, List.drop_nil]
  simp only [byt_len]
  refine ⟨fun _ => trivial, fun hlen => ?_⟩
  have C : CodeL l := ⟨by omega, hb⟩
  obtain ⟨ls, l1, l4, hrk, W⟩ := spec_MakeHouses_ok u none C (n := 0) (by omega) (by omega) (m := 4) (by omega) (by omega)
  have hh : housesB ls = true := by
    simp only [housesB, Bool.and_eq_true, inI, decide_eq_true_eq, ranksB, List.all_eq_true]
    exact ⟨⟨by omega, by omega⟩, hrk⟩
  have H := hs_of hh
  have hl : ls.length ≤ 1048576 := by omega
  have hr : ∀ r ∈ ls, r.length ≤ 1048576 := fun r hm => by have := rank_len (hrk r hm); omega
  obtain ⟨o, ho, Wo⟩ := spec_MakeRanking_ok u none C (n := 60) (by omega) (by omega) (m := ls.length) (by omega) (by omega)
  obtain ⟨z, hz, Wz⟩ := spec_MakeRanking_ok u none C (n := 80) (by omega) (by omega) (m := ls.length) (by omega) (by omega)
  have ol := rank_len ho
  have zl := rank_len hz
  have hx := (ex_core hh).1
  have xl := rank_len hx
  have hy := ser_rank hh ho
  have yl := rank_len hy
  have ux := ex_unimpr hh
  have uy := ser_unimpr hh ho
  have kx := ex_keeps hh
  have bx : blkF ls (exF ls) = 0 := (ex_blk hh hx).2 rfl
  have bz := ex_blk hh hz
  refine ⟨_, W, ?_⟩; simp (config := { maxSteps := 2000000 }) only [go_sem, Nat.reduceBEq, Nat.reduceAdd, Nat.reduceMul, Nat.reduceMod, Nat.reduceLT, Nat.reduceDiv, Nat.reduceSub, Nat.reduceLeDiff, Int.reduceToNat, Int.reduceLT, Int.reduceLE, reduceCtorEq, List.take_nil, List.drop_nil]
  refine ⟨_, impl_ExchangeBy_ok ls hl hr, ?_⟩; simp (config := { maxSteps := 2000000 }) only [go_sem, Nat.reduceBEq, Nat.reduceAdd, Nat.reduceMul, Nat.reduceMod, Nat.reduceLT, Nat.reduceDiv, Nat.reduceSub, Nat.reduceLeDiff, Int.reduceToNat, Int.reduceLT, Int.reduceLE, reduceCtorEq, List.take_nil, List.drop_nil]
  refine ⟨_, Wo, ?_⟩; simp (config := { maxSteps := 2000000 }) only [go_sem, Nat.reduceBEq, Nat.reduceAdd, Nat.reduceMul, Nat.reduceMod, Nat.reduceLT, Nat.reduceDiv, Nat.reduceSub, Nat.reduceLeDiff, Int.reduceToNat, Int.reduceLT, Int.reduceLE, reduceCtorEq, List.take_nil, List.drop_nil]
  refine ⟨_, impl_SerialChoice_ok ls o hl hr (by omega), ?_⟩; simp (config := { maxSteps := 2000000 }) only [go_sem, Nat.reduceBEq, Nat.reduceAdd, Nat.reduceMul, Nat.reduceMod, Nat.reduceLT, Nat.reduceDiv, Nat.reduceSub, Nat.reduceLeDiff, Int.reduceToNat, Int.reduceLT, Int.reduceLE, reduceCtorEq, List.take_nil, List.drop_nil]
  refine ⟨_, Wz, ?_⟩; simp (config := { maxSteps := 2000000 }) only [go_sem, Nat.reduceBEq, Nat.reduceAdd, Nat.reduceMul, Nat.reduceMod, Nat.reduceLT, Nat.reduceDiv, Nat.reduceSub, Nat.reduceLeDiff, Int.reduceToNat, Int.reduceLT, Int.reduceLE, reduceCtorEq, List.take_nil, List.drop_nil]
  have cR : ∀ n2, CallOk Try.prog 37 [.i ls.length, .s n2 (ii (exF ls))] [(0, .b true)] := fun n2 => by have := spec_RankingOk_ok (nl := n2) (ls.length : Int) (exF ls) (by omega); rwa [hx] at this
  have cU : ∀ n1 n2, CallOk Try.prog 38 [.s n1 (rr ls), .s n2 (ii (exF ls))] [(0, .b true)] := fun n1 n2 => by have := impl_IsUnimproved_ok (n1 := n1) (n2 := n2) ls (exF ls) hl hr (by omega); rwa [ux] at this
  have cUy : ∀ n1 n2, CallOk Try.prog 38 [.s n1 (rr ls), .s n2 (ii (serF ls o))] [(0, .b true)] := fun n1 n2 => by have := impl_IsUnimproved_ok (n1 := n1) (n2 := n2) ls (serF ls o) hl hr (by omega); rwa [uy] at this
  have cB : ∀ n1 n2, CallOk Try.prog 39 [.s n1 (rr ls), .s n2 (ii (exF ls))] [(0, .i 0)] := fun n1 n2 => by have := impl_BlockingSet_ok (n1 := n1) (n2 := n2) ls (exF ls) hl hr (by omega); rwa [bx] at this
  have cK : ∀ n1 n2, CallOk Try.prog 40 [.s n1 (rr ls), .s n2 (ii (exF ls))] [(0, .b true)] := fun n1 n2 => by have := impl_KeepsOwners_ok (n1 := n1) (n2 := n2) ls (exF ls) hl hr (by omega); rwa [kx] at this
  have cH : ∀ n1, CallOk Try.prog 44 [.s n1 (rr ls)] [(0, .b true)] := fun n1 => by have := impl_HousesOk_ok (nl := n1) ls hl hr; rwa [hh] at this
  refine ⟨_, cR _, ?_⟩; simp (config := { maxSteps := 2000000 }) only [go_sem, Nat.reduceBEq, Nat.reduceAdd, Nat.reduceMul, Nat.reduceMod, Nat.reduceLT, Nat.reduceDiv, Nat.reduceSub, Nat.reduceLeDiff, Int.reduceToNat, Int.reduceLT, Int.reduceLE, reduceCtorEq, List.take_nil, List.drop_nil]
  refine ⟨_, cU _ _, ?_⟩; simp (config := { maxSteps := 2000000 }) only [go_sem, Nat.reduceBEq, Nat.reduceAdd, Nat.reduceMul, Nat.reduceMod, Nat.reduceLT, Nat.reduceDiv, Nat.reduceSub, Nat.reduceLeDiff, Int.reduceToNat, Int.reduceLT, Int.reduceLE, reduceCtorEq, List.take_nil, List.drop_nil]
  refine ⟨_, cB _ _, ?_⟩; simp (config := { maxSteps := 2000000 }) only [go_sem, Nat.reduceBEq, Nat.reduceAdd, Nat.reduceMul, Nat.reduceMod, Nat.reduceLT, Nat.reduceDiv, Nat.reduceSub, Nat.reduceLeDiff, Int.reduceToNat, Int.reduceLT, Int.reduceLE, reduceCtorEq, List.take_nil, List.drop_nil]
  simp (config := { maxSteps := 2000000 }) only [go_sem, Nat.reduceBEq, Nat.reduceAdd, Nat.reduceMul, Nat.reduceMod, Nat.reduceLT, Nat.reduceDiv, Nat.reduceSub, Nat.reduceLeDiff, Int.reduceToNat, Int.reduceLT, Int.reduceLE, reduceCtorEq, List.take_nil, List.drop_nil, not_true_eq_false, decide_false]
  refine ⟨_, cK _ _, ?_⟩; simp (config := { maxSteps := 2000000 }) only [go_sem, Nat.reduceBEq, Nat.reduceAdd, Nat.reduceMul, Nat.reduceMod, Nat.reduceLT, Nat.reduceDiv, Nat.reduceSub, Nat.reduceLeDiff, Int.reduceToNat, Int.reduceLT, Int.reduceLE, reduceCtorEq, List.take_nil, List.drop_nil]
  refine ⟨_, cUy _ _, ?_⟩; simp (config := { maxSteps := 2000000 }) only [go_sem, Nat.reduceBEq, Nat.reduceAdd, Nat.reduceMul, Nat.reduceMod, Nat.reduceLT, Nat.reduceDiv, Nat.reduceSub, Nat.reduceLeDiff, Int.reduceToNat, Int.reduceLT, Int.reduceLE, reduceCtorEq, List.take_nil, List.drop_nil]
  refine ⟨_, impl_BlockingSet_ok ls z hl hr (by omega), ?_⟩; simp (config := { maxSteps := 2000000 }) only [go_sem, Nat.reduceBEq, Nat.reduceAdd, Nat.reduceMul, Nat.reduceMod, Nat.reduceLT, Nat.reduceDiv, Nat.reduceSub, Nat.reduceLeDiff, Int.reduceToNat, Int.reduceLT, Int.reduceLE, reduceCtorEq, List.take_nil, List.drop_nil]
  refine ⟨_, laws_same_ok z (exF ls) (by omega), ?_⟩; simp (config := { maxSteps := 2000000 }) only [go_sem, Nat.reduceBEq, Nat.reduceAdd, Nat.reduceMul, Nat.reduceMod, Nat.reduceLT, Nat.reduceDiv, Nat.reduceSub, Nat.reduceLeDiff, Int.reduceToNat, Int.reduceLT, Int.reduceLE, reduceCtorEq, List.take_nil, List.drop_nil]
  have bz' : (decide (blkF ls z = 0) != decide (z = exF ls)) = false := by
    by_cases e : z = exF ls
    · simp [e, bx]
    · have : ¬ blkF ls z = 0 := fun h => e (bz.1 h)
      simp [e, this]
  simp (config := { maxSteps := 2000000 }) only [go_sem, Nat.reduceBEq, Nat.reduceAdd, Nat.reduceMul, Nat.reduceMod, Nat.reduceLT, Nat.reduceDiv, Nat.reduceSub, Nat.reduceLeDiff, Int.reduceToNat, Int.reduceLT, Int.reduceLE, reduceCtorEq, List.take_nil, List.drop_nil, bz']
  refine ⟨_, impl_TopCycles_ok ls hl hr, ?_⟩; simp (config := { maxSteps := 2000000 }) only [go_sem, Nat.reduceBEq, Nat.reduceAdd, Nat.reduceMul, Nat.reduceMod, Nat.reduceLT, Nat.reduceDiv, Nat.reduceSub, Nat.reduceLeDiff, Int.reduceToNat, Int.reduceLT, Int.reduceLE, reduceCtorEq, List.take_nil, List.drop_nil]
  have hR := fun c (hc : c ∈ topsF ls) => tops_row hh hc
  have hRl : (topsF ls).length ≤ 25 := by
    have e : topsF ls = (tcS ls ls.length).2 := if_pos hh
    have h1 := tcS_rows (ls := ls) (j := ls.length)
    have h2 : ls.length * ls.length ≤ 5 * 5 := Nat.mul_le_mul (by omega) (by omega)
    rw [e]; omega
  have hRt := tops_tot hh
  generalize topsF ls = R at hR hRl hRt ⊢
  have hAl := allRank_len (m := (ls.length : Int))
  have hUl := fun c (hc : c ∈ unimpF ls) => unimp_row hh l4 hc
  have hU1 := unimp_some hh l4
  have hUL : (unimpF ls).length ≤ 3125 := Nat.le_trans unimpF_len hAl
  refine loopN R.length (fun t => [(0, .t .arg (.xv u (.s none (byt l)))), (2, .b false), (3, .own 1 none (rr ls)), (4, .i ls.length), (5, .own 1 none (ii (exF ls))), (8, .own 1 none (ii z)), (9, .i (tot (R.take t))), (77, .own 1 none (rr R)), (78, .i R.length), (79, .i (t : Nat))]) (fun _ => True) ⟨trivial, by simp (config := { maxSteps := 2000000 }) only [go_sem, Nat.reduceBEq, Nat.reduceAdd, Nat.reduceMul, Nat.reduceMod, Nat.reduceLT, Nat.reduceDiv, Nat.reduceSub, Nat.reduceLeDiff, Int.reduceToNat, Int.reduceLT, Int.reduceLE, reduceCtorEq, List.take_nil, List.drop_nil, le_self]; simp [tot]⟩ fun t ht _ => ?_
  simp (config := { maxSteps := 2000000 }) only [go_sem, Nat.reduceBEq, Nat.reduceAdd, Nat.reduceMul, Nat.reduceMod, Nat.reduceLT, Nat.reduceDiv, Nat.reduceSub, Nat.reduceLeDiff, Int.reduceToNat, Int.reduceLT, Int.reduceLE, reduceCtorEq, List.take_nil, List.drop_nil, le_self]
  refine ⟨fun hlt => ?_, fun hge => ?_⟩
  · have ht' : t < R.length := by omega
    obtain ⟨c1, c2, c3, c4⟩ := hR _ (getD_mem (d := []) ht')
    have tt := tot_take ht'
    have tl := tot_take_le (a := R) (j := t + 1)
    refine ⟨by omega, ht', ht', ?_⟩
    generalize R.getD t [] = c at c1 c2 c3 c4 tt ⊢
    refine loopN c.length (fun k => [(0, .t .arg (.xv u (.s none (byt l)))), (2, .b false), (3, .own 1 none (rr ls)), (4, .i ls.length), (5, .own 1 none (ii (exF ls))), (8, .own 1 none (ii z)), (9, .i (tot (R.take t))), (11, .t (.rw 77) (.s none (ii c))), (77, .own 1 none (rr R)), (78, .i R.length), (79, .i (t : Nat)), (83, .t (.rw 77) (.s none (ii c))), (84, .i c.length), (85, .i (k : Nat))]) (fun _ => True) ⟨trivial, by simp (config := { maxSteps := 2000000 }) only [go_sem, Nat.reduceBEq, Nat.reduceAdd, Nat.reduceMul, Nat.reduceMod, Nat.reduceLT, Nat.reduceDiv, Nat.reduceSub, Nat.reduceLeDiff, Int.reduceToNat, Int.reduceLT, Int.reduceLE, reduceCtorEq, List.take_nil, List.drop_nil, le_self]; simp⟩ fun k hk _ => ?_
    simp (config := { maxSteps := 2000000 }) only [go_sem, Nat.reduceBEq, Nat.reduceAdd, Nat.reduceMul, Nat.reduceMod, Nat.reduceLT, Nat.reduceDiv, Nat.reduceSub, Nat.reduceLeDiff, Int.reduceToNat, Int.reduceLT, Int.reduceLE, reduceCtorEq, List.take_nil, List.drop_nil, le_self]
    refine ⟨fun hlt2 => ?_, fun hge2 => ?_⟩
    · have hk' : k < c.length := by omega
      have hx := c3 _ (getD_mem (d := 0) hk')
      have hmod : ((k : Int) + 1).tmod c.length = (((k + 1) % c.length : Nat) : Int) := by
        rw [Int.tmod_eq_emod_of_nonneg (by omega)]; simp
      have hml : (k + 1) % c.length < c.length := Nat.mod_lt _ c1
      have h4 := c4 k hk'
      rw [hmod, Int.toNat_natCast]
      exact ⟨by omega, hk', hk', fun _ => ⟨fun _ => ⟨hx.1, by omega, by omega, inR_of (by omega) (by omega), by omega, Int.natCast_nonneg _, hml, hml, fun _ => ⟨c1, c1, fun h => by omega, fun _ => ⟨inR_of (by omega) (by omega), hk', by simp⟩⟩, fun h => h h4⟩, fun h => by omega⟩, fun h => by omega⟩
    · have : k = c.length := by omega
      subst this
      refine ⟨inR_of (by omega) (by omega), inR_of (by omega) (by omega), ht', by rw [tt]; omega, by simp⟩
  · have : t = R.length := by omega
    subst this
    rw [List.take_length, hRt]
    refine ⟨_, impl_AllRankings_ok (ls.length : Int), ?_⟩; simp (config := { maxSteps := 2000000 }) only [go_sem, Nat.reduceBEq, Nat.reduceAdd, Nat.reduceMul, Nat.reduceMod, Nat.reduceLT, Nat.reduceDiv, Nat.reduceSub, Nat.reduceLeDiff, Int.reduceToNat, Int.reduceLT, Int.reduceLE, reduceCtorEq, List.take_nil, List.drop_nil]
    have fs := fun j (h : j < (allRank (ls.length : Int)).length) => fnd_s (ls := ls) (z := z) h
    have fa := fnd_all hh hz
    have fr := fun j (h : j < (allRank (ls.length : Int)).length) => allRank_rank (getD_mem (d := []) h)
    have f0 : fndK ls z 0 = false := rfl
    generalize allRank (ls.length : Int) = A at fs fa fr hAl ⊢
    refine loopN A.length (fun j => [(0, .t .arg (.xv u (.s none (byt l)))), (2, .b false), (3, .own 1 none (rr ls)), (4, .i ls.length), (5, .own 1 none (ii (exF ls))), (8, .own 1 none (ii z)), (9, .i ls.length), (14, .b (fndK ls z j)), (126, .own 1 none (rr A)), (127, .i A.length), (128, .i (j : Nat))]) (fun _ => True) ⟨trivial, by simp (config := { maxSteps := 2000000 }) only [go_sem, Nat.reduceBEq, Nat.reduceAdd, Nat.reduceMul, Nat.reduceMod, Nat.reduceLT, Nat.reduceDiv, Nat.reduceSub, Nat.reduceLeDiff, Int.reduceToNat, Int.reduceLT, Int.reduceLE, reduceCtorEq, List.take_nil, List.drop_nil, le_self]; simp [f0]⟩ fun j hj _ => ?_
    simp (config := { maxSteps := 2000000 }) only [go_sem, Nat.reduceBEq, Nat.reduceAdd, Nat.reduceMul, Nat.reduceMod, Nat.reduceLT, Nat.reduceDiv, Nat.reduceSub, Nat.reduceLeDiff, Int.reduceToNat, Int.reduceLT, Int.reduceLE, reduceCtorEq, List.take_nil, List.drop_nil, le_self]
    refine ⟨fun hlt => ?_, fun hge => ?_⟩
    · have hj' : j < A.length := by omega
      have hjr := fr j hj'
      have hjl := rank_len hjr
      have hsl := rank_len (ser_rank hh hjr)
      have hs := fs j hj'
      refine ⟨by omega, hj', hj', ?_⟩
      refine ⟨fun hf => ?_, fun hf => ?_⟩
      · refine ⟨_, impl_SerialChoice_ok ls (A.getD j []) hl hr (by omega), ?_⟩; simp (config := { maxSteps := 2000000 }) only [go_sem, Nat.reduceBEq, Nat.reduceAdd, Nat.reduceMul, Nat.reduceMod, Nat.reduceLT, Nat.reduceDiv, Nat.reduceSub, Nat.reduceLeDiff, Int.reduceToNat, Int.reduceLT, Int.reduceLE, reduceCtorEq, List.take_nil, List.drop_nil]
        refine ⟨_, laws_same_ok (serF ls (A.getD j [])) z (by omega), ?_⟩; simp (config := { maxSteps := 2000000 }) only [go_sem, Nat.reduceBEq, Nat.reduceAdd, Nat.reduceMul, Nat.reduceMod, Nat.reduceLT, Nat.reduceDiv, Nat.reduceSub, Nat.reduceLeDiff, Int.reduceToNat, Int.reduceLT, Int.reduceLE, reduceCtorEq, List.take_nil, List.drop_nil]
        exact ⟨inR_of (by omega) (by omega), hj', Vc.V.le_refl _, by rw [hs, hf, Bool.false_or], by simp⟩
      · exact ⟨inR_of (by omega) (by omega), hj', by rw [hs, hf, Bool.true_or], by simp⟩
    · have : j = A.length := by omega
      subst this
      rw [fa]
      refine ⟨_, impl_UnimprovedExchanges_ok ls hl hr, ?_⟩; simp (config := { maxSteps := 2000000 }) only [go_sem, Nat.reduceBEq, Nat.reduceAdd, Nat.reduceMul, Nat.reduceMod, Nat.reduceLT, Nat.reduceDiv, Nat.reduceSub, Nat.reduceLeDiff, Int.reduceToNat, Int.reduceLT, Int.reduceLE, reduceCtorEq, List.take_nil, List.drop_nil]
      generalize unimpF ls = U at hUl hU1 hUL ⊢
      refine loopN U.length (fun j => [(0, .t .arg (.xv u (.s none (byt l)))), (2, .b false), (3, .own 1 none (rr ls)), (4, .i ls.length), (5, .own 1 none (ii (exF ls))), (8, .own 1 none (ii z)), (9, .i ls.length), (14, .b (unimprF ls z)), (17, .i (j : Nat)), (142, .own 1 none (rr U)), (143, .i U.length), (144, .i (j : Nat))]) (fun _ => True) ⟨trivial, by simp (config := { maxSteps := 2000000 }) only [go_sem, Nat.reduceBEq, Nat.reduceAdd, Nat.reduceMul, Nat.reduceMod, Nat.reduceLT, Nat.reduceDiv, Nat.reduceSub, Nat.reduceLeDiff, Int.reduceToNat, Int.reduceLT, Int.reduceLE, reduceCtorEq, List.take_nil, List.drop_nil, le_self]; simp⟩ fun j hj _ => ?_
      simp (config := { maxSteps := 2000000 }) only [go_sem, Nat.reduceBEq, Nat.reduceAdd, Nat.reduceMul, Nat.reduceMod, Nat.reduceLT, Nat.reduceDiv, Nat.reduceSub, Nat.reduceLeDiff, Int.reduceToNat, Int.reduceLT, Int.reduceLE, reduceCtorEq, List.take_nil, List.drop_nil, le_self]
      refine ⟨fun hlt => ?_, fun hge => ?_⟩
      · have hj' : j < U.length := by omega
        obtain ⟨hul, huu⟩ := hUl _ (getD_mem (d := []) hj')
        have cUj : ∀ n1 n2, CallOk Try.prog 38 [.s n1 (rr ls), .s n2 (ii (U.getD j []))] [(0, .b true)] := fun n1 n2 => by have := impl_IsUnimproved_ok (n1 := n1) (n2 := n2) ls (U.getD j []) hl hr (by omega); rwa [huu] at this
        refine ⟨by omega, hj', hj', ?_⟩
        refine ⟨_, cUj _ _, ?_⟩; simp (config := { maxSteps := 2000000 }) only [go_sem, Nat.reduceBEq, Nat.reduceAdd, Nat.reduceMul, Nat.reduceMod, Nat.reduceLT, Nat.reduceDiv, Nat.reduceSub, Nat.reduceLeDiff, Int.reduceToNat, Int.reduceLT, Int.reduceLE, reduceCtorEq, List.take_nil, List.drop_nil]
        refine ⟨inR_of (by omega) (by omega), inR_of (by omega) (by omega), hj', ?_⟩
        first | exact ⟨by simp, by simp⟩ | exact ⟨Vc.V.le_refl _, by simp, by simp⟩ | simp
      · have : j = U.length := by omega
        subst this
        refine ⟨_, impl_IsUnimproved_ok ls z hl hr (by omega), ?_⟩; simp (config := { maxSteps := 2000000 }) only [go_sem, Nat.reduceBEq, Nat.reduceAdd, Nat.reduceMul, Nat.reduceMod, Nat.reduceLT, Nat.reduceDiv, Nat.reduceSub, Nat.reduceLeDiff, Int.reduceToNat, Int.reduceLT, Int.reduceLE, reduceCtorEq, List.take_nil, List.drop_nil]
        refine ⟨fun _ => ⟨fun _ => ?_, fun h => absurd (show (1 : Int) ≤ U.length by omega) h⟩, fun h => by simp at h⟩
        refine ⟨_, cH _, ?_⟩; simp (config := { maxSteps := 2000000 }) only [go_sem, Nat.reduceBEq, Nat.reduceAdd, Nat.reduceMul, Nat.reduceMod, Nat.reduceLT, Nat.reduceDiv, Nat.reduceSub, Nat.reduceLeDiff, Int.reduceToNat, Int.reduceLT, Int.reduceLE, reduceCtorEq, List.take_nil, List.drop_nil]
theorem FnHouses_lifted (os : Os) (started : os.Started) (H : Type) (enc : TypeId × Value → H) :
    ReturnsInHanded {} Try.checked os 5 .any (Rows.fnHousesSpec.pre6 enc Try.prog Try.f5 Rows.fnHousesRow.domain false) (Rows.fnHousesSpec.post enc Try.prog Try.f5 false true false false) := by
  refine returnsInHanded_of_change (C := Try.checked) ownk started (by as_aux_lemma => kernel_rfl) Try.func5
    (ChangeSpec.witness6 (enc := enc) (C := Try.checked) false ⟨#[], #[.slice none 0 0], []⟩ 8 (by kernel_rfl) (by kernel_rfl) (by kernel_rfl) (by kernel_rfl)) ?_
  intro W base args ds gs before hval0 hW _ _
  have hval : ∀ (j : Nat) t v, Try.f5.params[j]? = some t → args[j]? = some v → Value.okWide Try.prog W .any base t v := hval0
  have hW' := hW
  obtain ⟨p, q, hA0, _⟩ := hW
  have hA : DataW.TrodAll enc Try.prog W 0 (fun _ => true) true Try.f5.params.toList args.toList ds p := hA0
  rw [Try.params5] at hA hval
  clear hA0 hval0
  obtain ⟨v0, d0, rfl, rfl, h0⟩ := trodAll_one hA
  obtain ⟨x0, a0, b0, f0⟩ := fz_bytes Try.underlying22 Try.underlying5 (by kernel_rfl : Try.prog.cellsOf 5 = 1) (hval 0 22 v0 rfl rfl) h0
  exact law_post (P := Try.prog) pfacts.laid (fun t ht => by rw [Try.params5] at ht; revert t; simp only [List.mem_cons, List.not_mem_nil, or_false, forall_eq_or_imp, forall_eq]; exact ⟨by kernel_rfl, of_decide_eq_true (by kernel_rfl)⟩) rfl (by kernel_rfl) rfl (fun ds hds => by
    have hds : ds.length = 1 := hds
    match ds, hds with
    | [d0], _ => rfl) hW' (ts := [.xv v0 (.s none (byt x0))]) (by simp only [FzL]; exact ⟨_, _, rfl, f0, rfl⟩) (FnHouses_ok v0 x0 a0 b0)
theorem FnHouses_holds : Rows.FnHousesSaid :=
  OpenClaim.holds_of_wide (p := Try.pinned) (s := Rows.fnHousesSpec) (c := Rows.fnHousesRow) 5 Try.f5 rfl rfl rfl rfl rfl rfl rfl ⟨rfl, rfl, rfl, rfl, rfl⟩ rfl rfl rfl rfl rfl (by as_aux_lemma => kernel_rfl) Try.func5 (joined_of pfacts rfl rfl rfl (by as_aux_lemma => kernel_rfl) (by as_aux_lemma => kernel_rfl) (by as_aux_lemma => kernel_rfl) (by as_aux_lemma => kernel_rfl) (by as_aux_lemma => kernel_rfl) (by as_aux_lemma => kernel_rfl) (by as_aux_lemma => kernel_rfl) (by as_aux_lemma => kernel_rfl) (by as_aux_lemma => kernel_rfl) (by as_aux_lemma => kernel_rfl) (by as_aux_lemma => kernel_rfl) (by as_aux_lemma => kernel_rfl) (by as_aux_lemma => kernel_rfl) (by as_aux_lemma => kernel_rfl) (by as_aux_lemma => kernel_rfl) (by as_aux_lemma => kernel_rfl) (by as_aux_lemma => kernel_rfl) (by as_aux_lemma => kernel_rfl) (by as_aux_lemma => kernel_rfl) (by as_aux_lemma => kernel_rfl) (by as_aux_lemma => kernel_rfl) (by as_aux_lemma => kernel_rfl) (by as_aux_lemma => kernel_rfl))
    (of_decide_eq_true (by kernel_rfl)) (by unfold Func.isWrapper; rw [if_neg (of_decide_eq_false (by kernel_rfl))]; exact ⟨rfl, rfl⟩)
    (fun os started H enc _ => FnHouses_lifted os started H enc)

end Go.Proofs.Ytfdoddeccnjcmaa
