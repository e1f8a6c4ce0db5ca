/- At every input the law below returns true and leaves its argument alone: no envy gives proportional parts, these give shares, and some full allocation is free of envy up to any good. No condition. -/
import Derived.Test.YtfdoddeccnjcmaaRows
import Derived.Test.YtfdoddeccnjcmaaShmath
import Derived.Test.YtfdoddeccnjcmaaValues
import Derived.Test.YtfdoddeccnjcmaaFacts
import Derived.Test.YtfdoddeccnjcmaaMarks
namespace Go.Proofs.Ytfdoddeccnjcmaa
open Go Go.Vc
set_option maxRecDepth 100000
set_option linter.unusedSimpArgs false
set_option linter.unusedVariables false
open Go.ChangeShapes Go.WideShapes Go.RowKit
def K_laws_FnShares : List Nat := [0, 2, 3, 4, 5, 6, 7, 8, 9, 10, 11, 12, 13, 14, 15, 27, 28]
def C_laws_FnShares : C :=
  let ks := K_laws_FnShares
  (.seq
    (.rg 0 [(none, .v 2 .mv [.k (.b false)])])
    (.cl ks (.seq
      (.seq
        (.rg 0 [(none, .v 16 .mv [.s 0]), (none, .v 17 .len [.s 16]), (none, .v 18 (.bin .gtr) [.s 17, .k (.i 1048576)])])
        (.cond (.s 18)
          (.seq
            (.rg 0 [(none, .v 2 .mv [.k (.b true)])])
            .ret)
          .skip))
      (.cl ks (.seq
        (.rg 0 [(none, .v 19 .mv [.s 0]), (none, .co 20 45 [.s 19, .k (.i 0)]), (none, .tk 3 20)])
        (.cl ks (.seq
          (.rg 0 [(none, .v 21 .mv [.s 3]), (none, .v 22 .len [.s 21]), (none, .tk 4 22)])
          (.cl ks (.seq
            (.rg 0 [(none, .lit 23 [] 0), (none, .tk 5 23)])
            (.cl ks (.seq
              (.seq
                (.rg 0 [(none, .v 24 .mv [.s 3]), (none, .v 25 .idx [.s 24, .k (.i 0)]), (none, .v 26 .ld [.s 25]), (none, .v 27 .len [.s 26]), (none, .v 28 .mv [.k (.i 0)])])
                (.cl ks (.block 0
                  (.loop
                    (.seq
                      (.rg 0 [(none, .v 29 (.bin .lss) [.s 28, .s 27])])
                      (.seq
                        (.cond (.s 29)
                          .skip
                          (.exit 0))
                        (.cl ks (.seq
                          (.block 1
                            (.seq
                              (.rg 0 [(none, .v 30 .mv [.s 28]), (none, .tk 6 30)])
                              (.cl ks (.rg 0 [(none, .v 31 .mv [.s 5]), (none, .v 32 .mv [.s 0]), (none, .v 33 .mv [.s 6]), (none, .v 34 (.bin .mul) [.k (.i 2), .s 33]), (none, .v 35 (.bin .add) [.k (.i 60), .s 34]), (none, .co 36 9 [.s 32, .s 35]), (none, .v 37 .mv [.s 4]), (none, .v 38 (.bin .rem) [.s 36, .s 37]), (none, .lit 39 [.s 38] 0), (none, .app 40 (.s 31) (.s 39) 0), (none, .tk 5 40)]))))
                          (.cl ks (.rg 0 [(none, .v 41 (.bin .add) [.s 28, .k (.i 1)]), (none, .v 28 .mv [.s 41])]))))))))))
              (.cl ks (.seq
                (.seq
                  (.rg 0 [(none, .v 42 .mv [.s 3]), (none, .v 43 .mv [.s 5]), (none, .co 44 56 [.s 42, .s 43]), (none, .v 45 .mv [.s 44]), (some (45, true), .v 46 .mv [.s 3]), (some (45, true), .v 47 .mv [.s 5]), (some (45, true), .co 48 57 [.s 46, .s 47]), (some (45, true), .v 49 .not [.s 48]), (none, .v 50 .pick [.s 45, .s 49, .k (.b false)]), (none, .v 51 .mv [.s 50]), (some (51, false), .v 52 .mv [.s 3]), (some (51, false), .v 53 .mv [.s 5]), (some (51, false), .co 54 57 [.s 52, .s 53]), (some (51, false), .v 55 .mv [.s 54]), (some (55, true), .v 56 .mv [.s 3]), (some (55, true), .v 57 .mv [.s 5]), (some (55, true), .co 58 58 [.s 56, .s 57]), (some (55, true), .v 59 .not [.s 58]), (some (51, false), .v 60 .pick [.s 55, .s 59, .k (.b false)]), (none, .v 61 .pick [.s 51, .k (.b true), .s 60]), (none, .v 62 .mv [.s 61]), (some (62, false), .v 63 .mv [.s 3]), (some (62, false), .v 64 .mv [.s 5]), (some (62, false), .co 65 56 [.s 63, .s 64]), (some (62, false), .v 66 .mv [.s 65]), (some (66, true), .v 67 .mv [.s 3]), (some (66, true), .v 68 .mv [.s 5]), (some (66, true), .co 69 59 [.s 67, .s 68]), (some (66, true), .v 70 .not [.s 69]), (some (62, false), .v 71 .pick [.s 66, .s 70, .k (.b false)]), (none, .v 72 .pick [.s 62, .k (.b true), .s 71]), (none, .v 73 .mv [.s 72]), (some (73, false), .v 74 .mv [.s 3]), (some (73, false), .v 75 .mv [.s 5]), (some (73, false), .co 76 59 [.s 74, .s 75]), (some (73, false), .v 77 .mv [.s 76]), (some (77, true), .v 78 .mv [.s 3]), (some (77, true), .v 79 .mv [.s 5]), (some (77, true), .co 80 51 [.s 78, .s 79]), (some (77, true), .v 81 .not [.s 80]), (some (73, false), .v 82 .pick [.s 77, .s 81, .k (.b false)]), (none, .v 83 .pick [.s 73, .k (.b true), .s 82]), (none, .v 84 .mv [.s 83]), (some (84, false), .v 85 .mv [.s 3]), (some (84, false), .co 86 60 [.s 85]), (some (84, false), .v 87 (.bin .lss) [.s 86, .k (.i 1)]), (none, .v 88 .pick [.s 84, .k (.b true), .s 87])])
                  (.cond (.s 88)
                    (.seq
                      (.rg 0 [(none, .v 2 .mv [.k (.b false)])])
                      .ret)
                    .skip))
                (.cl ks (.seq
                  (.seq
                    (.rg 0 [(none, .v 7 .mv [.k (.i 0)])])
                    (.cl ks (.block 2
                      (.loop
                        (.seq
                          (.seq
                            (.rg 0 [(none, .v 89 .mv [.s 7]), (none, .v 90 .mv [.s 4]), (none, .v 91 (.bin .lss) [.s 89, .s 90])])
                            (.cond (.s 91)
                              .skip
                              (.exit 2)))
                          (.cl ks (.seq
                            (.block 3
                              (.seq
                                (.rg 0 [(none, .v 94 .mv [.s 3]), (none, .v 95 .mv [.s 7]), (none, .co 96 61 [.s 94, .s 95]), (none, .tk 8 96)])
                                (.cl ks (.seq
                                  (.rg 0 [(none, .v 98 .mv [.s 3]), (none, .v 99 .mv [.s 7]), (none, .co 100 62 [.s 98, .s 99]), (none, .tk 97 100), (none, .tk 101 100097), (none, .tk 102 101097), (none, .tk 9 101), (none, .tk 10 102)])
                                  (.cl ks (.seq
                                    (.seq
                                      (.rg 0 [(none, .v 103 .mv [.s 10]), (none, .v 104 .not [.s 103]), (none, .v 105 .mv [.s 104]), (some (105, false), .v 106 .mv [.s 8]), (some (105, false), .v 107 (.bin .lss) [.s 106, .k (.i 0)]), (none, .v 108 .pick [.s 105, .k (.b true), .s 107]), (none, .v 109 .mv [.s 108]), (some (109, false), .v 110 .mv [.s 4]), (some (109, false), .v 111 .mv [.s 8]), (some (109, false), .v 112 (.bin .mul) [.s 110, .s 111]), (some (109, false), .v 113 .mv [.s 3]), (some (109, false), .v 114 .mv [.s 7]), (some (109, false), .v 115 .idx [.s 113, .s 114]), (some (109, false), .v 116 .ld [.s 115]), (some (109, false), .co 117 27 [.s 116]), (some (109, false), .v 118 (.bin .gtr) [.s 112, .s 117]), (none, .v 119 .pick [.s 109, .k (.b true), .s 118]), (none, .v 120 .mv [.s 119]), (some (120, false), .v 121 .mv [.s 3]), (some (120, false), .v 122 .mv [.s 9]), (some (120, false), .co 123 50 [.s 121, .s 122]), (some (120, false), .v 124 .not [.s 123]), (none, .v 125 .pick [.s 120, .k (.b true), .s 124])])
                                      (.cond (.s 125)
                                        (.seq
                                          (.rg 0 [(none, .v 2 .mv [.k (.b false)])])
                                          .ret)
                                        .skip))
                                    (.cl ks (.seq
                                      (.rg 0 [(none, .v 11 .mv [.k (.i 0)])])
                                      (.cl ks (.block 4
                                        (.loop
                                          (.seq
                                            (.seq
                                              (.rg 0 [(none, .v 126 .mv [.s 11]), (none, .v 127 .mv [.s 4]), (none, .v 128 (.bin .lss) [.s 126, .s 127])])
                                              (.cond (.s 128)
                                                .skip
                                                (.exit 4)))
                                            (.cl ks (.seq
                                              (.block 5
                                                (.seq
                                                  (.rg 0 [(none, .v 131 .mv [.s 3]), (none, .v 132 .mv [.s 9]), (none, .v 133 .mv [.s 7]), (none, .v 134 .mv [.s 11]), (none, .co 135 54 [.s 131, .s 132, .s 133, .s 134]), (none, .v 136 .mv [.s 8]), (none, .v 137 (.bin .lss) [.s 135, .s 136])])
                                                  (.cond (.s 137)
                                                    (.seq
                                                      (.rg 0 [(none, .v 2 .mv [.k (.b false)])])
                                                      .ret)
                                                    .skip)))
                                              (.cl ks (.rg 0 [(none, .v 129 .mv [.s 11]), (none, .v 130 (.bin .add) [.s 129, .k (.i 1)]), (none, .tk 11 130)]))))))))))))))))
                            (.cl ks (.rg 0 [(none, .v 92 .mv [.s 7]), (none, .v 93 (.bin .add) [.s 92, .k (.i 1)]), (none, .tk 7 93)])))))))))
                  (.cl ks (.seq
                    (.rg 0 [(none, .v 139 .mv [.s 3]), (none, .co 140 63 [.s 139]), (none, .tk 138 140), (none, .tk 141 100138), (none, .tk 142 101138), (none, .tk 12 141), (none, .tk 13 142)])
                    (.cl ks (.seq
                      (.rg 0 [(none, .v 143 .mv [.s 3]), (none, .v 144 .mv [.s 5]), (none, .co 145 64 [.s 143, .s 144]), (none, .tk 14 145)])
                      (.cl ks (.seq
                        (.rg 0 [(none, .v 146 .mv [.s 3]), (none, .co 147 65 [.s 146]), (none, .tk 15 147)])
                        (.cl ks (.seq
                          (.seq
                            (.rg 0 [(none, .v 148 .mv [.s 13]), (none, .v 149 .mv [.s 4]), (none, .v 150 (.bin .eql) [.s 149, .k (.i 2)]), (none, .v 151 .bne [.s 148, .s 150]), (none, .v 152 .mv [.s 151]), (some (152, false), .v 153 .mv [.s 13]), (some (152, false), .v 154 .mv [.s 153]), (some (154, true), .v 155 .mv [.s 3]), (some (154, true), .v 156 .mv [.s 12]), (some (154, true), .co 157 58 [.s 155, .s 156]), (some (154, true), .v 158 .not [.s 157]), (some (154, true), .v 159 .mv [.s 158]), (some (159, false), .v 160 .mv [.s 3]), (some (159, false), .v 161 .mv [.s 12]), (some (159, false), .co 162 54 [.s 160, .s 161, .k (.i 1), .k (.i 1)]), (some (159, false), .v 163 .mv [.s 3]), (some (159, false), .v 164 .mv [.s 12]), (some (159, false), .co 165 54 [.s 163, .s 164, .k (.i 1), .k (.i 0)]), (some (159, false), .v 166 (.bin .lss) [.s 162, .s 165]), (some (154, true), .v 167 .pick [.s 159, .k (.b true), .s 166]), (some (152, false), .v 168 .pick [.s 154, .s 167, .k (.b false)]), (none, .v 169 .pick [.s 152, .k (.b true), .s 168])])
                            (.cond (.s 169)
                              (.seq
                                (.rg 0 [(none, .v 2 .mv [.k (.b false)])])
                                .ret)
                              .skip))
                          (.cl ks (.seq
                            (.rg 0 [(none, .v 170 .mv [.s 14]), (none, .v 171 (.bin .geq) [.s 170, .k (.i 0)]), (none, .v 172 .mv [.s 171]), (some (172, true), .v 173 .mv [.s 14]), (some (172, true), .v 174 .mv [.s 15]), (some (172, true), .v 175 (.bin .leq) [.s 173, .s 174]), (none, .v 176 .pick [.s 172, .s 175, .k (.b false)]), (none, .v 177 .mv [.s 176]), (some (177, true), .v 178 .mv [.s 3]), (some (177, true), .v 179 .mv [.s 5]), (some (177, true), .co 180 58 [.s 178, .s 179]), (some (177, true), .v 181 .not [.s 180]), (some (177, true), .v 182 .mv [.s 181]), (some (182, false), .v 183 .mv [.s 15]), (some (182, false), .v 184 (.bin .geq) [.s 183, .k (.i 0)]), (some (177, true), .v 185 .pick [.s 182, .k (.b true), .s 184]), (none, .v 186 .pick [.s 177, .s 185, .k (.b false)]), (none, .v 187 .mv [.s 186]), (some (187, true), .v 188 .mv [.s 3]), (some (187, true), .v 189 .mv [.s 5]), (some (187, true), .co 190 50 [.s 188, .s 189]), (none, .v 191 .pick [.s 187, .s 190, .k (.b false)]), (none, .tk 2 191)])
                            .ret)))))))))))))))))))))))))

theorem chk_laws_FnShares : ∃ b, Try.f7.body = some b ∧ chk Try.prog Try.f7.ntmps true C_laws_FnShares b = true := ⟨_, rfl, by kernel_rfl⟩
theorem cutG {G H : Prop} (f : G → H) (g : G) : H := f g
set_option maxHeartbeats 4000000 in
theorem FnShares_ok (u : Value) (l : List Int) (a : l.length ≤ 9223372036854775807) (hb : ∀ x ∈ l, 0 ≤ x ∧ x < 256) : CallOk Try.prog 7 [.xv u (.s none (byt l))] [(0, .b true)] := by
  obtain ⟨code0, hcd1, hcd2⟩ := chk_laws_FnShares; refine callOk_of Try.func7 hcd1 mo Try.call7 (rs := [2]) (by kernel_rfl) hcd2 (by rw [Try.ntmps7]; simp) (by simp) (by decide) ?_; unfold C_laws_FnShares K_laws_FnShares; simp (config := { maxSteps := 2000000 }) only [go_sem, Nat.reduceBEq, Nat.reduceAdd, Nat.reduceMul, Nat.reduceMod, Nat.reduceLT, Nat.reduceDiv, Nat.reduceSub, Nat.reduceLeDiff, Int.reduceToNat, Int.reduceLT, Int.reduceLE, reduceCtorEq, List.take_nil, List.drop_nil]
  simp only [byt_len]
  refine ⟨fun _ => trivial, fun hlen => ?_⟩
  have C : CodeL l := ⟨by omega, hb⟩
  obtain ⟨vs, hr, m5, W⟩ := spec_MakeValues_ok u none C
  have V := vals_of hr
  have n1 := V.n1
  have n3 := V.n3
  have m1 := V.m1
  have hl : vs.length ≤ 1048576 := by omega
  have hrow : ∀ r ∈ vs, r.length ≤ 1048576 := fun r hr => by
    obtain ⟨i, hi, rfl⟩ := List.getElem_of_mem hr
    have := V.len i hi
    have e : vs.getD i [] = vs[i] := by simp [List.getD, hi]
    rw [← e, this]; omega
  refine ⟨_, W, ?_⟩; simp (config := { maxSteps := 2000000 }) only [go_sem, Nat.reduceBEq, Nat.reduceAdd, Nat.reduceMul, Nat.reduceMod, Nat.reduceLT, Nat.reduceDiv, Nat.reduceSub, Nat.reduceLeDiff, Int.reduceToNat, Int.reduceLT, Int.reduceLE, reduceCtorEq, List.take_nil, List.drop_nil]
  obtain ⟨Y, hY⟩ := Classical.axiomOfChoice (fun g : Nat => show ∃ x : Int, g ≤ 400 → 0 ≤ x ∧ x ≤ 65535 ∧ CallOk Try.prog 9 [.xv u (.s none (byt l)), .i (60 + 2 * (g : Int))] [(0, .i x)] by
    by_cases hg : g ≤ 400
    · obtain ⟨x, x0, x1, Wx⟩ := spec_MakeNum_ok u none C (n := 60 + 2 * (g : Int)) (by omega) (by omega)
      exact ⟨x, fun _ => ⟨x0, x1, Wx⟩⟩
    · exact ⟨0, fun h => absurd h hg⟩)
  obtain ⟨m, hm⟩ : ∃ m, m = (vs.getD 0 []).length := ⟨_, rfl⟩
  rw [← hm] at m5 m1 V ⊢
  obtain ⟨LL, hLL⟩ : ∃ LL : Nat → List Int, LL = fun j => (List.range j).map fun g => (Y g).tmod vs.length := ⟨_, rfl⟩
  have LLs : ∀ j, LL (j + 1) = LL j ++ [(Y j).tmod vs.length] := fun j => by rw [hLL]; simp [List.range_succ]
  have LLl : ∀ j, (LL j).length = j := fun j => by rw [hLL]; simp
  have F : Full vs (LL m) m := ⟨LLl m, fun x hx => by
    rw [hLL] at hx
    obtain ⟨g, hg, rfl⟩ := List.mem_map.1 hx
    have hg := List.mem_range.1 hg
    have hy := hY g (by omega)
    exact ⟨Int.tmod_nonneg _ hy.1, Int.tmod_lt_of_pos _ (by omega)⟩⟩
  refine ⟨by omega, by omega, ?_⟩
  refine loopN m (fun j => [(0, .t .arg (.xv u (.s none (byt l)))), (2, .b false), (3, .own 1 none (rr vs)), (4, .i vs.length), (5, .own 1 (some false) (ii (LL j))), (27, .i m), (28, .i (j : Nat))]) (fun _ => True) ⟨trivial, by simp (config := { maxSteps := 2000000 }) only [go_sem, Nat.reduceBEq, Nat.reduceAdd, Nat.reduceMul, Nat.reduceMod, Nat.reduceLT, Nat.reduceDiv, Nat.reduceSub, Nat.reduceLeDiff, Int.reduceToNat, Int.reduceLT, Int.reduceLE, reduceCtorEq, List.take_nil, List.drop_nil, le_self]; simp [hLL]⟩ fun j hj _ => ?_
  simp (config := { maxSteps := 2000000 }) only [go_sem, Nat.reduceBEq, Nat.reduceAdd, Nat.reduceMul, Nat.reduceMod, Nat.reduceLT, Nat.reduceDiv, Nat.reduceSub, Nat.reduceLeDiff, Int.reduceToNat, Int.reduceLT, Int.reduceLE, reduceCtorEq, List.take_nil, List.drop_nil, le_self]
  refine ⟨fun hlt => ?_, fun hge => ?_⟩
  · obtain ⟨y0, y1, Wy⟩ := hY j (by omega)
    refine ⟨inR_of (by omega) (by omega), inR_of (by omega) (by omega), ?_⟩
    refine ⟨_, Wy, ?_⟩; simp (config := { maxSteps := 2000000 }) only [go_sem, Nat.reduceBEq, Nat.reduceAdd, Nat.reduceMul, Nat.reduceMod, Nat.reduceLT, Nat.reduceDiv, Nat.reduceSub, Nat.reduceLeDiff, Int.reduceToNat, Int.reduceLT, Int.reduceLE, reduceCtorEq, List.take_nil, List.drop_nil]
    refine ⟨by omega, by rw [LLl]; omega, inR_of (by omega) (by omega), by omega, Vc.V.le_refl _, by rw [LLs], by simp⟩
  · have ej : j = m := by omega
    rw [ej]
    obtain ⟨L, hL⟩ : ∃ L, L = LL m := ⟨_, rfl⟩
    rw [← hL] at F ⊢
    clear hge
    have V0 := vals_of hr
    rw [← hm] at V0
    have hLb : L.length ≤ 1048576 := by rw [F.len]; omega
    have hA : allocB vs L = true := full_alloc hr V hm.symm F
    have F' : Full vs L (vs.getD 0 []).length := hm ▸ F
    have cE : ∀ n1 n2, CallOk Try.prog 56 [.s n1 (rr vs), .s n2 (ii L)] [(0, .b (freeB vs L))] := fun n1 n2 => by have := impl_IsEnvyFree_ok (n1 := n1) (n2 := n2) vs L hl hrow hLb; rwa [hA, Bool.true_and] at this
    have cP : ∀ n1 n2, CallOk Try.prog 57 [.s n1 (rr vs), .s n2 (ii L)] [(0, .b (propB vs L))] := fun n1 n2 => by have := impl_IsProportional_ok (n1 := n1) (n2 := n2) vs L hl hrow hLb; rwa [hA, Bool.true_and] at this
    have cN : ∀ n1 n2, CallOk Try.prog 59 [.s n1 (rr vs), .s n2 (ii L)] [(0, .b (nearB vs L))] := fun n1 n2 => by have := impl_IsNearlyFree_ok (n1 := n1) (n2 := n2) vs L hl hrow hLb; rwa [hA, Bool.true_and] at this
    have cG : ∀ n1 n2, CallOk Try.prog 58 [.s n1 (rr vs), .s n2 (ii L)] [(0, .b (getsB vs L))] := fun n1 n2 => impl_GetsShares_ok vs L hl hrow hLb
    have cA : ∀ n1 n2, CallOk Try.prog 51 [.s n1 (rr vs), .s n2 (ii L)] [(0, .b (almB vs L))] := fun n1 n2 => by have := impl_IsAlmostFree_ok (n1 := n1) (n2 := n2) vs L hl hrow hLb; rwa [show almF vs L = almB vs L by simp [almF, hA]] at this
    have cC : ∀ n1, CallOk Try.prog 60 [.s n1 (rr vs)] [(0, .i (cntF vs (nearB vs)))] := fun n1 => impl_CountNearlyFree_ok vs hl hrow
    have hC := near_count hr (by rw [← hm]; exact m5)
    have hC' : ¬ cntF vs (nearB vs) < 1 := by omega
    apply cutG
    · intro hG
      by_cases hf : freeB vs L = true
      · have hp := free_prop V F hf
        have hn := free_near V F hf
        rw [hf] at cE; rw [hp] at cP; rw [prop_gets hr F' hp] at cG; rw [hn] at cN; rw [near_alm V F hn] at cA
        refine ⟨_, cE _ _, ?_⟩; simp (config := { maxSteps := 2000000 }) only [go_sem, Nat.reduceBEq, Nat.reduceAdd, Nat.reduceMul, Nat.reduceMod, Nat.reduceLT, Nat.reduceDiv, Nat.reduceSub, Nat.reduceLeDiff, Int.reduceToNat, Int.reduceLT, Int.reduceLE, reduceCtorEq, List.take_nil, List.drop_nil]
        refine ⟨_, cP _ _, ?_⟩; simp (config := { maxSteps := 2000000 }) only [go_sem, Nat.reduceBEq, Nat.reduceAdd, Nat.reduceMul, Nat.reduceMod, Nat.reduceLT, Nat.reduceDiv, Nat.reduceSub, Nat.reduceLeDiff, Int.reduceToNat, Int.reduceLT, Int.reduceLE, reduceCtorEq, List.take_nil, List.drop_nil]
        refine ⟨_, cP _ _, ?_⟩; simp (config := { maxSteps := 2000000 }) only [go_sem, Nat.reduceBEq, Nat.reduceAdd, Nat.reduceMul, Nat.reduceMod, Nat.reduceLT, Nat.reduceDiv, Nat.reduceSub, Nat.reduceLeDiff, Int.reduceToNat, Int.reduceLT, Int.reduceLE, reduceCtorEq, List.take_nil, List.drop_nil]
        refine ⟨_, cG _ _, ?_⟩; simp (config := { maxSteps := 2000000 }) only [go_sem, Nat.reduceBEq, Nat.reduceAdd, Nat.reduceMul, Nat.reduceMod, Nat.reduceLT, Nat.reduceDiv, Nat.reduceSub, Nat.reduceLeDiff, Int.reduceToNat, Int.reduceLT, Int.reduceLE, reduceCtorEq, List.take_nil, List.drop_nil]
        refine ⟨_, cE _ _, ?_⟩; simp (config := { maxSteps := 2000000 }) only [go_sem, Nat.reduceBEq, Nat.reduceAdd, Nat.reduceMul, Nat.reduceMod, Nat.reduceLT, Nat.reduceDiv, Nat.reduceSub, Nat.reduceLeDiff, Int.reduceToNat, Int.reduceLT, Int.reduceLE, reduceCtorEq, List.take_nil, List.drop_nil]
        refine ⟨_, cN _ _, ?_⟩; simp (config := { maxSteps := 2000000 }) only [go_sem, Nat.reduceBEq, Nat.reduceAdd, Nat.reduceMul, Nat.reduceMod, Nat.reduceLT, Nat.reduceDiv, Nat.reduceSub, Nat.reduceLeDiff, Int.reduceToNat, Int.reduceLT, Int.reduceLE, reduceCtorEq, List.take_nil, List.drop_nil]
        refine ⟨_, cN _ _, ?_⟩; simp (config := { maxSteps := 2000000 }) only [go_sem, Nat.reduceBEq, Nat.reduceAdd, Nat.reduceMul, Nat.reduceMod, Nat.reduceLT, Nat.reduceDiv, Nat.reduceSub, Nat.reduceLeDiff, Int.reduceToNat, Int.reduceLT, Int.reduceLE, reduceCtorEq, List.take_nil, List.drop_nil]
        refine ⟨_, cA _ _, ?_⟩; simp (config := { maxSteps := 2000000 }) only [go_sem, Nat.reduceBEq, Nat.reduceAdd, Nat.reduceMul, Nat.reduceMod, Nat.reduceLT, Nat.reduceDiv, Nat.reduceSub, Nat.reduceLeDiff, Int.reduceToNat, Int.reduceLT, Int.reduceLE, reduceCtorEq, List.take_nil, List.drop_nil]
        refine ⟨_, cC _, ?_⟩; simp (config := { maxSteps := 2000000 }) only [go_sem, Nat.reduceBEq, Nat.reduceAdd, Nat.reduceMul, Nat.reduceMod, Nat.reduceLT, Nat.reduceDiv, Nat.reduceSub, Nat.reduceLeDiff, Int.reduceToNat, Int.reduceLT, Int.reduceLE, reduceCtorEq, List.take_nil, List.drop_nil]
        exact ⟨fun h => absurd h hC', fun _ => hG⟩
      · have hf : freeB vs L = false := by simpa using hf
        rw [hf] at cE
        by_cases hp : propB vs L = true
        · rw [hp] at cP; rw [prop_gets hr F' hp] at cG
          by_cases hn : nearB vs L = true
          · rw [hn] at cN; rw [near_alm V F hn] at cA
            refine ⟨_, cE _ _, ?_⟩; simp (config := { maxSteps := 2000000 }) only [go_sem, Nat.reduceBEq, Nat.reduceAdd, Nat.reduceMul, Nat.reduceMod, Nat.reduceLT, Nat.reduceDiv, Nat.reduceSub, Nat.reduceLeDiff, Int.reduceToNat, Int.reduceLT, Int.reduceLE, reduceCtorEq, List.take_nil, List.drop_nil]
            refine ⟨_, cP _ _, ?_⟩; simp (config := { maxSteps := 2000000 }) only [go_sem, Nat.reduceBEq, Nat.reduceAdd, Nat.reduceMul, Nat.reduceMod, Nat.reduceLT, Nat.reduceDiv, Nat.reduceSub, Nat.reduceLeDiff, Int.reduceToNat, Int.reduceLT, Int.reduceLE, reduceCtorEq, List.take_nil, List.drop_nil]
            refine ⟨_, cG _ _, ?_⟩; simp (config := { maxSteps := 2000000 }) only [go_sem, Nat.reduceBEq, Nat.reduceAdd, Nat.reduceMul, Nat.reduceMod, Nat.reduceLT, Nat.reduceDiv, Nat.reduceSub, Nat.reduceLeDiff, Int.reduceToNat, Int.reduceLT, Int.reduceLE, reduceCtorEq, List.take_nil, List.drop_nil]
            refine ⟨_, cE _ _, ?_⟩; simp (config := { maxSteps := 2000000 }) only [go_sem, Nat.reduceBEq, Nat.reduceAdd, Nat.reduceMul, Nat.reduceMod, Nat.reduceLT, Nat.reduceDiv, Nat.reduceSub, Nat.reduceLeDiff, Int.reduceToNat, Int.reduceLT, Int.reduceLE, reduceCtorEq, List.take_nil, List.drop_nil]
            refine ⟨_, cN _ _, ?_⟩; simp (config := { maxSteps := 2000000 }) only [go_sem, Nat.reduceBEq, Nat.reduceAdd, Nat.reduceMul, Nat.reduceMod, Nat.reduceLT, Nat.reduceDiv, Nat.reduceSub, Nat.reduceLeDiff, Int.reduceToNat, Int.reduceLT, Int.reduceLE, reduceCtorEq, List.take_nil, List.drop_nil]
            refine ⟨_, cA _ _, ?_⟩; simp (config := { maxSteps := 2000000 }) only [go_sem, Nat.reduceBEq, Nat.reduceAdd, Nat.reduceMul, Nat.reduceMod, Nat.reduceLT, Nat.reduceDiv, Nat.reduceSub, Nat.reduceLeDiff, Int.reduceToNat, Int.reduceLT, Int.reduceLE, reduceCtorEq, List.take_nil, List.drop_nil]
            refine ⟨_, cC _, ?_⟩; simp (config := { maxSteps := 2000000 }) only [go_sem, Nat.reduceBEq, Nat.reduceAdd, Nat.reduceMul, Nat.reduceMod, Nat.reduceLT, Nat.reduceDiv, Nat.reduceSub, Nat.reduceLeDiff, Int.reduceToNat, Int.reduceLT, Int.reduceLE, reduceCtorEq, List.take_nil, List.drop_nil]
            exact ⟨fun h => absurd h hC', fun _ => hG⟩
          · have hn : nearB vs L = false := by simpa using hn
            rw [hn] at cN
            refine ⟨_, cE _ _, ?_⟩; simp (config := { maxSteps := 2000000 }) only [go_sem, Nat.reduceBEq, Nat.reduceAdd, Nat.reduceMul, Nat.reduceMod, Nat.reduceLT, Nat.reduceDiv, Nat.reduceSub, Nat.reduceLeDiff, Int.reduceToNat, Int.reduceLT, Int.reduceLE, reduceCtorEq, List.take_nil, List.drop_nil]
            refine ⟨_, cP _ _, ?_⟩; simp (config := { maxSteps := 2000000 }) only [go_sem, Nat.reduceBEq, Nat.reduceAdd, Nat.reduceMul, Nat.reduceMod, Nat.reduceLT, Nat.reduceDiv, Nat.reduceSub, Nat.reduceLeDiff, Int.reduceToNat, Int.reduceLT, Int.reduceLE, reduceCtorEq, List.take_nil, List.drop_nil]
            refine ⟨_, cG _ _, ?_⟩; simp (config := { maxSteps := 2000000 }) only [go_sem, Nat.reduceBEq, Nat.reduceAdd, Nat.reduceMul, Nat.reduceMod, Nat.reduceLT, Nat.reduceDiv, Nat.reduceSub, Nat.reduceLeDiff, Int.reduceToNat, Int.reduceLT, Int.reduceLE, reduceCtorEq, List.take_nil, List.drop_nil]
            refine ⟨_, cE _ _, ?_⟩; simp (config := { maxSteps := 2000000 }) only [go_sem, Nat.reduceBEq, Nat.reduceAdd, Nat.reduceMul, Nat.reduceMod, Nat.reduceLT, Nat.reduceDiv, Nat.reduceSub, Nat.reduceLeDiff, Int.reduceToNat, Int.reduceLT, Int.reduceLE, reduceCtorEq, List.take_nil, List.drop_nil]
            refine ⟨_, cN _ _, ?_⟩; simp (config := { maxSteps := 2000000 }) only [go_sem, Nat.reduceBEq, Nat.reduceAdd, Nat.reduceMul, Nat.reduceMod, Nat.reduceLT, Nat.reduceDiv, Nat.reduceSub, Nat.reduceLeDiff, Int.reduceToNat, Int.reduceLT, Int.reduceLE, reduceCtorEq, List.take_nil, List.drop_nil]
            refine ⟨_, cC _, ?_⟩; simp (config := { maxSteps := 2000000 }) only [go_sem, Nat.reduceBEq, Nat.reduceAdd, Nat.reduceMul, Nat.reduceMod, Nat.reduceLT, Nat.reduceDiv, Nat.reduceSub, Nat.reduceLeDiff, Int.reduceToNat, Int.reduceLT, Int.reduceLE, reduceCtorEq, List.take_nil, List.drop_nil]
            exact ⟨fun h => absurd h hC', fun _ => hG⟩
        · have hp : propB vs L = false := by simpa using hp
          rw [hp] at cP
          by_cases hn : nearB vs L = true
          · rw [hn] at cN; rw [near_alm V F hn] at cA
            refine ⟨_, cE _ _, ?_⟩; simp (config := { maxSteps := 2000000 }) only [go_sem, Nat.reduceBEq, Nat.reduceAdd, Nat.reduceMul, Nat.reduceMod, Nat.reduceLT, Nat.reduceDiv, Nat.reduceSub, Nat.reduceLeDiff, Int.reduceToNat, Int.reduceLT, Int.reduceLE, reduceCtorEq, List.take_nil, List.drop_nil]
            refine ⟨_, cP _ _, ?_⟩; simp (config := { maxSteps := 2000000 }) only [go_sem, Nat.reduceBEq, Nat.reduceAdd, Nat.reduceMul, Nat.reduceMod, Nat.reduceLT, Nat.reduceDiv, Nat.reduceSub, Nat.reduceLeDiff, Int.reduceToNat, Int.reduceLT, Int.reduceLE, reduceCtorEq, List.take_nil, List.drop_nil]
            refine ⟨_, cE _ _, ?_⟩; simp (config := { maxSteps := 2000000 }) only [go_sem, Nat.reduceBEq, Nat.reduceAdd, Nat.reduceMul, Nat.reduceMod, Nat.reduceLT, Nat.reduceDiv, Nat.reduceSub, Nat.reduceLeDiff, Int.reduceToNat, Int.reduceLT, Int.reduceLE, reduceCtorEq, List.take_nil, List.drop_nil]
            refine ⟨_, cN _ _, ?_⟩; simp (config := { maxSteps := 2000000 }) only [go_sem, Nat.reduceBEq, Nat.reduceAdd, Nat.reduceMul, Nat.reduceMod, Nat.reduceLT, Nat.reduceDiv, Nat.reduceSub, Nat.reduceLeDiff, Int.reduceToNat, Int.reduceLT, Int.reduceLE, reduceCtorEq, List.take_nil, List.drop_nil]
            refine ⟨_, cA _ _, ?_⟩; simp (config := { maxSteps := 2000000 }) only [go_sem, Nat.reduceBEq, Nat.reduceAdd, Nat.reduceMul, Nat.reduceMod, Nat.reduceLT, Nat.reduceDiv, Nat.reduceSub, Nat.reduceLeDiff, Int.reduceToNat, Int.reduceLT, Int.reduceLE, reduceCtorEq, List.take_nil, List.drop_nil]
            refine ⟨_, cC _, ?_⟩; simp (config := { maxSteps := 2000000 }) only [go_sem, Nat.reduceBEq, Nat.reduceAdd, Nat.reduceMul, Nat.reduceMod, Nat.reduceLT, Nat.reduceDiv, Nat.reduceSub, Nat.reduceLeDiff, Int.reduceToNat, Int.reduceLT, Int.reduceLE, reduceCtorEq, List.take_nil, List.drop_nil]
            exact ⟨fun h => absurd h hC', fun _ => hG⟩
          · have hn : nearB vs L = false := by simpa using hn
            rw [hn] at cN
            refine ⟨_, cE _ _, ?_⟩; simp (config := { maxSteps := 2000000 }) only [go_sem, Nat.reduceBEq, Nat.reduceAdd, Nat.reduceMul, Nat.reduceMod, Nat.reduceLT, Nat.reduceDiv, Nat.reduceSub, Nat.reduceLeDiff, Int.reduceToNat, Int.reduceLT, Int.reduceLE, reduceCtorEq, List.take_nil, List.drop_nil]
            refine ⟨_, cP _ _, ?_⟩; simp (config := { maxSteps := 2000000 }) only [go_sem, Nat.reduceBEq, Nat.reduceAdd, Nat.reduceMul, Nat.reduceMod, Nat.reduceLT, Nat.reduceDiv, Nat.reduceSub, Nat.reduceLeDiff, Int.reduceToNat, Int.reduceLT, Int.reduceLE, reduceCtorEq, List.take_nil, List.drop_nil]
            refine ⟨_, cE _ _, ?_⟩; simp (config := { maxSteps := 2000000 }) only [go_sem, Nat.reduceBEq, Nat.reduceAdd, Nat.reduceMul, Nat.reduceMod, Nat.reduceLT, Nat.reduceDiv, Nat.reduceSub, Nat.reduceLeDiff, Int.reduceToNat, Int.reduceLT, Int.reduceLE, reduceCtorEq, List.take_nil, List.drop_nil]
            refine ⟨_, cN _ _, ?_⟩; simp (config := { maxSteps := 2000000 }) only [go_sem, Nat.reduceBEq, Nat.reduceAdd, Nat.reduceMul, Nat.reduceMod, Nat.reduceLT, Nat.reduceDiv, Nat.reduceSub, Nat.reduceLeDiff, Int.reduceToNat, Int.reduceLT, Int.reduceLE, reduceCtorEq, List.take_nil, List.drop_nil]
            refine ⟨_, cC _, ?_⟩; simp (config := { maxSteps := 2000000 }) only [go_sem, Nat.reduceBEq, Nat.reduceAdd, Nat.reduceMul, Nat.reduceMod, Nat.reduceLT, Nat.reduceDiv, Nat.reduceSub, Nat.reduceLeDiff, Int.reduceToNat, Int.reduceLT, Int.reduceLE, reduceCtorEq, List.take_nil, List.drop_nil]
            exact ⟨fun h => absurd h hC', fun _ => hG⟩
    · refine loopN vs.length (fun i => [(0, .t .arg (.xv u (.s none (byt l)))), (2, .b false), (3, .own 1 none (rr vs)), (4, .i vs.length), (5, .own 1 (some false) (ii L)), (7, .i (i : Nat))]) (fun _ => True) ⟨trivial, by simp (config := { maxSteps := 2000000 }) only [go_sem, Nat.reduceBEq, Nat.reduceAdd, Nat.reduceMul, Nat.reduceMod, Nat.reduceLT, Nat.reduceDiv, Nat.reduceSub, Nat.reduceLeDiff, Int.reduceToNat, Int.reduceLT, Int.reduceLE, reduceCtorEq, List.take_nil, List.drop_nil, le_self]; simp⟩ fun i hi _ => ?_
      simp (config := { maxSteps := 2000000 }) only [go_sem, Nat.reduceBEq, Nat.reduceAdd, Nat.reduceMul, Nat.reduceMod, Nat.reduceLT, Nat.reduceDiv, Nat.reduceSub, Nat.reduceLeDiff, Int.reduceToNat, Int.reduceLT, Int.reduceLE, reduceCtorEq, List.take_nil, List.drop_nil, le_self]
      refine ⟨fun hlt => ?_, fun hge => ?_⟩
      · have hi' : i < vs.length := by omega
        have hcut := cut_of hr hi'
        have Fc := cut_full hr hi'
        have s0 := share_nn hr hi'
        have s1 := share_le hr hi'
        have hcA : allocB vs (cutF vs i) = true := full_alloc hr (vals_of hr) rfl Fc
        have hcl : (cutF vs i).length ≤ 1048576 := cut_bd
        have cAl : ∀ n1 n2, CallOk Try.prog 50 [.s n1 (rr vs), .s n2 (ii (cutF vs i))] [(0, .b true)] := fun n1 n2 => by have := impl_AllocationOk_ok (n1 := n1) (n2 := n2) vs (cutF vs i) hl hrow hcl; rwa [hcA] at this
        refine ⟨_, impl_ShareOf_ok vs (i : Int) hl hrow, ?_⟩; simp (config := { maxSteps := 2000000 }) only [go_sem, Nat.reduceBEq, Nat.reduceAdd, Nat.reduceMul, Nat.reduceMod, Nat.reduceLT, Nat.reduceDiv, Nat.reduceSub, Nat.reduceLeDiff, Int.reduceToNat, Int.reduceLT, Int.reduceLE, reduceCtorEq, List.take_nil, List.drop_nil]
        refine ⟨_, impl_ShareCut_ok vs (i : Int) hl hrow, ?_⟩; simp (config := { maxSteps := 2000000 }) only [go_sem, Nat.reduceBEq, Nat.reduceAdd, Nat.reduceMul, Nat.reduceMod, Nat.reduceLT, Nat.reduceDiv, Nat.reduceSub, Nat.reduceLeDiff, Int.reduceToNat, Int.reduceLT, Int.reduceLE, reduceCtorEq, List.take_nil, List.drop_nil]
        rw [hcut]
        simp (config := { maxSteps := 2000000 }) only [go_sem, Nat.reduceBEq, Nat.reduceAdd, Nat.reduceMul, Nat.reduceMod, Nat.reduceLT, Nat.reduceDiv, Nat.reduceSub, Nat.reduceLeDiff, Int.reduceToNat, Int.reduceLT, Int.reduceLE, reduceCtorEq, List.take_nil, List.drop_nil]
        have hns : 0 ≤ (vs.length : Int) * shareI vs i := Int.mul_nonneg (by omega) s0
        have hsb := sum_take_bd (xs := vs.getD i []) (B := 100) (by omega) (row_mem_bd V hi') (j := (vs.getD i []).length) (Nat.le_refl _)
        rw [List.take_length, V.len i hi'] at hsb
        have hrl := V.len i hi'
        refine ⟨fun _ => ⟨inR_of (by omega) (by omega), by omega, hi', hi', ?_⟩, fun h => ?_⟩
        · refine ⟨_, laws_sum_ok (vs.getD i []) 100 (by omega) (row_mem_bd V hi') (by omega) (by omega), ?_⟩; simp (config := { maxSteps := 2000000 }) only [go_sem, Nat.reduceBEq, Nat.reduceAdd, Nat.reduceMul, Nat.reduceMod, Nat.reduceLT, Nat.reduceDiv, Nat.reduceSub, Nat.reduceLeDiff, Int.reduceToNat, Int.reduceLT, Int.reduceLE, reduceCtorEq, List.take_nil, List.drop_nil]
          refine ⟨fun _ => ?_, fun h => by exfalso; first | omega | (have h := of_decide_eq_true h; omega) | exact h (by omega)⟩
          refine ⟨_, cAl _ _, ?_⟩; simp (config := { maxSteps := 2000000 }) only [go_sem, Nat.reduceBEq, Nat.reduceAdd, Nat.reduceMul, Nat.reduceMod, Nat.reduceLT, Nat.reduceDiv, Nat.reduceSub, Nat.reduceLeDiff, Int.reduceToNat, Int.reduceLT, Int.reduceLE, reduceCtorEq, List.take_nil, List.drop_nil]
          refine loopN vs.length (fun k => [(0, .t .arg (.xv u (.s none (byt l)))), (2, .b false), (3, .own 1 none (rr vs)), (4, .i vs.length), (5, .own 1 (some false) (ii L)), (7, .i (i : Nat)), (8, .i (shareI vs i)), (9, .own 1 none (ii (cutF vs i))), (11, .i (k : Nat))]) (fun _ => True) ⟨trivial, by simp (config := { maxSteps := 2000000 }) only [go_sem, Nat.reduceBEq, Nat.reduceAdd, Nat.reduceMul, Nat.reduceMod, Nat.reduceLT, Nat.reduceDiv, Nat.reduceSub, Nat.reduceLeDiff, Int.reduceToNat, Int.reduceLT, Int.reduceLE, reduceCtorEq, List.take_nil, List.drop_nil, le_self]; simp⟩ fun k hk _ => ?_
          simp (config := { maxSteps := 2000000 }) only [go_sem, Nat.reduceBEq, Nat.reduceAdd, Nat.reduceMul, Nat.reduceMod, Nat.reduceLT, Nat.reduceDiv, Nat.reduceSub, Nat.reduceLeDiff, Int.reduceToNat, Int.reduceLT, Int.reduceLE, reduceCtorEq, List.take_nil, List.drop_nil, le_self]
          refine ⟨fun hlt => ?_, fun hge => ?_⟩
          · have hk' : k < vs.length := by omega
            have hw : worthOfF vs (cutF vs i) i k = wo vs (cutF vs i) i k := worthOf_eq hcA hi' hk'
            have hle : partF vs i (cutF vs i) ≤ wo vs (cutF vs i) i k := partN_le hk'
            have hse := share_eq hr hi'
            refine ⟨_, impl_WorthOf_ok vs (cutF vs i) (i : Int) (k : Int) hl hrow hcl, ?_⟩; simp (config := { maxSteps := 2000000 }) only [go_sem, Nat.reduceBEq, Nat.reduceAdd, Nat.reduceMul, Nat.reduceMod, Nat.reduceLT, Nat.reduceDiv, Nat.reduceSub, Nat.reduceLeDiff, Int.reduceToNat, Int.reduceLT, Int.reduceLE, reduceCtorEq, List.take_nil, List.drop_nil]
            rw [hw]
            exact ⟨fun h => by omega, fun _ => ⟨inR_of (by omega) (by omega), hk', Vc.V.le_refl _, by simp⟩⟩
          · first | exact ⟨inR_of (by omega) (by omega), hi', by simp⟩ | exact ⟨inR_of (by omega) (by omega), hi', Vc.V.le_refl _, by simp⟩
        · exfalso; first | omega | (have h := of_decide_eq_true h; omega) | exact h (by omega)
      · have ei : i = vs.length := by omega
        refine ⟨_, impl_CutAndPick_ok vs hl hrow, ?_⟩; simp (config := { maxSteps := 2000000 }) only [go_sem, Nat.reduceBEq, Nat.reduceAdd, Nat.reduceMul, Nat.reduceMod, Nat.reduceLT, Nat.reduceDiv, Nat.reduceSub, Nat.reduceLeDiff, Int.reduceToNat, Int.reduceLT, Int.reduceLE, reduceCtorEq, List.take_nil, List.drop_nil]
        refine ⟨_, impl_LeastPart_ok vs L hl hrow hLb, ?_⟩; simp (config := { maxSteps := 2000000 }) only [go_sem, Nat.reduceBEq, Nat.reduceAdd, Nat.reduceMul, Nat.reduceMod, Nat.reduceLT, Nat.reduceDiv, Nat.reduceSub, Nat.reduceLeDiff, Int.reduceToNat, Int.reduceLT, Int.reduceLE, reduceCtorEq, List.take_nil, List.drop_nil]
        refine ⟨_, impl_BestLeastPart_ok vs hl hrow, ?_⟩; simp (config := { maxSteps := 2000000 }) only [go_sem, Nat.reduceBEq, Nat.reduceAdd, Nat.reduceMul, Nat.reduceMod, Nat.reduceLT, Nat.reduceDiv, Nat.reduceSub, Nat.reduceLeDiff, Int.reduceToNat, Int.reduceLT, Int.reduceLE, reduceCtorEq, List.take_nil, List.drop_nil]
        have hpk : pickB vs = decide ((vs.length : Int) = 2) := by simp [pickB, hr]; omega
        have hb : leastPartF vs L ≤ blpF vs ∧ 0 ≤ leastPartF vs L := ⟨(least_best hr F').2, (least_best hr F').1⟩
        have hpick : vs.length = 2 → (∀ n1 n2, CallOk Try.prog 58 [.s n1 (rr vs), .s n2 (ii (pickF vs))] [(0, .b true)]) ∧ worthOfF vs (pickF vs) 1 1 = wo vs (pickF vs) 1 1 ∧ worthOfF vs (pickF vs) 1 0 = wo vs (pickF vs) 1 0 ∧ wo vs (pickF vs) 1 0 ≤ wo vs (pickF vs) 1 1 ∧ (pickF vs).length ≤ 1048576 := fun h2 => by
          obtain ⟨pg, pF, pw⟩ := pick_gets hr h2
          have hpA : allocB vs (pickF vs) = true := full_alloc hr (vals_of hr) rfl pF
          exact ⟨fun n1 n2 => by have := impl_GetsShares_ok (n1 := n1) (n2 := n2) vs (pickF vs) hl hrow pick_len; rwa [pg] at this, worthOf_eq (i := 1) (k := 1) hpA (by omega) (by omega), worthOf_eq (i := 1) (k := 0) hpA (by omega) (by omega), pw, pick_len⟩
        apply cutG
        · intro hG
          by_cases h2 : vs.length = 2
          · obtain ⟨cK, w11, w10, pw, hpl⟩ := hpick h2
            refine ⟨fun _ => ⟨fun _ => ?_, fun h => ?_⟩, fun h => ?_⟩
            · refine ⟨_, cK _ _, ?_⟩; simp (config := { maxSteps := 2000000 }) only [go_sem, Nat.reduceBEq, Nat.reduceAdd, Nat.reduceMul, Nat.reduceMod, Nat.reduceLT, Nat.reduceDiv, Nat.reduceSub, Nat.reduceLeDiff, Int.reduceToNat, Int.reduceLT, Int.reduceLE, reduceCtorEq, List.take_nil, List.drop_nil]
              refine ⟨_, impl_WorthOf_ok vs (pickF vs) 1 1 hl hrow hpl, ?_⟩; simp (config := { maxSteps := 2000000 }) only [go_sem, Nat.reduceBEq, Nat.reduceAdd, Nat.reduceMul, Nat.reduceMod, Nat.reduceLT, Nat.reduceDiv, Nat.reduceSub, Nat.reduceLeDiff, Int.reduceToNat, Int.reduceLT, Int.reduceLE, reduceCtorEq, List.take_nil, List.drop_nil]
              refine ⟨_, impl_WorthOf_ok vs (pickF vs) 1 0 hl hrow hpl, ?_⟩; simp (config := { maxSteps := 2000000 }) only [go_sem, Nat.reduceBEq, Nat.reduceAdd, Nat.reduceMul, Nat.reduceMod, Nat.reduceLT, Nat.reduceDiv, Nat.reduceSub, Nat.reduceLeDiff, Int.reduceToNat, Int.reduceLT, Int.reduceLE, reduceCtorEq, List.take_nil, List.drop_nil]
              refine ⟨fun h => by rw [w11, w10] at h; omega, fun _ => hG⟩
            · exfalso; rw [hpk] at h; simp at h; omega
            · exfalso; rw [hpk] at h; simp at h
          · refine ⟨fun _ => ⟨fun h => ?_, fun _ => hG⟩, fun h => ?_⟩
            · exfalso; rw [hpk] at h; simp at h; omega
            · exfalso; rw [hpk] at h; simp at h
        · have cL : ∀ n1 n2, CallOk Try.prog 50 [.s n1 (rr vs), .s n2 (ii L)] [(0, .b true)] := fun n1 n2 => by have := impl_AllocationOk_ok (n1 := n1) (n2 := n2) vs L hl hrow hLb; rwa [hA] at this
          refine ⟨fun _ => ⟨fun _ => ?_, fun h => absurd hb.1 h⟩, fun h => absurd hb.2 h⟩
          cases hg : getsB vs L with
          | true =>
            rw [hg] at cG
            refine ⟨_, cG _ _, ?_⟩; simp (config := { maxSteps := 2000000 }) only [go_sem, Nat.reduceBEq, Nat.reduceAdd, Nat.reduceMul, Nat.reduceMod, Nat.reduceLT, Nat.reduceDiv, Nat.reduceSub, Nat.reduceLeDiff, Int.reduceToNat, Int.reduceLT, Int.reduceLE, reduceCtorEq, List.take_nil, List.drop_nil]
            refine ⟨fun _ => ?_, fun h => absurd (show 0 ≤ blpF vs by omega) h⟩
            refine ⟨_, cL _ _, ?_⟩; simp (config := { maxSteps := 2000000 }) only [go_sem, Nat.reduceBEq, Nat.reduceAdd, Nat.reduceMul, Nat.reduceMod, Nat.reduceLT, Nat.reduceDiv, Nat.reduceSub, Nat.reduceLeDiff, Int.reduceToNat, Int.reduceLT, Int.reduceLE, reduceCtorEq, List.take_nil, List.drop_nil]
          | false =>
            rw [hg] at cG
            refine ⟨_, cG _ _, ?_⟩; simp (config := { maxSteps := 2000000 }) only [go_sem, Nat.reduceBEq, Nat.reduceAdd, Nat.reduceMul, Nat.reduceMod, Nat.reduceLT, Nat.reduceDiv, Nat.reduceSub, Nat.reduceLeDiff, Int.reduceToNat, Int.reduceLT, Int.reduceLE, reduceCtorEq, List.take_nil, List.drop_nil]
            refine ⟨_, cL _ _, ?_⟩; simp (config := { maxSteps := 2000000 }) only [go_sem, Nat.reduceBEq, Nat.reduceAdd, Nat.reduceMul, Nat.reduceMod, Nat.reduceLT, Nat.reduceDiv, Nat.reduceSub, Nat.reduceLeDiff, Int.reduceToNat, Int.reduceLT, Int.reduceLE, reduceCtorEq, List.take_nil, List.drop_nil]
theorem FnShares_lifted (os : Os) (started : os.Started) (H : Type) (enc : TypeId × Value → H) :
    ReturnsInHanded {} Try.checked os 7 .any (Rows.fnSharesSpec.pre6 enc Try.prog Try.f7 Rows.fnSharesRow.domain false) (Rows.fnSharesSpec.post enc Try.prog Try.f7 false true false false) := by
  refine returnsInHanded_of_change (C := Try.checked) ownk started (by as_aux_lemma => kernel_rfl) Try.func7
    (ChangeSpec.witness6 (enc := enc) (C := Try.checked) false ⟨#[], #[.slice none 0 0], []⟩ 8 (by kernel_rfl) (by kernel_rfl) (by kernel_rfl) (by kernel_rfl)) ?_
  intro W base args ds gs before hval0 hW _ _
  have hval : ∀ (j : Nat) t v, Try.f7.params[j]? = some t → args[j]? = some v → Value.okWide Try.prog W .any base t v := hval0
  have hW' := hW
  obtain ⟨p, q, hA0, _⟩ := hW
  have hA : DataW.TrodAll enc Try.prog W 0 (fun _ => true) true Try.f7.params.toList args.toList ds p := hA0
  rw [Try.params7] at hA hval
  clear hA0 hval0
  obtain ⟨v0, d0, rfl, rfl, h0⟩ := trodAll_one hA
  obtain ⟨x0, a0, b0, f0⟩ := fz_bytes Try.underlying22 Try.underlying5 (by kernel_rfl : Try.prog.cellsOf 5 = 1) (hval 0 22 v0 rfl rfl) h0
  exact law_post (P := Try.prog) pfacts.laid (fun t ht => by rw [Try.params7] at ht; revert t; simp only [List.mem_cons, List.not_mem_nil, or_false, forall_eq_or_imp, forall_eq]; exact ⟨by kernel_rfl, of_decide_eq_true (by kernel_rfl)⟩) rfl (by kernel_rfl) rfl (fun ds hds => by
    have hds : ds.length = 1 := hds
    match ds, hds with
    | [d0], _ => rfl) hW' (ts := [.xv v0 (.s none (byt x0))]) (by simp only [FzL]; exact ⟨_, _, rfl, f0, rfl⟩) (FnShares_ok v0 x0 a0 b0)
theorem FnShares_holds : Rows.FnSharesSaid :=
  OpenClaim.holds_of_wide (p := Try.pinned) (s := Rows.fnSharesSpec) (c := Rows.fnSharesRow) 7 Try.f7 rfl rfl rfl rfl rfl rfl rfl ⟨rfl, rfl, rfl, rfl, rfl⟩ rfl rfl rfl rfl rfl (by as_aux_lemma => kernel_rfl) Try.func7 (joined_of pfacts rfl rfl rfl (by as_aux_lemma => kernel_rfl) (by as_aux_lemma => kernel_rfl) (by as_aux_lemma => kernel_rfl) (by as_aux_lemma => kernel_rfl) (by as_aux_lemma => kernel_rfl) (by as_aux_lemma => kernel_rfl) (by as_aux_lemma => kernel_rfl) (by as_aux_lemma => kernel_rfl) (by as_aux_lemma => kernel_rfl) (by as_aux_lemma => kernel_rfl) (by as_aux_lemma => kernel_rfl) (by as_aux_lemma => kernel_rfl) (by as_aux_lemma => kernel_rfl) (by as_aux_lemma => kernel_rfl) (by as_aux_lemma => kernel_rfl) (by as_aux_lemma => kernel_rfl) (by as_aux_lemma => kernel_rfl) (by as_aux_lemma => kernel_rfl) (by as_aux_lemma => kernel_rfl) (by as_aux_lemma => kernel_rfl) (by as_aux_lemma => kernel_rfl) (by as_aux_lemma => kernel_rfl) (by as_aux_lemma => kernel_rfl))
    (of_decide_eq_true (by kernel_rfl)) (by unfold Func.isWrapper; rw [if_neg (of_decide_eq_false (by kernel_rfl))]; exact ⟨rfl, rfl⟩)
    (fun os started H enc _ => FnShares_lifted os started H enc)

end Go.Proofs.Ytfdoddeccnjcmaa
