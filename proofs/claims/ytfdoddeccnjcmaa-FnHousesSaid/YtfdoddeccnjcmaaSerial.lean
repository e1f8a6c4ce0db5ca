/- Own work: contracts of functions that the claim reaches. No condition beyond those that each theorem names. -/
import Derived.Test.YtfdoddeccnjcmaaProg
import Derived.Test.YtfdoddeccnjcmaaSerlaw
import Derived.Test.YtfdoddeccnjcmaaConcat
namespace Go.Proofs.Ytfdoddeccnjcmaa
open Go Go.Vc
set_option maxRecDepth 100000
set_option linter.unusedSimpArgs false
set_option linter.unusedVariables false
/- spec_SerialChoice: not in this cut -/
def K_impl_SerialChoice : List Nat := [0, 1, 4, 5, 6, 8, 25, 26, 27, 1005, 1008]
def C_impl_SerialChoice : C :=
  let ks := K_impl_SerialChoice
  (.seq
   (.rg 0 [(none, .mkn 4)])
   (.cl ks (.seq
   (.seq
   (.rg 0 [(none, .v 9 .mv [.s 0]), (none, .co 10 44 [.s 9]), (none, .v 11 .not [.s 10]), (none, .v 12 .mv [.s 11]), (some (12, false), .v 13 .mv [.s 0]), (some (12, false), .v 14 .len [.s 13]), (some (12, false), .v 15 .mv [.s 1]), (some (12, false), .co 16 90 [.s 14, .s 15]), (some (12, false), .v 17 .not [.s 16]), (none, .v 18 .pick [.s 12, .k (.b true), .s 17])])
   (.cond (.s 18)
   (.seq
   (.rg 0 [(none, .mkn 4)])
   .ret)
   .skip))
   (.cl ks (.seq
   (.rg 0 [(none, .v 19 .mv [.s 0]), (none, .v 20 .len [.s 19]), (none, .mk 21 (.i 0) (.s 20) (.s 20)), (none, .new 5 [.s (some true) []]), (none, .st (.s 5) (.s 21))])
   (.cl ks (.seq
   (.rg 0 [(none, .v 22 .mv [.s 0]), (none, .v 23 .len [.s 22]), (none, .co 24 91 [.s 23]), (none, .tk 6 24)])
   (.cl ks (.seq
   (.seq
   (.rg 0 [(none, .v 25 .mv [.s 1]), (none, .v 26 .len [.s 25]), (none, .v 27 .mv [.k (.i 0)])])
   (.cl ks (.block 0
   (.loop
   (.seq
   (.rg 0 [(none, .v 28 (.bin .lss) [.s 27, .s 26])])
   (.seq
   (.cond (.s 28)
   .skip
   (.exit 0))
   (.cl ks (.seq
   (.block 1
   (.seq
   (.rg 0 [(none, .v 29 .idx [.s 25, .s 27]), (none, .v 30 .ld [.s 29]), (none, .new 8 [.i 0]), (none, .st (.s 8) (.s 30))])
   (.cl ks (.seq
   (.rg 8 [(none, .v 31 .ld [.s 5]), (none, .v 32 .ld [.s 8]), (none, .v 33 .mv [.s 0]), (none, .v 34 .ld [.s 8]), (none, .v 35 .idx [.s 33, .s 34]), (none, .v 36 .ld [.s 35]), (none, .v 37 .mv [.s 6]), (none, .v 38 (.call 92) [.s 36, .s 37]), (none, .v 39 .idx [.s 31, .s 32]), (none, .st (.s 39) (.s 38))])
   (.cl ks (.rg 0 [(none, .v 40 .mv [.s 6]), (none, .v 41 (.clo 94) [.s 5, .s 8]), (none, .coc 42 93 [.s 40, .s 41] [0]), (none, .tk 6 42)]))))))
   (.cl ks (.rg 0 [(none, .v 43 (.bin .add) [.s 27, .k (.i 1)]), (none, .v 27 .mv [.s 43])]))))))))))
   (.cl ks (.seq
   (.rg 0 [(none, .v 44 .ld [.s 5]), (none, .tk 4 44)])
   .ret)))))))))))

theorem chk_impl_SerialChoice : ∃ b, Try.f36.body = some b ∧ chk Try.prog Try.f36.ntmps true C_impl_SerialChoice b = true := ⟨_, rfl, by kernel_rfl⟩
def K_impl_SerialChoice_1 : List Nat := [0, 1, 2, 4]
def C_impl_SerialChoice_1 : C :=
  let ks := K_impl_SerialChoice_1
  (.seq
   (.rg 0 [(none, .v 4 .mv [.k (.b false)])])
   (.cl ks (.seq
   (.rg 0 [(none, .v 5 .mv [.s 0]), (none, .v 6 .ld [.s 1]), (none, .v 7 .ld [.s 2]), (none, .v 8 .idx [.s 6, .s 7]), (none, .v 9 .ld [.s 8]), (none, .v 10 (.bin .eql) [.s 5, .s 9]), (none, .tk 4 10)])
   .ret)))

theorem chk_impl_SerialChoice_1 : ∃ b, Try.f94.body = some b ∧ chk Try.prog Try.f94.ntmps true C_impl_SerialChoice_1 b = true := ⟨_, rfl, by kernel_rfl⟩
theorem getD_set_eq {xs : List Int} {i : Nat} {v : Int} (h : i < xs.length) : (xs.set i v).getD i 0 = v := by
  simp [List.getD, h]
theorem impl_SerialChoice1_ok {n1 : Option Bool} (h i : Int) (out : List Int) (hi : 0 ≤ i ∧ i < out.length) : CallOk Try.prog 94 [.i h, .q [.s n1 (ii out)] 0, .q [.i i] 0] [(0, .b (decide (h = out.getD i.toNat 0)))] := by
  obtain ⟨code0, hcd1, hcd2⟩ := chk_impl_SerialChoice_1; refine callOk_of Try.func94 hcd1 mo Try.call94 (rs := [4]) (by kernel_rfl) hcd2 (by rw [Try.ntmps94]; simp) (by simp) (by decide) ?_; unfold C_impl_SerialChoice_1 K_impl_SerialChoice_1; simp (config := { maxSteps := 2000000 }) only [go_sem, Nat.reduceBEq, Nat.reduceAdd, Nat.reduceMul, Nat.reduceMod, Nat.reduceLT, Nat.reduceDiv, Nat.reduceSub, Nat.reduceLeDiff, Int.reduceToNat, Int.reduceLT, Int.reduceLE, reduceCtorEq, List.take_nil, List.drop_nil]
  omega
theorem impl_SerialChoice_ok {n1 n2 : Option Bool} (ls : List (List Int)) (l : List Int) (hl : ls.length ≤ 1048576) (hr : ∀ r ∈ ls, r.length ≤ 1048576) (hll : l.length ≤ 1048576) : CallOk Try.prog 36 [.s n1 (rr ls), .s n2 (ii l)] [(0, .own 1 none (ii (serF ls l)))] := by
  obtain ⟨code0, hcd1, hcd2⟩ := chk_impl_SerialChoice; refine callOk_of Try.func36 hcd1 mo Try.call36 (rs := [4]) (by kernel_rfl) hcd2 (by rw [Try.ntmps36]; simp) (by simp) (by decide) ?_; unfold C_impl_SerialChoice K_impl_SerialChoice; simp (config := { maxSteps := 2000000 }) only [go_sem, Nat.reduceBEq, Nat.reduceAdd, Nat.reduceMul, Nat.reduceMod, Nat.reduceLT, Nat.reduceDiv, Nat.reduceSub, Nat.reduceLeDiff, Int.reduceToNat, Int.reduceLT, Int.reduceLE, reduceCtorEq, List.take_nil, List.drop_nil]
  refine ⟨_, impl_HousesOk_ok ls hl hr, ?_⟩; simp (config := { maxSteps := 2000000 }) only [go_sem, Nat.reduceBEq, Nat.reduceAdd, Nat.reduceMul, Nat.reduceMod, Nat.reduceLT, Nat.reduceDiv, Nat.reduceSub, Nat.reduceLeDiff, Int.reduceToNat, Int.reduceLT, Int.reduceLE, reduceCtorEq, List.take_nil, List.drop_nil]
  refine ⟨fun h0 => ?_, fun h0 => by simp [serF, exchB, h0]⟩
  refine ⟨_, impl_RankingOk_ok _ l hll, ?_⟩; simp (config := { maxSteps := 2000000 }) only [go_sem, Nat.reduceBEq, Nat.reduceAdd, Nat.reduceMul, Nat.reduceMod, Nat.reduceLT, Nat.reduceDiv, Nat.reduceSub, Nat.reduceLeDiff, Int.reduceToNat, Int.reduceLT, Int.reduceLE, reduceCtorEq, List.take_nil, List.drop_nil]
  refine ⟨fun h1 => by simp [serF, exchB, h1], fun h1 => ?_⟩
  have H := hs_of h0
  have hn := rank_len h1
  have hF : serF ls l = (serS ls l ls.length).2 := if_pos (by simp [exchB, h0, h1])
  rw [hF]
  refine ⟨by omega, by omega, ?_⟩
  refine ⟨_, indices_ok (ls.length : Int) (by omega) (by omega), ?_⟩; simp (config := { maxSteps := 2000000 }) only [go_sem, Nat.reduceBEq, Nat.reduceAdd, Nat.reduceMul, Nat.reduceMod, Nat.reduceLT, Nat.reduceDiv, Nat.reduceSub, Nat.reduceLeDiff, Int.reduceToNat, Int.reduceLT, Int.reduceLE, reduceCtorEq, List.take_nil, List.drop_nil]
  refine loopN ls.length (fun j => [(0, .t .arg (.s n1 (rr ls))), (1, .t .arg (.s n2 (ii l))), (5, .bx 1), (1005, .own 1 (some false) (ii (serS ls l j).2)), (6, .own 1 none (ii (serS ls l j).1)), (25, .t .arg (.s n2 (ii l))), (26, .i ls.length), (27, .i (j : Nat))]) (fun j => True) ⟨trivial, by simp (config := { maxSteps := 2000000 }) only [go_sem, Nat.reduceBEq, Nat.reduceAdd, Nat.reduceMul, Nat.reduceMod, Nat.reduceLT, Nat.reduceDiv, Nat.reduceSub, Nat.reduceLeDiff, Int.reduceToNat, Int.reduceLT, Int.reduceLE, reduceCtorEq, List.take_nil, List.drop_nil]; simp [serS]; omega⟩ fun j hj _ => ?_
  obtain ⟨f1, f2, f3, f4⟩ := serS_facts H h1 hj
  have n5 := H.n5
  simp (config := { maxSteps := 2000000 }) only [go_sem, Nat.reduceBEq, Nat.reduceAdd, Nat.reduceMul, Nat.reduceMod, Nat.reduceLT, Nat.reduceDiv, Nat.reduceSub, Nat.reduceLeDiff, Int.reduceToNat, Int.reduceLT, Int.reduceLE, reduceCtorEq, List.take_nil, List.drop_nil]
  refine ⟨fun hlt => ?_, fun hge => ?_⟩
  · have hj' : j < ls.length := by omega
    have hi := rank_bd h1 (i := j) (by omega)
    have hk := H.rk (l.getD j 0).toNat (by omega)
    have hkl := rank_len hk
    obtain ⟨g1, g2, g3⟩ := fst_of hk f2 (by omega)
    have g4 := f2 _ g3
    refine ⟨by omega, by omega, by omega, by omega, by omega, by omega, ?_⟩
    refine ⟨_, impl_firstOfLeft_ok (ls.getD (l.getD j 0).toNat []) (serS ls l j).1 (by omega) (by omega) ⟨g1, g2⟩, ?_⟩; simp (config := { maxSteps := 2000000 }) only [go_sem, Nat.reduceBEq, Nat.reduceAdd, Nat.reduceMul, Nat.reduceMod, Nat.reduceLT, Nat.reduceDiv, Nat.reduceSub, Nat.reduceLeDiff, Int.reduceToNat, Int.reduceLT, Int.reduceLE, reduceCtorEq, List.take_nil, List.drop_nil]
    refine ⟨by omega, by omega, by omega, ?_⟩
    refine ⟨_, DeleteFunc_ok (serS ls l j).1 94 [.q [.s (some false) (ii ((serS ls l j).2.set (l.getD j 0).toNat (fstL (serS ls l j).1 (ls.getD (l.getD j 0).toNat []))))] 0, .q [.i (l.getD j 0)] 0] (fun x => decide (x = fstL (serS ls l j).1 (ls.getD (l.getD j 0).toNat []))) (fun x _ => by have := impl_SerialChoice1_ok (n1 := some false) x (l.getD j 0) ((serS ls l j).2.set (l.getD j 0).toNat (fstL (serS ls l j).1 (ls.getD (l.getD j 0).toNat []))) (by rw [List.length_set]; omega); rw [getD_set_eq (by omega)] at this; exact this) (by omega), ?_⟩; simp (config := { maxSteps := 2000000 }) only [go_sem, Nat.reduceBEq, Nat.reduceAdd, Nat.reduceMul, Nat.reduceMod, Nat.reduceLT, Nat.reduceDiv, Nat.reduceSub, Nat.reduceLeDiff, Int.reduceToNat, Int.reduceLT, Int.reduceLE, reduceCtorEq, List.take_nil, List.drop_nil]
    exact ⟨inR_of (by omega) (by omega), hj', rfl, rfl, by omega⟩
  · have : j = ls.length := by omega
    subst this
    rfl
def lB (left : List Int) (n : Nat) : List Bool := (List.range n).map fun (x : Nat) => inL left x
theorem lB_len {left : List Int} {n : Nat} : (lB left n).length = n := by simp [lB]
theorem lB_get {left : List Int} {n x : Nat} (h : x < n) : (lB left n).getD x false = inL left x := by simp [lB, List.getD, h]
theorem lB_set {left : List Int} {n x : Nat} (_ : x < n) : (lB left n).set x false = lB (left.filter fun y => !decide (y = (x : Int))) n := by
  apply List.ext_getElem
  · simp [lB]
  · intro i h1 h2
    simp only [lB, List.getElem_set, List.getElem_map, List.getElem_range]
    by_cases e : x = i
    · subst e
      rw [if_pos rfl]
      cases h : inL (left.filter fun y => !decide (y = (x : Int))) x with
      | false => rfl
      | true => have := inL_iff.1 h; simp at this
    · rw [if_neg e, Bool.eq_iff_iff, inL_iff, inL_iff, List.mem_filter]
      have : ¬ ((i : Int) = x) := by omega
      simp [this]
end Go.Proofs.Ytfdoddeccnjcmaa
