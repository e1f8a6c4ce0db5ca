/- Own work: contracts of functions that the claim reaches. No condition beyond those that each theorem names. -/
import Derived.Test.YtkmklfdpomkalaaProg
import Derived.Test.YtkmklfdpomkalaaShare
namespace Go.Proofs.Ytkmklfdpomkalaa
open Go Go.Vc
set_option maxRecDepth 100000
set_option linter.unusedSimpArgs false
set_option linter.unusedVariables false
def K_impl_CutAndPick : List Nat := [0, 2, 3, 4, 6, 7, 28, 29, 30]
def C_impl_CutAndPick : C :=
  let ks := K_impl_CutAndPick
  (.seq
    (.rg 0 [(none, .mkn 2), (none, .v 3 .mv [.k (.b false)])])
    (.cl ks (.seq
      (.seq
        (.rg 0 [(none, .v 8 .mv [.s 0]), (none, .co 9 54 [.s 8]), (none, .v 10 .not [.s 9]), (none, .v 11 .mv [.s 10]), (some (11, false), .v 12 .mv [.s 0]), (some (11, false), .v 13 .len [.s 12]), (some (11, false), .v 14 (.bin .neq) [.s 13, .k (.i 2)]), (none, .v 15 .pick [.s 11, .k (.b true), .s 14])])
        (.cond (.s 15)
          (.seq
            (.rg 0 [(none, .mkn 2), (none, .v 3 .mv [.k (.b false)])])
            .ret)
          .skip))
      (.cl ks (.seq
        (.rg 0 [(none, .v 17 .mv [.s 0]), (none, .co 18 22 [.s 17, .k (.i 0)]), (none, .tk 16 18), (none, .tk 19 100016), (none, .tk 20 101016), (none, .tk 4 19), (none, .tk 5 20)])
        (.cl ks (.seq
          (.seq
            (.rg 0 [(none, .v 21 .mv [.s 0]), (none, .v 22 .mv [.s 4]), (none, .co 23 60 [.s 21, .s 22, .k (.i 1), .k (.i 0)]), (none, .v 24 .mv [.s 0]), (none, .v 25 .mv [.s 4]), (none, .co 26 60 [.s 24, .s 25, .k (.i 1), .k (.i 1)]), (none, .v 27 (.bin .gtr) [.s 23, .s 26])])
            (.cond (.s 27)
              (.seq
                (.rg 0 [(none, .v 28 .mv [.s 4]), (none, .v 29 .len [.s 28]), (none, .v 30 .mv [.k (.i 0)])])
                (.cl ks (.block 0
                  (.loop
                    (.seq
                      (.rg 0 [(none, .v 31 (.bin .lss) [.s 30, .s 29])])
                      (.seq
                        (.cond (.s 31)
                          .skip
                          (.exit 0))
                        (.cl ks (.seq
                          (.block 1
                            (.seq
                              (.rg 0 [(none, .v 32 .mv [.s 30]), (none, .v 33 .idx [.s 28, .s 30]), (none, .v 34 .ld [.s 33]), (none, .tk 6 32), (none, .tk 7 34)])
                              (.cl ks (.rg 0 [(none, .v 35 .mv [.s 4]), (none, .v 36 .mv [.s 6]), (none, .v 37 .mv [.s 7]), (none, .v 38 (.bin .sub) [.k (.i 1), .s 37]), (none, .v 39 .idx [.s 35, .s 36]), (none, .st (.s 39) (.s 38))]))))
                          (.cl ks (.rg 0 [(none, .v 40 (.bin .add) [.s 30, .k (.i 1)]), (none, .v 30 .mv [.s 40])]))))))))))
              .skip))
          (.cl ks (.seq
            (.rg 0 [(none, .v 41 .mv [.s 4]), (none, .tk 2 41), (none, .v 3 .mv [.k (.b true)])])
            .ret)))))))))

theorem chk_impl_CutAndPick : ∃ b, Try.f32.body = some b ∧ chk Try.prog Try.f32.ntmps true C_impl_CutAndPick b = true := ⟨_, rfl, by kernel_rfl⟩
def K_spec_CutAndPick : List Nat := [0, 2, 3, 4, 5, 6, 7, 27, 28, 29]
def C_spec_CutAndPick : C :=
  let ks := K_spec_CutAndPick
  (.seq
    (.rg 0 [(none, .mkn 2), (none, .v 3 .mv [.k (.b false)])])
    (.cl ks (.seq
      (.rg 0 [(none, .v 9 .mv [.s 0]), (none, .co 10 21 [.s 9, .k (.i 0)]), (none, .tk 8 10), (none, .tk 11 100008), (none, .tk 12 101008), (none, .tk 4 11), (none, .tk 5 12)])
      (.cl ks (.seq
        (.seq
          (.rg 0 [(none, .v 13 .mv [.s 5]), (none, .v 14 .not [.s 13]), (none, .v 15 .mv [.s 14]), (some (15, false), .v 16 .mv [.s 0]), (some (15, false), .v 17 .len [.s 16]), (some (15, false), .v 18 (.bin .neq) [.s 17, .k (.i 2)]), (none, .v 19 .pick [.s 15, .k (.b true), .s 18])])
          (.cond (.s 19)
            (.seq
              (.rg 0 [(none, .mkn 2), (none, .v 3 .mv [.k (.b false)])])
              .ret)
            .skip))
        (.cl ks (.seq
          (.seq
            (.rg 0 [(none, .v 20 .mv [.s 0]), (none, .v 21 .mv [.s 4]), (none, .co 22 61 [.s 20, .s 21, .k (.i 1), .k (.i 0)]), (none, .v 23 .mv [.s 0]), (none, .v 24 .mv [.s 4]), (none, .co 25 61 [.s 23, .s 24, .k (.i 1), .k (.i 1)]), (none, .v 26 (.bin .gtr) [.s 22, .s 25])])
            (.cond (.s 26)
              (.seq
                (.rg 0 [(none, .v 27 .mv [.s 4]), (none, .v 28 .len [.s 27]), (none, .v 29 .mv [.k (.i 0)])])
                (.cl ks (.block 0
                  (.loop
                    (.seq
                      (.rg 0 [(none, .v 30 (.bin .lss) [.s 29, .s 28])])
                      (.seq
                        (.cond (.s 30)
                          .skip
                          (.exit 0))
                        (.cl ks (.seq
                          (.block 1
                            (.seq
                              (.rg 0 [(none, .v 31 .mv [.s 29]), (none, .v 32 .idx [.s 27, .s 29]), (none, .v 33 .ld [.s 32]), (none, .tk 6 31), (none, .tk 7 33)])
                              (.cl ks (.rg 0 [(none, .v 34 .mv [.s 4]), (none, .v 35 .mv [.s 6]), (none, .v 36 .mv [.s 7]), (none, .v 37 (.bin .sub) [.k (.i 1), .s 36]), (none, .v 38 .idx [.s 34, .s 35]), (none, .st (.s 38) (.s 37))]))))
                          (.cl ks (.rg 0 [(none, .v 39 (.bin .add) [.s 29, .k (.i 1)]), (none, .v 29 .mv [.s 39])]))))))))))
              .skip))
          (.cl ks (.seq
            (.rg 0 [(none, .v 40 .mv [.s 4]), (none, .tk 2 40), (none, .v 3 .mv [.k (.b true)])])
            .ret)))))))))

theorem chk_spec_CutAndPick : ∃ b, Try.f31.body = some b ∧ chk Try.prog Try.f31.ntmps true C_spec_CutAndPick b = true := ⟨_, rfl, by kernel_rfl⟩
/-- The first j goods change hands. -/
def flipN (l : List Int) : Nat → List Int
  | 0 => l
  | j + 1 => (flipN l j).set j (1 - l.getD j 0)
theorem flipN_len {l : List Int} : ∀ {j : Nat}, (flipN l j).length = l.length
  | 0 => rfl
  | j + 1 => by simp only [flipN, List.length_set]; exact flipN_len
theorem flipN_get {l : List Int} : ∀ {j i : Nat}, j ≤ i → (flipN l j).getD i 0 = l.getD i 0
  | 0, _, _ => rfl
  | j + 1, i, h => by
    simp only [flipN]
    have : ((flipN l j).set j (1 - l.getD j 0)).getD i 0 = (flipN l j).getD i 0 := by simp [List.getD, show j ≠ i by omega]
    rw [this]; exact flipN_get (by omega)
def pickB (vs : List (List Int)) : Bool := rectB vs 3 6 100 && decide (vs.length = 2)
def pickF (vs : List (List Int)) : List Int := if pickB vs = true then (if wo vs (cutF vs 0) 1 1 < wo vs (cutF vs 0) 1 0 then flipN (cutF vs 0) (cutF vs 0).length else cutF vs 0) else []
theorem pick_cut {vs : List (List Int)} (h : pickB vs = true) : cutB vs 0 = true := by
  simp only [pickB, Bool.and_eq_true, decide_eq_true_eq] at h
  simp [cutB, h.1, inI, h.2]
theorem pick_len {vs : List (List Int)} : (pickF vs).length ≤ 1048576 := by
  unfold pickF; split
  · split
    · rw [flipN_len]; exact cut_bd
    · exact cut_bd
  · simp
theorem impl_CutAndPick_ok {n1 : Option Bool} (vs : List (List Int)) (hl : vs.length ≤ 1048576) (hr : ∀ r ∈ vs, r.length ≤ 1048576) : CallOk Try.prog 32 [.s n1 (rr vs)] [(0, .tp 2), (100000, .own 1 none (ii (pickF vs))), (101000, .b (pickB vs))] := by
  obtain ⟨code0, hcd1, hcd2⟩ := chk_impl_CutAndPick; refine callOk_of Try.func32 hcd1 mo Try.call32 (rs := [2, 3]) (by kernel_rfl) hcd2 (by rw [Try.ntmps32]; simp) (by simp) (by decide) ?_; unfold C_impl_CutAndPick K_impl_CutAndPick; simp (config := { maxSteps := 2000000 }) only [go_sem, Nat.reduceBEq, Nat.reduceAdd, Nat.reduceMul, Nat.reduceMod, Nat.reduceLT, Nat.reduceDiv, Nat.reduceSub, Nat.reduceLeDiff, Int.reduceToNat, Int.reduceLT, Int.reduceLE, reduceCtorEq, List.take_nil, List.drop_nil]
  refine ⟨_, impl_ValuesOk_ok vs hl hr, ?_⟩; simp (config := { maxSteps := 2000000 }) only [go_sem, Nat.reduceBEq, Nat.reduceAdd, Nat.reduceMul, Nat.reduceMod, Nat.reduceLT, Nat.reduceDiv, Nat.reduceSub, Nat.reduceLeDiff, Int.reduceToNat, Int.reduceLT, Int.reduceLE, reduceCtorEq, List.take_nil, List.drop_nil]
  refine ⟨fun h0 => ?_, fun h0 => by simp [pickF, pickB, h0]⟩
  refine ⟨fun h1 => ?_, fun h1 => ?_⟩
  · have hB : pickB vs = false := by simp [pickB]; intro _; omega
    simp [pickF, hB]
  have h2 : vs.length = 2 := by omega
  refine ⟨_, impl_ShareCut_ok vs 0 hl hr, ?_⟩; simp (config := { maxSteps := 2000000 }) only [go_sem, Nat.reduceBEq, Nat.reduceAdd, Nat.reduceMul, Nat.reduceMod, Nat.reduceLT, Nat.reduceDiv, Nat.reduceSub, Nat.reduceLeDiff, Int.reduceToNat, Int.reduceLT, Int.reduceLE, reduceCtorEq, List.take_nil, List.drop_nil]
  have hB : pickB vs = true := by simp [pickB, h0, h2]
  obtain ⟨V, hL, hin⟩ := cut_len (pick_cut hB)
  have m6 := V.m6
  have hF : pickF vs = if wo vs (cutF vs 0) 1 1 < wo vs (cutF vs 0) 1 0 then flipN (cutF vs 0) (cutF vs 0).length else cutF vs 0 := if_pos hB
  rw [hF, hB]
  revert V hin m6
  generalize cutF vs 0 = L
  intro V hin m6
  refine ⟨_, impl_worth_ok vs L V 1 0 (by omega), ?_⟩; simp (config := { maxSteps := 2000000 }) only [go_sem, Nat.reduceBEq, Nat.reduceAdd, Nat.reduceMul, Nat.reduceMod, Nat.reduceLT, Nat.reduceDiv, Nat.reduceSub, Nat.reduceLeDiff, Int.reduceToNat, Int.reduceLT, Int.reduceLE, reduceCtorEq, List.take_nil, List.drop_nil]
  refine ⟨_, impl_worth_ok vs L V 1 1 (by omega), ?_⟩; simp (config := { maxSteps := 2000000 }) only [go_sem, Nat.reduceBEq, Nat.reduceAdd, Nat.reduceMul, Nat.reduceMod, Nat.reduceLT, Nat.reduceDiv, Nat.reduceSub, Nat.reduceLeDiff, Int.reduceToNat, Int.reduceLT, Int.reduceLE, reduceCtorEq, List.take_nil, List.drop_nil]
  refine ⟨fun h => ?_, fun h => ?_⟩
  · rw [if_pos h]
    refine loopN L.length (fun j => [(0, .t .arg (.s n1 (rr vs))), (4, .own 1 none (ii (flipN L j))), (28, .al 4), (29, .i L.length), (30, .i (j : Nat))]) (fun _ => True) ⟨trivial, by simp (config := { maxSteps := 2000000 }) only [go_sem, Nat.reduceBEq, Nat.reduceAdd, Nat.reduceMul, Nat.reduceMod, Nat.reduceLT, Nat.reduceDiv, Nat.reduceSub, Nat.reduceLeDiff, Int.reduceToNat, Int.reduceLT, Int.reduceLE, reduceCtorEq, List.take_nil, List.drop_nil]; simp [flipN]⟩ fun j hj _ => ?_
    have hl1 := flipN_len (l := L) (j := j)
    have hs : flipN L (j + 1) = (flipN L j).set j (1 - L.getD j 0) := rfl
    have hg := flipN_get (l := L) (j := j) (Nat.le_refl j)
    simp (config := { maxSteps := 2000000 }) only [go_sem, Nat.reduceBEq, Nat.reduceAdd, Nat.reduceMul, Nat.reduceMod, Nat.reduceLT, Nat.reduceDiv, Nat.reduceSub, Nat.reduceLeDiff, Int.reduceToNat, Int.reduceLT, Int.reduceLE, reduceCtorEq, List.take_nil, List.drop_nil]
    refine ⟨fun hlt => ?_, fun hge => ?_⟩
    · have hj' : j < L.length := by omega
      have hb := hin _ (getD_mem (d := 0) hj')
      rw [hg]
      exact ⟨by omega, by omega, by omega, inR_of (by omega) (by omega), by omega, by omega, by omega, inR_of (by omega) (by omega), hj', hs.symm, by simp⟩
    · have : j = L.length := by omega
      subst this
      exact ⟨by omega, rfl⟩
  · rw [if_neg h]
    exact ⟨by omega, rfl⟩
theorem spec_CutAndPick_ok {n1 : Option Bool} (vs : List (List Int)) (hl : vs.length ≤ 1048576) (hr : ∀ r ∈ vs, r.length ≤ 1048576) : CallOk Try.prog 31 [.s n1 (rr vs)] [(0, .tp 2), (100000, .own 1 none (ii (pickF vs))), (101000, .b (pickB vs))] := by
  obtain ⟨code0, hcd1, hcd2⟩ := chk_spec_CutAndPick; refine callOk_of Try.func31 hcd1 mo Try.call31 (rs := [2, 3]) (by kernel_rfl) hcd2 (by rw [Try.ntmps31]; simp) (by simp) (by decide) ?_; unfold C_spec_CutAndPick K_spec_CutAndPick; simp (config := { maxSteps := 2000000 }) only [go_sem, Nat.reduceBEq, Nat.reduceAdd, Nat.reduceMul, Nat.reduceMod, Nat.reduceLT, Nat.reduceDiv, Nat.reduceSub, Nat.reduceLeDiff, Int.reduceToNat, Int.reduceLT, Int.reduceLE, reduceCtorEq, List.take_nil, List.drop_nil]
  refine ⟨_, spec_ShareCut_ok vs 0 hl hr, ?_⟩; simp (config := { maxSteps := 2000000 }) only [go_sem, Nat.reduceBEq, Nat.reduceAdd, Nat.reduceMul, Nat.reduceMod, Nat.reduceLT, Nat.reduceDiv, Nat.reduceSub, Nat.reduceLeDiff, Int.reduceToNat, Int.reduceLT, Int.reduceLE, reduceCtorEq, List.take_nil, List.drop_nil]
  refine ⟨fun h0 => ?_, fun h0 => ?_⟩
  case refine_2 =>
    have hB : pickB vs = false := by
      cases h : pickB vs with
      | false => rfl
      | true => have := pick_cut h; rw [h0] at this; cases this
    simp [pickF, hB]
  refine ⟨fun h1 => ?_, fun h1 => ?_⟩
  · have hB : pickB vs = false := by simp [pickB]; intro _; omega
    simp [pickF, hB]
  have h2 : vs.length = 2 := by omega
  have h0 : rectB vs 3 6 100 = true := by simp only [cutB, Bool.and_eq_true] at h0; exact h0.1
  have hB : pickB vs = true := by simp [pickB, h0, h2]
  obtain ⟨V, hL, hin⟩ := cut_len (pick_cut hB)
  have m6 := V.m6
  have hF : pickF vs = if wo vs (cutF vs 0) 1 1 < wo vs (cutF vs 0) 1 0 then flipN (cutF vs 0) (cutF vs 0).length else cutF vs 0 := if_pos hB
  rw [hF, hB]
  revert V hin m6
  generalize cutF vs 0 = L
  intro V hin m6
  refine ⟨_, spec_l23Worth_ok vs L V 1 0 (by omega), ?_⟩; simp (config := { maxSteps := 2000000 }) only [go_sem, Nat.reduceBEq, Nat.reduceAdd, Nat.reduceMul, Nat.reduceMod, Nat.reduceLT, Nat.reduceDiv, Nat.reduceSub, Nat.reduceLeDiff, Int.reduceToNat, Int.reduceLT, Int.reduceLE, reduceCtorEq, List.take_nil, List.drop_nil]
  refine ⟨_, spec_l23Worth_ok vs L V 1 1 (by omega), ?_⟩; simp (config := { maxSteps := 2000000 }) only [go_sem, Nat.reduceBEq, Nat.reduceAdd, Nat.reduceMul, Nat.reduceMod, Nat.reduceLT, Nat.reduceDiv, Nat.reduceSub, Nat.reduceLeDiff, Int.reduceToNat, Int.reduceLT, Int.reduceLE, reduceCtorEq, List.take_nil, List.drop_nil]
  refine ⟨fun h => ?_, fun h => ?_⟩
  · rw [if_pos h]
    refine loopN L.length (fun j => [(0, .t .arg (.s n1 (rr vs))), (4, .own 1 none (ii (flipN L j))), (27, .al 4), (28, .i L.length), (29, .i (j : Nat))]) (fun _ => True) ⟨trivial, by simp (config := { maxSteps := 2000000 }) only [go_sem, Nat.reduceBEq, Nat.reduceAdd, Nat.reduceMul, Nat.reduceMod, Nat.reduceLT, Nat.reduceDiv, Nat.reduceSub, Nat.reduceLeDiff, Int.reduceToNat, Int.reduceLT, Int.reduceLE, reduceCtorEq, List.take_nil, List.drop_nil]; simp [flipN]⟩ fun j hj _ => ?_
    have hl1 := flipN_len (l := L) (j := j)
    have hs : flipN L (j + 1) = (flipN L j).set j (1 - L.getD j 0) := rfl
    have hg := flipN_get (l := L) (j := j) (Nat.le_refl j)
    simp (config := { maxSteps := 2000000 }) only [go_sem, Nat.reduceBEq, Nat.reduceAdd, Nat.reduceMul, Nat.reduceMod, Nat.reduceLT, Nat.reduceDiv, Nat.reduceSub, Nat.reduceLeDiff, Int.reduceToNat, Int.reduceLT, Int.reduceLE, reduceCtorEq, List.take_nil, List.drop_nil]
    refine ⟨fun hlt => ?_, fun hge => ?_⟩
    · have hj' : j < L.length := by omega
      have hb := hin _ (getD_mem (d := 0) hj')
      rw [hg]
      exact ⟨by omega, by omega, by omega, inR_of (by omega) (by omega), by omega, by omega, by omega, inR_of (by omega) (by omega), hj', hs.symm, by simp⟩
    · have : j = L.length := by omega
      subst this
      exact ⟨by omega, rfl⟩
  · rw [if_neg h]
    exact ⟨by omega, rfl⟩

end Go.Proofs.Ytkmklfdpomkalaa
