/- Own work: contracts of functions that the claim reaches. No condition beyond those that each theorem names. -/
import Derived.Test.YtfdoddeccnjcmaaProg
import Derived.Test.YtfdoddeccnjcmaaCursor
import Derived.Test.YtfdoddeccnjcmaaQuotas
import Derived.Test.YtfdoddeccnjcmaaDraw
namespace Go.Proofs.Ytfdoddeccnjcmaa
open Go Go.Vc
set_option maxRecDepth 100000
set_option linter.unusedSimpArgs false
set_option linter.unusedVariables false
/-! The drawing of counts of votes. -/
def K_spec_l01Once : List Nat := [0, 1, 4, 1000, 2000, 3000]
def C_spec_l01Once : C :=
  let ks := K_spec_l01Once
  (.seq
   (.rg 0 [(none, .v 4 .mv [.k (.b false)])])
   (.cl ks (.seq
   (.rg 0 [(none, .v 5 .mv [.s 0]), (none, .v 6 .mv [.s 1]), (none, .cop 7 127 [.s 5, .s 6] 0), (none, .v 8 (.bin .eql) [.s 7, .k (.i 0)]), (none, .tk 4 8)])
   .ret)))

theorem chk_spec_l01Once : ∃ b, Try.f128.body = some b ∧ chk Try.prog Try.f128.ntmps false C_spec_l01Once b = true ∧ dstB (fun k => k == 0) b = true := ⟨_, rfl, by kernel_rfl, by kernel_rfl⟩
def K_spec_l13Draw : List Nat := [0, 2, 3, 4, 5, 1000, 2000, 3000]
def C_spec_l13Draw : C :=
  let ks := K_spec_l13Draw
  (.seq
   (.rg 0 [(none, .mkn 2)])
   (.cl ks (.seq
   (.rg 0 [(none, .lit 6 [] 0), (none, .tk 3 6)])
   (.cl ks (.seq
   (.seq
   (.rg 0 [(none, .v 7 .mv [.s 0]), (none, .cop 8 127 [.s 7, .k (.i 5)] 0), (none, .v 9 (.bin .add) [.k (.i 1), .s 8]), (none, .tk 4 9)])
   (.cl ks (.block 0
   (.loop
   (.seq
   (.seq
   (.rg 0 [(none, .v 10 .mv [.s 4]), (none, .v 11 (.bin .gtr) [.s 10, .k (.i 0)])])
   (.cond (.s 11)
   .skip
   (.exit 0)))
   (.cl ks (.seq
   (.block 1
   (.seq
   (.rg 0 [(none, .v 14 .mv [.s 0]), (none, .cop 15 127 [.s 14, .k (.i 60)] 0), (none, .tk 5 15)])
   (.cl ks (.seq
   (.seq
   (.rg 0 [(none, .v 16 .mv [.s 0]), (none, .cop 17 128 [.s 16, .k (.i 4)] 0)])
   (.cond (.s 17)
   (.rg 0 [(none, .v 18 .mv [.s 5]), (none, .v 19 (.bin .mul) [.s 18, .k (.i 97)]), (none, .v 20 .mv [.s 0]), (none, .cop 21 127 [.s 20, .k (.i 50)] 0), (none, .v 22 (.bin .add) [.s 19, .s 21]), (none, .tk 5 22)])
   .skip))
   (.cl ks (.rg 0 [(none, .v 23 .mv [.s 3]), (none, .v 24 .mv [.s 5]), (none, .lit 25 [.s 24] 0), (none, .app 26 (.s 23) (.s 25) 0), (none, .tk 3 26)]))))))
   (.cl ks (.rg 0 [(none, .v 12 .mv [.s 4]), (none, .v 13 (.bin .sub) [.s 12, .k (.i 1)]), (none, .tk 4 13)])))))))))
   (.cl ks (.seq
   (.seq
   (.rg 0 [(none, .v 27 .mv [.s 3]), (none, .co 28 129 [.s 27]), (none, .v 29 (.bin .eql) [.s 28, .k (.i 0)])])
   (.cond (.s 29)
   (.rg 0 [(none, .v 30 .mv [.s 3]), (none, .v 31 .idx [.s 30, .k (.i 0)]), (none, .st (.s 31) (.k (.i 7)))])
   .skip))
   (.cl ks (.seq
   (.rg 0 [(none, .v 32 .mv [.s 3]), (none, .tk 2 32)])
   .ret)))))))))

theorem chk_spec_l13Draw : ∃ b, Try.f66.body = some b ∧ chk Try.prog Try.f66.ntmps false C_spec_l13Draw b = true ∧ dstB (fun k => k == 0) b = true := ⟨_, rfl, by kernel_rfl, by kernel_rfl⟩
def K_spec_MakeCounts : List Nat := [0, 1, 4]
def C_spec_MakeCounts : C :=
  let ks := K_spec_MakeCounts
  (.seq
   (.rg 0 [(none, .mkn 4)])
   (.cl ks (.seq
   (.rg 0 [(none, .v 5 .mv [.s 0]), (none, .v 6 .mv [.s 1]), (none, .con 7 67 [.s 5, .s 6]), (none, .cop 8 66 [.s 7] 0), (none, .tk 4 8)])
   .ret)))

theorem chk_spec_MakeCounts : ∃ b, Try.f8.body = some b ∧ chk Try.prog Try.f8.ntmps true C_spec_MakeCounts b = true := ⟨_, rfl, by kernel_rfl⟩
theorem spec_l01Once_ok (u : Value) (nl : Option Bool) {l : List Int} (C : CodeL l) {p : Int × Int} (h : Cur l p) {n : Int} (h1 : 1 ≤ n) (h2 : n ≤ 256) : ∃ q b, Cur l q ∧ CallQ Try.prog 128 0 [.q (cur u nl l p) 0, .i n] (cur u nl l q) [(0, .b b)] := by
  obtain ⟨q, x, hq, x0, x1, W⟩ := spec_l01Below_ok u nl C h h1 h2
  refine ⟨q, decide (x = 0), hq, ?_⟩
  unfold cur at W ⊢
  obtain ⟨code0, hcd1, hcd2, hcd3⟩ := chk_spec_l01Once; refine callQ_of Try.func128 hcd1 mo Try.call128 (r := 4) (i := 0) (by kernel_rfl) hcd2 hcd3 (by rw [Try.ntmps128]; simp) (by simp) (by decide) rfl rfl (by simp) ?_; unfold C_spec_l01Once K_spec_l01Once; simp (config := { maxSteps := 2000000 }) only [go_sem, Nat.reduceBEq, Nat.reduceAdd, Nat.reduceMul, Nat.reduceMod, Nat.reduceLT, Nat.reduceDiv, Nat.reduceSub, Nat.reduceLeDiff, Int.reduceToNat, Int.reduceLT, Int.reduceLE, reduceCtorEq, List.take_nil, List.drop_nil]
  refine ⟨_, _, W, ?_⟩
  simp (config := { maxSteps := 2000000 }) only [go_sem, Nat.reduceBEq, Nat.reduceAdd, Nat.reduceMul, Nat.reduceMod, Nat.reduceLT, Nat.reduceDiv, Nat.reduceSub, Nat.reduceLeDiff, Int.reduceToNat, Int.reduceLT, Int.reduceLE, reduceCtorEq, List.take_nil, List.drop_nil, le_self]
/-- One count is drawn. -/
def CntR (u : Value) (nl : Option Bool) (l : List Int) (a b : (Int × Int) × Int) : Prop :=
  ∃ q1 x q2 c, 0 ≤ x ∧ x < 60 ∧ CallQ Try.prog 127 0 [.q (cur u nl l a.1) 0, .i 60] (cur u nl l q1) [(0, .i x)] ∧
    CallQ Try.prog 128 0 [.q (cur u nl l q1) 0, .i 4] (cur u nl l q2) [(0, .b c)] ∧
    (c = false → b = (q2, x)) ∧ (c = true → ∃ y, 0 ≤ y ∧ y < 50 ∧ b.2 = x * 97 + y ∧ CallQ Try.prog 127 0 [.q (cur u nl l q2) 0, .i 50] (cur u nl l b.1) [(0, .i y)])
theorem cnt_step (u : Value) (nl : Option Bool) {l : List Int} (C : CodeL l) (a : {a : (Int × Int) × Int // Cur l a.1 ∧ 0 ≤ a.2 ∧ a.2 ≤ 5772}) : ∃ b : {a : (Int × Int) × Int // Cur l a.1 ∧ 0 ≤ a.2 ∧ a.2 ≤ 5772}, CntR u nl l a.1 b.1 := by
  obtain ⟨q1, x, hq1, x0, x1, W1⟩ := spec_l01Below_ok u nl C a.2.1 (n := 60) (by omega) (by omega)
  obtain ⟨q2, c, hq2, W2⟩ := spec_l01Once_ok u nl C hq1 (n := 4) (by omega) (by omega)
  cases c with
  | false => exact ⟨⟨(q2, x), hq2, by simp only; omega, by simp only; omega⟩, q1, x, q2, false, x0, x1, W1, W2, fun _ => rfl, fun h => by cases h⟩
  | true =>
    obtain ⟨q3, y, hq3, y0, y1, W3⟩ := spec_l01Below_ok u nl C hq2 (n := 50) (by omega) (by omega)
    exact ⟨⟨(q3, x * 97 + y), hq3, by simp only; omega, by simp only; omega⟩, q1, x, q2, true, x0, x1, W1, W2, fun h => (by cases h), fun _ => ⟨y, y0, y1, rfl, W3⟩⟩
theorem sumN_nn {xs : List Int} (h : ∀ x ∈ xs, 0 ≤ x) : ∀ {j : Nat}, j ≤ xs.length → 0 ≤ sumN xs j
  | 0, _ => by simp [sumN]
  | j + 1, hj => by
    have h1 := sumN_nn h (j := j) (by omega)
    have h2 := h _ (getD_mem (d := 0) (show j < xs.length by omega))
    simp only [sumN]; omega
theorem sumN_ge {xs : List Int} (h : ∀ x ∈ xs, 0 ≤ x) {i : Nat} : ∀ {j : Nat}, j ≤ xs.length → i < j → xs.getD i 0 ≤ sumN xs j
  | 0, _, hi => by omega
  | j + 1, hj, hi => by
    have h1 := sumN_nn h (j := j) (by omega)
    have h2 := h _ (getD_mem (d := 0) (show j < xs.length by omega))
    simp only [sumN]
    by_cases e : i = j
    · subst e; omega
    · have := sumN_ge h (i := i) (j := j) (by omega) (by omega); omega
theorem spec_l13Draw_ok (u : Value) (nl : Option Bool) {l : List Int} (C : CodeL l) {p : Int × Int} (h : Cur l p) : ∃ (q : Int × Int) (cs : List Int), Cur l q ∧ 1 ≤ cs.length ∧ cs.length ≤ 5 ∧ (∀ x ∈ cs, 0 ≤ x ∧ x ≤ 5772) ∧ 0 < sumL cs ∧ CallQ Try.prog 66 0 [.q (cur u nl l p) 0] (cur u nl l q) [(0, .own 1 none (ii cs))] := by
  obtain ⟨p1, n, hp1, n0, n5, W1⟩ := spec_l01Below_ok u nl C h (n := 5) (by omega) (by omega)
  obtain ⟨N, rfl⟩ : ∃ N : Nat, n = N := ⟨n.toNat, by omega⟩
  obtain ⟨F, F0, FltS⟩ := iter_ex (cnt_step u nl C) ⟨(p1, 0), hp1, by simp, by simp⟩
  obtain ⟨R, hR⟩ : ∃ R : Nat → List Int, R = fun k => (List.range k).map fun t => (F (t + 1)).1.2 := ⟨_, rfl⟩
  have Rs : ∀ k, R (k + 1) = R k ++ [(F (k + 1)).1.2] := fun k => by rw [hR]; simp [List.range_succ]
  have Rl : ∀ k, (R k).length = k := fun k => by rw [hR]; simp
  have Rb : ∀ k, ∀ x ∈ R k, 0 ≤ x ∧ x ≤ 5772 := fun k x hx => by
    rw [hR] at hx
    obtain ⟨t, _, rfl⟩ := List.mem_map.1 hx
    exact (F (t + 1)).2.2
  have s0 := sumN_nn (fun x hx => (Rb (N + 1) x hx).1) (Nat.le_refl _)
  refine ⟨(F (N + 1)).1.1, if sumL (R (N + 1)) = 0 then (R (N + 1)).set 0 7 else R (N + 1), (F (N + 1)).2.1, ?_, ?_, ?_, ?_, ?_⟩
  · split <;> simp [Rl]
  · split <;> simp [Rl] <;> omega
  · intro x hx
    split at hx
    · rcases List.mem_or_eq_of_mem_set hx with hx | rfl
      · exact Rb _ x hx
      · omega
    · exact Rb _ x hx
  · split
    · have hb : ∀ x ∈ (R (N + 1)).set 0 7, 0 ≤ x := fun x hx => by
        rcases List.mem_or_eq_of_mem_set hx with hx | rfl
        · exact (Rb _ x hx).1
        · omega
      have hl : ((R (N + 1)).set 0 7).length = N + 1 := by simp [Rl]
      have := sumN_ge hb (i := 0) (Nat.le_refl _) (by omega)
      have e : ((R (N + 1)).set 0 7).getD 0 0 = 7 := by simp [List.getD, Rl]
      unfold sumL; omega
    · unfold sumL at *; omega
  unfold cur at W1
  unfold CntR at FltS
  unfold cur at FltS ⊢
  obtain ⟨code0, hcd1, hcd2, hcd3⟩ := chk_spec_l13Draw; refine callQ_of Try.func66 hcd1 mo Try.call66 (r := 2) (i := 0) (by kernel_rfl) hcd2 hcd3 (by rw [Try.ntmps66]; simp) (by simp) (by decide) rfl rfl (by simp) ?_; unfold C_spec_l13Draw K_spec_l13Draw; simp (config := { maxSteps := 2000000 }) only [go_sem, Nat.reduceBEq, Nat.reduceAdd, Nat.reduceMul, Nat.reduceMod, Nat.reduceLT, Nat.reduceDiv, Nat.reduceSub, Nat.reduceLeDiff, Int.reduceToNat, Int.reduceLT, Int.reduceLE, reduceCtorEq, List.take_nil, List.drop_nil]
  refine ⟨_, _, W1, ?_⟩
  simp (config := { maxSteps := 2000000 }) only [go_sem, Nat.reduceBEq, Nat.reduceAdd, Nat.reduceMul, Nat.reduceMod, Nat.reduceLT, Nat.reduceDiv, Nat.reduceSub, Nat.reduceLeDiff, Int.reduceToNat, Int.reduceLT, Int.reduceLE, reduceCtorEq, List.take_nil, List.drop_nil, le_self]
  refine ⟨inR_of (by omega) (by omega), ?_⟩
  refine loopN (N + 1) (fun i => [(0, .bx 3), (3, .own 1 (some false) (ii (R i))), (4, .i ((N : Int) + 1 - i)), (1000, .t .arg (.xv u (.s nl (byt l)))), (2000, .i (F i).1.1.1), (3000, .i (F i).1.1.2)]) (fun _ => True) ⟨trivial, by simp (config := { maxSteps := 2000000 }) only [go_sem, Nat.reduceBEq, Nat.reduceAdd, Nat.reduceMul, Nat.reduceMod, Nat.reduceLT, Nat.reduceDiv, Nat.reduceSub, Nat.reduceLeDiff, Int.reduceToNat, Int.reduceLT, Int.reduceLE, reduceCtorEq, List.take_nil, List.drop_nil, le_self]; simp [hR, F0]; omega⟩ fun i hi _ => ?_
  simp (config := { maxSteps := 2000000 }) only [go_sem, Nat.reduceBEq, Nat.reduceAdd, Nat.reduceMul, Nat.reduceMod, Nat.reduceLT, Nat.reduceDiv, Nat.reduceSub, Nat.reduceLeDiff, Int.reduceToNat, Int.reduceLT, Int.reduceLE, reduceCtorEq, List.take_nil, List.drop_nil, le_self]
  refine ⟨fun hlt => ?_, fun hge => ?_⟩
  · obtain ⟨q1, x, q2, c, x0, x1, W2, W3, f1, f2⟩ := FltS i
    refine ⟨_, _, W2, ?_⟩
    simp (config := { maxSteps := 2000000 }) only [go_sem, Nat.reduceBEq, Nat.reduceAdd, Nat.reduceMul, Nat.reduceMod, Nat.reduceLT, Nat.reduceDiv, Nat.reduceSub, Nat.reduceLeDiff, Int.reduceToNat, Int.reduceLT, Int.reduceLE, reduceCtorEq, List.take_nil, List.drop_nil, le_self]
    cases c with
    | false =>
      have e := f1 rfl
      refine ⟨_, _, W3, ?_⟩
      simp (config := { maxSteps := 2000000 }) only [go_sem, Nat.reduceBEq, Nat.reduceAdd, Nat.reduceMul, Nat.reduceMod, Nat.reduceLT, Nat.reduceDiv, Nat.reduceSub, Nat.reduceLeDiff, Int.reduceToNat, Int.reduceLT, Int.reduceLE, reduceCtorEq, List.take_nil, List.drop_nil, le_self]
      exact ⟨by rw [Rl]; omega, inR_of (by omega) (by omega), by omega, by rw [Rs, e], by omega, by rw [e], by rw [e]⟩
    | true =>
      obtain ⟨y, y0, y1, e, W4⟩ := f2 rfl
      refine ⟨_, _, W3, ?_⟩
      simp (config := { maxSteps := 2000000 }) only [go_sem, Nat.reduceBEq, Nat.reduceAdd, Nat.reduceMul, Nat.reduceMod, Nat.reduceLT, Nat.reduceDiv, Nat.reduceSub, Nat.reduceLeDiff, Int.reduceToNat, Int.reduceLT, Int.reduceLE, reduceCtorEq, List.take_nil, List.drop_nil, le_self]
      refine ⟨inR_of (by omega) (by omega), ?_⟩
      refine ⟨_, _, W4, ?_⟩
      simp (config := { maxSteps := 2000000 }) only [go_sem, Nat.reduceBEq, Nat.reduceAdd, Nat.reduceMul, Nat.reduceMod, Nat.reduceLT, Nat.reduceDiv, Nat.reduceSub, Nat.reduceLeDiff, Int.reduceToNat, Int.reduceLT, Int.reduceLE, reduceCtorEq, List.take_nil, List.drop_nil, le_self]
      exact ⟨inR_of (by omega) (by omega), by rw [Rl]; omega, inR_of (by omega) (by omega), by omega, by rw [Rs, e], by omega⟩
  · have : i = N + 1 := by omega
    subst this
    refine ⟨_, spec_l13Sum_ok (R (N + 1)) (by rw [Rl]; omega) (fun x hx => by have := Rb _ x hx; omega), ?_⟩; simp (config := { maxSteps := 2000000 }) only [go_sem, Nat.reduceBEq, Nat.reduceAdd, Nat.reduceMul, Nat.reduceMod, Nat.reduceLT, Nat.reduceDiv, Nat.reduceSub, Nat.reduceLeDiff, Int.reduceToNat, Int.reduceLT, Int.reduceLE, reduceCtorEq, List.take_nil, List.drop_nil]
    refine ⟨fun hs => ?_, fun hs => ?_⟩
    · rw [if_pos hs]
      exact ⟨by rw [Rl]; omega, by rw [Rl]; omega, rfl⟩
    · rw [if_neg hs]
theorem spec_MakeCounts_ok (u : Value) (nl : Option Bool) {l : List Int} (C : CodeL l) : ∃ cs : List Int, 1 ≤ cs.length ∧ cs.length ≤ 5 ∧ (∀ x ∈ cs, 0 ≤ x ∧ x ≤ 5772) ∧ 0 < sumL cs ∧ CallOk Try.prog 8 [.xv u (.s nl (byt l)), .i 0] [(0, .own 1 none (ii cs))] := by
  obtain ⟨p, hp, W⟩ := spec_l32New_ok u nl C (n := 0) (by omega) (by omega)
  obtain ⟨q, cs, hq, l1, l2, hb, hs, W1⟩ := spec_l13Draw_ok u nl C hp
  refine ⟨cs, l1, l2, hb, hs, ?_⟩
  unfold cur at W W1
  obtain ⟨code0, hcd1, hcd2⟩ := chk_spec_MakeCounts; refine callOk_of Try.func8 hcd1 mo Try.call8 (rs := [4]) (by kernel_rfl) hcd2 (by rw [Try.ntmps8]; simp) (by simp) (by decide) ?_; unfold C_spec_MakeCounts K_spec_MakeCounts; simp (config := { maxSteps := 2000000 }) only [go_sem, Nat.reduceBEq, Nat.reduceAdd, Nat.reduceMul, Nat.reduceMod, Nat.reduceLT, Nat.reduceDiv, Nat.reduceSub, Nat.reduceLeDiff, Int.reduceToNat, Int.reduceLT, Int.reduceLE, reduceCtorEq, List.take_nil, List.drop_nil]
  refine ⟨_, W, ?_⟩
  simp (config := { maxSteps := 2000000 }) only [go_sem, Nat.reduceBEq, Nat.reduceAdd, Nat.reduceMul, Nat.reduceMod, Nat.reduceLT, Nat.reduceDiv, Nat.reduceSub, Nat.reduceLeDiff, Int.reduceToNat, Int.reduceLT, Int.reduceLE, reduceCtorEq, List.take_nil, List.drop_nil, le_self]
  refine ⟨_, _, W1, ?_⟩
  simp (config := { maxSteps := 2000000 }) only [go_sem, Nat.reduceBEq, Nat.reduceAdd, Nat.reduceMul, Nat.reduceMod, Nat.reduceLT, Nat.reduceDiv, Nat.reduceSub, Nat.reduceLeDiff, Int.reduceToNat, Int.reduceLT, Int.reduceLE, reduceCtorEq, List.take_nil, List.drop_nil, le_self]

end Go.Proofs.Ytfdoddeccnjcmaa
