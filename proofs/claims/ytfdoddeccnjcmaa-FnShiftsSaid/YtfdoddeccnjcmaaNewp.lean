/- Own work: contracts of functions that the claim reaches. No condition beyond those that each theorem names. -/
import Derived.Test.YtfdoddeccnjcmaaProg
import Derived.Test.YtfdoddeccnjcmaaShifts
import Derived.Test.YtfdoddeccnjcmaaSame
namespace Go.Proofs.Ytfdoddeccnjcmaa
open Go Go.Vc
set_option maxRecDepth 100000
set_option linter.unusedSimpArgs false
set_option linter.unusedVariables false
/- spec_ShiftsByNew: not in this cut -/
def K_impl_ShiftsByNew : List Nat := [0, 1, 2, 3, 4, 10, 11, 12, 13]
def C_impl_ShiftsByNew : C :=
  let ks := K_impl_ShiftsByNew
  (.seq
   (.rg 0 [(none, .v 10 .mv [.k (.b false)])])
   (.cl ks (.seq
   (.rg 0 [(none, .v 14 .mv [.s 0]), (none, .v 15 .mv [.s 1]), (none, .v 16 .mv [.s 2]), (none, .co 17 19 [.s 14, .s 15, .s 16]), (none, .v 18 .mv [.s 0]), (none, .v 19 .mv [.s 1]), (none, .v 20 .mv [.s 3]), (none, .v 21 .litF [.s 20]), (none, .v 22 .litF [.s 19, .s 21]), (none, .co 23 70 [.s 22]), (none, .v 24 .mv [.s 2]), (none, .v 25 .mv [.s 4]), (none, .v 26 (.bin .adw) [.s 24, .s 25]), (none, .co 27 19 [.s 18, .s 23, .s 26]), (none, .tk 11 17), (none, .tk 12 27)])
   (.cl ks (.seq
   (.seq
   (.rg 0 [(none, .v 28 .mv [.s 11]), (none, .v 29 .nil [.s 28]), (none, .v 30 .mv [.s 29]), (some (30, false), .v 31 .mv [.s 12]), (some (30, false), .v 32 .nil [.s 31]), (none, .v 33 .pick [.s 30, .k (.b true), .s 32])])
   (.cond (.s 33)
   (.seq
   (.rg 0 [(none, .v 10 .mv [.k (.b false)])])
   .ret)
   .skip))
   (.cl ks (.seq
   (.rg 0 [(none, .v 34 .mv [.s 1]), (none, .v 35 .len [.s 34]), (none, .tk 13 35)])
   (.cl ks (.seq
   (.rg 0 [(none, .v 36 .mv [.s 12]), (none, .v 37 .mv [.s 13]), (none, .v 38 .idx [.s 36, .s 37]), (none, .v 39 .ld [.s 38]), (none, .v 40 .mv [.s 4]), (none, .v 41 (.bin .eql) [.s 39, .s 40]), (none, .v 42 .mv [.s 41]), (some (42, true), .v 43 .mv [.s 11]), (some (42, true), .v 44 .mv [.s 12]), (some (42, true), .v 45 .mv [.s 13]), (some (42, true), .v 46 (.sub false true) [.s 44, .s 45]), (some (42, true), .co 47 71 [.s 43, .s 46]), (some (42, true), .v 48 .not [.s 47]), (none, .v 49 .pick [.s 42, .s 48, .k (.b false)]), (none, .tk 10 49)])
   .ret)))))))))

theorem chk_impl_ShiftsByNew : ∃ b, Try.f13.body = some b ∧ chk Try.prog Try.f13.ntmps true C_impl_ShiftsByNew b = true := ⟨_, rfl, by kernel_rfl⟩
def newB (m : Int) (cs : List Int) (n c q : Int) : Bool := giveB m cs n && decide (cs.length ≠ 6) && inI q 0 (100 - n) && giveB m (cs ++ [c]) (n + q) && decide ((giveF m (cs ++ [c]) (n + q)).getD cs.length 0 = q) && !decide (giveF m cs n = (giveF m (cs ++ [c]) (n + q)).take cs.length)
theorem ConcatL_ok {nl : Option Bool} (rs : List (Option Bool × List Int)) (hl : rs.length ≤ 1000) (hs : ((rs.map (·.2)).flatten).length ≤ 2000000) :
    CallOk Try.prog 70 [.s nl (nrows rs)] [(0, .own 1 none (ii (rs.map (·.2)).flatten))] := by
  obtain ⟨code0, hcd1, hcd2⟩ := chk_slices_Concat_Sint_int; refine callOk_of Try.func70 hcd1 mo Try.call70 (rs := [2]) (by kernel_rfl) hcd2 (by rw [Try.ntmps70]; simp) (by simp) (by decide) ?_; unfold C_slices_Concat_Sint_int K_slices_Concat_Sint_int; simp (config := { maxSteps := 2000000 }) only [go_sem, Nat.reduceBEq, Nat.reduceAdd, Nat.reduceMul, Nat.reduceMod, Nat.reduceLT, Nat.reduceDiv, Nat.reduceSub, Nat.reduceLeDiff, Int.reduceToNat, Int.reduceLT, Int.reduceLE, reduceCtorEq, List.take_nil, List.drop_nil]
  refine loopN rs.length (fun j => [(0, .t .arg (.s nl (nrows rs))), (2, .own 1 (some true) []), (3, .i ((catN rs j).length : Int)), (9, .t .arg (.s nl (nrows rs))), (10, .i rs.length), (11, .i (j : Nat))]) (fun j => True) ⟨trivial, by simp (config := { maxSteps := 2000000 }) only [go_sem, Nat.reduceBEq, Nat.reduceAdd, Nat.reduceMul, Nat.reduceMod, Nat.reduceLT, Nat.reduceDiv, Nat.reduceSub, Nat.reduceLeDiff, Int.reduceToNat, Int.reduceLT, Int.reduceLE, reduceCtorEq, List.take_nil, List.drop_nil]; simp [catN]⟩ fun j hj _ => ?_
  simp (config := { maxSteps := 2000000 }) only [go_sem, Nat.reduceBEq, Nat.reduceAdd, Nat.reduceMul, Nat.reduceMod, Nat.reduceLT, Nat.reduceDiv, Nat.reduceSub, Nat.reduceLeDiff, Int.reduceToNat, Int.reduceLT, Int.reduceLE, reduceCtorEq, List.take_nil, List.drop_nil]
  refine ⟨fun hlt => ?_, fun hge => ?_⟩
  · have hj' : j < rs.length := by omega
    have h1 := catN_le (rs := rs) (j := j)
    have h2 := catN_le (rs := rs) (j := j + 1)
    rw [catN_s hj', List.length_append] at h2
    refine ⟨by omega, hj', hj', inR_of (by omega) (by omega), fun h => by omega, fun _ => ⟨inR_of (by omega) (by omega), hj', by rw [catN_s hj', List.length_append]; simp, by simp⟩⟩
  · have : j = rs.length := by omega
    subst this
    have h1 := catN_le (rs := rs) (j := rs.length)
    refine ⟨_, GrowNil_ok _ (by omega) (by omega), ?_⟩; simp (config := { maxSteps := 2000000 }) only [go_sem, Nat.reduceBEq, Nat.reduceAdd, Nat.reduceMul, Nat.reduceMod, Nat.reduceLT, Nat.reduceDiv, Nat.reduceSub, Nat.reduceLeDiff, Int.reduceToNat, Int.reduceLT, Int.reduceLE, reduceCtorEq, List.take_nil, List.drop_nil]
    refine loopN rs.length (fun j => [(0, .t .arg (.s nl (nrows rs))), (2, .own 1 (some true) []), (3, .any), (6, .own 1 none (ii (catN rs j))), (25, .t .arg (.s nl (nrows rs))), (26, .i rs.length), (27, .i (j : Nat))]) (fun j => True) ⟨trivial, by simp (config := { maxSteps := 2000000 }) only [go_sem, Nat.reduceBEq, Nat.reduceAdd, Nat.reduceMul, Nat.reduceMod, Nat.reduceLT, Nat.reduceDiv, Nat.reduceSub, Nat.reduceLeDiff, Int.reduceToNat, Int.reduceLT, Int.reduceLE, reduceCtorEq, List.take_nil, List.drop_nil]; simp [catN, ii, T.leL]⟩ fun j hj _ => ?_
    simp (config := { maxSteps := 2000000 }) only [go_sem, Nat.reduceBEq, Nat.reduceAdd, Nat.reduceMul, Nat.reduceMod, Nat.reduceLT, Nat.reduceDiv, Nat.reduceSub, Nat.reduceLeDiff, Int.reduceToNat, Int.reduceLT, Int.reduceLE, reduceCtorEq, List.take_nil, List.drop_nil]
    refine ⟨fun hlt => ?_, fun hge => ?_⟩
    · have hj' : j < rs.length := by omega
      have h1 := catN_le (rs := rs) (j := j)
      have h2 := catN_le (rs := rs) (j := j + 1)
      rw [catN_s hj', List.length_append] at h2
      exact ⟨by omega, hj', hj', by omega, inR_of (by omega) (by omega), hj', (catN_s hj').symm, by simp⟩
    · have : j = rs.length := by omega
      subst this
      simp [catN]
theorem ConcatL2_ok {nl n1 n2 : Option Bool} (a b : List Int) (ha : a.length + b.length ≤ 2000000) : CallOk Try.prog 70 [.s nl [.s n1 (ii a), .s n2 (ii b)]] [(0, .own 1 none (ii (a ++ b)))] := by
  have := ConcatL_ok (nl := nl) [(n1, a), (n2, b)] (by simp) (by simpa using ha)
  simpa [nrows] using this
theorem impl_CountsOk_long {n1 : Option Bool} (cs : List Int) (hl : 6 < cs.length) : CallOk Try.prog 26 [.s n1 (ii cs)] [(0, .b false)] := by
  obtain ⟨code0, hcd1, hcd2⟩ := chk_impl_CountsOk; refine callOk_of Try.func26 hcd1 mo Try.call26 (rs := [2]) (by kernel_rfl) hcd2 (by rw [Try.ntmps26]; simp) (by simp) (by decide) ?_; unfold C_impl_CountsOk K_impl_CountsOk; simp (config := { maxSteps := 2000000 }) only [go_sem, Nat.reduceBEq, Nat.reduceAdd, Nat.reduceMul, Nat.reduceMod, Nat.reduceLT, Nat.reduceDiv, Nat.reduceSub, Nat.reduceLeDiff, Int.reduceToNat, Int.reduceLT, Int.reduceLE, reduceCtorEq, List.take_nil, List.drop_nil]
  refine ⟨_, within_ok _ _ _, ?_⟩; simp (config := { maxSteps := 2000000 }) only [go_sem, Nat.reduceBEq, Nat.reduceAdd, Nat.reduceMul, Nat.reduceMod, Nat.reduceLT, Nat.reduceDiv, Nat.reduceSub, Nat.reduceLeDiff, Int.reduceToNat, Int.reduceLT, Int.reduceLE, reduceCtorEq, List.take_nil, List.drop_nil]
  have : inI cs.length 1 6 = false := by simp [inI]; omega
  simp [this]
theorem impl_quotaAsked_long {n1 : Option Bool} (cs : List Int) (n : Int) (hl : 6 < cs.length) : CallOk Try.prog 75 [.s n1 (ii cs), .i n] [(0, .b false)] := by
  obtain ⟨code0, hcd1, hcd2⟩ := chk_impl_quotaAsked; refine callOk_of Try.func75 hcd1 mo Try.call75 (rs := [4]) (by kernel_rfl) hcd2 (by rw [Try.ntmps75]; simp) (by simp) (by decide) ?_; unfold C_impl_quotaAsked K_impl_quotaAsked; simp (config := { maxSteps := 2000000 }) only [go_sem, Nat.reduceBEq, Nat.reduceAdd, Nat.reduceMul, Nat.reduceMod, Nat.reduceLT, Nat.reduceDiv, Nat.reduceSub, Nat.reduceLeDiff, Int.reduceToNat, Int.reduceLT, Int.reduceLE, reduceCtorEq, List.take_nil, List.drop_nil]
  refine ⟨_, impl_CountsOk_long cs hl, ?_⟩; simp (config := { maxSteps := 2000000 }) only [go_sem, Nat.reduceBEq, Nat.reduceAdd, Nat.reduceMul, Nat.reduceMod, Nat.reduceLT, Nat.reduceDiv, Nat.reduceSub, Nat.reduceLeDiff, Int.reduceToNat, Int.reduceLT, Int.reduceLE, reduceCtorEq, List.take_nil, List.drop_nil]
theorem impl_GiveSeats_long {n1 : Option Bool} (m : Int) (cs : List Int) (n : Int) (hl : 6 < cs.length) : CallOk Try.prog 19 [.i m, .s n1 (ii cs), .i n] [(0, .own 1 (some true) [])] := by
  have hH : CallOk Try.prog 21 [.s n1 (ii cs), .i n] [(0, .own 1 (some true) [])] := by
    obtain ⟨code0, hcd1, hcd2⟩ := chk_impl_HamiltonSeats; refine callOk_of Try.func21 hcd1 mo Try.call21 (rs := [4]) (by kernel_rfl) hcd2 (by rw [Try.ntmps21]; simp) (by simp) (by decide) ?_; unfold C_impl_HamiltonSeats K_impl_HamiltonSeats; simp (config := { maxSteps := 2000000 }) only [go_sem, Nat.reduceBEq, Nat.reduceAdd, Nat.reduceMul, Nat.reduceMod, Nat.reduceLT, Nat.reduceDiv, Nat.reduceSub, Nat.reduceLeDiff, Int.reduceToNat, Int.reduceLT, Int.reduceLE, reduceCtorEq, List.take_nil, List.drop_nil]
    refine ⟨_, impl_quotaAsked_long cs n hl, ?_⟩; simp (config := { maxSteps := 2000000 }) only [go_sem, Nat.reduceBEq, Nat.reduceAdd, Nat.reduceMul, Nat.reduceMod, Nat.reduceLT, Nat.reduceDiv, Nat.reduceSub, Nat.reduceLeDiff, Int.reduceToNat, Int.reduceLT, Int.reduceLE, reduceCtorEq, List.take_nil, List.drop_nil]
  have hS : CallOk Try.prog 20 [.i m, .s n1 (ii cs), .i n] [(0, .own 1 (some true) [])] := by
    obtain ⟨code0, hcd1, hcd2⟩ := chk_impl_SeatsBy; refine callOk_of Try.func20 hcd1 mo Try.call20 (rs := [6]) (by kernel_rfl) hcd2 (by rw [Try.ntmps20]; simp) (by simp) (by decide) ?_; unfold C_impl_SeatsBy K_impl_SeatsBy; simp (config := { maxSteps := 2000000 }) only [go_sem, Nat.reduceBEq, Nat.reduceAdd, Nat.reduceMul, Nat.reduceMod, Nat.reduceLT, Nat.reduceDiv, Nat.reduceSub, Nat.reduceLeDiff, Int.reduceToNat, Int.reduceLT, Int.reduceLE, reduceCtorEq, List.take_nil, List.drop_nil]
    refine ⟨_, within_ok _ _ _, ?_⟩; simp (config := { maxSteps := 2000000 }) only [go_sem, Nat.reduceBEq, Nat.reduceAdd, Nat.reduceMul, Nat.reduceMod, Nat.reduceLT, Nat.reduceDiv, Nat.reduceSub, Nat.reduceLeDiff, Int.reduceToNat, Int.reduceLT, Int.reduceLE, reduceCtorEq, List.take_nil, List.drop_nil]
    refine ⟨fun h => ?_, fun h => ?_⟩
    · refine ⟨_, impl_quotaAsked_long cs n hl, ?_⟩; simp (config := { maxSteps := 2000000 }) only [go_sem, Nat.reduceBEq, Nat.reduceAdd, Nat.reduceMul, Nat.reduceMod, Nat.reduceLT, Nat.reduceDiv, Nat.reduceSub, Nat.reduceLeDiff, Int.reduceToNat, Int.reduceLT, Int.reduceLE, reduceCtorEq, List.take_nil, List.drop_nil]
    · trivial
  obtain ⟨code0, hcd1, hcd2⟩ := chk_impl_GiveSeats; refine callOk_of Try.func19 hcd1 mo Try.call19 (rs := [6]) (by kernel_rfl) hcd2 (by rw [Try.ntmps19]; simp) (by simp) (by decide) ?_; unfold C_impl_GiveSeats K_impl_GiveSeats; simp (config := { maxSteps := 2000000 }) only [go_sem, Nat.reduceBEq, Nat.reduceAdd, Nat.reduceMul, Nat.reduceMod, Nat.reduceLT, Nat.reduceDiv, Nat.reduceSub, Nat.reduceLeDiff, Int.reduceToNat, Int.reduceLT, Int.reduceLE, reduceCtorEq, List.take_nil, List.drop_nil]
  refine ⟨fun h => ?_, fun h => ?_⟩
  · refine ⟨_, hH, ?_⟩; simp (config := { maxSteps := 2000000 }) only [go_sem, Nat.reduceBEq, Nat.reduceAdd, Nat.reduceMul, Nat.reduceMod, Nat.reduceLT, Nat.reduceDiv, Nat.reduceSub, Nat.reduceLeDiff, Int.reduceToNat, Int.reduceLT, Int.reduceLE, reduceCtorEq, List.take_nil, List.drop_nil]
  · refine ⟨_, hS, ?_⟩; simp (config := { maxSteps := 2000000 }) only [go_sem, Nat.reduceBEq, Nat.reduceAdd, Nat.reduceMul, Nat.reduceMod, Nat.reduceLT, Nat.reduceDiv, Nat.reduceSub, Nat.reduceLeDiff, Int.reduceToNat, Int.reduceLT, Int.reduceLE, reduceCtorEq, List.take_nil, List.drop_nil]
theorem wrI_in {n : Int} (h : inR n) : wrI n = n := wrap_in h
theorem impl_ShiftsByNew_ok {n1 : Option Bool} (m : Int) (cs : List Int) (n c q : Int) (hl : cs.length ≤ 1048576) : CallOk Try.prog 13 [.i m, .s n1 (ii cs), .i n, .i c, .i q] [(0, .b (newB m cs n c q))] := by
  obtain ⟨code0, hcd1, hcd2⟩ := chk_impl_ShiftsByNew; refine callOk_of Try.func13 hcd1 mo Try.call13 (rs := [10]) (by kernel_rfl) hcd2 (by rw [Try.ntmps13]; simp) (by simp) (by decide) ?_; unfold C_impl_ShiftsByNew K_impl_ShiftsByNew; simp (config := { maxSteps := 2000000 }) only [go_sem, Nat.reduceBEq, Nat.reduceAdd, Nat.reduceMul, Nat.reduceMod, Nat.reduceLT, Nat.reduceDiv, Nat.reduceSub, Nat.reduceLeDiff, Int.reduceToNat, Int.reduceLT, Int.reduceLE, reduceCtorEq, List.take_nil, List.drop_nil]
  cases ha : giveB m cs n with
  | false =>
    refine ⟨_, impl_Give_no hl ha, ?_⟩; simp (config := { maxSteps := 2000000 }) only [go_sem, Nat.reduceBEq, Nat.reduceAdd, Nat.reduceMul, Nat.reduceMod, Nat.reduceLT, Nat.reduceDiv, Nat.reduceSub, Nat.reduceLeDiff, Int.reduceToNat, Int.reduceLT, Int.reduceLE, reduceCtorEq, List.take_nil, List.drop_nil]
    have hN : newB m cs n c q = false := by simp [newB, ha]
    rw [hN]
    refine ⟨_, ConcatL2_ok cs [c] (by simp; omega), ?_⟩; simp (config := { maxSteps := 2000000 }) only [go_sem, Nat.reduceBEq, Nat.reduceAdd, Nat.reduceMul, Nat.reduceMod, Nat.reduceLT, Nat.reduceDiv, Nat.reduceSub, Nat.reduceLeDiff, Int.reduceToNat, Int.reduceLT, Int.reduceLE, reduceCtorEq, List.take_nil, List.drop_nil]
    by_cases h6 : cs.length < 6
    · refine ⟨_, impl_GiveSeats_ok m (cs ++ [c]) (wrI (n + q)) (by simp; omega), ?_⟩; simp (config := { maxSteps := 2000000 }) only [go_sem, Nat.reduceBEq, Nat.reduceAdd, Nat.reduceMul, Nat.reduceMod, Nat.reduceLT, Nat.reduceDiv, Nat.reduceSub, Nat.reduceLeDiff, Int.reduceToNat, Int.reduceLT, Int.reduceLE, reduceCtorEq, List.take_nil, List.drop_nil]
    · refine ⟨_, impl_GiveSeats_long m (cs ++ [c]) (wrI (n + q)) (by simp; omega), ?_⟩; simp (config := { maxSteps := 2000000 }) only [go_sem, Nat.reduceBEq, Nat.reduceAdd, Nat.reduceMul, Nat.reduceMod, Nat.reduceLT, Nat.reduceDiv, Nat.reduceSub, Nat.reduceLeDiff, Int.reduceToNat, Int.reduceLT, Int.reduceLE, reduceCtorEq, List.take_nil, List.drop_nil]
  | true =>
    refine ⟨_, impl_Give_yes hl ha, ?_⟩; simp (config := { maxSteps := 2000000 }) only [go_sem, Nat.reduceBEq, Nat.reduceAdd, Nat.reduceMul, Nat.reduceMod, Nat.reduceLT, Nat.reduceDiv, Nat.reduceSub, Nat.reduceLeDiff, Int.reduceToNat, Int.reduceLT, Int.reduceLE, reduceCtorEq, List.take_nil, List.drop_nil]
    obtain ⟨A, l1, d1⟩ := give_of ha
    have z1 := A.l1
    have z6 := A.l6
    have z3 := A.n0
    have z4 := A.n1
    have hl2 : (cs ++ [c]).length ≤ 1048576 := by simp; omega
    refine ⟨_, Concat2_ok cs [c] (by simp; omega), ?_⟩; simp (config := { maxSteps := 2000000 }) only [go_sem, Nat.reduceBEq, Nat.reduceAdd, Nat.reduceMul, Nat.reduceMod, Nat.reduceLT, Nat.reduceDiv, Nat.reduceSub, Nat.reduceLeDiff, Int.reduceToNat, Int.reduceLT, Int.reduceLE, reduceCtorEq, List.take_nil, List.drop_nil]
    cases hb : giveB m (cs ++ [c]) (wrI (n + q)) with
    | false =>
      refine ⟨_, impl_Give_no hl2 hb, ?_⟩; simp (config := { maxSteps := 2000000 }) only [go_sem, Nat.reduceBEq, Nat.reduceAdd, Nat.reduceMul, Nat.reduceMod, Nat.reduceLT, Nat.reduceDiv, Nat.reduceSub, Nat.reduceLeDiff, Int.reduceToNat, Int.reduceLT, Int.reduceLE, reduceCtorEq, List.take_nil, List.drop_nil]
      have hN : newB m cs n c q = false := by
        cases hg : giveB m (cs ++ [c]) (n + q) with
        | false => simp [newB, hg]
        | true =>
          have G := (give_of hg).ask
          rw [wrI_in (inR_of (by have := G.n0; omega) (by have := G.n1; omega)), hg] at hb
          cases hb
      rw [hN]
      exact ⟨ii_ne (by omega), rfl⟩
    | true =>
      refine ⟨_, impl_Give_yes hl2 hb, ?_⟩; simp (config := { maxSteps := 2000000 }) only [go_sem, Nat.reduceBEq, Nat.reduceAdd, Nat.reduceMul, Nat.reduceMod, Nat.reduceLT, Nat.reduceDiv, Nat.reduceSub, Nat.reduceLeDiff, Int.reduceToNat, Int.reduceLT, Int.reduceLE, reduceCtorEq, List.take_nil, List.drop_nil]
      obtain ⟨B, l2, d2⟩ := give_of hb
      have l2' : (giveF m (cs ++ [c]) (wrI (n + q))).length = cs.length + 1 := by rw [l2]; simp
      have l6 : cs.length ≤ 5 := by have := B.l6; simp at this; omega
      have hd := d2 _ (getD_mem (d := 0) (show cs.length < (giveF m (cs ++ [c]) (wrI (n + q))).length by omega))
      have h1 : (giveF m (cs ++ [c]) (wrI (n + q))).getD cs.length 0 = q → newB m cs n c q = !decide (giveF m cs n = (giveF m (cs ++ [c]) (wrI (n + q))).take cs.length) := fun e => by
        have hq0 : 0 ≤ q := by omega
        have ew : wrI (n + q) = n + q := wrI_in (inR_of (by omega) (by omega))
        rw [ew] at e hb B ⊢
        have hB := B.n1
        have hi : inI q 0 (100 - n) = true := by unfold inI; rw [decide_eq_true hq0, decide_eq_true (show q ≤ 100 - n by omega)]; rfl
        simp only [newB, ha, hb, e, hi, show decide (cs.length ≠ 6) = true from decide_eq_true (by omega), Bool.true_and, decide_true]
      have h2 : ¬ (giveF m (cs ++ [c]) (wrI (n + q))).getD cs.length 0 = q → newB m cs n c q = false := fun e => by
        cases hg : giveB m (cs ++ [c]) (n + q) with
        | false => simp [newB, hg]
        | true =>
          have G := (give_of hg).ask
          rw [wrI_in (inR_of (by have := G.n0; omega) (by have := G.n1; omega))] at e
          simp only [newB, decide_eq_false e, Bool.and_false, Bool.false_and]
      rw [l2', List.drop_zero]
      refine ⟨ii_ne (by omega), ii_ne (by omega), by omega, by omega, by omega, fun e => ⟨by unfold subOk; omega, ?_⟩, fun e => (h2 e).symm⟩
      refine ⟨_, Equal_ok (giveF m cs n) ((giveF m (cs ++ [c]) (wrI (n + q))).take cs.length) (by omega) (by rw [List.length_take]; omega), ?_⟩; simp (config := { maxSteps := 2000000 }) only [go_sem, Nat.reduceBEq, Nat.reduceAdd, Nat.reduceMul, Nat.reduceMod, Nat.reduceLT, Nat.reduceDiv, Nat.reduceSub, Nat.reduceLeDiff, Int.reduceToNat, Int.reduceLT, Int.reduceLE, reduceCtorEq, List.take_nil, List.drop_nil]
      rw [h1 e, Bool.not_not]

end Go.Proofs.Ytfdoddeccnjcmaa
