/- Own work: contracts of functions that the claim reaches. No condition beyond those that each theorem names. -/
import Derived.Test.YtfdoddeccnjcmaaProg
import Derived.Test.YtfdoddeccnjcmaaShifts
namespace Go.Proofs.Ytfdoddeccnjcmaa
open Go Go.Vc
set_option maxRecDepth 100000
set_option linter.unusedSimpArgs false
set_option linter.unusedVariables false
/- spec_SeatTable: not in this cut -/
def K_impl_SeatTable : List Nat := [0, 1, 2, 6, 7, 8, 19, 20]
def C_impl_SeatTable : C :=
  let ks := K_impl_SeatTable
  (.seq
   (.rg 0 [(none, .mkn 6)])
   (.cl ks (.seq
   (.seq
   (.rg 0 [(none, .v 9 .mv [.s 2]), (none, .co 10 69 [.s 9, .k (.i 0), .k (.i 30)]), (none, .v 11 .not [.s 10]), (none, .v 12 .mv [.s 11]), (some (12, false), .v 13 .mv [.s 0]), (some (12, false), .v 14 .mv [.s 1]), (some (12, false), .co 15 19 [.s 13, .s 14, .k (.i 0)]), (some (12, false), .v 16 .nil [.s 15]), (none, .v 17 .pick [.s 12, .k (.b true), .s 16])])
   (.cond (.s 17)
   (.seq
   (.rg 0 [(none, .mkn 6)])
   .ret)
   .skip))
   (.cl ks (.seq
   (.rg 0 [(none, .mkn 7)])
   (.cl ks (.seq
   (.seq
   (.rg 0 [(none, .v 18 .mv [.s 2]), (none, .v 19 (.bin .add) [.s 18, .k (.i 1)]), (none, .v 20 .mv [.k (.i 0)])])
   (.cl ks (.block 0
   (.loop
   (.seq
   (.rg 0 [(none, .v 21 (.bin .lss) [.s 20, .s 19])])
   (.seq
   (.cond (.s 21)
   .skip
   (.exit 0))
   (.cl ks (.seq
   (.block 1
   (.seq
   (.rg 0 [(none, .v 22 .mv [.s 20]), (none, .tk 8 22)])
   (.cl ks (.rg 0 [(none, .v 23 .mv [.s 7]), (none, .v 24 .mv [.s 0]), (none, .v 25 .mv [.s 1]), (none, .v 26 .mv [.s 8]), (none, .co 27 19 [.s 24, .s 25, .s 26]), (none, .lit 28 [.s 27] 1), (none, .app 29 (.s 23) (.s 28) 1), (none, .tk 7 29)]))))
   (.cl ks (.rg 0 [(none, .v 30 (.bin .add) [.s 20, .k (.i 1)]), (none, .v 20 .mv [.s 30])]))))))))))
   (.cl ks (.seq
   (.rg 0 [(none, .v 31 .mv [.s 7]), (none, .tk 6 31)])
   .ret)))))))))

theorem chk_impl_SeatTable : ∃ b, Try.f16.body = some b ∧ chk Try.prog Try.f16.ntmps true C_impl_SeatTable b = true := ⟨_, rfl, by kernel_rfl⟩
theorem giveB_mono {m : Int} {cs : List Int} {n : Int} (h0 : 0 ≤ n) (h1 : n ≤ 100) : giveB m cs n = giveB m cs 0 := by
  have e : askB cs n = askB cs 0 := by
    unfold askB inI
    rw [decide_eq_true h0, decide_eq_true h1]; rfl
  unfold giveB okB
  rw [e]
def tabL (m : Int) (cs : List Int) (k : Nat) : List (List Int) := (List.range k).map fun j => giveF m cs (j : Nat)
theorem tabL_s {m : Int} {cs : List Int} {k : Nat} : tabL m cs (k + 1) = tabL m cs k ++ [giveF m cs k] := by simp [tabL, List.range_succ]
theorem tabL_len {m : Int} {cs : List Int} {k : Nat} : (tabL m cs k).length = k := by simp [tabL]
def tabF (m : Int) (cs : List Int) (t : Int) : List (List Int) := if inI t 0 30 = true ∧ giveB m cs 0 = true then tabL m cs (t.toNat + 1) else []
theorem impl_SeatTable_ok {n1 : Option Bool} (m : Int) (cs : List Int) (t : Int) (hl : cs.length ≤ 1048576) : CallOk Try.prog 16 [.i m, .s n1 (ii cs), .i t] [(0, .own 1 none (rr (tabF m cs t)))] := by
  obtain ⟨code0, hcd1, hcd2⟩ := chk_impl_SeatTable; refine callOk_of Try.func16 hcd1 mo Try.call16 (rs := [6]) (by kernel_rfl) hcd2 (by rw [Try.ntmps16]; simp) (by simp) (by decide) ?_; unfold C_impl_SeatTable K_impl_SeatTable; simp (config := { maxSteps := 2000000 }) only [go_sem, Nat.reduceBEq, Nat.reduceAdd, Nat.reduceMul, Nat.reduceMod, Nat.reduceLT, Nat.reduceDiv, Nat.reduceSub, Nat.reduceLeDiff, Int.reduceToNat, Int.reduceLT, Int.reduceLE, reduceCtorEq, List.take_nil, List.drop_nil]
  refine ⟨_, within_ok _ _ _, ?_⟩; simp (config := { maxSteps := 2000000 }) only [go_sem, Nat.reduceBEq, Nat.reduceAdd, Nat.reduceMul, Nat.reduceMod, Nat.reduceLT, Nat.reduceDiv, Nat.reduceSub, Nat.reduceLeDiff, Int.reduceToNat, Int.reduceLT, Int.reduceLE, reduceCtorEq, List.take_nil, List.drop_nil]
  refine ⟨fun h => ?_, fun h => by simp [tabF, h]⟩
  have ht : 0 ≤ t ∧ t ≤ 30 := by simpa [inI] using h
  cases ha : giveB m cs 0 with
  | false =>
    refine ⟨_, impl_Give_no hl ha, ?_⟩; simp (config := { maxSteps := 2000000 }) only [go_sem, Nat.reduceBEq, Nat.reduceAdd, Nat.reduceMul, Nat.reduceMod, Nat.reduceLT, Nat.reduceDiv, Nat.reduceSub, Nat.reduceLeDiff, Int.reduceToNat, Int.reduceLT, Int.reduceLE, reduceCtorEq, List.take_nil, List.drop_nil]
    simp [tabF, ha]
  | true =>
    refine ⟨_, impl_Give_yes hl ha, ?_⟩; simp (config := { maxSteps := 2000000 }) only [go_sem, Nat.reduceBEq, Nat.reduceAdd, Nat.reduceMul, Nat.reduceMod, Nat.reduceLT, Nat.reduceDiv, Nat.reduceSub, Nat.reduceLeDiff, Int.reduceToNat, Int.reduceLT, Int.reduceLE, reduceCtorEq, List.take_nil, List.drop_nil]
    obtain ⟨A, l1, d1⟩ := give_of ha
    have z1 := A.l1
    have z6 := A.l6
    have hF : tabF m cs t = tabL m cs (t.toNat + 1) := if_pos ⟨h, ha⟩
    rw [hF]
    refine ⟨ii_ne (by omega), inR_of (by omega) (by omega), ?_⟩
    refine loopN (t.toNat + 1) (fun j => [(0, .i m), (1, .t .arg (.s n1 (ii cs))), (2, .i t), (7, .own 1 none (rr (tabL m cs j))), (19, .i (t + 1)), (20, .i (j : Nat))]) (fun _ => True) ⟨trivial, by simp (config := { maxSteps := 2000000 }) only [go_sem, Nat.reduceBEq, Nat.reduceAdd, Nat.reduceMul, Nat.reduceMod, Nat.reduceLT, Nat.reduceDiv, Nat.reduceSub, Nat.reduceLeDiff, Int.reduceToNat, Int.reduceLT, Int.reduceLE, reduceCtorEq, List.take_nil, List.drop_nil]; simp [tabL]⟩ fun j hj _ => ?_
    simp (config := { maxSteps := 2000000 }) only [go_sem, Nat.reduceBEq, Nat.reduceAdd, Nat.reduceMul, Nat.reduceMod, Nat.reduceLT, Nat.reduceDiv, Nat.reduceSub, Nat.reduceLeDiff, Int.reduceToNat, Int.reduceLT, Int.reduceLE, reduceCtorEq, List.take_nil, List.drop_nil]
    refine ⟨fun hlt => ?_, fun hge => ?_⟩
    · have hj' : j < t.toNat + 1 := by omega
      refine ⟨_, impl_Give_yes hl (by rw [giveB_mono (by omega) (by omega)]; exact ha), ?_⟩; simp (config := { maxSteps := 2000000 }) only [go_sem, Nat.reduceBEq, Nat.reduceAdd, Nat.reduceMul, Nat.reduceMod, Nat.reduceLT, Nat.reduceDiv, Nat.reduceSub, Nat.reduceLeDiff, Int.reduceToNat, Int.reduceLT, Int.reduceLE, reduceCtorEq, List.take_nil, List.drop_nil]
      exact ⟨by simp, by rw [tabL_len]; omega, inR_of (by omega) (by omega), hj', tabL_s.symm, by omega⟩
    · have : j = t.toNat + 1 := by omega
      subst this
      rfl

end Go.Proofs.Ytfdoddeccnjcmaa
