/- Own work: contracts of functions that the claim reaches. No condition beyond those that each theorem names. -/
import Derived.Test.YtfdoddeccnjcmaaProg
import Derived.Test.YtfdoddeccnjcmaaLaws
namespace Go.Proofs.Ytfdoddeccnjcmaa
open Go Go.Vc
set_option maxRecDepth 100000
set_option linter.unusedSimpArgs false
set_option linter.unusedVariables false
/-! The laws' own small functions. -/
def K_laws_count : List Nat := [0, 1, 4, 5, 7, 8, 9, 10]
def C_laws_count : C :=
  let ks := K_laws_count
  (.seq
   (.rg 0 [(none, .v 4 .mv [.k (.i 0)])])
   (.cl ks (.seq
   (.rg 0 [(none, .v 5 .mv [.k (.i 0)])])
   (.cl ks (.seq
   (.seq
   (.rg 0 [(none, .v 8 .mv [.s 0]), (none, .v 9 .len [.s 8]), (none, .v 10 .mv [.k (.i 0)])])
   (.cl ks (.block 0
   (.loop
   (.seq
   (.rg 0 [(none, .v 11 (.bin .lss) [.s 10, .s 9])])
   (.seq
   (.cond (.s 11)
   .skip
   (.exit 0))
   (.cl ks (.seq
   (.block 1
   (.seq
   (.rg 0 [(none, .v 12 .idx [.s 8, .s 10]), (none, .v 13 .ld [.s 12]), (none, .tk 7 13)])
   (.cl ks (.seq
   (.rg 0 [(none, .v 14 .mv [.s 7]), (none, .v 15 .mv [.s 1]), (none, .v 16 (.bin .eql) [.s 14, .s 15])])
   (.cond (.s 16)
   (.rg 0 [(none, .v 17 .mv [.s 5]), (none, .v 18 (.bin .add) [.s 17, .k (.i 1)]), (none, .tk 5 18)])
   .skip)))))
   (.cl ks (.rg 0 [(none, .v 19 (.bin .add) [.s 10, .k (.i 1)]), (none, .v 10 .mv [.s 19])]))))))))))
   (.cl ks (.seq
   (.rg 0 [(none, .v 20 .mv [.s 5]), (none, .tk 4 20)])
   .ret)))))))

theorem chk_laws_count : ∃ b, Try.f117.body = some b ∧ chk Try.prog Try.f117.ntmps true C_laws_count b = true := ⟨_, rfl, by kernel_rfl⟩
def K_laws_has : List Nat := [0, 1, 4]
def C_laws_has : C :=
  let ks := K_laws_has
  (.seq
   (.rg 0 [(none, .v 4 .mv [.k (.b false)])])
   (.cl ks (.seq
   (.rg 0 [(none, .v 5 .mv [.s 0]), (none, .v 6 .mv [.s 1]), (none, .co 7 117 [.s 5, .s 6]), (none, .v 8 (.bin .gtr) [.s 7, .k (.i 0)]), (none, .tk 4 8)])
   .ret)))

theorem chk_laws_has : ∃ b, Try.f52.body = some b ∧ chk Try.prog Try.f52.ntmps true C_laws_has b = true := ⟨_, rfl, by kernel_rfl⟩
theorem laws_count_no {nl : Option Bool} (l : List Int) (n : Int) (hl : l.length ≤ 1048576) (h : ¬ n ∈ l) : CallOk Try.prog 117 [.s nl (ii l), .i n] [(0, .i 0)] := by
  obtain ⟨code0, hcd1, hcd2⟩ := chk_laws_count; refine callOk_of Try.func117 hcd1 mo Try.call117 (rs := [4]) (by kernel_rfl) hcd2 (by rw [Try.ntmps117]; simp) (by simp) (by decide) ?_; unfold C_laws_count K_laws_count; simp (config := { maxSteps := 2000000 }) only [go_sem, Nat.reduceBEq, Nat.reduceAdd, Nat.reduceMul, Nat.reduceMod, Nat.reduceLT, Nat.reduceDiv, Nat.reduceSub, Nat.reduceLeDiff, Int.reduceToNat, Int.reduceLT, Int.reduceLE, reduceCtorEq, List.take_nil, List.drop_nil]
  refine loopN l.length (fun j => [(0, .t .arg (.s nl (ii l))), (1, .i n), (5, .i 0), (8, .t .arg (.s nl (ii l))), (9, .i l.length), (10, .i (j : Nat))]) (fun _ => True) ⟨trivial, by simp (config := { maxSteps := 2000000 }) only [go_sem, Nat.reduceBEq, Nat.reduceAdd, Nat.reduceMul, Nat.reduceMod, Nat.reduceLT, Nat.reduceDiv, Nat.reduceSub, Nat.reduceLeDiff, Int.reduceToNat, Int.reduceLT, Int.reduceLE, reduceCtorEq, List.take_nil, List.drop_nil]; simp⟩ fun j hj _ => ?_
  simp (config := { maxSteps := 2000000 }) only [go_sem, Nat.reduceBEq, Nat.reduceAdd, Nat.reduceMul, Nat.reduceMod, Nat.reduceLT, Nat.reduceDiv, Nat.reduceSub, Nat.reduceLeDiff, Int.reduceToNat, Int.reduceLT, Int.reduceLE, reduceCtorEq, List.take_nil, List.drop_nil]
  refine ⟨fun hlt => ?_, fun hge => ?_⟩
  · have hj' : j < l.length := by omega
    have hne : ¬ l.getD j 0 = n := fun e => h (e ▸ getD_mem hj')
    refine ⟨by omega, hj', hj', fun e => absurd e hne, fun _ => ⟨inR_of (by omega) (by omega), hj', by simp⟩⟩
  · trivial
theorem laws_has_no {nl : Option Bool} (l : List Int) (n : Int) (hl : l.length ≤ 1048576) (h : ¬ n ∈ l) : CallOk Try.prog 52 [.s nl (ii l), .i n] [(0, .b false)] := by
  obtain ⟨code0, hcd1, hcd2⟩ := chk_laws_has; refine callOk_of Try.func52 hcd1 mo Try.call52 (rs := [4]) (by kernel_rfl) hcd2 (by rw [Try.ntmps52]; simp) (by simp) (by decide) ?_; unfold C_laws_has K_laws_has; simp (config := { maxSteps := 2000000 }) only [go_sem, Nat.reduceBEq, Nat.reduceAdd, Nat.reduceMul, Nat.reduceMod, Nat.reduceLT, Nat.reduceDiv, Nat.reduceSub, Nat.reduceLeDiff, Int.reduceToNat, Int.reduceLT, Int.reduceLE, reduceCtorEq, List.take_nil, List.drop_nil]
  refine ⟨_, laws_count_no l n hl h, ?_⟩; simp (config := { maxSteps := 2000000 }) only [go_sem, Nat.reduceBEq, Nat.reduceAdd, Nat.reduceMul, Nat.reduceMod, Nat.reduceLT, Nat.reduceDiv, Nat.reduceSub, Nat.reduceLeDiff, Int.reduceToNat, Int.reduceLT, Int.reduceLE, reduceCtorEq, List.take_nil, List.drop_nil]

end Go.Proofs.Ytfdoddeccnjcmaa
