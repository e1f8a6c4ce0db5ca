/- Own work: contracts of functions that the claim reaches. No condition beyond those that each theorem names. -/
import Derived.Test.YtfdoddeccnjcmaaProg
import Derived.Test.YtfdoddeccnjcmaaGoods
import Derived.Test.YtfdoddeccnjcmaaMarks
namespace Go.Proofs.Ytfdoddeccnjcmaa
open Go Go.Vc
set_option maxRecDepth 100000
set_option linter.unusedSimpArgs false
set_option linter.unusedVariables false
def K_impl_EnvyMatrix : List Nat := [0, 1, 4, 5, 6, 7, 16, 17, 21, 22]
def C_impl_EnvyMatrix : C :=
  let ks := K_impl_EnvyMatrix
  (.seq
   (.rg 0 [(none, .mkn 4)])
   (.cl ks (.seq
   (.seq
   (.rg 0 [(none, .v 8 .mv [.s 0]), (none, .v 9 .mv [.s 1]), (none, .co 10 50 [.s 8, .s 9]), (none, .v 11 .not [.s 10])])
   (.cond (.s 11)
   (.seq
   (.rg 0 [(none, .mkn 4)])
   .ret)
   .skip))
   (.cl ks (.seq
   (.rg 0 [(none, .v 12 .mv [.s 0]), (none, .v 13 .len [.s 12]), (none, .mk 14 (.s (some true) []) (.s 13) (.s 13)), (none, .tk 5 14)])
   (.cl ks (.seq
   (.seq
   (.rg 0 [(none, .v 15 .mv [.s 5]), (none, .v 16 .len [.s 15]), (none, .v 17 .mv [.k (.i 0)])])
   (.cl ks (.block 0
   (.loop
   (.seq
   (.rg 0 [(none, .v 18 (.bin .lss) [.s 17, .s 16])])
   (.seq
   (.cond (.s 18)
   .skip
   (.exit 0))
   (.cl ks (.seq
   (.block 1
   (.seq
   (.rg 0 [(none, .v 19 .mv [.s 17]), (none, .tk 6 19)])
   (.cl ks (.seq
   (.rg 0 [(none, .v 20 .mv [.s 0]), (none, .v 21 .len [.s 20]), (none, .v 22 .mv [.k (.i 0)])])
   (.cl ks (.block 2
   (.loop
   (.seq
   (.rg 0 [(none, .v 23 (.bin .lss) [.s 22, .s 21])])
   (.seq
   (.cond (.s 23)
   .skip
   (.exit 2))
   (.cl ks (.seq
   (.block 3
   (.seq
   (.rg 0 [(none, .v 24 .mv [.s 22]), (none, .tk 7 24)])
   (.cl ks (.rgF 19 19 [(0, 25, 5, none), (1, 26, 6, none)] [(none, .v 25 .mv [.s 5]), (none, .v 26 .mv [.s 6]), (none, .v 27 .mv [.s 5]), (none, .v 28 .mv [.s 6]), (none, .v 29 .idx [.s 27, .s 28]), (none, .v 30 .lde [.s 29]), (none, .v 31 .mv [.s 0]), (none, .v 32 .mv [.s 1]), (none, .v 33 .mv [.s 6]), (none, .v 34 .mv [.s 7]), (none, .v 35 (.call 113) [.s 31, .s 32, .s 33, .s 34]), (none, .v 36 .mv [.s 0]), (none, .v 37 .mv [.s 1]), (none, .v 38 .mv [.s 6]), (none, .v 39 .mv [.s 6]), (none, .v 40 (.call 113) [.s 36, .s 37, .s 38, .s 39]), (none, .v 41 (.bin .sub) [.s 35, .s 40]), (none, .v 42 .mx [.k (.i 0), .s 41]), (none, .v 43 .litF [.s 42]), (none, .tkr 30), (none, .app 44 (.s 30) (.s 43) 0), (none, .v 45 .idx [.s 25, .s 26]), (none, .st (.s 45) (.s 44))]))))
   (.cl ks (.rg 0 [(none, .v 46 (.bin .add) [.s 22, .k (.i 1)]), (none, .v 22 .mv [.s 46])])))))))))))))
   (.cl ks (.rg 0 [(none, .v 47 (.bin .add) [.s 17, .k (.i 1)]), (none, .v 17 .mv [.s 47])]))))))))))
   (.cl ks (.seq
   (.rg 0 [(none, .v 48 .mv [.s 5]), (none, .tk 4 48)])
   .ret)))))))))

theorem chk_impl_EnvyMatrix : ∃ b, Try.f53.body = some b ∧ chk Try.prog Try.f53.ntmps true C_impl_EnvyMatrix b = true := ⟨_, rfl, by kernel_rfl⟩
/- spec_EnvyMatrix: not in this cut -/
def envR (vs : List (List Int)) (l : List Int) (i k : Nat) : List Int := (List.range k).map fun j => envy vs l i j
def envM (vs : List (List Int)) (l : List Int) (n : Nat) : List (List Int) := (List.range n).map fun i => envR vs l i vs.length
def envF (vs : List (List Int)) (l : List Int) : List (List Int) := if allocB vs l = true then envM vs l vs.length else []
theorem envR_s {vs : List (List Int)} {l : List Int} {i k : Nat} : envR vs l i (k + 1) = envR vs l i k ++ [envy vs l i k] := by simp [envR, List.range_succ]
theorem envM_s {vs : List (List Int)} {l : List Int} {n : Nat} : envM vs l (n + 1) = envM vs l n ++ [envR vs l n vs.length] := by simp [envM, List.range_succ]
theorem envR_len {vs : List (List Int)} {l : List Int} {i k : Nat} : (envR vs l i k).length = k := by simp [envR]
theorem envM_len {vs : List (List Int)} {l : List Int} {n : Nat} : (envM vs l n).length = n := by simp [envM]
/-- The rows of the first i people, k envies of person i's, and what is empty yet. -/
def envP (vs : List (List Int)) (l : List Int) (i k : Nat) : List (List Int) := envM vs l i ++ envR vs l i k :: List.replicate (vs.length - (i + 1)) []
theorem impl_EnvyMatrix_ok {n1 n2 : Option Bool} (vs : List (List Int)) (l : List Int) (hl : vs.length ≤ 1048576) (hr : ∀ r ∈ vs, r.length ≤ 1048576) (hll : l.length ≤ 1048576) :
    CallOk Try.prog 53 [.s n1 (rr vs), .s n2 (ii l)] [(0, .own 1 none (rr (envF vs l)))] := by
  obtain ⟨code0, hcd1, hcd2⟩ := chk_impl_EnvyMatrix; refine callOk_of Try.func53 hcd1 mo Try.call53 (rs := [4]) (by kernel_rfl) hcd2 (by rw [Try.ntmps53]; simp) (by simp) (by decide) ?_; unfold C_impl_EnvyMatrix K_impl_EnvyMatrix; simp (config := { maxSteps := 2000000 }) only [go_sem, Nat.reduceBEq, Nat.reduceAdd, Nat.reduceMul, Nat.reduceMod, Nat.reduceLT, Nat.reduceDiv, Nat.reduceSub, Nat.reduceLeDiff, Int.reduceToNat, Int.reduceLT, Int.reduceLE, reduceCtorEq, List.take_nil, List.drop_nil]
  refine ⟨_, impl_AllocationOk_ok vs l hl hr hll, ?_⟩; simp (config := { maxSteps := 2000000 }) only [go_sem, Nat.reduceBEq, Nat.reduceAdd, Nat.reduceMul, Nat.reduceMod, Nat.reduceLT, Nat.reduceDiv, Nat.reduceSub, Nat.reduceLeDiff, Int.reduceToNat, Int.reduceLT, Int.reduceLE, reduceCtorEq, List.take_nil, List.drop_nil]
  refine ⟨fun h => by simp [envF, h], fun h => ?_⟩
  have V := alloc_vals h
  have := V.n3
  have hF : envF vs l = envM vs l vs.length := if_pos h
  rw [hF]
  refine ⟨by omega, by omega, ?_⟩
  refine loopN vs.length (fun j => [(0, .t .arg (.s n1 (rr vs))), (1, .t .arg (.s n2 (ii l))), (5, .own 1 none (rr (envM vs l j ++ List.replicate (vs.length - j) []))), (16, .i vs.length), (17, .i (j : Nat))]) (fun _ => True) ⟨trivial, by simp (config := { maxSteps := 2000000 }) only [go_sem, Nat.reduceBEq, Nat.reduceAdd, Nat.reduceMul, Nat.reduceMod, Nat.reduceLT, Nat.reduceDiv, Nat.reduceSub, Nat.reduceLeDiff, Int.reduceToNat, Int.reduceLT, Int.reduceLE, reduceCtorEq, List.take_nil, List.drop_nil]; simp [envM]⟩ fun j hj _ => ?_
  have hlen := envM_len (vs := vs) (l := l) (n := j)
  simp (config := { maxSteps := 2000000 }) only [go_sem, Nat.reduceBEq, Nat.reduceAdd, Nat.reduceMul, Nat.reduceMod, Nat.reduceLT, Nat.reduceDiv, Nat.reduceSub, Nat.reduceLeDiff, Int.reduceToNat, Int.reduceLT, Int.reduceLE, reduceCtorEq, List.take_nil, List.drop_nil]
  refine ⟨fun hlt => ?_, fun hge => ?_⟩
  · have e0 : envM vs l j ++ List.replicate (vs.length - j) [] = envP vs l j 0 := by
      rw [show vs.length - j = (vs.length - (j + 1)) + 1 by omega, List.replicate_succ]; simp [envP, envR]
    rw [e0]
    refine loopN vs.length (fun k => [(0, .t .arg (.s n1 (rr vs))), (1, .t .arg (.s n2 (ii l))), (5, .own 1 none (rr (envP vs l j k))), (16, .i vs.length), (17, .i (j : Nat)), (6, .i (j : Nat)), (21, .i vs.length), (22, .i (k : Nat))]) (fun _ => True) ⟨trivial, by simp (config := { maxSteps := 2000000 }) only [go_sem, Nat.reduceBEq, Nat.reduceAdd, Nat.reduceMul, Nat.reduceMod, Nat.reduceLT, Nat.reduceDiv, Nat.reduceSub, Nat.reduceLeDiff, Int.reduceToNat, Int.reduceLT, Int.reduceLE, reduceCtorEq, List.take_nil, List.drop_nil]; simp⟩ fun k hk _ => ?_
    have hlk := envR_len (vs := vs) (l := l) (i := j) (k := k)
    have hlp : (envP vs l j k).length = vs.length := by simp [envP, hlen]; omega
    have hgp : (envP vs l j k).getD j [] = envR vs l j k := by simp [envP, List.getD, hlen]
    simp (config := { maxSteps := 2000000 }) only [go_sem, Nat.reduceBEq, Nat.reduceAdd, Nat.reduceMul, Nat.reduceMod, Nat.reduceLT, Nat.reduceDiv, Nat.reduceSub, Nat.reduceLeDiff, Int.reduceToNat, Int.reduceLT, Int.reduceLE, reduceCtorEq, List.take_nil, List.drop_nil]
    refine ⟨fun hlt' => ?_, fun hge' => ?_⟩
    · have hg : (rr (envP vs l j k)).getD j .any = .s none (ii (envR vs l j k)) := by rw [rr_get (by omega), hgp]
      have w1 := wo_bd (k := (k : Int)) V (show j < vs.length by omega)
      have w2 := wo_bd (k := (j : Int)) V (show j < vs.length by omega)
      refine ⟨by omega, by omega, by omega, ?_⟩
      refine ⟨_, impl_worth_ok vs l V j k (by omega), ?_⟩; simp (config := { maxSteps := 2000000 }) only [go_sem, Nat.reduceBEq, Nat.reduceAdd, Nat.reduceMul, Nat.reduceMod, Nat.reduceLT, Nat.reduceDiv, Nat.reduceSub, Nat.reduceLeDiff, Int.reduceToNat, Int.reduceLT, Int.reduceLE, reduceCtorEq, List.take_nil, List.drop_nil]
      refine ⟨_, impl_worth_ok vs l V j j (by omega), ?_⟩; simp (config := { maxSteps := 2000000 }) only [go_sem, Nat.reduceBEq, Nat.reduceAdd, Nat.reduceMul, Nat.reduceMod, Nat.reduceLT, Nat.reduceDiv, Nat.reduceSub, Nat.reduceLeDiff, Int.reduceToNat, Int.reduceLT, Int.reduceLE, reduceCtorEq, List.take_nil, List.drop_nil]
      refine ⟨inR_of (by omega) (by omega), ?_⟩
      rw [hg]
      simp (config := { maxSteps := 2000000 }) only [go_sem, Nat.reduceBEq, Nat.reduceAdd, Nat.reduceMul, Nat.reduceMod, Nat.reduceLT, Nat.reduceDiv, Nat.reduceSub, Nat.reduceLeDiff, Int.reduceToNat, Int.reduceLT, Int.reduceLE, reduceCtorEq, List.take_nil, List.drop_nil]
      rw [List.set_set, List.length_set, rr_len, leL_rr_set1]
      refine ⟨by omega, by omega, by omega, by omega, by omega, inR_of (by omega) (by omega), by omega, ?_, by simp⟩
      have e1 : max 0 (wo vs l j k - wo vs l j j) = envy vs l j k := rfl
      rw [e1, ← envR_s]
      unfold envP
      rw [List.set_append_right _ _ (by omega), hlen, Nat.sub_self, List.set_cons_zero]
    · have : k = vs.length := by omega
      subst this
      refine ⟨inR_of (by omega) (by omega), by omega, ?_, by simp⟩
      simp [envP, envM_s]
  · have : j = vs.length := by omega
    subst this
    simp

end Go.Proofs.Ytfdoddeccnjcmaa
