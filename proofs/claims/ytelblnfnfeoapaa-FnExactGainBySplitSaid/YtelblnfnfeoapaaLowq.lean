/- Own work: contracts of functions that the claim reaches. No condition beyond those that each theorem names. -/
import Derived.Test.YtelblnfnfeoapaaProg
import Derived.Test.YtelblnfnfeoapaaQuotas
namespace Go.Proofs.Ytelblnfnfeoapaa
open Go Go.Vc
set_option maxRecDepth 100000
set_option linter.unusedSimpArgs false
set_option linter.unusedVariables false
def K_impl_quotas : List Nat := [0, 1, 2, 6, 7, 9, 14, 15, 16]
def C_impl_quotas : C :=
  let ks := K_impl_quotas
  (.seq
    (.rg 0 [(none, .mkn 6)])
    (.cl ks (.seq
      (.seq
        (.rg 0 [(none, .v 10 .mv [.s 0]), (none, .v 11 .mv [.s 1]), (none, .co 12 87 [.s 10, .s 11]), (none, .v 13 .not [.s 12])])
        (.cond (.s 13)
          (.seq
            (.rg 0 [(none, .mkn 6)])
            .ret)
          .skip))
      (.cl ks (.seq
        (.rg 0 [(none, .mkn 7)])
        (.cl ks (.seq
          (.seq
            (.rg 0 [(none, .v 14 .mv [.s 0]), (none, .v 15 .len [.s 14]), (none, .v 16 .mv [.k (.i 0)])])
            (.cl ks (.block 0
              (.loop
                (.seq
                  (.rg 0 [(none, .v 17 (.bin .lss) [.s 16, .s 15])])
                  (.seq
                    (.cond (.s 17)
                      .skip
                      (.exit 0))
                    (.cl ks (.seq
                      (.block 1
                        (.seq
                          (.rg 0 [(none, .v 18 .idx [.s 14, .s 16]), (none, .v 19 .ld [.s 18]), (none, .tk 9 19)])
                          (.cl ks (.rg 0 [(none, .v 20 .mv [.s 7]), (none, .v 21 .mv [.s 2]), (none, .v 22 .mv [.s 9]), (none, .v 23 .mv [.s 1]), (none, .v 24 (.bin .mul) [.s 22, .s 23]), (none, .v 25 .mv [.s 0]), (none, .co 26 109 [.s 25]), (none, .coC 27 [.s 21, .s 24, .s 26]), (none, .lit 28 [.s 27] 0), (none, .app 29 (.s 20) (.s 28) 0), (none, .tk 7 29)]))))
                      (.cl ks (.rg 0 [(none, .v 30 (.bin .add) [.s 16, .k (.i 1)]), (none, .v 16 .mv [.s 30])]))))))))))
          (.cl ks (.seq
            (.rg 0 [(none, .v 31 .mv [.s 7]), (none, .tk 6 31)])
            .ret)))))))))

theorem chk_impl_quotas : ∃ b, Try.f110.body = some b ∧ chk Try.prog Try.f110.ntmps true C_impl_quotas b = true := ⟨_, rfl, by kernel_rfl⟩
def K_impl_LowerQuotas : List Nat := [0, 1, 4]
def C_impl_LowerQuotas : C :=
  let ks := K_impl_LowerQuotas
  (.seq
    (.rg 0 [(none, .mkn 4)])
    (.cl ks (.seq
      (.rg 0 [(none, .v 5 .mv [.s 0]), (none, .v 6 .mv [.s 1]), (none, .co 7 110 [.s 5, .s 6, .k (.c 111 [])]), (none, .tk 4 7)])
      .ret)))

theorem chk_impl_LowerQuotas : ∃ b, Try.f89.body = some b ∧ chk Try.prog Try.f89.ntmps true C_impl_LowerQuotas b = true := ⟨_, rfl, by kernel_rfl⟩
/- impl_UpperQuotas: not in this cut -/
def K_impl_RemaindersOf : List Nat := [0, 1, 4]
def C_impl_RemaindersOf : C :=
  let ks := K_impl_RemaindersOf
  (.seq
    (.rg 0 [(none, .mkn 4)])
    (.cl ks (.seq
      (.rg 0 [(none, .v 5 .mv [.s 0]), (none, .v 6 .mv [.s 1]), (none, .co 7 110 [.s 5, .s 6, .k (.c 112 [])]), (none, .tk 4 7)])
      .ret)))

theorem chk_impl_RemaindersOf : ∃ b, Try.f90.body = some b ∧ chk Try.prog Try.f90.ntmps true C_impl_RemaindersOf b = true := ⟨_, rfl, by kernel_rfl⟩
def K_impl_LowerQuotas_1 : List Nat := [0, 1, 4]
def C_impl_LowerQuotas_1 : C :=
  let ks := K_impl_LowerQuotas_1
  (.seq
    (.rg 0 [(none, .v 4 .mv [.k (.i 0)])])
    (.cl ks (.seq
      (.rg 0 [(none, .v 5 .mv [.s 0]), (none, .v 6 .mv [.s 1]), (none, .v 7 (.bin .quo) [.s 5, .s 6]), (none, .tk 4 7)])
      .ret)))

theorem chk_impl_LowerQuotas_1 : ∃ b, Try.f111.body = some b ∧ chk Try.prog Try.f111.ntmps true C_impl_LowerQuotas_1 b = true := ⟨_, rfl, by kernel_rfl⟩
/- impl_UpperQuotas_1: not in this cut -/
def K_impl_RemaindersOf_1 : List Nat := [0, 1, 4]
def C_impl_RemaindersOf_1 : C :=
  let ks := K_impl_RemaindersOf_1
  (.seq
    (.rg 0 [(none, .v 4 .mv [.k (.i 0)])])
    (.cl ks (.seq
      (.rg 0 [(none, .v 5 .mv [.s 0]), (none, .v 6 .mv [.s 1]), (none, .v 7 (.bin .rem) [.s 5, .s 6]), (none, .tk 4 7)])
      .ret)))

theorem chk_impl_RemaindersOf_1 : ∃ b, Try.f112.body = some b ∧ chk Try.prog Try.f112.ntmps true C_impl_RemaindersOf_1 b = true := ⟨_, rfl, by kernel_rfl⟩
def K_spec_LowerQuotas : List Nat := [0, 1, 4, 5, 7, 13, 14, 15]
def C_spec_LowerQuotas : C :=
  let ks := K_spec_LowerQuotas
  (.seq
    (.rg 0 [(none, .mkn 4)])
    (.cl ks (.seq
      (.seq
        (.rg 0 [(none, .v 8 .mv [.s 0]), (none, .v 9 .mv [.s 1]), (none, .co 10 80 [.s 8, .s 9]), (none, .v 11 .not [.s 10])])
        (.cond (.s 11)
          (.seq
            (.rg 0 [(none, .mkn 4)])
            .ret)
          .skip))
      (.cl ks (.seq
        (.rg 0 [(none, .lit 12 [] 0), (none, .tk 5 12)])
        (.cl ks (.seq
          (.seq
            (.rg 0 [(none, .v 13 .mv [.s 0]), (none, .v 14 .len [.s 13]), (none, .v 15 .mv [.k (.i 0)])])
            (.cl ks (.block 0
              (.loop
                (.seq
                  (.rg 0 [(none, .v 16 (.bin .lss) [.s 15, .s 14])])
                  (.seq
                    (.cond (.s 16)
                      .skip
                      (.exit 0))
                    (.cl ks (.seq
                      (.block 1
                        (.seq
                          (.rg 0 [(none, .v 17 .idx [.s 13, .s 15]), (none, .v 18 .ld [.s 17]), (none, .tk 7 18)])
                          (.cl ks (.rg 0 [(none, .v 19 .mv [.s 5]), (none, .v 20 .mv [.s 7]), (none, .v 21 .mv [.s 1]), (none, .v 22 (.bin .mul) [.s 20, .s 21]), (none, .v 23 .mv [.s 0]), (none, .co 24 104 [.s 23]), (none, .v 25 (.bin .quo) [.s 22, .s 24]), (none, .lit 26 [.s 25] 0), (none, .app 27 (.s 19) (.s 26) 0), (none, .tk 5 27)]))))
                      (.cl ks (.rg 0 [(none, .v 28 (.bin .add) [.s 15, .k (.i 1)]), (none, .v 15 .mv [.s 28])]))))))))))
          (.cl ks (.seq
            (.rg 0 [(none, .v 29 .mv [.s 5]), (none, .tk 4 29)])
            .ret)))))))))

theorem chk_spec_LowerQuotas : ∃ b, Try.f82.body = some b ∧ chk Try.prog Try.f82.ntmps true C_spec_LowerQuotas b = true := ⟨_, rfl, by kernel_rfl⟩
/- spec_UpperQuotas: not in this cut -/
def K_spec_RemaindersOf : List Nat := [0, 1, 4, 5, 7, 13, 14, 15]
def C_spec_RemaindersOf : C :=
  let ks := K_spec_RemaindersOf
  (.seq
    (.rg 0 [(none, .mkn 4)])
    (.cl ks (.seq
      (.seq
        (.rg 0 [(none, .v 8 .mv [.s 0]), (none, .v 9 .mv [.s 1]), (none, .co 10 80 [.s 8, .s 9]), (none, .v 11 .not [.s 10])])
        (.cond (.s 11)
          (.seq
            (.rg 0 [(none, .mkn 4)])
            .ret)
          .skip))
      (.cl ks (.seq
        (.rg 0 [(none, .lit 12 [] 0), (none, .tk 5 12)])
        (.cl ks (.seq
          (.seq
            (.rg 0 [(none, .v 13 .mv [.s 0]), (none, .v 14 .len [.s 13]), (none, .v 15 .mv [.k (.i 0)])])
            (.cl ks (.block 0
              (.loop
                (.seq
                  (.rg 0 [(none, .v 16 (.bin .lss) [.s 15, .s 14])])
                  (.seq
                    (.cond (.s 16)
                      .skip
                      (.exit 0))
                    (.cl ks (.seq
                      (.block 1
                        (.seq
                          (.rg 0 [(none, .v 17 .idx [.s 13, .s 15]), (none, .v 18 .ld [.s 17]), (none, .tk 7 18)])
                          (.cl ks (.rg 0 [(none, .v 19 .mv [.s 5]), (none, .v 20 .mv [.s 7]), (none, .v 21 .mv [.s 1]), (none, .v 22 (.bin .mul) [.s 20, .s 21]), (none, .v 23 .mv [.s 0]), (none, .co 24 104 [.s 23]), (none, .v 25 (.bin .rem) [.s 22, .s 24]), (none, .lit 26 [.s 25] 0), (none, .app 27 (.s 19) (.s 26) 0), (none, .tk 5 27)]))))
                      (.cl ks (.rg 0 [(none, .v 28 (.bin .add) [.s 15, .k (.i 1)]), (none, .v 15 .mv [.s 28])]))))))))))
          (.cl ks (.seq
            (.rg 0 [(none, .v 29 .mv [.s 5]), (none, .tk 4 29)])
            .ret)))))))))

theorem chk_spec_RemaindersOf : ∃ b, Try.f83.body = some b ∧ chk Try.prog Try.f83.ntmps true C_spec_RemaindersOf b = true := ⟨_, rfl, by kernel_rfl⟩
/-- Of each count, times n, and of the sum, a number. -/
def quoF (op : Int → Int → Int) (cs : List Int) (n : Int) : List Int := if askB cs n = true then cs.map fun x => op (x * n) (sumL cs) else []
theorem ask_bd {cs : List Int} {n : Int} (A : Ask cs n) : ∀ x ∈ cs, 0 ≤ x ∧ x ≤ 1000000000 := fun x hx => by have := A.bd x hx; omega
theorem mul_bd {x n : Int} (h0 : 0 ≤ x) (h1 : x ≤ 1000000) (n0 : 0 ≤ n) (n1 : n ≤ 100) : 0 ≤ x * n ∧ x * n ≤ 100000000 := by
  refine ⟨Int.mul_nonneg h0 n0, ?_⟩
  calc x * n ≤ 1000000 * 100 := Int.mul_le_mul h1 n1 n0 (by omega)
    _ = 100000000 := by decide
theorem map_take_s {xs : List Int} {f : Int → Int} {j : Nat} (h : j < xs.length) : (xs.take (j + 1)).map f = (xs.take j).map f ++ [f (xs.getD j 0)] := by
  rw [take_getD 0 h, List.map_append]; rfl
theorem impl_quotas_ok {n1 : Option Bool} (cs : List Int) (n : Int) (hl : cs.length ≤ 1048576) (f : Nat) (op : Int → Int → Int) (hf : Ask cs n → ∀ x ∈ cs, CallOk Try.prog f [.i (x * n), .i (sumL cs)] [(0, .i (op (x * n) (sumL cs)))]) :
    CallOk Try.prog 110 [.s n1 (ii cs), .i n, .c f []] [(0, .own 1 none (ii (quoF op cs n)))] := by
  obtain ⟨code0, hcd1, hcd2⟩ := chk_impl_quotas; refine callOk_of Try.func110 hcd1 mo Try.call110 (rs := [6]) (by kernel_rfl) hcd2 (by rw [Try.ntmps110]; simp) (by simp) (by decide) ?_; unfold C_impl_quotas K_impl_quotas; simp (config := { maxSteps := 2000000 }) only [go_sem, Nat.reduceBEq, Nat.reduceAdd, Nat.reduceMul, Nat.reduceMod, Nat.reduceLT, Nat.reduceDiv, Nat.reduceSub, Nat.reduceLeDiff, Int.reduceToNat, Int.reduceLT, Int.reduceLE, reduceCtorEq, List.take_nil, List.drop_nil]
  refine ⟨_, impl_quotaAsked_ok cs n hl, ?_⟩; simp (config := { maxSteps := 2000000 }) only [go_sem, Nat.reduceBEq, Nat.reduceAdd, Nat.reduceMul, Nat.reduceMod, Nat.reduceLT, Nat.reduceDiv, Nat.reduceSub, Nat.reduceLeDiff, Int.reduceToNat, Int.reduceLT, Int.reduceLE, reduceCtorEq, List.take_nil, List.drop_nil]
  refine ⟨fun h => by simp [quoF, h, ii, T.leL], fun h => ?_⟩
  have A := ask_of h
  have e0 : quoF op cs n = cs.map fun x => op (x * n) (sumL cs) := if_pos h
  rw [e0]
  refine loopN cs.length (fun j => [(0, .t .arg (.s n1 (ii cs))), (1, .i n), (2, .t .arg (.c f [])), (7, .own 1 none (ii ((cs.take j).map fun x => op (x * n) (sumL cs)))), (14, .t .arg (.s n1 (ii cs))), (15, .i cs.length), (16, .i (j : Nat))]) (fun _ => True) ⟨trivial, by simp (config := { maxSteps := 2000000 }) only [go_sem, Nat.reduceBEq, Nat.reduceAdd, Nat.reduceMul, Nat.reduceMod, Nat.reduceLT, Nat.reduceDiv, Nat.reduceSub, Nat.reduceLeDiff, Int.reduceToNat, Int.reduceLT, Int.reduceLE, reduceCtorEq, List.take_nil, List.drop_nil]; simp [ii, T.leL]⟩ fun j hj _ => ?_
  simp (config := { maxSteps := 2000000 }) only [go_sem, Nat.reduceBEq, Nat.reduceAdd, Nat.reduceMul, Nat.reduceMod, Nat.reduceLT, Nat.reduceDiv, Nat.reduceSub, Nat.reduceLeDiff, Int.reduceToNat, Int.reduceLT, Int.reduceLE, reduceCtorEq, List.take_nil, List.drop_nil]
  refine ⟨fun hlt => ?_, fun hge => ?_⟩
  · have hj' : j < cs.length := by omega
    have hm := getD_mem (d := 0) hj'
    have hb := A.bd _ hm
    have hx := mul_bd hb.1 hb.2 A.n0 A.n1
    refine ⟨by omega, hj', hj', inR_of (by omega) (by omega), ?_⟩
    refine ⟨_, impl_sumOf_ok cs hl (ask_bd A), ?_⟩; simp (config := { maxSteps := 2000000 }) only [go_sem, Nat.reduceBEq, Nat.reduceAdd, Nat.reduceMul, Nat.reduceMod, Nat.reduceLT, Nat.reduceDiv, Nat.reduceSub, Nat.reduceLeDiff, Int.reduceToNat, Int.reduceLT, Int.reduceLE, reduceCtorEq, List.take_nil, List.drop_nil]
    refine ⟨_, hf A _ hm, ?_⟩; simp (config := { maxSteps := 2000000 }) only [go_sem, Nat.reduceBEq, Nat.reduceAdd, Nat.reduceMul, Nat.reduceMod, Nat.reduceLT, Nat.reduceDiv, Nat.reduceSub, Nat.reduceLeDiff, Int.reduceToNat, Int.reduceLT, Int.reduceLE, reduceCtorEq, List.take_nil, List.drop_nil]
    exact ⟨by have := A.l6; simp; omega, inR_of (by omega) (by omega), hj', (map_take_s hj').symm, by simp⟩
  · have : j = cs.length := by omega
    subst this
    simp
def lowO (a b : Int) : Int := a.tdiv b
theorem impl_LowerQuotas1_ok (a b : Int) (ha : 0 ≤ a ∧ a ≤ 100000000) (hb : 0 < b ∧ b ≤ 6000000) : CallOk Try.prog 111 [.i a, .i b] [(0, .i (lowO a b))] := by
  obtain ⟨code0, hcd1, hcd2⟩ := chk_impl_LowerQuotas_1; refine callOk_of Try.func111 hcd1 mo Try.call111 (rs := [4]) (by kernel_rfl) hcd2 (by rw [Try.ntmps111]; simp) (by simp) (by decide) ?_; unfold C_impl_LowerQuotas_1 K_impl_LowerQuotas_1; simp (config := { maxSteps := 2000000 }) only [go_sem, Nat.reduceBEq, Nat.reduceAdd, Nat.reduceMul, Nat.reduceMod, Nat.reduceLT, Nat.reduceDiv, Nat.reduceSub, Nat.reduceLeDiff, Int.reduceToNat, Int.reduceLT, Int.reduceLE, reduceCtorEq, List.take_nil, List.drop_nil]
  have h1 : 0 ≤ a.tdiv b ∧ a.tdiv b ≤ a := ⟨Int.tdiv_nonneg ha.1 (by omega), Int.tdiv_le_self _ ha.1⟩
  have h2 : 0 ≤ (a + b - 1).tdiv b ∧ (a + b - 1).tdiv b ≤ a + b - 1 := ⟨Int.tdiv_nonneg (by omega) (by omega), Int.tdiv_le_self _ (by omega)⟩
  exact ⟨by omega, inR_of (by omega) (by omega), rfl⟩
theorem impl_LowerQuotas_ok {n1 : Option Bool} (cs : List Int) (n : Int) (hl : cs.length ≤ 1048576) : CallOk Try.prog 89 [.s n1 (ii cs), .i n] [(0, .own 1 none (ii (quoF lowO cs n)))] := by
  obtain ⟨code0, hcd1, hcd2⟩ := chk_impl_LowerQuotas; refine callOk_of Try.func89 hcd1 mo Try.call89 (rs := [4]) (by kernel_rfl) hcd2 (by rw [Try.ntmps89]; simp) (by simp) (by decide) ?_; unfold C_impl_LowerQuotas K_impl_LowerQuotas; simp (config := { maxSteps := 2000000 }) only [go_sem, Nat.reduceBEq, Nat.reduceAdd, Nat.reduceMul, Nat.reduceMod, Nat.reduceLT, Nat.reduceDiv, Nat.reduceSub, Nat.reduceLeDiff, Int.reduceToNat, Int.reduceLT, Int.reduceLE, reduceCtorEq, List.take_nil, List.drop_nil]
  refine ⟨_, impl_quotas_ok cs n hl _ lowO fun A x hx => impl_LowerQuotas1_ok _ _ (mul_bd (A.bd x hx).1 (A.bd x hx).2 A.n0 A.n1) ⟨A.pos, A.le⟩, ?_⟩; simp (config := { maxSteps := 2000000 }) only [go_sem, Nat.reduceBEq, Nat.reduceAdd, Nat.reduceMul, Nat.reduceMod, Nat.reduceLT, Nat.reduceDiv, Nat.reduceSub, Nat.reduceLeDiff, Int.reduceToNat, Int.reduceLT, Int.reduceLE, reduceCtorEq, List.take_nil, List.drop_nil]
theorem spec_LowerQuotas_ok {n1 : Option Bool} (cs : List Int) (n : Int) (hl : cs.length ≤ 1048576) : CallOk Try.prog 82 [.s n1 (ii cs), .i n] [(0, .own 1 none (ii (quoF lowO cs n)))] := by
  obtain ⟨code0, hcd1, hcd2⟩ := chk_spec_LowerQuotas; refine callOk_of Try.func82 hcd1 mo Try.call82 (rs := [4]) (by kernel_rfl) hcd2 (by rw [Try.ntmps82]; simp) (by simp) (by decide) ?_; unfold C_spec_LowerQuotas K_spec_LowerQuotas; simp (config := { maxSteps := 2000000 }) only [go_sem, Nat.reduceBEq, Nat.reduceAdd, Nat.reduceMul, Nat.reduceMod, Nat.reduceLT, Nat.reduceDiv, Nat.reduceSub, Nat.reduceLeDiff, Int.reduceToNat, Int.reduceLT, Int.reduceLE, reduceCtorEq, List.take_nil, List.drop_nil]
  refine ⟨_, spec_l13Ok_ok cs n hl, ?_⟩; simp (config := { maxSteps := 2000000 }) only [go_sem, Nat.reduceBEq, Nat.reduceAdd, Nat.reduceMul, Nat.reduceMod, Nat.reduceLT, Nat.reduceDiv, Nat.reduceSub, Nat.reduceLeDiff, Int.reduceToNat, Int.reduceLT, Int.reduceLE, reduceCtorEq, List.take_nil, List.drop_nil]
  refine ⟨fun h => by simp [quoF, h, ii, T.leL], fun h => ?_⟩
  have A := ask_of h
  have e0 : quoF lowO cs n = cs.map fun x => lowO (x * n) (sumL cs) := if_pos h
  rw [e0]
  refine loopN cs.length (fun j => [(0, .t .arg (.s n1 (ii cs))), (1, .i n), (5, .own 1 none (ii ((cs.take j).map fun x => lowO (x * n) (sumL cs)))), (13, .t .arg (.s n1 (ii cs))), (14, .i cs.length), (15, .i (j : Nat))]) (fun _ => True) ⟨trivial, by simp (config := { maxSteps := 2000000 }) only [go_sem, Nat.reduceBEq, Nat.reduceAdd, Nat.reduceMul, Nat.reduceMod, Nat.reduceLT, Nat.reduceDiv, Nat.reduceSub, Nat.reduceLeDiff, Int.reduceToNat, Int.reduceLT, Int.reduceLE, reduceCtorEq, List.take_nil, List.drop_nil]; simp [ii, T.leL]⟩ fun j hj _ => ?_
  simp (config := { maxSteps := 2000000 }) only [go_sem, Nat.reduceBEq, Nat.reduceAdd, Nat.reduceMul, Nat.reduceMod, Nat.reduceLT, Nat.reduceDiv, Nat.reduceSub, Nat.reduceLeDiff, Int.reduceToNat, Int.reduceLT, Int.reduceLE, reduceCtorEq, List.take_nil, List.drop_nil]
  refine ⟨fun hlt => ?_, fun hge => ?_⟩
  · have hj' : j < cs.length := by omega
    have hm := getD_mem (d := 0) hj'
    have hb := A.bd _ hm
    have hx := mul_bd hb.1 hb.2 A.n0 A.n1
    have hp := A.pos
    have hle := A.le
    refine ⟨by omega, hj', hj', inR_of (by omega) (by omega), ?_⟩
    refine ⟨_, spec_l13Sum_ok cs hl (ask_bd A), ?_⟩; simp (config := { maxSteps := 2000000 }) only [go_sem, Nat.reduceBEq, Nat.reduceAdd, Nat.reduceMul, Nat.reduceMod, Nat.reduceLT, Nat.reduceDiv, Nat.reduceSub, Nat.reduceLeDiff, Int.reduceToNat, Int.reduceLT, Int.reduceLE, reduceCtorEq, List.take_nil, List.drop_nil]
    have ht := map_take_s (f := fun x => lowO (x * n) (sumL cs)) hj'
    have h1 : 0 ≤ (cs.getD j 0 * n).tdiv (sumL cs) ∧ (cs.getD j 0 * n).tdiv (sumL cs) ≤ cs.getD j 0 * n := ⟨Int.tdiv_nonneg hx.1 (by omega), Int.tdiv_le_self _ hx.1⟩
    first
      | exact ⟨by omega, inR_of (by omega) (by omega), by have := A.l6; simp; omega, inR_of (by omega) (by omega), hj', ht.symm, by simp⟩
      | exact ⟨by omega, by have := A.l6; simp; omega, inR_of (by omega) (by omega), hj', ht.symm, by simp⟩
  · have : j = cs.length := by omega
    subst this
    simp
def remO (a b : Int) : Int := a.tmod b
theorem impl_RemaindersOf1_ok (a b : Int) (ha : 0 ≤ a ∧ a ≤ 100000000) (hb : 0 < b ∧ b ≤ 6000000) : CallOk Try.prog 112 [.i a, .i b] [(0, .i (remO a b))] := by
  obtain ⟨code0, hcd1, hcd2⟩ := chk_impl_RemaindersOf_1; refine callOk_of Try.func112 hcd1 mo Try.call112 (rs := [4]) (by kernel_rfl) hcd2 (by rw [Try.ntmps112]; simp) (by simp) (by decide) ?_; unfold C_impl_RemaindersOf_1 K_impl_RemaindersOf_1; simp (config := { maxSteps := 2000000 }) only [go_sem, Nat.reduceBEq, Nat.reduceAdd, Nat.reduceMul, Nat.reduceMod, Nat.reduceLT, Nat.reduceDiv, Nat.reduceSub, Nat.reduceLeDiff, Int.reduceToNat, Int.reduceLT, Int.reduceLE, reduceCtorEq, List.take_nil, List.drop_nil]
  have h1 : 0 ≤ a.tdiv b ∧ a.tdiv b ≤ a := ⟨Int.tdiv_nonneg ha.1 (by omega), Int.tdiv_le_self _ ha.1⟩
  have h2 : 0 ≤ (a + b - 1).tdiv b ∧ (a + b - 1).tdiv b ≤ a + b - 1 := ⟨Int.tdiv_nonneg (by omega) (by omega), Int.tdiv_le_self _ (by omega)⟩
  exact ⟨by omega, rfl⟩
theorem impl_RemaindersOf_ok {n1 : Option Bool} (cs : List Int) (n : Int) (hl : cs.length ≤ 1048576) : CallOk Try.prog 90 [.s n1 (ii cs), .i n] [(0, .own 1 none (ii (quoF remO cs n)))] := by
  obtain ⟨code0, hcd1, hcd2⟩ := chk_impl_RemaindersOf; refine callOk_of Try.func90 hcd1 mo Try.call90 (rs := [4]) (by kernel_rfl) hcd2 (by rw [Try.ntmps90]; simp) (by simp) (by decide) ?_; unfold C_impl_RemaindersOf K_impl_RemaindersOf; simp (config := { maxSteps := 2000000 }) only [go_sem, Nat.reduceBEq, Nat.reduceAdd, Nat.reduceMul, Nat.reduceMod, Nat.reduceLT, Nat.reduceDiv, Nat.reduceSub, Nat.reduceLeDiff, Int.reduceToNat, Int.reduceLT, Int.reduceLE, reduceCtorEq, List.take_nil, List.drop_nil]
  refine ⟨_, impl_quotas_ok cs n hl _ remO fun A x hx => impl_RemaindersOf1_ok _ _ (mul_bd (A.bd x hx).1 (A.bd x hx).2 A.n0 A.n1) ⟨A.pos, A.le⟩, ?_⟩; simp (config := { maxSteps := 2000000 }) only [go_sem, Nat.reduceBEq, Nat.reduceAdd, Nat.reduceMul, Nat.reduceMod, Nat.reduceLT, Nat.reduceDiv, Nat.reduceSub, Nat.reduceLeDiff, Int.reduceToNat, Int.reduceLT, Int.reduceLE, reduceCtorEq, List.take_nil, List.drop_nil]
theorem spec_RemaindersOf_ok {n1 : Option Bool} (cs : List Int) (n : Int) (hl : cs.length ≤ 1048576) : CallOk Try.prog 83 [.s n1 (ii cs), .i n] [(0, .own 1 none (ii (quoF remO cs n)))] := by
  obtain ⟨code0, hcd1, hcd2⟩ := chk_spec_RemaindersOf; refine callOk_of Try.func83 hcd1 mo Try.call83 (rs := [4]) (by kernel_rfl) hcd2 (by rw [Try.ntmps83]; simp) (by simp) (by decide) ?_; unfold C_spec_RemaindersOf K_spec_RemaindersOf; simp (config := { maxSteps := 2000000 }) only [go_sem, Nat.reduceBEq, Nat.reduceAdd, Nat.reduceMul, Nat.reduceMod, Nat.reduceLT, Nat.reduceDiv, Nat.reduceSub, Nat.reduceLeDiff, Int.reduceToNat, Int.reduceLT, Int.reduceLE, reduceCtorEq, List.take_nil, List.drop_nil]
  refine ⟨_, spec_l13Ok_ok cs n hl, ?_⟩; simp (config := { maxSteps := 2000000 }) only [go_sem, Nat.reduceBEq, Nat.reduceAdd, Nat.reduceMul, Nat.reduceMod, Nat.reduceLT, Nat.reduceDiv, Nat.reduceSub, Nat.reduceLeDiff, Int.reduceToNat, Int.reduceLT, Int.reduceLE, reduceCtorEq, List.take_nil, List.drop_nil]
  refine ⟨fun h => by simp [quoF, h, ii, T.leL], fun h => ?_⟩
  have A := ask_of h
  have e0 : quoF remO cs n = cs.map fun x => remO (x * n) (sumL cs) := if_pos h
  rw [e0]
  refine loopN cs.length (fun j => [(0, .t .arg (.s n1 (ii cs))), (1, .i n), (5, .own 1 none (ii ((cs.take j).map fun x => remO (x * n) (sumL cs)))), (13, .t .arg (.s n1 (ii cs))), (14, .i cs.length), (15, .i (j : Nat))]) (fun _ => True) ⟨trivial, by simp (config := { maxSteps := 2000000 }) only [go_sem, Nat.reduceBEq, Nat.reduceAdd, Nat.reduceMul, Nat.reduceMod, Nat.reduceLT, Nat.reduceDiv, Nat.reduceSub, Nat.reduceLeDiff, Int.reduceToNat, Int.reduceLT, Int.reduceLE, reduceCtorEq, List.take_nil, List.drop_nil]; simp [ii, T.leL]⟩ fun j hj _ => ?_
  simp (config := { maxSteps := 2000000 }) only [go_sem, Nat.reduceBEq, Nat.reduceAdd, Nat.reduceMul, Nat.reduceMod, Nat.reduceLT, Nat.reduceDiv, Nat.reduceSub, Nat.reduceLeDiff, Int.reduceToNat, Int.reduceLT, Int.reduceLE, reduceCtorEq, List.take_nil, List.drop_nil]
  refine ⟨fun hlt => ?_, fun hge => ?_⟩
  · have hj' : j < cs.length := by omega
    have hm := getD_mem (d := 0) hj'
    have hb := A.bd _ hm
    have hx := mul_bd hb.1 hb.2 A.n0 A.n1
    have hp := A.pos
    have hle := A.le
    refine ⟨by omega, hj', hj', inR_of (by omega) (by omega), ?_⟩
    refine ⟨_, spec_l13Sum_ok cs hl (ask_bd A), ?_⟩; simp (config := { maxSteps := 2000000 }) only [go_sem, Nat.reduceBEq, Nat.reduceAdd, Nat.reduceMul, Nat.reduceMod, Nat.reduceLT, Nat.reduceDiv, Nat.reduceSub, Nat.reduceLeDiff, Int.reduceToNat, Int.reduceLT, Int.reduceLE, reduceCtorEq, List.take_nil, List.drop_nil]
    have ht := map_take_s (f := fun x => remO (x * n) (sumL cs)) hj'
    have h1 : 0 ≤ (cs.getD j 0 * n).tdiv (sumL cs) ∧ (cs.getD j 0 * n).tdiv (sumL cs) ≤ cs.getD j 0 * n := ⟨Int.tdiv_nonneg hx.1 (by omega), Int.tdiv_le_self _ hx.1⟩
    first
      | exact ⟨by omega, inR_of (by omega) (by omega), by have := A.l6; simp; omega, inR_of (by omega) (by omega), hj', ht.symm, by simp⟩
      | exact ⟨by omega, by have := A.l6; simp; omega, inR_of (by omega) (by omega), hj', ht.symm, by simp⟩
  · have : j = cs.length := by omega
    subst this
    simp

end Go.Proofs.Ytelblnfnfeoapaa
