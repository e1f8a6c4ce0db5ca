/- Own work: contracts of functions that the claim reaches. No condition beyond those that each theorem names. -/
import Derived.Test.YtfdoddeccnjcmaaProg
import Derived.Test.YtfdoddeccnjcmaaQuotas
namespace Go.Proofs.Ytfdoddeccnjcmaa
open Go Go.Vc
set_option maxRecDepth 100000
set_option linter.unusedSimpArgs false
set_option linter.unusedVariables false
def K_impl_quotas : List Nat := [0, 1, 2, 6, 7, 9, 14, 15, 16]
def C_impl_quotas : C :=
  let ks := K_impl_quotas
  (.seq
   (.rg 0 [(none, .mkn 6)])
   (.cl ks (.seq
   (.seq
   (.rg 0 [(none, .v 10 .mv [.s 0]), (none, .v 11 .mv [.s 1]), (none, .co 12 75 [.s 10, .s 11]), (none, .v 13 .not [.s 12])])
   (.cond (.s 13)
   (.seq
   (.rg 0 [(none, .mkn 6)])
   .ret)
   .skip))
   (.cl ks (.seq
   (.rg 0 [(none, .mkn 7)])
   (.cl ks (.seq
   (.seq
   (.rg 0 [(none, .v 14 .mv [.s 0]), (none, .v 15 .len [.s 14]), (none, .v 16 .mv [.k (.i 0)])])
   (.cl ks (.block 0
   (.loop
   (.seq
   (.rg 0 [(none, .v 17 (.bin .lss) [.s 16, .s 15])])
   (.seq
   (.cond (.s 17)
   .skip
   (.exit 0))
   (.cl ks (.seq
   (.block 1
   (.seq
   (.rg 0 [(none, .v 18 .idx [.s 14, .s 16]), (none, .v 19 .ld [.s 18]), (none, .tk 9 19)])
   (.cl ks (.rg 0 [(none, .v 20 .mv [.s 7]), (none, .v 21 .mv [.s 2]), (none, .v 22 .mv [.s 9]), (none, .v 23 .mv [.s 1]), (none, .v 24 (.bin .mul) [.s 22, .s 23]), (none, .v 25 .mv [.s 0]), (none, .co 26 77 [.s 25]), (none, .coC 27 [.s 21, .s 24, .s 26]), (none, .lit 28 [.s 27] 0), (none, .app 29 (.s 20) (.s 28) 0), (none, .tk 7 29)]))))
   (.cl ks (.rg 0 [(none, .v 30 (.bin .add) [.s 16, .k (.i 1)]), (none, .v 16 .mv [.s 30])]))))))))))
   (.cl ks (.seq
   (.rg 0 [(none, .v 31 .mv [.s 7]), (none, .tk 6 31)])
   .ret)))))))))

theorem chk_impl_quotas : ∃ b, Try.f78.body = some b ∧ chk Try.prog Try.f78.ntmps true C_impl_quotas b = true := ⟨_, rfl, by kernel_rfl⟩
def K_impl_LowerQuotas : List Nat := [0, 1, 4]
def C_impl_LowerQuotas : C :=
  let ks := K_impl_LowerQuotas
  (.seq
   (.rg 0 [(none, .mkn 4)])
   (.cl ks (.seq
   (.rg 0 [(none, .v 5 .mv [.s 0]), (none, .v 6 .mv [.s 1]), (none, .co 7 78 [.s 5, .s 6, .k (.c 79 [])]), (none, .tk 4 7)])
   .ret)))

theorem chk_impl_LowerQuotas : ∃ b, Try.f23.body = some b ∧ chk Try.prog Try.f23.ntmps true C_impl_LowerQuotas b = true := ⟨_, rfl, by kernel_rfl⟩
def K_impl_UpperQuotas : List Nat := [0, 1, 4]
def C_impl_UpperQuotas : C :=
  let ks := K_impl_UpperQuotas
  (.seq
   (.rg 0 [(none, .mkn 4)])
   (.cl ks (.seq
   (.rg 0 [(none, .v 5 .mv [.s 0]), (none, .v 6 .mv [.s 1]), (none, .co 7 78 [.s 5, .s 6, .k (.c 80 [])]), (none, .tk 4 7)])
   .ret)))

theorem chk_impl_UpperQuotas : ∃ b, Try.f24.body = some b ∧ chk Try.prog Try.f24.ntmps true C_impl_UpperQuotas b = true := ⟨_, rfl, by kernel_rfl⟩
def K_impl_RemaindersOf : List Nat := [0, 1, 4]
def C_impl_RemaindersOf : C :=
  let ks := K_impl_RemaindersOf
  (.seq
   (.rg 0 [(none, .mkn 4)])
   (.cl ks (.seq
   (.rg 0 [(none, .v 5 .mv [.s 0]), (none, .v 6 .mv [.s 1]), (none, .co 7 78 [.s 5, .s 6, .k (.c 81 [])]), (none, .tk 4 7)])
   .ret)))

theorem chk_impl_RemaindersOf : ∃ b, Try.f25.body = some b ∧ chk Try.prog Try.f25.ntmps true C_impl_RemaindersOf b = true := ⟨_, rfl, by kernel_rfl⟩
def K_impl_LowerQuotas_1 : List Nat := [0, 1, 4]
def C_impl_LowerQuotas_1 : C :=
  let ks := K_impl_LowerQuotas_1
  (.seq
   (.rg 0 [(none, .v 4 .mv [.k (.i 0)])])
   (.cl ks (.seq
   (.rg 0 [(none, .v 5 .mv [.s 0]), (none, .v 6 .mv [.s 1]), (none, .v 7 (.bin .quo) [.s 5, .s 6]), (none, .tk 4 7)])
   .ret)))

theorem chk_impl_LowerQuotas_1 : ∃ b, Try.f79.body = some b ∧ chk Try.prog Try.f79.ntmps true C_impl_LowerQuotas_1 b = true := ⟨_, rfl, by kernel_rfl⟩
def K_impl_UpperQuotas_1 : List Nat := [0, 1, 4]
def C_impl_UpperQuotas_1 : C :=
  let ks := K_impl_UpperQuotas_1
  (.seq
   (.rg 0 [(none, .v 4 .mv [.k (.i 0)])])
   (.cl ks (.seq
   (.rg 0 [(none, .v 5 .mv [.s 0]), (none, .v 6 .mv [.s 1]), (none, .v 7 (.bin .add) [.s 5, .s 6]), (none, .v 8 (.bin .sub) [.s 7, .k (.i 1)]), (none, .v 9 .mv [.s 1]), (none, .v 10 (.bin .quo) [.s 8, .s 9]), (none, .tk 4 10)])
   .ret)))

theorem chk_impl_UpperQuotas_1 : ∃ b, Try.f80.body = some b ∧ chk Try.prog Try.f80.ntmps true C_impl_UpperQuotas_1 b = true := ⟨_, rfl, by kernel_rfl⟩
def K_impl_RemaindersOf_1 : List Nat := [0, 1, 4]
def C_impl_RemaindersOf_1 : C :=
  let ks := K_impl_RemaindersOf_1
  (.seq
   (.rg 0 [(none, .v 4 .mv [.k (.i 0)])])
   (.cl ks (.seq
   (.rg 0 [(none, .v 5 .mv [.s 0]), (none, .v 6 .mv [.s 1]), (none, .v 7 (.bin .rem) [.s 5, .s 6]), (none, .tk 4 7)])
   .ret)))

theorem chk_impl_RemaindersOf_1 : ∃ b, Try.f81.body = some b ∧ chk Try.prog Try.f81.ntmps true C_impl_RemaindersOf_1 b = true := ⟨_, rfl, by kernel_rfl⟩
/- spec_LowerQuotas: not in this cut -/
/- spec_UpperQuotas: not in this cut -/
/- spec_RemaindersOf: not in this cut -/
/-- Of each count, times n, and of the sum, a number. -/
def quoF (op : Int → Int → Int) (cs : List Int) (n : Int) : List Int := if askB cs n = true then cs.map fun x => op (x * n) (sumL cs) else []
theorem ask_bd {cs : List Int} {n : Int} (A : Ask cs n) : ∀ x ∈ cs, 0 ≤ x ∧ x ≤ 1000000000 := fun x hx => by have := A.bd x hx; omega
theorem mul_bd {x n : Int} (h0 : 0 ≤ x) (h1 : x ≤ 1000000) (n0 : 0 ≤ n) (n1 : n ≤ 100) : 0 ≤ x * n ∧ x * n ≤ 100000000 := by
  refine ⟨Int.mul_nonneg h0 n0, ?_⟩
  calc x * n ≤ 1000000 * 100 := Int.mul_le_mul h1 n1 n0 (by omega)
    _ = 100000000 := by decide
theorem map_take_s {xs : List Int} {f : Int → Int} {j : Nat} (h : j < xs.length) : (xs.take (j + 1)).map f = (xs.take j).map f ++ [f (xs.getD j 0)] := by
  rw [take_getD 0 h, List.map_append]; rfl
theorem impl_quotas_ok {n1 : Option Bool} (cs : List Int) (n : Int) (hl : cs.length ≤ 1048576) (f : Nat) (op : Int → Int → Int) (hf : Ask cs n → ∀ x ∈ cs, CallOk Try.prog f [.i (x * n), .i (sumL cs)] [(0, .i (op (x * n) (sumL cs)))]) :
    CallOk Try.prog 78 [.s n1 (ii cs), .i n, .c f []] [(0, .own 1 none (ii (quoF op cs n)))] := by
  obtain ⟨code0, hcd1, hcd2⟩ := chk_impl_quotas; refine callOk_of Try.func78 hcd1 mo Try.call78 (rs := [6]) (by kernel_rfl) hcd2 (by rw [Try.ntmps78]; simp) (by simp) (by decide) ?_; unfold C_impl_quotas K_impl_quotas; simp (config := { maxSteps := 2000000 }) only [go_sem, Nat.reduceBEq, Nat.reduceAdd, Nat.reduceMul, Nat.reduceMod, Nat.reduceLT, Nat.reduceDiv, Nat.reduceSub, Nat.reduceLeDiff, Int.reduceToNat, Int.reduceLT, Int.reduceLE, reduceCtorEq, List.take_nil, List.drop_nil]
  refine ⟨_, impl_quotaAsked_ok cs n hl, ?_⟩; simp (config := { maxSteps := 2000000 }) only [go_sem, Nat.reduceBEq, Nat.reduceAdd, Nat.reduceMul, Nat.reduceMod, Nat.reduceLT, Nat.reduceDiv, Nat.reduceSub, Nat.reduceLeDiff, Int.reduceToNat, Int.reduceLT, Int.reduceLE, reduceCtorEq, List.take_nil, List.drop_nil]
  refine ⟨fun h => by simp [quoF, h, ii, T.leL], fun h => ?_⟩
  have A := ask_of h
  have e0 : quoF op cs n = cs.map fun x => op (x * n) (sumL cs) := if_pos h
  rw [e0]
  refine loopN cs.length (fun j => [(0, .t .arg (.s n1 (ii cs))), (1, .i n), (2, .t .arg (.c f [])), (7, .own 1 none (ii ((cs.take j).map fun x => op (x * n) (sumL cs)))), (14, .t .arg (.s n1 (ii cs))), (15, .i cs.length), (16, .i (j : Nat))]) (fun _ => True) ⟨trivial, by simp (config := { maxSteps := 2000000 }) only [go_sem, Nat.reduceBEq, Nat.reduceAdd, Nat.reduceMul, Nat.reduceMod, Nat.reduceLT, Nat.reduceDiv, Nat.reduceSub, Nat.reduceLeDiff, Int.reduceToNat, Int.reduceLT, Int.reduceLE, reduceCtorEq, List.take_nil, List.drop_nil]; simp [ii, T.leL]⟩ fun j hj _ => ?_
  simp (config := { maxSteps := 2000000 }) only [go_sem, Nat.reduceBEq, Nat.reduceAdd, Nat.reduceMul, Nat.reduceMod, Nat.reduceLT, Nat.reduceDiv, Nat.reduceSub, Nat.reduceLeDiff, Int.reduceToNat, Int.reduceLT, Int.reduceLE, reduceCtorEq, List.take_nil, List.drop_nil]
  refine ⟨fun hlt => ?_, fun hge => ?_⟩
  · have hj' : j < cs.length := by omega
    have hm := getD_mem (d := 0) hj'
    have hb := A.bd _ hm
    have hx := mul_bd hb.1 hb.2 A.n0 A.n1
    refine ⟨by omega, hj', hj', inR_of (by omega) (by omega), ?_⟩
    refine ⟨_, impl_sumOf_ok cs hl (ask_bd A), ?_⟩; simp (config := { maxSteps := 2000000 }) only [go_sem, Nat.reduceBEq, Nat.reduceAdd, Nat.reduceMul, Nat.reduceMod, Nat.reduceLT, Nat.reduceDiv, Nat.reduceSub, Nat.reduceLeDiff, Int.reduceToNat, Int.reduceLT, Int.reduceLE, reduceCtorEq, List.take_nil, List.drop_nil]
    refine ⟨_, hf A _ hm, ?_⟩; simp (config := { maxSteps := 2000000 }) only [go_sem, Nat.reduceBEq, Nat.reduceAdd, Nat.reduceMul, Nat.reduceMod, Nat.reduceLT, Nat.reduceDiv, Nat.reduceSub, Nat.reduceLeDiff, Int.reduceToNat, Int.reduceLT, Int.reduceLE, reduceCtorEq, List.take_nil, List.drop_nil]
    exact ⟨by have := A.l6; simp; omega, inR_of (by omega) (by omega), hj', (map_take_s hj').symm, by simp⟩
  · have : j = cs.length := by omega
    subst this
    simp
def lowO (a b : Int) : Int := a.tdiv b
theorem impl_LowerQuotas1_ok (a b : Int) (ha : 0 ≤ a ∧ a ≤ 100000000) (hb : 0 < b ∧ b ≤ 6000000) : CallOk Try.prog 79 [.i a, .i b] [(0, .i (lowO a b))] := by
  obtain ⟨code0, hcd1, hcd2⟩ := chk_impl_LowerQuotas_1; refine callOk_of Try.func79 hcd1 mo Try.call79 (rs := [4]) (by kernel_rfl) hcd2 (by rw [Try.ntmps79]; simp) (by simp) (by decide) ?_; unfold C_impl_LowerQuotas_1 K_impl_LowerQuotas_1; simp (config := { maxSteps := 2000000 }) only [go_sem, Nat.reduceBEq, Nat.reduceAdd, Nat.reduceMul, Nat.reduceMod, Nat.reduceLT, Nat.reduceDiv, Nat.reduceSub, Nat.reduceLeDiff, Int.reduceToNat, Int.reduceLT, Int.reduceLE, reduceCtorEq, List.take_nil, List.drop_nil]
  have h1 : 0 ≤ a.tdiv b ∧ a.tdiv b ≤ a := ⟨Int.tdiv_nonneg ha.1 (by omega), Int.tdiv_le_self _ ha.1⟩
  have h2 : 0 ≤ (a + b - 1).tdiv b ∧ (a + b - 1).tdiv b ≤ a + b - 1 := ⟨Int.tdiv_nonneg (by omega) (by omega), Int.tdiv_le_self _ (by omega)⟩
  exact ⟨by omega, inR_of (by omega) (by omega), rfl⟩
theorem impl_LowerQuotas_ok {n1 : Option Bool} (cs : List Int) (n : Int) (hl : cs.length ≤ 1048576) : CallOk Try.prog 23 [.s n1 (ii cs), .i n] [(0, .own 1 none (ii (quoF lowO cs n)))] := by
  obtain ⟨code0, hcd1, hcd2⟩ := chk_impl_LowerQuotas; refine callOk_of Try.func23 hcd1 mo Try.call23 (rs := [4]) (by kernel_rfl) hcd2 (by rw [Try.ntmps23]; simp) (by simp) (by decide) ?_; unfold C_impl_LowerQuotas K_impl_LowerQuotas; simp (config := { maxSteps := 2000000 }) only [go_sem, Nat.reduceBEq, Nat.reduceAdd, Nat.reduceMul, Nat.reduceMod, Nat.reduceLT, Nat.reduceDiv, Nat.reduceSub, Nat.reduceLeDiff, Int.reduceToNat, Int.reduceLT, Int.reduceLE, reduceCtorEq, List.take_nil, List.drop_nil]
  refine ⟨_, impl_quotas_ok cs n hl _ lowO fun A x hx => impl_LowerQuotas1_ok _ _ (mul_bd (A.bd x hx).1 (A.bd x hx).2 A.n0 A.n1) ⟨A.pos, A.le⟩, ?_⟩; simp (config := { maxSteps := 2000000 }) only [go_sem, Nat.reduceBEq, Nat.reduceAdd, Nat.reduceMul, Nat.reduceMod, Nat.reduceLT, Nat.reduceDiv, Nat.reduceSub, Nat.reduceLeDiff, Int.reduceToNat, Int.reduceLT, Int.reduceLE, reduceCtorEq, List.take_nil, List.drop_nil]
def remO (a b : Int) : Int := a.tmod b
theorem impl_RemaindersOf1_ok (a b : Int) (ha : 0 ≤ a ∧ a ≤ 100000000) (hb : 0 < b ∧ b ≤ 6000000) : CallOk Try.prog 81 [.i a, .i b] [(0, .i (remO a b))] := by
  obtain ⟨code0, hcd1, hcd2⟩ := chk_impl_RemaindersOf_1; refine callOk_of Try.func81 hcd1 mo Try.call81 (rs := [4]) (by kernel_rfl) hcd2 (by rw [Try.ntmps81]; simp) (by simp) (by decide) ?_; unfold C_impl_RemaindersOf_1 K_impl_RemaindersOf_1; simp (config := { maxSteps := 2000000 }) only [go_sem, Nat.reduceBEq, Nat.reduceAdd, Nat.reduceMul, Nat.reduceMod, Nat.reduceLT, Nat.reduceDiv, Nat.reduceSub, Nat.reduceLeDiff, Int.reduceToNat, Int.reduceLT, Int.reduceLE, reduceCtorEq, List.take_nil, List.drop_nil]
  have h1 : 0 ≤ a.tdiv b ∧ a.tdiv b ≤ a := ⟨Int.tdiv_nonneg ha.1 (by omega), Int.tdiv_le_self _ ha.1⟩
  have h2 : 0 ≤ (a + b - 1).tdiv b ∧ (a + b - 1).tdiv b ≤ a + b - 1 := ⟨Int.tdiv_nonneg (by omega) (by omega), Int.tdiv_le_self _ (by omega)⟩
  exact ⟨by omega, rfl⟩
theorem impl_RemaindersOf_ok {n1 : Option Bool} (cs : List Int) (n : Int) (hl : cs.length ≤ 1048576) : CallOk Try.prog 25 [.s n1 (ii cs), .i n] [(0, .own 1 none (ii (quoF remO cs n)))] := by
  obtain ⟨code0, hcd1, hcd2⟩ := chk_impl_RemaindersOf; refine callOk_of Try.func25 hcd1 mo Try.call25 (rs := [4]) (by kernel_rfl) hcd2 (by rw [Try.ntmps25]; simp) (by simp) (by decide) ?_; unfold C_impl_RemaindersOf K_impl_RemaindersOf; simp (config := { maxSteps := 2000000 }) only [go_sem, Nat.reduceBEq, Nat.reduceAdd, Nat.reduceMul, Nat.reduceMod, Nat.reduceLT, Nat.reduceDiv, Nat.reduceSub, Nat.reduceLeDiff, Int.reduceToNat, Int.reduceLT, Int.reduceLE, reduceCtorEq, List.take_nil, List.drop_nil]
  refine ⟨_, impl_quotas_ok cs n hl _ remO fun A x hx => impl_RemaindersOf1_ok _ _ (mul_bd (A.bd x hx).1 (A.bd x hx).2 A.n0 A.n1) ⟨A.pos, A.le⟩, ?_⟩; simp (config := { maxSteps := 2000000 }) only [go_sem, Nat.reduceBEq, Nat.reduceAdd, Nat.reduceMul, Nat.reduceMod, Nat.reduceLT, Nat.reduceDiv, Nat.reduceSub, Nat.reduceLeDiff, Int.reduceToNat, Int.reduceLT, Int.reduceLE, reduceCtorEq, List.take_nil, List.drop_nil]
def uppO (a b : Int) : Int := (a + b - 1).tdiv b
theorem impl_UpperQuotas1_ok (a b : Int) (ha : 0 ≤ a ∧ a ≤ 100000000) (hb : 0 < b ∧ b ≤ 6000000) : CallOk Try.prog 80 [.i a, .i b] [(0, .i (uppO a b))] := by
  obtain ⟨code0, hcd1, hcd2⟩ := chk_impl_UpperQuotas_1; refine callOk_of Try.func80 hcd1 mo Try.call80 (rs := [4]) (by kernel_rfl) hcd2 (by rw [Try.ntmps80]; simp) (by simp) (by decide) ?_; unfold C_impl_UpperQuotas_1 K_impl_UpperQuotas_1; simp (config := { maxSteps := 2000000 }) only [go_sem, Nat.reduceBEq, Nat.reduceAdd, Nat.reduceMul, Nat.reduceMod, Nat.reduceLT, Nat.reduceDiv, Nat.reduceSub, Nat.reduceLeDiff, Int.reduceToNat, Int.reduceLT, Int.reduceLE, reduceCtorEq, List.take_nil, List.drop_nil]
  have h1 : 0 ≤ a.tdiv b ∧ a.tdiv b ≤ a := ⟨Int.tdiv_nonneg ha.1 (by omega), Int.tdiv_le_self _ ha.1⟩
  have h2 : 0 ≤ (a + b - 1).tdiv b ∧ (a + b - 1).tdiv b ≤ a + b - 1 := ⟨Int.tdiv_nonneg (by omega) (by omega), Int.tdiv_le_self _ (by omega)⟩
  exact ⟨inR_of (by omega) (by omega), inR_of (by omega) (by omega), by omega, inR_of (by omega) (by omega), rfl⟩
theorem impl_UpperQuotas_ok {n1 : Option Bool} (cs : List Int) (n : Int) (hl : cs.length ≤ 1048576) : CallOk Try.prog 24 [.s n1 (ii cs), .i n] [(0, .own 1 none (ii (quoF uppO cs n)))] := by
  obtain ⟨code0, hcd1, hcd2⟩ := chk_impl_UpperQuotas; refine callOk_of Try.func24 hcd1 mo Try.call24 (rs := [4]) (by kernel_rfl) hcd2 (by rw [Try.ntmps24]; simp) (by simp) (by decide) ?_; unfold C_impl_UpperQuotas K_impl_UpperQuotas; simp (config := { maxSteps := 2000000 }) only [go_sem, Nat.reduceBEq, Nat.reduceAdd, Nat.reduceMul, Nat.reduceMod, Nat.reduceLT, Nat.reduceDiv, Nat.reduceSub, Nat.reduceLeDiff, Int.reduceToNat, Int.reduceLT, Int.reduceLE, reduceCtorEq, List.take_nil, List.drop_nil]
  refine ⟨_, impl_quotas_ok cs n hl _ uppO fun A x hx => impl_UpperQuotas1_ok _ _ (mul_bd (A.bd x hx).1 (A.bd x hx).2 A.n0 A.n1) ⟨A.pos, A.le⟩, ?_⟩; simp (config := { maxSteps := 2000000 }) only [go_sem, Nat.reduceBEq, Nat.reduceAdd, Nat.reduceMul, Nat.reduceMod, Nat.reduceLT, Nat.reduceDiv, Nat.reduceSub, Nat.reduceLeDiff, Int.reduceToNat, Int.reduceLT, Int.reduceLE, reduceCtorEq, List.take_nil, List.drop_nil]
end Go.Proofs.Ytfdoddeccnjcmaa
