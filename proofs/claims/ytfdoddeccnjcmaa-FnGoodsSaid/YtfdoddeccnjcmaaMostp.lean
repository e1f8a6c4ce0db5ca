/- Own work: contracts of functions that the claim reaches. No condition beyond those that each theorem names. -/
import Derived.Test.YtfdoddeccnjcmaaProg
import Derived.Test.YtfdoddeccnjcmaaBest
namespace Go.Proofs.Ytfdoddeccnjcmaa
open Go Go.Vc
set_option maxRecDepth 100000
set_option linter.unusedSimpArgs false
set_option linter.unusedVariables false
/-! The greatest product; the greatest least part. -/
/-- How many of the first j people have something, and the product of what they have. -/
def manyN (vs : List (List Int)) (l : List Int) : Nat → Int
  | 0 => 0
  | j + 1 => if 0 < wo vs l j j then manyN vs l j + 1 else manyN vs l j
def prodN (vs : List (List Int)) (l : List Int) : Nat → Int
  | 0 => 1
  | j + 1 => if 0 < wo vs l j j then prodN vs l j * wo vs l j j else prodN vs l j
theorem many_bd {vs : List (List Int)} {l : List Int} : ∀ {j : Nat}, 0 ≤ manyN vs l j ∧ manyN vs l j ≤ j
  | 0 => by simp [manyN]
  | j + 1 => by
    have := many_bd (vs := vs) (l := l) (j := j)
    simp only [manyN]; split <;> omega
theorem prod_bd {vs : List (List Int)} {l : List Int} (V : Vals vs l.length) : ∀ {j : Nat}, j ≤ vs.length → 1 ≤ prodN vs l j ∧ prodN vs l j ≤ 600 ^ j
  | 0, _ => by simp [prodN]
  | j + 1, h => by
    have h1 := prod_bd V (j := j) (by omega)
    have h2 := wo_bd (k := (j : Int)) V (show j < vs.length by omega)
    simp only [prodN]
    have e : (600 : Int) ^ (j + 1) = 600 ^ j * 600 := Int.pow_succ ..
    rw [e]
    split
    · rename_i hw
      refine ⟨?_, Int.mul_le_mul h1.2 h2.2 h2.1 (by omega)⟩
      have := Int.mul_le_mul h1.1 (show 1 ≤ wo vs l j j by omega) (by omega) (by omega)
      simpa using this
    · omega
theorem prod_le {vs : List (List Int)} {l : List Int} (V : Vals vs l.length) {j : Nat} (h : j ≤ vs.length) : 1 ≤ prodN vs l j ∧ prodN vs l j ≤ 216000000 := by
  have h1 := prod_bd V h
  have n3 := V.n3
  have : (600 : Int) ^ j ≤ 216000000 := by
    have : j = 0 ∨ j = 1 ∨ j = 2 ∨ j = 3 := by omega
    rcases this with rfl | rfl | rfl | rfl <;> decide
  omega
def prodC (vs : List (List Int)) (l : List Int) : List Int := [manyN vs l vs.length, prodN vs l vs.length]
theorem cmpL_2 {a b x y : Int} : 0 < cmpL [a, x] [b, y] ↔ (b < a ∨ (a = b ∧ y < x)) := by
  unfold cmpL
  by_cases h1 : a < b
  · have : cmpI a b = -1 := by simp [cmpI, h1]
    rw [this, if_neg (by omega)]; omega
  · by_cases h2 : b < a
    · have : cmpI a b = 1 := by simp [cmpI, h1, h2]
      rw [this, if_neg (by omega)]; omega
    · have : cmpI a b = 0 := by simp [cmpI, h1, h2]
      rw [this, if_pos rfl, cmpL_1]; omega
def K_impl_MostProduct_1 : List Nat := [0, 1, 3, 4, 5, 6, 7, 9, 10]
def C_impl_MostProduct_1 : C :=
  let ks := K_impl_MostProduct_1
  (.seq
   (.rg 0 [(none, .mkn 3)])
   (.cl ks (.seq
   (.rg 0 [(none, .v 4 .mv [.k (.i 0)]), (none, .v 5 .mv [.k (.i 1)])])
   (.cl ks (.seq
   (.seq
   (.rg 0 [(none, .v 8 .ld [.s 1]), (none, .v 9 .len [.s 8]), (none, .v 10 .mv [.k (.i 0)])])
   (.cl ks (.block 0
   (.loop
   (.seq
   (.rg 0 [(none, .v 11 (.bin .lss) [.s 10, .s 9])])
   (.seq
   (.cond (.s 11)
   .skip
   (.exit 0))
   (.cl ks (.seq
   (.block 1
   (.seq
   (.rg 0 [(none, .v 12 .mv [.s 10]), (none, .tk 6 12)])
   (.cl ks (.seq
   (.rg 0 [(none, .v 13 .ld [.s 1]), (none, .v 14 .mv [.s 0]), (none, .v 15 .mv [.s 6]), (none, .v 16 .mv [.s 6]), (none, .co 17 113 [.s 13, .s 14, .s 15, .s 16]), (none, .tk 7 17)])
   (.cl ks (.seq
   (.rg 0 [(none, .v 18 .mv [.s 7]), (none, .v 19 (.bin .gtr) [.s 18, .k (.i 0)])])
   (.cond (.s 19)
   (.seq
   (.rg 0 [(none, .v 20 .mv [.s 4]), (none, .v 21 (.bin .add) [.s 20, .k (.i 1)]), (none, .tk 4 21)])
   (.cl ks (.rg 0 [(none, .v 22 .mv [.s 5]), (none, .v 23 .mv [.s 7]), (none, .v 24 (.bin .mul) [.s 22, .s 23]), (none, .tk 5 24)])))
   .skip)))))))
   (.cl ks (.rg 0 [(none, .v 25 (.bin .add) [.s 10, .k (.i 1)]), (none, .v 10 .mv [.s 25])]))))))))))
   (.cl ks (.seq
   (.rg 0 [(none, .v 26 .mv [.s 4]), (none, .v 27 .mv [.s 5]), (none, .lit 28 [.s 26, .s 27] 0), (none, .tk 3 28)])
   .ret)))))))

theorem chk_impl_MostProduct_1 : ∃ b, Try.f112.body = some b ∧ chk Try.prog Try.f112.ntmps true C_impl_MostProduct_1 b = true := ⟨_, rfl, by kernel_rfl⟩
def K_impl_MostProduct : List Nat := [0, 1, 2, 3, 1001]
def C_impl_MostProduct : C :=
  let ks := K_impl_MostProduct
  (.seq
   (.rg 0 [(none, .box 1 (.s 0)), (none, .mkn 2), (none, .v 3 .mv [.k (.b false)])])
   (.cl ks (.seq
   (.rg 0 [(none, .v 4 .ld [.s 1]), (none, .v 5 (.clo 112) [.s 1]), (none, .co 6 111 [.s 4, .s 5]), (none, .tk 7 100006), (none, .tk 8 101006), (none, .tk 2 7), (none, .tk 3 8)])
   .ret)))

theorem chk_impl_MostProduct : ∃ b, Try.f48.body = some b ∧ chk Try.prog Try.f48.ntmps true C_impl_MostProduct b = true := ⟨_, rfl, by kernel_rfl⟩
/- spec_l23Product: not in this cut -/
/- spec_MostProduct: not in this cut -/
theorem impl_MostProduct1_ok {n1 n2 : Option Bool} (vs : List (List Int)) (l : List Int) (V : Vals vs l.length) : CallOk Try.prog 112 [.s n2 (ii l), .q [.s n1 (rr vs)] 0] [(0, .own 1 none (ii (prodC vs l)))] := by
  have n3 := V.n3
  obtain ⟨code0, hcd1, hcd2⟩ := chk_impl_MostProduct_1; refine callOk_of Try.func112 hcd1 mo Try.call112 (rs := [3]) (by kernel_rfl) hcd2 (by rw [Try.ntmps112]; simp) (by simp) (by decide) ?_; unfold C_impl_MostProduct_1 K_impl_MostProduct_1; simp (config := { maxSteps := 2000000 }) only [go_sem, Nat.reduceBEq, Nat.reduceAdd, Nat.reduceMul, Nat.reduceMod, Nat.reduceLT, Nat.reduceDiv, Nat.reduceSub, Nat.reduceLeDiff, Int.reduceToNat, Int.reduceLT, Int.reduceLE, reduceCtorEq, List.take_nil, List.drop_nil]
  refine loopN vs.length (fun j => [(0, .t .arg (.s n2 (ii l))), (1, .t .arg (.q [.s n1 (rr vs)] 0)), (4, .i (manyN vs l j)), (5, .i (prodN vs l j)), (9, .i vs.length), (10, .i (j : Nat))]) (fun _ => True) ⟨trivial, by simp (config := { maxSteps := 2000000 }) only [go_sem, Nat.reduceBEq, Nat.reduceAdd, Nat.reduceMul, Nat.reduceMod, Nat.reduceLT, Nat.reduceDiv, Nat.reduceSub, Nat.reduceLeDiff, Int.reduceToNat, Int.reduceLT, Int.reduceLE, reduceCtorEq, List.take_nil, List.drop_nil]; simp [manyN, prodN]⟩ fun j hj _ => ?_
  have hm := many_bd (vs := vs) (l := l) (j := j)
  have hp := prod_le V hj
  simp (config := { maxSteps := 2000000 }) only [go_sem, Nat.reduceBEq, Nat.reduceAdd, Nat.reduceMul, Nat.reduceMod, Nat.reduceLT, Nat.reduceDiv, Nat.reduceSub, Nat.reduceLeDiff, Int.reduceToNat, Int.reduceLT, Int.reduceLE, reduceCtorEq, List.take_nil, List.drop_nil]
  refine ⟨fun hlt => ?_, fun hge => ?_⟩
  · have hj' : j < vs.length := by omega
    have hp1 := prod_le V (show j + 1 ≤ vs.length by omega)
    have hm1 : manyN vs l (j + 1) = if 0 < wo vs l j j then manyN vs l j + 1 else manyN vs l j := rfl
    have hp2 : prodN vs l (j + 1) = if 0 < wo vs l j j then prodN vs l j * wo vs l j j else prodN vs l j := rfl
    refine ⟨_, impl_worth_ok vs l V j j hj', ?_⟩; simp (config := { maxSteps := 2000000 }) only [go_sem, Nat.reduceBEq, Nat.reduceAdd, Nat.reduceMul, Nat.reduceMod, Nat.reduceLT, Nat.reduceDiv, Nat.reduceSub, Nat.reduceLeDiff, Int.reduceToNat, Int.reduceLT, Int.reduceLE, reduceCtorEq, List.take_nil, List.drop_nil]
    refine ⟨fun h => ?_, fun h => ?_⟩
    · rw [if_pos h] at hp2 hm1
      rw [hm1, hp2]
      rw [hp2] at hp1
      exact ⟨inR_of (by omega) (by omega), inR_of (by omega) (by omega), inR_of (by omega) (by omega), hj', rfl, rfl, by simp⟩
    · rw [if_neg h] at hp2 hm1
      rw [hm1, hp2]
      exact ⟨inR_of (by omega) (by omega), hj', rfl, rfl, by simp⟩
  · have : j = vs.length := by omega
    subst this
    exact T.leL_refl _
def mostF (vs : List (List Int)) : List Int := if rectB vs 3 6 100 = true then bstF vs (prodC vs) else []
theorem bst_len {vs : List (List Int)} {c : List Int → List Int} (h : rectB vs 3 6 100 = true) : Vals vs (bstF vs c).length := by
  have V := vals_of h
  have n1' := V.n1
  unfold bstF
  obtain ⟨q, hq⟩ : ∃ q, vs.length ^ (vs.getD 0 []).length = q + 1 := ⟨vs.length ^ (vs.getD 0 []).length - 1, by have : 0 < vs.length ^ (vs.getD 0 []).length := Nat.pow_pos (by omega); omega⟩
  rw [hq]
  obtain ⟨z, _, hz⟩ := bstL_in (c := c) (S := sn 0 vs.length (vs.getD 0 []).length) (k := q)
  rw [hz, sn_len]; exact V
theorem most_len {vs : List (List Int)} : (mostF vs).length ≤ 1048576 := by
  unfold mostF; split
  · rename_i h
    have V := bst_len (c := prodC vs) h
    have := V.m6; omega
  · simp
theorem impl_MostProduct_ok {n1 : Option Bool} (vs : List (List Int)) (hl : vs.length ≤ 1048576) (hr : ∀ r ∈ vs, r.length ≤ 1048576) : CallOk Try.prog 48 [.s n1 (rr vs)] [(0, .tp 2), (100000, .own 1 none (ii (mostF vs))), (101000, .b (rectB vs 3 6 100))] := by
  obtain ⟨code0, hcd1, hcd2⟩ := chk_impl_MostProduct; refine callOk_of Try.func48 hcd1 mo Try.call48 (rs := [2, 3]) (by kernel_rfl) hcd2 (by rw [Try.ntmps48]; simp) (by simp) (by decide) ?_; unfold C_impl_MostProduct K_impl_MostProduct; simp (config := { maxSteps := 2000000 }) only [go_sem, Nat.reduceBEq, Nat.reduceAdd, Nat.reduceMul, Nat.reduceMod, Nat.reduceLT, Nat.reduceDiv, Nat.reduceSub, Nat.reduceLeDiff, Int.reduceToNat, Int.reduceLT, Int.reduceLE, reduceCtorEq, List.take_nil, List.drop_nil]
  cases h0 : rectB vs 3 6 100 with
  | false =>
    refine ⟨_, bestAllocation_no vs 112 _ h0 hl hr, ?_⟩; simp (config := { maxSteps := 2000000 }) only [go_sem, Nat.reduceBEq, Nat.reduceAdd, Nat.reduceMul, Nat.reduceMod, Nat.reduceLT, Nat.reduceDiv, Nat.reduceSub, Nat.reduceLeDiff, Int.reduceToNat, Int.reduceLT, Int.reduceLE, reduceCtorEq, List.take_nil, List.drop_nil]
    simp [mostF, h0]
  | true =>
    have hF : mostF vs = bstF vs (prodC vs) := if_pos h0
    rw [hF]
    refine ⟨_, bestAllocation_ok vs 112 _ (prodC vs) h0 hl hr (fun m l V e _ => ⟨by simp [prodC], impl_MostProduct1_ok vs l (by rw [e]; exact V)⟩), ?_⟩; simp (config := { maxSteps := 2000000 }) only [go_sem, Nat.reduceBEq, Nat.reduceAdd, Nat.reduceMul, Nat.reduceMod, Nat.reduceLT, Nat.reduceDiv, Nat.reduceSub, Nat.reduceLeDiff, Int.reduceToNat, Int.reduceLT, Int.reduceLE, reduceCtorEq, List.take_nil, List.drop_nil]
    omega
end Go.Proofs.Ytfdoddeccnjcmaa
