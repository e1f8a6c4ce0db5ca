/- Own work: contracts of functions that the claim reaches. No condition beyond those that each theorem names. -/
import Derived.Test.YtkmklfdpomkalaaProg
import Derived.Test.YtkmklfdpomkalaaShare
namespace Go.Proofs.Ytkmklfdpomkalaa
open Go Go.Vc
set_option maxRecDepth 100000
set_option linter.unusedSimpArgs false
set_option linter.unusedVariables false
/-! The greatest product; the greatest least part. -/
/-- How many of the first j people have something, and the product of what they have. -/
def manyN (vs : List (List Int)) (l : List Int) : Nat → Int
  | 0 => 0
  | j + 1 => if 0 < wo vs l j j then manyN vs l j + 1 else manyN vs l j
def prodN (vs : List (List Int)) (l : List Int) : Nat → Int
  | 0 => 1
  | j + 1 => if 0 < wo vs l j j then prodN vs l j * wo vs l j j else prodN vs l j
theorem many_bd {vs : List (List Int)} {l : List Int} : ∀ {j : Nat}, 0 ≤ manyN vs l j ∧ manyN vs l j ≤ j
  | 0 => by simp [manyN]
  | j + 1 => by
    have := many_bd (vs := vs) (l := l) (j := j)
    simp only [manyN]; split <;> omega
theorem prod_bd {vs : List (List Int)} {l : List Int} (V : Vals vs l.length) : ∀ {j : Nat}, j ≤ vs.length → 1 ≤ prodN vs l j ∧ prodN vs l j ≤ 600 ^ j
  | 0, _ => by simp [prodN]
  | j + 1, h => by
    have h1 := prod_bd V (j := j) (by omega)
    have h2 := wo_bd (k := (j : Int)) V (show j < vs.length by omega)
    simp only [prodN]
    have e : (600 : Int) ^ (j + 1) = 600 ^ j * 600 := Int.pow_succ ..
    rw [e]
    split
    · rename_i hw
      refine ⟨?_, Int.mul_le_mul h1.2 h2.2 h2.1 (by omega)⟩
      have := Int.mul_le_mul h1.1 (show 1 ≤ wo vs l j j by omega) (by omega) (by omega)
      simpa using this
    · omega
theorem prod_le {vs : List (List Int)} {l : List Int} (V : Vals vs l.length) {j : Nat} (h : j ≤ vs.length) : 1 ≤ prodN vs l j ∧ prodN vs l j ≤ 216000000 := by
  have h1 := prod_bd V h
  have n3 := V.n3
  have : (600 : Int) ^ j ≤ 216000000 := by
    have : j = 0 ∨ j = 1 ∨ j = 2 ∨ j = 3 := by omega
    rcases this with rfl | rfl | rfl | rfl <;> decide
  omega
def prodC (vs : List (List Int)) (l : List Int) : List Int := [manyN vs l vs.length, prodN vs l vs.length]
theorem cmpL_2 {a b x y : Int} : 0 < cmpL [a, x] [b, y] ↔ (b < a ∨ (a = b ∧ y < x)) := by
  unfold cmpL
  by_cases h1 : a < b
  · have : cmpI a b = -1 := by simp [cmpI, h1]
    rw [this, if_neg (by omega)]; omega
  · by_cases h2 : b < a
    · have : cmpI a b = 1 := by simp [cmpI, h1, h2]
      rw [this, if_neg (by omega)]; omega
    · have : cmpI a b = 0 := by simp [cmpI, h1, h2]
      rw [this, if_pos rfl, cmpL_1]; omega
def K_impl_MostProduct_1 : List Nat := [0, 1, 3, 4, 5, 6, 7, 9, 10]
def C_impl_MostProduct_1 : C :=
  let ks := K_impl_MostProduct_1
  (.seq
    (.rg 0 [(none, .mkn 3)])
    (.cl ks (.seq
      (.rg 0 [(none, .v 4 .mv [.k (.i 0)]), (none, .v 5 .mv [.k (.i 1)])])
      (.cl ks (.seq
        (.seq
          (.rg 0 [(none, .v 8 .ld [.s 1]), (none, .v 9 .len [.s 8]), (none, .v 10 .mv [.k (.i 0)])])
          (.cl ks (.block 0
            (.loop
              (.seq
                (.rg 0 [(none, .v 11 (.bin .lss) [.s 10, .s 9])])
                (.seq
                  (.cond (.s 11)
                    .skip
                    (.exit 0))
                  (.cl ks (.seq
                    (.block 1
                      (.seq
                        (.rg 0 [(none, .v 12 .mv [.s 10]), (none, .tk 6 12)])
                        (.cl ks (.seq
                          (.rg 0 [(none, .v 13 .ld [.s 1]), (none, .v 14 .mv [.s 0]), (none, .v 15 .mv [.s 6]), (none, .v 16 .mv [.s 6]), (none, .co 17 60 [.s 13, .s 14, .s 15, .s 16]), (none, .tk 7 17)])
                          (.cl ks (.seq
                            (.rg 0 [(none, .v 18 .mv [.s 7]), (none, .v 19 (.bin .gtr) [.s 18, .k (.i 0)])])
                            (.cond (.s 19)
                              (.seq
                                (.rg 0 [(none, .v 20 .mv [.s 4]), (none, .v 21 (.bin .add) [.s 20, .k (.i 1)]), (none, .tk 4 21)])
                                (.cl ks (.rg 0 [(none, .v 22 .mv [.s 5]), (none, .v 23 .mv [.s 7]), (none, .v 24 (.bin .mul) [.s 22, .s 23]), (none, .tk 5 24)])))
                              .skip)))))))
                    (.cl ks (.rg 0 [(none, .v 25 (.bin .add) [.s 10, .k (.i 1)]), (none, .v 10 .mv [.s 25])]))))))))))
        (.cl ks (.seq
          (.rg 0 [(none, .v 26 .mv [.s 4]), (none, .v 27 .mv [.s 5]), (none, .lit 28 [.s 26, .s 27] 0), (none, .tk 3 28)])
          .ret)))))))

theorem chk_impl_MostProduct_1 : ∃ b, Try.f59.body = some b ∧ chk Try.prog Try.f59.ntmps true C_impl_MostProduct_1 b = true := ⟨_, rfl, by kernel_rfl⟩
def K_impl_MostProduct : List Nat := [0, 1, 2, 3, 1001]
def C_impl_MostProduct : C :=
  let ks := K_impl_MostProduct
  (.seq
    (.rg 0 [(none, .box 1 (.s 0)), (none, .mkn 2), (none, .v 3 .mv [.k (.b false)])])
    (.cl ks (.seq
      (.rg 0 [(none, .v 4 .ld [.s 1]), (none, .v 5 (.clo 59) [.s 1]), (none, .co 6 49 [.s 4, .s 5]), (none, .tk 7 100006), (none, .tk 8 101006), (none, .tk 2 7), (none, .tk 3 8)])
      .ret)))

theorem chk_impl_MostProduct : ∃ b, Try.f30.body = some b ∧ chk Try.prog Try.f30.ntmps true C_impl_MostProduct b = true := ⟨_, rfl, by kernel_rfl⟩
def K_spec_l23Product : List Nat := [0, 1, 4, 5, 6, 7, 8, 9, 11, 12]
def C_spec_l23Product : C :=
  let ks := K_spec_l23Product
  (.seq
    (.rg 0 [(none, .v 4 .mv [.k (.i 0)]), (none, .v 5 .mv [.k (.i 0)])])
    (.cl ks (.seq
      (.rg 0 [(none, .v 6 .mv [.k (.i 0)])])
      (.cl ks (.seq
        (.rg 0 [(none, .v 7 .mv [.k (.i 1)])])
        (.cl ks (.seq
          (.seq
            (.rg 0 [(none, .v 10 .mv [.s 0]), (none, .v 11 .len [.s 10]), (none, .v 12 .mv [.k (.i 0)])])
            (.cl ks (.block 0
              (.loop
                (.seq
                  (.rg 0 [(none, .v 13 (.bin .lss) [.s 12, .s 11])])
                  (.seq
                    (.cond (.s 13)
                      .skip
                      (.exit 0))
                    (.cl ks (.seq
                      (.block 1
                        (.seq
                          (.rg 0 [(none, .v 14 .mv [.s 12]), (none, .tk 8 14)])
                          (.cl ks (.seq
                            (.rg 0 [(none, .v 15 .mv [.s 0]), (none, .v 16 .mv [.s 1]), (none, .v 17 .mv [.s 8]), (none, .v 18 .mv [.s 8]), (none, .co 19 61 [.s 15, .s 16, .s 17, .s 18]), (none, .tk 9 19)])
                            (.cl ks (.seq
                              (.rg 0 [(none, .v 20 .mv [.s 9]), (none, .v 21 (.bin .gtr) [.s 20, .k (.i 0)])])
                              (.cond (.s 21)
                                (.seq
                                  (.rg 0 [(none, .v 22 .mv [.s 6]), (none, .v 23 (.bin .add) [.s 22, .k (.i 1)]), (none, .tk 6 23)])
                                  (.cl ks (.rg 0 [(none, .v 24 .mv [.s 7]), (none, .v 25 .mv [.s 9]), (none, .v 26 (.bin .mul) [.s 24, .s 25]), (none, .tk 7 26)])))
                                .skip)))))))
                      (.cl ks (.rg 0 [(none, .v 27 (.bin .add) [.s 12, .k (.i 1)]), (none, .v 12 .mv [.s 27])]))))))))))
          (.cl ks (.seq
            (.rg 0 [(none, .v 28 .mv [.s 6]), (none, .v 29 .mv [.s 7]), (none, .tk 4 28), (none, .tk 5 29)])
            .ret)))))))))

theorem chk_spec_l23Product : ∃ b, Try.f58.body = some b ∧ chk Try.prog Try.f58.ntmps true C_spec_l23Product b = true := ⟨_, rfl, by kernel_rfl⟩
def K_spec_MostProduct : List Nat := [0, 2, 3, 4, 6, 7, 8, 9, 10, 16, 17, 18]
def C_spec_MostProduct : C :=
  let ks := K_spec_MostProduct
  (.seq
    (.rg 0 [(none, .mkn 2), (none, .v 3 .mv [.k (.b false)])])
    (.cl ks (.seq
      (.seq
        (.rg 0 [(none, .v 11 .mv [.s 0]), (none, .co 12 39 [.s 11]), (none, .v 13 .not [.s 12])])
        (.cond (.s 13)
          (.seq
            (.rg 0 [(none, .mkn 2), (none, .v 3 .mv [.k (.b false)])])
            .ret)
          .skip))
      (.cl ks (.seq
        (.rg 0 [(none, .lit 14 [] 0), (none, .tk 4 14)])
        (.cl ks (.seq
          (.seq
            (.rg 0 [(none, .v 15 .mv [.s 0]), (none, .co 16 40 [.s 15]), (none, .v 17 .len [.s 16]), (none, .v 18 .mv [.k (.i 0)])])
            (.cl ks (.block 0
              (.loop
                (.seq
                  (.rg 0 [(none, .v 19 (.bin .lss) [.s 18, .s 17])])
                  (.seq
                    (.cond (.s 19)
                      .skip
                      (.exit 0))
                    (.cl ks (.seq
                      (.block 1
                        (.seq
                          (.rg 0 [(none, .v 20 .idx [.s 16, .s 18]), (none, .v 21 .lde [.s 20]), (none, .tk 6 21)])
                          (.cl ks (.seq
                            (.rg 0 [(none, .v 23 .mv [.s 0]), (none, .v 24 .mv [.s 6]), (none, .co 25 58 [.s 23, .s 24]), (none, .tk 22 25), (none, .tk 26 100022), (none, .tk 27 101022), (none, .tk 7 26), (none, .tk 8 27)])
                            (.cl ks (.seq
                              (.seq
                                (.rg 0 [(none, .v 28 .mv [.s 4]), (none, .v 29 .len [.s 28]), (none, .v 30 (.bin .eql) [.s 29, .k (.i 0)])])
                                (.cond (.s 30)
                                  (.rg 0 [(none, .v 31 .mv [.s 6]), (none, .tkr 31), (none, .tk 4 31)])
                                  .skip))
                              (.cl ks (.seq
                                (.rg 0 [(none, .v 33 .mv [.s 0]), (none, .v 34 .mv [.s 4]), (none, .co 35 58 [.s 33, .s 34]), (none, .tk 32 35), (none, .tk 36 100032), (none, .tk 37 101032), (none, .tk 9 36), (none, .tk 10 37)])
                                (.cl ks (.seq
                                  (.rg 0 [(none, .v 38 .mv [.s 7]), (none, .v 39 .mv [.s 9]), (none, .v 40 (.bin .gtr) [.s 38, .s 39]), (none, .v 41 .mv [.s 40]), (some (41, false), .v 42 .mv [.s 7]), (some (41, false), .v 43 .mv [.s 9]), (some (41, false), .v 44 (.bin .eql) [.s 42, .s 43]), (some (41, false), .v 45 .mv [.s 44]), (some (45, true), .v 46 .mv [.s 8]), (some (45, true), .v 47 .mv [.s 10]), (some (45, true), .v 48 (.bin .gtr) [.s 46, .s 47]), (some (41, false), .v 49 .pick [.s 45, .s 48, .k (.b false)]), (none, .v 50 .pick [.s 41, .k (.b true), .s 49])])
                                  (.cond (.s 50)
                                    (.rg 0 [(none, .v 51 .mv [.s 6]), (none, .tkr 51), (none, .tk 4 51)])
                                    .skip)))))))))))
                      (.cl ks (.rg 0 [(none, .v 52 (.bin .add) [.s 18, .k (.i 1)]), (none, .v 18 .mv [.s 52])]))))))))))
          (.cl ks (.seq
            (.rg 0 [(none, .v 53 .mv [.s 4]), (none, .tk 2 53), (none, .v 3 .mv [.k (.b true)])])
            .ret)))))))))

theorem chk_spec_MostProduct : ∃ b, Try.f29.body = some b ∧ chk Try.prog Try.f29.ntmps true C_spec_MostProduct b = true := ⟨_, rfl, by kernel_rfl⟩
theorem impl_MostProduct1_ok {n1 n2 : Option Bool} (vs : List (List Int)) (l : List Int) (V : Vals vs l.length) : CallOk Try.prog 59 [.s n2 (ii l), .q [.s n1 (rr vs)] 0] [(0, .own 1 none (ii (prodC vs l)))] := by
  have n3 := V.n3
  obtain ⟨code0, hcd1, hcd2⟩ := chk_impl_MostProduct_1; refine callOk_of Try.func59 hcd1 mo Try.call59 (rs := [3]) (by kernel_rfl) hcd2 (by rw [Try.ntmps59]; simp) (by simp) (by decide) ?_; unfold C_impl_MostProduct_1 K_impl_MostProduct_1; simp (config := { maxSteps := 2000000 }) only [go_sem, Nat.reduceBEq, Nat.reduceAdd, Nat.reduceMul, Nat.reduceMod, Nat.reduceLT, Nat.reduceDiv, Nat.reduceSub, Nat.reduceLeDiff, Int.reduceToNat, Int.reduceLT, Int.reduceLE, reduceCtorEq, List.take_nil, List.drop_nil]
  refine loopN vs.length (fun j => [(0, .t .arg (.s n2 (ii l))), (1, .t .arg (.q [.s n1 (rr vs)] 0)), (4, .i (manyN vs l j)), (5, .i (prodN vs l j)), (9, .i vs.length), (10, .i (j : Nat))]) (fun _ => True) ⟨trivial, by simp (config := { maxSteps := 2000000 }) only [go_sem, Nat.reduceBEq, Nat.reduceAdd, Nat.reduceMul, Nat.reduceMod, Nat.reduceLT, Nat.reduceDiv, Nat.reduceSub, Nat.reduceLeDiff, Int.reduceToNat, Int.reduceLT, Int.reduceLE, reduceCtorEq, List.take_nil, List.drop_nil]; simp [manyN, prodN]⟩ fun j hj _ => ?_
  have hm := many_bd (vs := vs) (l := l) (j := j)
  have hp := prod_le V hj
  simp (config := { maxSteps := 2000000 }) only [go_sem, Nat.reduceBEq, Nat.reduceAdd, Nat.reduceMul, Nat.reduceMod, Nat.reduceLT, Nat.reduceDiv, Nat.reduceSub, Nat.reduceLeDiff, Int.reduceToNat, Int.reduceLT, Int.reduceLE, reduceCtorEq, List.take_nil, List.drop_nil]
  refine ⟨fun hlt => ?_, fun hge => ?_⟩
  · have hj' : j < vs.length := by omega
    have hp1 := prod_le V (show j + 1 ≤ vs.length by omega)
    have hm1 : manyN vs l (j + 1) = if 0 < wo vs l j j then manyN vs l j + 1 else manyN vs l j := rfl
    have hp2 : prodN vs l (j + 1) = if 0 < wo vs l j j then prodN vs l j * wo vs l j j else prodN vs l j := rfl
    refine ⟨_, impl_worth_ok vs l V j j hj', ?_⟩; simp (config := { maxSteps := 2000000 }) only [go_sem, Nat.reduceBEq, Nat.reduceAdd, Nat.reduceMul, Nat.reduceMod, Nat.reduceLT, Nat.reduceDiv, Nat.reduceSub, Nat.reduceLeDiff, Int.reduceToNat, Int.reduceLT, Int.reduceLE, reduceCtorEq, List.take_nil, List.drop_nil]
    refine ⟨fun h => ?_, fun h => ?_⟩
    · rw [if_pos h] at hp2 hm1
      rw [hm1, hp2]
      rw [hp2] at hp1
      exact ⟨inR_of (by omega) (by omega), inR_of (by omega) (by omega), inR_of (by omega) (by omega), hj', rfl, rfl, by simp⟩
    · rw [if_neg h] at hp2 hm1
      rw [hm1, hp2]
      exact ⟨inR_of (by omega) (by omega), hj', rfl, rfl, by simp⟩
  · have : j = vs.length := by omega
    subst this
    exact T.leL_refl _
theorem spec_l23Product_ok {n1 n2 : Option Bool} (vs : List (List Int)) (l : List Int) (V : Vals vs l.length) : CallOk Try.prog 58 [.s n1 (rr vs), .s n2 (ii l)] [(0, .tp 2), (100000, .i (manyN vs l vs.length)), (101000, .i (prodN vs l vs.length))] := by
  have n3 := V.n3
  obtain ⟨code0, hcd1, hcd2⟩ := chk_spec_l23Product; refine callOk_of Try.func58 hcd1 mo Try.call58 (rs := [4, 5]) (by kernel_rfl) hcd2 (by rw [Try.ntmps58]; simp) (by simp) (by decide) ?_; unfold C_spec_l23Product K_spec_l23Product; simp (config := { maxSteps := 2000000 }) only [go_sem, Nat.reduceBEq, Nat.reduceAdd, Nat.reduceMul, Nat.reduceMod, Nat.reduceLT, Nat.reduceDiv, Nat.reduceSub, Nat.reduceLeDiff, Int.reduceToNat, Int.reduceLT, Int.reduceLE, reduceCtorEq, List.take_nil, List.drop_nil]
  refine loopN vs.length (fun j => [(0, .t .arg (.s n1 (rr vs))), (1, .t .arg (.s n2 (ii l))), (6, .i (manyN vs l j)), (7, .i (prodN vs l j)), (11, .i vs.length), (12, .i (j : Nat))]) (fun _ => True) ⟨trivial, by simp (config := { maxSteps := 2000000 }) only [go_sem, Nat.reduceBEq, Nat.reduceAdd, Nat.reduceMul, Nat.reduceMod, Nat.reduceLT, Nat.reduceDiv, Nat.reduceSub, Nat.reduceLeDiff, Int.reduceToNat, Int.reduceLT, Int.reduceLE, reduceCtorEq, List.take_nil, List.drop_nil]; simp [manyN, prodN]⟩ fun j hj _ => ?_
  have hm := many_bd (vs := vs) (l := l) (j := j)
  have hp := prod_le V hj
  simp (config := { maxSteps := 2000000 }) only [go_sem, Nat.reduceBEq, Nat.reduceAdd, Nat.reduceMul, Nat.reduceMod, Nat.reduceLT, Nat.reduceDiv, Nat.reduceSub, Nat.reduceLeDiff, Int.reduceToNat, Int.reduceLT, Int.reduceLE, reduceCtorEq, List.take_nil, List.drop_nil]
  refine ⟨fun hlt => ?_, fun hge => ?_⟩
  · have hj' : j < vs.length := by omega
    have hp1 := prod_le V (show j + 1 ≤ vs.length by omega)
    have hm1 : manyN vs l (j + 1) = if 0 < wo vs l j j then manyN vs l j + 1 else manyN vs l j := rfl
    have hp2 : prodN vs l (j + 1) = if 0 < wo vs l j j then prodN vs l j * wo vs l j j else prodN vs l j := rfl
    refine ⟨_, spec_l23Worth_ok vs l V j j hj', ?_⟩; simp (config := { maxSteps := 2000000 }) only [go_sem, Nat.reduceBEq, Nat.reduceAdd, Nat.reduceMul, Nat.reduceMod, Nat.reduceLT, Nat.reduceDiv, Nat.reduceSub, Nat.reduceLeDiff, Int.reduceToNat, Int.reduceLT, Int.reduceLE, reduceCtorEq, List.take_nil, List.drop_nil]
    refine ⟨fun h => ?_, fun h => ?_⟩
    · rw [if_pos h] at hp2 hm1
      rw [hm1, hp2]
      rw [hp2] at hp1
      exact ⟨inR_of (by omega) (by omega), inR_of (by omega) (by omega), inR_of (by omega) (by omega), hj', rfl, rfl, by simp⟩
    · rw [if_neg h] at hp2 hm1
      rw [hm1, hp2]
      exact ⟨inR_of (by omega) (by omega), hj', rfl, rfl, by simp⟩
  · have : j = vs.length := by omega
    subst this
    exact ⟨by omega, rfl, rfl⟩
def mostF (vs : List (List Int)) : List Int := if rectB vs 3 6 100 = true then bstF vs (prodC vs) else []
theorem bst_len {vs : List (List Int)} {c : List Int → List Int} (h : rectB vs 3 6 100 = true) : Vals vs (bstF vs c).length := by
  have V := vals_of h
  have n1' := V.n1
  unfold bstF
  obtain ⟨q, hq⟩ : ∃ q, vs.length ^ (vs.getD 0 []).length = q + 1 := ⟨vs.length ^ (vs.getD 0 []).length - 1, by have : 0 < vs.length ^ (vs.getD 0 []).length := Nat.pow_pos (by omega); omega⟩
  rw [hq]
  obtain ⟨z, _, hz⟩ := bstL_in (c := c) (S := sn 0 vs.length (vs.getD 0 []).length) (k := q)
  rw [hz, sn_len]; exact V
theorem most_len {vs : List (List Int)} : (mostF vs).length ≤ 1048576 := by
  unfold mostF; split
  · rename_i h
    have V := bst_len (c := prodC vs) h
    have := V.m6; omega
  · simp
theorem impl_MostProduct_ok {n1 : Option Bool} (vs : List (List Int)) (hl : vs.length ≤ 1048576) (hr : ∀ r ∈ vs, r.length ≤ 1048576) : CallOk Try.prog 30 [.s n1 (rr vs)] [(0, .tp 2), (100000, .own 1 none (ii (mostF vs))), (101000, .b (rectB vs 3 6 100))] := by
  obtain ⟨code0, hcd1, hcd2⟩ := chk_impl_MostProduct; refine callOk_of Try.func30 hcd1 mo Try.call30 (rs := [2, 3]) (by kernel_rfl) hcd2 (by rw [Try.ntmps30]; simp) (by simp) (by decide) ?_; unfold C_impl_MostProduct K_impl_MostProduct; simp (config := { maxSteps := 2000000 }) only [go_sem, Nat.reduceBEq, Nat.reduceAdd, Nat.reduceMul, Nat.reduceMod, Nat.reduceLT, Nat.reduceDiv, Nat.reduceSub, Nat.reduceLeDiff, Int.reduceToNat, Int.reduceLT, Int.reduceLE, reduceCtorEq, List.take_nil, List.drop_nil]
  cases h0 : rectB vs 3 6 100 with
  | false =>
    refine ⟨_, bestAllocation_no vs 59 _ h0 hl hr, ?_⟩; simp (config := { maxSteps := 2000000 }) only [go_sem, Nat.reduceBEq, Nat.reduceAdd, Nat.reduceMul, Nat.reduceMod, Nat.reduceLT, Nat.reduceDiv, Nat.reduceSub, Nat.reduceLeDiff, Int.reduceToNat, Int.reduceLT, Int.reduceLE, reduceCtorEq, List.take_nil, List.drop_nil]
    simp [mostF, h0]
  | true =>
    have hF : mostF vs = bstF vs (prodC vs) := if_pos h0
    rw [hF]
    refine ⟨_, bestAllocation_ok vs 59 _ (prodC vs) h0 hl hr (fun m l V e _ => ⟨by simp [prodC], impl_MostProduct1_ok vs l (by rw [e]; exact V)⟩), ?_⟩; simp (config := { maxSteps := 2000000 }) only [go_sem, Nat.reduceBEq, Nat.reduceAdd, Nat.reduceMul, Nat.reduceMod, Nat.reduceLT, Nat.reduceDiv, Nat.reduceSub, Nat.reduceLeDiff, Int.reduceToNat, Int.reduceLT, Int.reduceLE, reduceCtorEq, List.take_nil, List.drop_nil]
    omega
theorem spec_MostProduct_ok {n1 : Option Bool} (vs : List (List Int)) (hl : vs.length ≤ 1048576) (hr : ∀ r ∈ vs, r.length ≤ 1048576) : CallOk Try.prog 29 [.s n1 (rr vs)] [(0, .tp 2), (100000, .own 1 none (ii (mostF vs))), (101000, .b (rectB vs 3 6 100))] := by
  obtain ⟨code0, hcd1, hcd2⟩ := chk_spec_MostProduct; refine callOk_of Try.func29 hcd1 mo Try.call29 (rs := [2, 3]) (by kernel_rfl) hcd2 (by rw [Try.ntmps29]; simp) (by simp) (by decide) ?_; unfold C_spec_MostProduct K_spec_MostProduct; simp (config := { maxSteps := 2000000 }) only [go_sem, Nat.reduceBEq, Nat.reduceAdd, Nat.reduceMul, Nat.reduceMod, Nat.reduceLT, Nat.reduceDiv, Nat.reduceSub, Nat.reduceLeDiff, Int.reduceToNat, Int.reduceLT, Int.reduceLE, reduceCtorEq, List.take_nil, List.drop_nil]
  refine ⟨_, spec_ValuesOk_ok vs hl hr, ?_⟩; simp (config := { maxSteps := 2000000 }) only [go_sem, Nat.reduceBEq, Nat.reduceAdd, Nat.reduceMul, Nat.reduceMod, Nat.reduceLT, Nat.reduceDiv, Nat.reduceSub, Nat.reduceLeDiff, Int.reduceToNat, Int.reduceLT, Int.reduceLE, reduceCtorEq, List.take_nil, List.drop_nil]
  refine ⟨fun h0 => by simp [mostF, h0], fun h0 => ?_⟩
  have hF : mostF vs = bstF vs (prodC vs) := if_pos h0
  have V := vals_of h0
  have n1' := V.n1
  have n3 := V.n3
  rw [hF, h0]
  unfold bstF
  revert V
  generalize hm : (vs.getD 0 []).length = m
  intro V
  have m6 := V.m6
  have m1 := V.m1
  have hN := pow_bd n1' n3 m6
  refine ⟨_, spec_l23All_ok vs m V, ?_⟩; simp (config := { maxSteps := 2000000 }) only [go_sem, Nat.reduceBEq, Nat.reduceAdd, Nat.reduceMul, Nat.reduceMod, Nat.reduceLT, Nat.reduceDiv, Nat.reduceSub, Nat.reduceLeDiff, Int.reduceToNat, Int.reduceLT, Int.reduceLE, reduceCtorEq, List.take_nil, List.drop_nil]
  rw [allP_len]
  have hP : ∀ j, Vals vs (sn 0 vs.length m j).length := fun j => by rw [sn_len]; exact V
  have hlt : ∀ a b, 0 < cmpL (prodC vs a) (prodC vs b) ↔ (manyN vs b vs.length < manyN vs a vs.length ∨ (manyN vs a vs.length = manyN vs b vs.length ∧ prodN vs b vs.length < prodN vs a vs.length)) := fun a b => cmpL_2
  refine loopN (vs.length ^ m) (fun j => [(0, .t .arg (.s n1 (rr vs))), (4, .own 1 none (ii (bstL (prodC vs) (sn 0 vs.length m) j))), (16, .own 1 none (hols j (allP vs.length m (vs.length ^ m)))), (17, .i (vs.length ^ m : Nat)), (18, .i (j : Nat))]) (fun _ => True) ⟨trivial, by simp (config := { maxSteps := 2000000 }) only [go_sem, Nat.reduceBEq, Nat.reduceAdd, Nat.reduceMul, Nat.reduceMod, Nat.reduceLT, Nat.reduceDiv, Nat.reduceSub, Nat.reduceLeDiff, Int.reduceToNat, Int.reduceLT, Int.reduceLE, reduceCtorEq, List.take_nil, List.drop_nil]; simp [bstL]⟩ fun j hj _ => ?_
  simp (config := { maxSteps := 2000000 }) only [go_sem, Nat.reduceBEq, Nat.reduceAdd, Nat.reduceMul, Nat.reduceMod, Nat.reduceLT, Nat.reduceDiv, Nat.reduceSub, Nat.reduceLeDiff, Int.reduceToNat, Int.reduceLT, Int.reduceLE, reduceCtorEq, List.take_nil, List.drop_nil]
  refine ⟨fun hlt2 => ?_, fun hge => ?_⟩
  · have hj' : j < vs.length ^ m := by omega
    have hg := hols_get (k := j) (A := allP vs.length m (vs.length ^ m)) (by rw [allP_len]; exact hj')
    rw [allP_get hj'] at hg
    have e1 : bstL (prodC vs) (sn 0 vs.length m) (j + 1) = if j = 0 ∨ 0 < cmpL (prodC vs (sn 0 vs.length m j)) (prodC vs (bstL (prodC vs) (sn 0 vs.length m) j)) then sn 0 vs.length m j else bstL (prodC vs) (sn 0 vs.length m) j := by rw [bstL]
    rw [allP_len]
    refine ⟨by omega, hj', hj', ?_⟩
    rw [hg]
    refine ⟨_, spec_l23Product_ok vs _ (hP j), ?_⟩
    simp (config := { maxSteps := 2000000 }) only [go_sem, Nat.reduceBEq, Nat.reduceAdd, Nat.reduceMul, Nat.reduceMod, Nat.reduceLT, Nat.reduceDiv, Nat.reduceSub, Nat.reduceLeDiff, Int.reduceToNat, Int.reduceLT, Int.reduceLE, reduceCtorEq, List.take_nil, List.drop_nil, hg]
    refine ⟨fun h0 => ?_, fun h0 => ?_⟩
    · have h0 : j = 0 := by
        rcases j with _ | j
        · rfl
        · obtain ⟨z, _, hz⟩ := bstL_in (c := prodC vs) (S := sn 0 vs.length m) (k := j)
          rw [hz, sn_len] at h0; omega
      rw [allP_len]
      refine ⟨hj', ?_⟩
      refine ⟨_, spec_l23Product_ok vs _ (hP j), ?_⟩; simp (config := { maxSteps := 2000000 }) only [go_sem, Nat.reduceBEq, Nat.reduceAdd, Nat.reduceMul, Nat.reduceMod, Nat.reduceLT, Nat.reduceDiv, Nat.reduceSub, Nat.reduceLeDiff, Int.reduceToNat, Int.reduceLT, Int.reduceLE, reduceCtorEq, List.take_nil, List.drop_nil]
      refine ⟨fun _ => ⟨fun h => absurd h (by omega), fun _ => ?_⟩, fun h => absurd h (by omega)⟩
      exact ⟨inR_of (by omega) (by omega), hj', by rw [e1, if_pos (.inl h0)], by simp⟩
    · obtain ⟨q, rfl⟩ : ∃ q, j = q + 1 := ⟨j - 1, by rcases j with _ | j; simp [bstL] at h0; omega⟩
      obtain ⟨z, hz1, hz⟩ := bstL_in (c := prodC vs) (S := sn 0 vs.length m) (k := q)
      refine ⟨_, spec_l23Product_ok vs _ (by rw [hz]; exact hP z), ?_⟩
      simp (config := { maxSteps := 2000000 }) only [go_sem, Nat.reduceBEq, Nat.reduceAdd, Nat.reduceMul, Nat.reduceMod, Nat.reduceLT, Nat.reduceDiv, Nat.reduceSub, Nat.reduceLeDiff, Int.reduceToNat, Int.reduceLT, Int.reduceLE, reduceCtorEq, List.take_nil, List.drop_nil, hg]
      rw [allP_len]
      have ln := hlt (sn 0 vs.length m (q + 1)) (bstL (prodC vs) (sn 0 vs.length m) (q + 1))
      refine ⟨fun h2 => ⟨fun h3 => ⟨fun h4 => ?_, fun h4 => ?_⟩, fun h3 => ?_⟩, fun h2 => ?_⟩
      · exact ⟨hj', inR_of (by omega) (by omega), hj', by rw [e1, if_pos (.inr (ln.2 (.inr ⟨h3, h4⟩)))], by simp⟩
      · exact ⟨inR_of (by omega) (by omega), hj', by rw [e1, if_neg (fun h' => by rcases h' with h' | h'; omega; rcases ln.1 h' with h5 | h5; exact h2 h5; exact h4 h5.2)], by simp⟩
      · exact ⟨inR_of (by omega) (by omega), hj', by rw [e1, if_neg (fun h' => by rcases h' with h' | h'; omega; rcases ln.1 h' with h5 | h5; exact h2 h5; exact h3 h5.1)], by simp⟩
      · exact ⟨hj', inR_of (by omega) (by omega), hj', by rw [e1, if_pos (.inr (ln.2 (.inl h2)))], by simp⟩
  · have : j = vs.length ^ m := by omega
    subst this
    exact ⟨by omega, rfl⟩
def K_impl_BestLeastPart_1 : List Nat := [0, 1, 3]
def C_impl_BestLeastPart_1 : C :=
  let ks := K_impl_BestLeastPart_1
  (.seq
    (.rg 0 [(none, .mkn 3)])
    (.cl ks (.seq
      (.rg 0 [(none, .v 4 .ld [.s 1]), (none, .v 5 .mv [.s 0]), (none, .co 6 51 [.s 4, .s 5]), (none, .lit 7 [.s 6] 0), (none, .tk 3 7)])
      .ret)))

theorem chk_impl_BestLeastPart_1 : ∃ b, Try.f50.body = some b ∧ chk Try.prog Try.f50.ntmps true C_impl_BestLeastPart_1 b = true := ⟨_, rfl, by kernel_rfl⟩
def K_impl_BestLeastPart : List Nat := [0, 1, 2, 3, 4, 1001]
def C_impl_BestLeastPart : C :=
  let ks := K_impl_BestLeastPart
  (.seq
    (.rg 0 [(none, .box 1 (.s 0)), (none, .v 2 .mv [.k (.i 0)])])
    (.cl ks (.seq
      (.rg 0 [(none, .v 6 .ld [.s 1]), (none, .v 7 (.clo 50) [.s 1]), (none, .co 8 49 [.s 6, .s 7]), (none, .tk 5 8), (none, .tk 9 100005), (none, .tk 10 101005), (none, .tk 3 9), (none, .tk 4 10)])
      (.cl ks (.seq
        (.seq
          (.rg 0 [(none, .v 11 .mv [.s 4]), (none, .v 12 .not [.s 11])])
          (.cond (.s 12)
            (.seq
              (.rg 0 [(none, .v 2 .mv [.k (.i (-1))])])
              .ret)
            .skip))
        (.cl ks (.seq
          (.rg 0 [(none, .v 13 .ld [.s 1]), (none, .v 14 .mv [.s 3]), (none, .co 15 51 [.s 13, .s 14]), (none, .tk 2 15)])
          .ret)))))))

theorem chk_impl_BestLeastPart : ∃ b, Try.f20.body = some b ∧ chk Try.prog Try.f20.ntmps true C_impl_BestLeastPart b = true := ⟨_, rfl, by kernel_rfl⟩
def K_spec_BestLeastPart : List Nat := [0, 2, 3, 5, 10, 11, 12]
def C_spec_BestLeastPart : C :=
  let ks := K_spec_BestLeastPart
  (.seq
    (.rg 0 [(none, .v 2 .mv [.k (.i 0)])])
    (.cl ks (.seq
      (.seq
        (.rg 0 [(none, .v 6 .mv [.s 0]), (none, .co 7 39 [.s 6]), (none, .v 8 .not [.s 7])])
        (.cond (.s 8)
          (.seq
            (.rg 0 [(none, .v 2 .mv [.k (.i (-1))])])
            .ret)
          .skip))
      (.cl ks (.seq
        (.rg 0 [(none, .v 3 .mv [.k (.i 0)])])
        (.cl ks (.seq
          (.seq
            (.rg 0 [(none, .v 9 .mv [.s 0]), (none, .co 10 40 [.s 9]), (none, .v 11 .len [.s 10]), (none, .v 12 .mv [.k (.i 0)])])
            (.cl ks (.block 0
              (.loop
                (.seq
                  (.rg 0 [(none, .v 13 (.bin .lss) [.s 12, .s 11])])
                  (.seq
                    (.cond (.s 13)
                      .skip
                      (.exit 0))
                    (.cl ks (.seq
                      (.block 1
                        (.seq
                          (.rg 0 [(none, .v 14 .idx [.s 10, .s 12]), (none, .v 15 .ld [.s 14]), (none, .tk 5 15)])
                          (.cl ks (.rg 0 [(none, .v 16 .mv [.s 3]), (none, .v 17 .mv [.s 0]), (none, .v 18 .mv [.s 5]), (none, .co 19 48 [.s 17, .s 18]), (none, .v 20 .mx [.s 16, .s 19]), (none, .tk 3 20)]))))
                      (.cl ks (.rg 0 [(none, .v 21 (.bin .add) [.s 12, .k (.i 1)]), (none, .v 12 .mv [.s 21])]))))))))))
          (.cl ks (.seq
            (.rg 0 [(none, .v 22 .mv [.s 3]), (none, .tk 2 22)])
            .ret)))))))))

theorem chk_spec_BestLeastPart : ∃ b, Try.f19.body = some b ∧ chk Try.prog Try.f19.ntmps true C_spec_BestLeastPart b = true := ⟨_, rfl, by kernel_rfl⟩
def blpF (vs : List (List Int)) : Int := if rectB vs 3 6 100 = true then leastN vs (bstF vs (fun l => [leastN vs l vs.length])) vs.length else -1
theorem impl_BestLeastPart1_ok {n1 n2 : Option Bool} (vs : List (List Int)) (l : List Int) (V : Vals vs l.length) : CallOk Try.prog 50 [.s n2 (ii l), .q [.s n1 (rr vs)] 0] [(0, .own 1 none (ii [leastN vs l vs.length]))] := by
  obtain ⟨code0, hcd1, hcd2⟩ := chk_impl_BestLeastPart_1; refine callOk_of Try.func50 hcd1 mo Try.call50 (rs := [3]) (by kernel_rfl) hcd2 (by rw [Try.ntmps50]; simp) (by simp) (by decide) ?_; unfold C_impl_BestLeastPart_1 K_impl_BestLeastPart_1; simp (config := { maxSteps := 2000000 }) only [go_sem, Nat.reduceBEq, Nat.reduceAdd, Nat.reduceMul, Nat.reduceMod, Nat.reduceLT, Nat.reduceDiv, Nat.reduceSub, Nat.reduceLeDiff, Int.reduceToNat, Int.reduceLT, Int.reduceLE, reduceCtorEq, List.take_nil, List.drop_nil]
  refine ⟨_, impl_leastPart_ok vs l V, ?_⟩; simp (config := { maxSteps := 2000000 }) only [go_sem, Nat.reduceBEq, Nat.reduceAdd, Nat.reduceMul, Nat.reduceMod, Nat.reduceLT, Nat.reduceDiv, Nat.reduceSub, Nat.reduceLeDiff, Int.reduceToNat, Int.reduceLT, Int.reduceLE, reduceCtorEq, List.take_nil, List.drop_nil]
theorem impl_BestLeastPart_ok {n1 : Option Bool} (vs : List (List Int)) (hl : vs.length ≤ 1048576) (hr : ∀ r ∈ vs, r.length ≤ 1048576) : CallOk Try.prog 20 [.s n1 (rr vs)] [(0, .i (blpF vs))] := by
  obtain ⟨code0, hcd1, hcd2⟩ := chk_impl_BestLeastPart; refine callOk_of Try.func20 hcd1 mo Try.call20 (rs := [2]) (by kernel_rfl) hcd2 (by rw [Try.ntmps20]; simp) (by simp) (by decide) ?_; unfold C_impl_BestLeastPart K_impl_BestLeastPart; simp (config := { maxSteps := 2000000 }) only [go_sem, Nat.reduceBEq, Nat.reduceAdd, Nat.reduceMul, Nat.reduceMod, Nat.reduceLT, Nat.reduceDiv, Nat.reduceSub, Nat.reduceLeDiff, Int.reduceToNat, Int.reduceLT, Int.reduceLE, reduceCtorEq, List.take_nil, List.drop_nil]
  cases h0 : rectB vs 3 6 100 with
  | false =>
    refine ⟨_, bestAllocation_no vs 50 _ h0 hl hr, ?_⟩; simp (config := { maxSteps := 2000000 }) only [go_sem, Nat.reduceBEq, Nat.reduceAdd, Nat.reduceMul, Nat.reduceMod, Nat.reduceLT, Nat.reduceDiv, Nat.reduceSub, Nat.reduceLeDiff, Int.reduceToNat, Int.reduceLT, Int.reduceLE, reduceCtorEq, List.take_nil, List.drop_nil]
    simp [blpF, h0]
  | true =>
    have hF : blpF vs = leastN vs (bstF vs (fun l => [leastN vs l vs.length])) vs.length := if_pos h0
    rw [hF]
    refine ⟨_, bestAllocation_ok vs 50 _ (fun l => [leastN vs l vs.length]) h0 hl hr (fun m l V e _ => ⟨by simp, impl_BestLeastPart1_ok vs l (by rw [e]; exact V)⟩), ?_⟩; simp (config := { maxSteps := 2000000 }) only [go_sem, Nat.reduceBEq, Nat.reduceAdd, Nat.reduceMul, Nat.reduceMod, Nat.reduceLT, Nat.reduceDiv, Nat.reduceSub, Nat.reduceLeDiff, Int.reduceToNat, Int.reduceLT, Int.reduceLE, reduceCtorEq, List.take_nil, List.drop_nil]
    refine ⟨_, impl_leastPart_ok vs _ (bst_len h0), ?_⟩; simp (config := { maxSteps := 2000000 }) only [go_sem, Nat.reduceBEq, Nat.reduceAdd, Nat.reduceMul, Nat.reduceMod, Nat.reduceLT, Nat.reduceDiv, Nat.reduceSub, Nat.reduceLeDiff, Int.reduceToNat, Int.reduceLT, Int.reduceLE, reduceCtorEq, List.take_nil, List.drop_nil]
/-- The greatest of the first j, at least 0. -/
def topN (c : List Int → Int) (S : Nat → List Int) : Nat → Int
  | 0 => 0
  | j + 1 => max (topN c S j) (c (S j))
theorem top_bst {c : List Int → Int} {S : Nat → List Int} (h0 : ∀ j, 0 ≤ c (S j)) : ∀ {k : Nat}, topN c S (k + 1) = c (bstL (fun l => [c l]) S (k + 1))
  | 0 => by have := h0 0; simp only [topN, bstL, true_or, if_true]; omega
  | k + 1 => by
    have ih := top_bst h0 (k := k)
    have e : topN c S (k + 1 + 1) = max (topN c S (k + 1)) (c (S (k + 1))) := rfl
    have e2 : bstL (fun l => [c l]) S (k + 1 + 1) = if k + 1 = 0 ∨ 0 < cmpL [c (S (k + 1))] [c (bstL (fun l => [c l]) S (k + 1))] then S (k + 1) else bstL (fun l => [c l]) S (k + 1) := rfl
    rw [e, ih, e2]
    by_cases h : 0 < cmpL [c (S (k + 1))] [c (bstL (fun l => [c l]) S (k + 1))]
    · rw [if_pos (.inr h)]; have := cmpL_1.1 h; omega
    · rw [if_neg (by simp [h])]; have : ¬ c (bstL (fun l => [c l]) S (k + 1)) < c (S (k + 1)) := fun h' => h (cmpL_1.2 h'); omega
theorem spec_BestLeastPart_ok {n1 : Option Bool} (vs : List (List Int)) (hl : vs.length ≤ 1048576) (hr : ∀ r ∈ vs, r.length ≤ 1048576) : CallOk Try.prog 19 [.s n1 (rr vs)] [(0, .i (blpF vs))] := by
  obtain ⟨code0, hcd1, hcd2⟩ := chk_spec_BestLeastPart; refine callOk_of Try.func19 hcd1 mo Try.call19 (rs := [2]) (by kernel_rfl) hcd2 (by rw [Try.ntmps19]; simp) (by simp) (by decide) ?_; unfold C_spec_BestLeastPart K_spec_BestLeastPart; simp (config := { maxSteps := 2000000 }) only [go_sem, Nat.reduceBEq, Nat.reduceAdd, Nat.reduceMul, Nat.reduceMod, Nat.reduceLT, Nat.reduceDiv, Nat.reduceSub, Nat.reduceLeDiff, Int.reduceToNat, Int.reduceLT, Int.reduceLE, reduceCtorEq, List.take_nil, List.drop_nil]
  refine ⟨_, spec_ValuesOk_ok vs hl hr, ?_⟩; simp (config := { maxSteps := 2000000 }) only [go_sem, Nat.reduceBEq, Nat.reduceAdd, Nat.reduceMul, Nat.reduceMod, Nat.reduceLT, Nat.reduceDiv, Nat.reduceSub, Nat.reduceLeDiff, Int.reduceToNat, Int.reduceLT, Int.reduceLE, reduceCtorEq, List.take_nil, List.drop_nil]
  refine ⟨fun h0 => by simp [blpF, h0], fun h0 => ?_⟩
  have hF : blpF vs = leastN vs (bstF vs (fun l => [leastN vs l vs.length])) vs.length := if_pos h0
  have V := vals_of h0
  have n1' := V.n1
  have n3 := V.n3
  rw [hF]
  unfold bstF
  revert V
  generalize hm : (vs.getD 0 []).length = m
  intro V
  have m6 := V.m6
  have hN := pow_bd n1' n3 m6
  have hP : ∀ j, Vals vs (sn 0 vs.length m j).length := fun j => by rw [sn_len]; exact V
  have hnn : ∀ j, 0 ≤ leastN vs (sn 0 vs.length m j) vs.length := fun j => (leastN_bd (hP j) (Nat.le_refl _)).1
  obtain ⟨q, hq⟩ : ∃ q, vs.length ^ m = q + 1 := ⟨vs.length ^ m - 1, by have : 0 < vs.length ^ m := Nat.pow_pos (by omega); omega⟩
  rw [hq, ← top_bst (c := fun l => leastN vs l vs.length) (S := sn 0 vs.length m) hnn, ← hq]
  refine ⟨_, spec_l23All_ok vs m V, ?_⟩; simp (config := { maxSteps := 2000000 }) only [go_sem, Nat.reduceBEq, Nat.reduceAdd, Nat.reduceMul, Nat.reduceMod, Nat.reduceLT, Nat.reduceDiv, Nat.reduceSub, Nat.reduceLeDiff, Int.reduceToNat, Int.reduceLT, Int.reduceLE, reduceCtorEq, List.take_nil, List.drop_nil]
  rw [allP_len]
  refine loopN (vs.length ^ m) (fun j => [(0, .t .arg (.s n1 (rr vs))), (3, .i (topN (fun l => leastN vs l vs.length) (sn 0 vs.length m) j)), (10, .own 1 none (rr (allP vs.length m (vs.length ^ m)))), (11, .i (vs.length ^ m : Nat)), (12, .i (j : Nat))]) (fun _ => True) ⟨trivial, by simp (config := { maxSteps := 2000000 }) only [go_sem, Nat.reduceBEq, Nat.reduceAdd, Nat.reduceMul, Nat.reduceMod, Nat.reduceLT, Nat.reduceDiv, Nat.reduceSub, Nat.reduceLeDiff, Int.reduceToNat, Int.reduceLT, Int.reduceLE, reduceCtorEq, List.take_nil, List.drop_nil]; simp [topN]⟩ fun j hj _ => ?_
  simp (config := { maxSteps := 2000000 }) only [go_sem, Nat.reduceBEq, Nat.reduceAdd, Nat.reduceMul, Nat.reduceMod, Nat.reduceLT, Nat.reduceDiv, Nat.reduceSub, Nat.reduceLeDiff, Int.reduceToNat, Int.reduceLT, Int.reduceLE, reduceCtorEq, List.take_nil, List.drop_nil]
  rw [allP_len]
  refine ⟨fun hlt => ?_, fun hge => ?_⟩
  · have hj' : j < vs.length ^ m := by omega
    rw [allP_get hj']
    refine ⟨by omega, hj', hj', ?_⟩
    refine ⟨_, spec_l24Least_ok vs _ (hP j), ?_⟩; simp (config := { maxSteps := 2000000 }) only [go_sem, Nat.reduceBEq, Nat.reduceAdd, Nat.reduceMul, Nat.reduceMod, Nat.reduceLT, Nat.reduceDiv, Nat.reduceSub, Nat.reduceLeDiff, Int.reduceToNat, Int.reduceLT, Int.reduceLE, reduceCtorEq, List.take_nil, List.drop_nil]
    exact ⟨inR_of (by omega) (by omega), hj', rfl, by simp⟩
  · have : j = vs.length ^ m := by omega
    subst this
    rfl

end Go.Proofs.Ytkmklfdpomkalaa
