/- Own work: contracts of functions that the claim reaches. No condition beyond those that each theorem names. -/
import Derived.Test.YtfdoddeccnjcmaaProg
import Derived.Test.YtfdoddeccnjcmaaEnum0
import Derived.Test.YtfdoddeccnjcmaaGoods
namespace Go.Proofs.Ytfdoddeccnjcmaa
open Go Go.Vc
set_option maxRecDepth 100000
set_option linter.unusedSimpArgs false
set_option linter.unusedVariables false
def K_impl_countAllocations : List Nat := [0, 1, 3, 4, 5, 6, 17, 18, 1003, 1005]
def C_impl_countAllocations_p0 : C :=
  let ks := K_impl_countAllocations
  (.cl ks (.rg 0 [(none, .v 3 .boxF [.s 1]), (none, .v 4 .mv [.k (.i 0)])]))
def C_impl_countAllocations_p1 : C :=
  let ks := K_impl_countAllocations
  (.cl ks (.seq
   (.rg 0 [(none, .v 7 .mv [.s 0]), (none, .co 8 49 [.s 7]), (none, .v 9 .not [.s 8])])
   (.cond (.s 9)
   (.seq
   (.rg 0 [(none, .v 4 .mv [.k (.i (-1))])])
   .ret)
   .skip)))
def C_impl_countAllocations_p2 : C :=
  let ks := K_impl_countAllocations
  (.cl ks (.rg 0 [(none, .new 5 [.i 0]), (none, .st (.s 5) (.k (.i 0)))]))
def C_impl_countAllocations_c4 : C :=
  let ks := K_impl_countAllocations
  (.cl ks (.rg 0 [(none, .v 10 .mv [.s 0]), (none, .v 11 .idx [.s 10, .k (.i 0)]), (none, .v 12 .ld [.s 11]), (none, .v 13 .len [.s 12]), (none, .v 14 .mv [.s 0]), (none, .v 15 .len [.s 14]), (none, .v 16 (.bin .sub) [.s 15, .k (.i 1)]), (none, .co 17 150 [.s 13, .k (.i 0), .s 16])]))
def C_impl_countAllocations_ca : C :=
  let ks := K_impl_countAllocations
  (.cl ks (.rg 0 [(none, .v 6 .mv [.s 18])]))
def C_impl_countAllocations_cb : C :=
  let ks := K_impl_countAllocations
  (.cl ks (.block 1
   (.seq
   (.rg 0 [(none, .v 19 .ld [.s 3]), (none, .v 20 .mv [.s 6]), (none, .coC 21 [.s 19, .s 20])])
   (.cond (.s 21)
   (.rg 0 [(none, .v 22 .ld [.s 5]), (none, .v 23 (.bin .add) [.s 22, .k (.i 1)]), (none, .st (.s 5) (.s 23))])
   .skip))))
def C_impl_countAllocations_cp : C :=
  let ks := K_impl_countAllocations
  (.cl ks (.seq
   (.rg 0 [(none, .v 24 .ld [.s 5]), (none, .tk 4 24)])
   .ret))

def D_impl_countAllocations : Nat → Bool := fun d => d == 0 || d == 1 || d == 3 || d == 4 || d == 5 || d == 17 || d == 18
theorem chkS_impl_countAllocations : ∃ b, Try.f118.body = some b ∧ chkS Try.prog Try.f118.ntmps 17 18 D_impl_countAllocations C_impl_countAllocations_c4 C_impl_countAllocations_ca C_impl_countAllocations_cb C_impl_countAllocations_cp [C_impl_countAllocations_p0, C_impl_countAllocations_p1, C_impl_countAllocations_p2] b = true := ⟨_, rfl, by kernel_rfl⟩
/-- How many of the lists are wanted. -/
def cntN (p : List Int → Bool) (b m : Nat) : Nat → Nat
  | 0 => 0
  | j + 1 => cntN p b m j + if p (sn 0 b m j) = true then 1 else 0
theorem cntN_le {p : List Int → Bool} {b m : Nat} : ∀ {j : Nat}, cntN p b m j ≤ j
  | 0 => by simp [cntN]
  | j + 1 => by
    have := cntN_le (p := p) (b := b) (m := m) (j := j)
    simp only [cntN]; split <;> omega
theorem pow_bd {b m : Nat} (h1 : 1 ≤ b) (h3 : b ≤ 3) (h6 : m ≤ 6) : b ^ m ≤ 729 := Nat.le_trans (Nat.pow_le_pow_left h3 m) (Nat.pow_le_pow_right (n := 3) (by omega) h6)
def cntF (vs : List (List Int)) (p : List Int → Bool) : Int := if rectB vs 3 6 100 = true then (cntN p vs.length (vs.getD 0 []).length (vs.length ^ (vs.getD 0 []).length) : Int) else -1
theorem countAllocations_ok {n1 : Option Bool} (vs : List (List Int)) (f : Nat) (ts : List T) (p : List Int → Bool) (hl : vs.length ≤ 1048576) (hr : ∀ r ∈ vs, r.length ≤ 1048576)
    (hp : ∀ m (l : List Int), Vals vs m → l.length = m → (∀ v ∈ l, 0 ≤ v ∧ v < vs.length) → CallOk Try.prog f (.s none (ii l) :: ts) [(0, .b (p l))]) :
    CallOk Try.prog 118 [.s n1 (rr vs), .c f ts] [(0, .i (cntF vs p))] := by
  obtain ⟨code0, hcd1, hcd2⟩ := chkS_impl_countAllocations; obtain ⟨codeI, hci1, hci2⟩ := chkIt_impl_lists_1; refine callOk_rf (m := 3) (y := 5) (t := 18) (g := 17) Try.func118 hcd1 mo Try.call118 (rs := [4]) (by kernel_rfl) hcd2 (by rw [Try.ntmps118]; simp) (by simp) (by decide) Try.func158 hci1 Try.call158 (by kernel_rfl) hci2 (by decide) (by decide) (by rw [Try.ntmps158]; decide) (by decide) (by rw [Try.ntmps118]; decide) (by decide) (by decide) (by kernel_rfl) ?_; unfold C_impl_countAllocations_p0 C_impl_countAllocations_p1 C_impl_countAllocations_p2 C_impl_countAllocations_c4 K_impl_countAllocations; simp (config := { maxSteps := 2000000 }) only [go_sem, Nat.reduceBEq, Nat.reduceAdd, Nat.reduceMul, Nat.reduceMod, Nat.reduceLT, Nat.reduceDiv, Nat.reduceSub, Nat.reduceLeDiff, Int.reduceToNat, Int.reduceLT, Int.reduceLE, reduceCtorEq, List.take_nil, List.drop_nil]
  refine ⟨_, impl_ValuesOk_ok vs hl hr, ?_⟩; simp (config := { maxSteps := 2000000 }) only [go_sem, Nat.reduceBEq, Nat.reduceAdd, Nat.reduceMul, Nat.reduceMod, Nat.reduceLT, Nat.reduceDiv, Nat.reduceSub, Nat.reduceLeDiff, Int.reduceToNat, Int.reduceLT, Int.reduceLE, reduceCtorEq, List.take_nil, List.drop_nil]
  refine ⟨fun h0 => by simp [cntF, h0], fun h0 => ?_⟩
  have hF : cntF vs p = (cntN p vs.length (vs.getD 0 []).length (vs.length ^ (vs.getD 0 []).length) : Int) := if_pos h0
  have V := vals_of h0
  rw [hF]
  revert V
  generalize hm : (vs.getD 0 []).length = m
  intro V
  have n1' := V.n1
  have n3 := V.n3
  have m6 := V.m6
  have m1 := V.m1
  have hN := pow_bd n1' n3 m6
  have V0 := V.n1
  refine ⟨by omega, by omega, inR_of (by omega) (by omega), ?_⟩
  refine ⟨_, impl_lists_ok m 0 (vs.length - 1), ?_⟩; simp (config := { maxSteps := 2000000 }) only [go_sem, Nat.reduceBEq, Nat.reduceAdd, Nat.reduceMul, Nat.reduceMod, Nat.reduceLT, Nat.reduceDiv, Nat.reduceSub, Nat.reduceLeDiff, Int.reduceToNat, Int.reduceLT, Int.reduceLE, reduceCtorEq, List.take_nil, List.drop_nil]
  refine ⟨vs.length ^ m, m, fun j => ii (sn 0 vs.length m j), fun j => [(0, .t .arg (.s n1 (rr vs))), (1, .t .arg (.c f ts)), (3, .t .arg (.q [.c f ts] 0)), (5, .bx 1), (17, .t .arg (.c 158 (capT 0 m (vs.length - 1)))), (1005, .i (cntN p vs.length m j))], capT 0 m (vs.length - 1), Nat.pow_pos (by omega), rfl, ?_, fun j hj => ⟨by kernel_rfl, rfl⟩, fun j hj => ⟨by rw [scalL_ii]; trivial, ii_ne (by rw [sn_len]; omega), by simp [ii, sn_len]⟩, itA (by omega) (by omega), fun j hj => itB (by omega) (by omega) (by omega) rfl hj (by omega) (by omega), fun j hj => ?_, ?_⟩
  · simp (config := { maxSteps := 2000000 }) only [go_sem, Nat.reduceBEq, Nat.reduceAdd, Nat.reduceMul, Nat.reduceMod, Nat.reduceLT, Nat.reduceDiv, Nat.reduceSub, Nat.reduceLeDiff, Int.reduceToNat, Int.reduceLT, Int.reduceLE, reduceCtorEq, List.take_nil, List.drop_nil]
    rfl
  · unfold C_impl_countAllocations_ca C_impl_countAllocations_cb K_impl_countAllocations; simp (config := { maxSteps := 2000000 }) only [go_sem, Nat.reduceBEq, Nat.reduceAdd, Nat.reduceMul, Nat.reduceMod, Nat.reduceLT, Nat.reduceDiv, Nat.reduceSub, Nat.reduceLeDiff, Int.reduceToNat, Int.reduceLT, Int.reduceLE, reduceCtorEq, List.take_nil, List.drop_nil]
    refine ⟨by kernel_rfl, ?_⟩
    have hs : cntN p vs.length m (j + 1) = cntN p vs.length m j + if p (sn 0 vs.length m j) = true then 1 else 0 := rfl
    have hle := cntN_le (p := p) (b := vs.length) (m := m) (j := j)
    refine ⟨_, hp m (sn 0 vs.length m j) V sn_len (fun v hv => by have := sn_bd (by omega) v hv; omega), ?_⟩; simp (config := { maxSteps := 2000000 }) only [go_sem, Nat.reduceBEq, Nat.reduceAdd, Nat.reduceMul, Nat.reduceMod, Nat.reduceLT, Nat.reduceDiv, Nat.reduceSub, Nat.reduceLeDiff, Int.reduceToNat, Int.reduceLT, Int.reduceLE, reduceCtorEq, List.take_nil, List.drop_nil]
    refine ⟨fun h => ?_, fun h => ?_⟩
    · rw [hs, if_pos h]
      exact ⟨inR_of (by omega) (by omega), by omega⟩
    · rw [hs, if_neg (by rw [h]; simp)]
      omega
  · unfold C_impl_countAllocations_cp K_impl_countAllocations; simp (config := { maxSteps := 2000000 }) only [go_sem, Nat.reduceBEq, Nat.reduceAdd, Nat.reduceMul, Nat.reduceMod, Nat.reduceLT, Nat.reduceDiv, Nat.reduceSub, Nat.reduceLeDiff, Int.reduceToNat, Int.reduceLT, Int.reduceLE, reduceCtorEq, List.take_nil, List.drop_nil]

end Go.Proofs.Ytfdoddeccnjcmaa
