/- Own work: contracts of functions that the claim reaches. No condition beyond those that each theorem names. -/
import Derived.Test.YtfdoddeccnjcmaaProg
import Derived.Test.YtfdoddeccnjcmaaGive
namespace Go.Proofs.Ytfdoddeccnjcmaa
open Go Go.Vc
set_option maxRecDepth 100000
set_option linter.unusedSimpArgs false
set_option linter.unusedVariables false
/- spec_HamiltonSeats: not in this cut -/
def K_impl_HamiltonSeats : List Nat := [0, 1, 4]
def C_impl_HamiltonSeats : C :=
  let ks := K_impl_HamiltonSeats
  (.seq
   (.rg 0 [(none, .mkn 4)])
   (.cl ks (.seq
   (.seq
   (.rg 0 [(none, .v 5 .mv [.s 0]), (none, .v 6 .mv [.s 1]), (none, .co 7 75 [.s 5, .s 6]), (none, .v 8 .not [.s 7])])
   (.cond (.s 8)
   (.seq
   (.rg 0 [(none, .mkn 4)])
   .ret)
   .skip))
   (.cl ks (.seq
   (.rg 0 [(none, .v 9 .mv [.s 0]), (none, .v 10 .mv [.s 1]), (none, .co 11 23 [.s 9, .s 10]), (none, .v 12 .mv [.s 0]), (none, .v 13 .mv [.s 1]), (none, .co 14 25 [.s 12, .s 13]), (none, .v 15 .mv [.s 1]), (none, .coc 16 76 [.s 11, .s 14, .s 15] [0]), (none, .tk 4 16)])
   .ret)))))

theorem chk_impl_HamiltonSeats : ∃ b, Try.f21.body = some b ∧ chk Try.prog Try.f21.ntmps true C_impl_HamiltonSeats b = true := ⟨_, rfl, by kernel_rfl⟩
theorem getD_map0 {f : Int → Int} {xs : List Int} {j : Nat} (h : j < xs.length) : (xs.map f).getD j 0 = f (xs.getD j 0) := by
  simp [List.getD, h]
theorem divmod_sum {cs : List Int} {n S : Int} : ∀ {j : Nat}, j ≤ cs.length → sumN (cs.map fun x => lowO (x * n) S) j * S + sumN (cs.map fun x => remO (x * n) S) j = sumN cs j * n
  | 0, _ => by simp [sumN]
  | j + 1, h => by
    have ih := divmod_sum (cs := cs) (n := n) (S := S) (j := j) (by omega)
    simp only [sumN]
    rw [getD_map0 (by omega), getD_map0 (by omega), Int.add_mul, Int.add_mul]
    have e : (cs.getD j 0 * n).tdiv S * S + (cs.getD j 0 * n).tmod S = cs.getD j 0 * n := by rw [Int.mul_comm]; exact Int.mul_tdiv_add_tmod _ _
    unfold lowO remO at *
    omega
def hamK (cs : List Int) (n : Int) : Nat := (n - sumL (quoF lowO cs n)).toNat
theorem ham_k {cs : List Int} {n : Int} (A : Ask cs n) (h : askB cs n = true) : hamK cs n ≤ cs.length ∧ n = sumL (quoF lowO cs n) + hamK cs n := by
  have hd := divmod_sum (cs := cs) (n := n) (S := sumL cs) (Nat.le_refl _)
  have hp := A.pos
  have hq : quoF lowO cs n = cs.map fun x => lowO (x * n) (sumL cs) := by simp [quoF, h]
  have hr := sumN_bd (xs := cs.map fun x => remO (x * n) (sumL cs)) (B := sumL cs - 1) (fun x hx => by
    obtain ⟨y, hy, rfl⟩ := List.mem_map.1 hx
    have hyb := A.bd y hy
    have h0 := mul_bd hyb.1 hyb.2 A.n0 A.n1
    have h1 := Int.tmod_nonneg (sumL cs) h0.1
    have h2 := Int.tmod_lt_of_pos (y * n) hp
    unfold remO
    omega) (j := cs.length) (by simp)
  have e1 : sumL (quoF lowO cs n) = sumN (cs.map fun x => lowO (x * n) (sumL cs)) cs.length := by rw [hq]; simp [sumL]
  have e2 : sumN cs cs.length = sumL cs := rfl
  unfold hamK
  rw [e1]
  rw [e2] at hd
  generalize sumN (cs.map fun x => lowO (x * n) (sumL cs)) cs.length = L at *
  generalize sumN (cs.map fun x => remO (x * n) (sumL cs)) cs.length = R at *
  generalize sumL cs = S at *
  have l1 := A.l1
  generalize cs.length = len at *
  have e3 : (n - L) * S = R := by rw [Int.sub_mul, Int.mul_comm n S]; omega
  have g1 : 0 ≤ n - L := by
    refine Int.not_lt.1 fun hlt => ?_
    have := Int.mul_le_mul_of_nonneg_right (show n - L ≤ -1 by omega) (show 0 ≤ S by omega)
    omega
  have g2 : n - L < len := by
    refine Int.not_le.1 fun hle => ?_
    have h1 := Int.mul_le_mul_of_nonneg_right hle (show 0 ≤ S by omega)
    have h2 := hr.2
    rw [Int.sub_mul, Int.one_mul, Int.mul_comm S] at h2
    omega
  omega
def hamF (cs : List Int) (n : Int) : List Int := if askB cs n = true then fillN (quoF lowO cs n) (ordR (quoF remO cs n) cs.length) (hamK cs n) else []
def nlO (b : Bool) : Option Bool := if b then none else some true
theorem quo_len {op : Int → Int → Int} {cs : List Int} {n : Int} (h : askB cs n = true) : (quoF op cs n).length = cs.length := by simp [quoF, h]
theorem hamF_len {cs : List Int} {n : Int} (h : askB cs n = true) : (hamF cs n).length = cs.length := by
  simp only [hamF, if_pos h]; rw [fillN_len, quo_len h]
theorem quo_bd {cs : List Int} {n : Int} (A : Ask cs n) (h : askB cs n = true) : (∀ x ∈ quoF lowO cs n, 0 ≤ x ∧ x ≤ 100000000) ∧ ∀ x ∈ quoF remO cs n, 0 ≤ x ∧ x ≤ 6000000 := by
  have hp := A.pos
  have hs := A.le
  simp only [quoF, if_pos h]
  constructor
  · intro x hx
    obtain ⟨y, hy, rfl⟩ := List.mem_map.1 hx
    have hyb := A.bd y hy
    have h0 := mul_bd hyb.1 hyb.2 A.n0 A.n1
    unfold lowO
    have h1 := Int.tdiv_nonneg h0.1 (show 0 ≤ sumL cs by omega)
    have h2 := Int.tdiv_le_self (sumL cs) h0.1
    omega
  · intro x hx
    obtain ⟨y, hy, rfl⟩ := List.mem_map.1 hx
    have hyb := A.bd y hy
    have h0 := mul_bd hyb.1 hyb.2 A.n0 A.n1
    have h1 := Int.tmod_nonneg (sumL cs) h0.1
    have h2 := Int.tmod_lt_of_pos (y * n) hp
    unfold remO
    omega
theorem impl_HamiltonSeats_ok {n1 : Option Bool} (cs : List Int) (n : Int) (hl : cs.length ≤ 1048576) : CallOk Try.prog 21 [.s n1 (ii cs), .i n] [(0, .own 1 (nlO (askB cs n)) (ii (hamF cs n)))] := by
  obtain ⟨code0, hcd1, hcd2⟩ := chk_impl_HamiltonSeats; refine callOk_of Try.func21 hcd1 mo Try.call21 (rs := [4]) (by kernel_rfl) hcd2 (by rw [Try.ntmps21]; simp) (by simp) (by decide) ?_; unfold C_impl_HamiltonSeats K_impl_HamiltonSeats; simp (config := { maxSteps := 2000000 }) only [go_sem, Nat.reduceBEq, Nat.reduceAdd, Nat.reduceMul, Nat.reduceMod, Nat.reduceLT, Nat.reduceDiv, Nat.reduceSub, Nat.reduceLeDiff, Int.reduceToNat, Int.reduceLT, Int.reduceLE, reduceCtorEq, List.take_nil, List.drop_nil]
  refine ⟨_, impl_quotaAsked_ok cs n hl, ?_⟩; simp (config := { maxSteps := 2000000 }) only [go_sem, Nat.reduceBEq, Nat.reduceAdd, Nat.reduceMul, Nat.reduceMod, Nat.reduceLT, Nat.reduceDiv, Nat.reduceSub, Nat.reduceLeDiff, Int.reduceToNat, Int.reduceLT, Int.reduceLE, reduceCtorEq, List.take_nil, List.drop_nil]
  refine ⟨fun h => ?_, fun h => ?_⟩
  · simp [hamF, h, nlO]
  · have h : askB cs n = true := by simpa using h
    have A := ask_of h
    have l1 := A.l1
    have l6 := A.l6
    obtain ⟨b1, b2⟩ := quo_bd A h
    obtain ⟨k1, k2⟩ := ham_k A h
    refine ⟨_, impl_LowerQuotas_ok cs n hl, ?_⟩; simp (config := { maxSteps := 2000000 }) only [go_sem, Nat.reduceBEq, Nat.reduceAdd, Nat.reduceMul, Nat.reduceMod, Nat.reduceLT, Nat.reduceDiv, Nat.reduceSub, Nat.reduceLeDiff, Int.reduceToNat, Int.reduceLT, Int.reduceLE, reduceCtorEq, List.take_nil, List.drop_nil]
    refine ⟨_, impl_RemaindersOf_ok cs n hl, ?_⟩; simp (config := { maxSteps := 2000000 }) only [go_sem, Nat.reduceBEq, Nat.reduceAdd, Nat.reduceMul, Nat.reduceMod, Nat.reduceLT, Nat.reduceDiv, Nat.reduceSub, Nat.reduceLeDiff, Int.reduceToNat, Int.reduceLT, Int.reduceLE, reduceCtorEq, List.take_nil, List.drop_nil]
    have q1 := quo_len (op := lowO) h
    have q2 := quo_len (op := remO) h
    refine ⟨_, impl_filled_ok (quoF lowO cs n) (quoF remO cs n) n (by omega) (by omega) (by omega) (fun x hx => by have := b1 x hx; omega) (fun x hx => by have := b2 x hx; omega) (hamK cs n) (by omega) k2, ?_⟩; simp (config := { maxSteps := 2000000 }) only [go_sem, Nat.reduceBEq, Nat.reduceAdd, Nat.reduceMul, Nat.reduceMod, Nat.reduceLT, Nat.reduceDiv, Nat.reduceSub, Nat.reduceLeDiff, Int.reduceToNat, Int.reduceLT, Int.reduceLE, reduceCtorEq, List.take_nil, List.drop_nil]
    simp [hamF, q1, h, nlO]

end Go.Proofs.Ytfdoddeccnjcmaa
