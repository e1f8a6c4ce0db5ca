/- Own work: contracts of functions that the claim reaches. No condition beyond those that each theorem names. -/
import Derived.Test.YtfdoddeccnjcmaaProg
import Derived.Test.YtfdoddeccnjcmaaSeatord
namespace Go.Proofs.Ytfdoddeccnjcmaa
open Go Go.Vc
set_option maxRecDepth 100000
set_option linter.unusedSimpArgs false
set_option linter.unusedVariables false
/- spec_GiveSeats: not in this cut -/
def K_impl_GiveSeats : List Nat := [0, 1, 2, 6]
def C_impl_GiveSeats : C :=
  let ks := K_impl_GiveSeats
  (.seq
   (.rg 0 [(none, .mkn 6)])
   (.cl ks (.seq
   (.seq
   (.rg 0 [(none, .v 7 .mv [.s 0]), (none, .v 8 (.bin .eql) [.s 7, .k (.i 0)])])
   (.cond (.s 8)
   (.seq
   (.rg 0 [(none, .v 9 .mv [.s 1]), (none, .v 10 .mv [.s 2]), (none, .co 11 21 [.s 9, .s 10]), (none, .tk 6 11)])
   .ret)
   .skip))
   (.cl ks (.seq
   (.rg 0 [(none, .v 12 .mv [.s 0]), (none, .v 13 .mv [.s 1]), (none, .v 14 .mv [.s 2]), (none, .co 15 20 [.s 12, .s 13, .s 14]), (none, .tk 6 15)])
   .ret)))))

theorem chk_impl_GiveSeats : ∃ b, Try.f19.body = some b ∧ chk Try.prog Try.f19.ntmps true C_impl_GiveSeats b = true := ⟨_, rfl, by kernel_rfl⟩
def giveF (m : Int) (cs : List Int) (n : Int) : List Int := if m = 0 then hamF cs n else byF m cs n
def giveB (m : Int) (cs : List Int) (n : Int) : Bool := if m = 0 then askB cs n else okB m cs n
structure Give (cs : List Int) (n : Int) (a : List Int) : Prop where
  ask : Ask cs n
  len : a.length = cs.length
  bd : ∀ x ∈ a, 0 ≤ x ∧ x ≤ 200000000
theorem give_of {m : Int} {cs : List Int} {n : Int} (h : giveB m cs n = true) : Give cs n (giveF m cs n) := by
  unfold giveB giveF at *
  by_cases hm : m = 0
  · rw [if_pos hm] at h ⊢
    have A := ask_of h
    refine ⟨A, hamF_len h, fun x hx => ?_⟩
    simp only [hamF, if_pos h] at hx
    have := fillN_bd (fun x hx => (quo_bd A h).1 x hx) x hx
    have := (ham_k A h).1
    have := A.l6
    omega
  · rw [if_neg hm] at h ⊢
    have A := okB_ask h
    simp only [byF, if_pos h]
    refine ⟨A, ordS_len.2, fun x hx => ?_⟩
    have := ordS_bd x hx
    have := A.n0
    have := A.n1
    omega
theorem give_no {m : Int} {cs : List Int} {n : Int} (h : giveB m cs n = false) : giveF m cs n = [] := by
  unfold giveB giveF at *
  by_cases hm : m = 0
  · rw [if_pos hm] at h ⊢; simp [hamF, h]
  · rw [if_neg hm] at h ⊢; simp [byF, h]
theorem impl_GiveSeats_ok {n1 : Option Bool} (m : Int) (cs : List Int) (n : Int) (hl : cs.length ≤ 1048576) : CallOk Try.prog 19 [.i m, .s n1 (ii cs), .i n] [(0, .own 1 (nlO (giveB m cs n)) (ii (giveF m cs n)))] := by
  obtain ⟨code0, hcd1, hcd2⟩ := chk_impl_GiveSeats; refine callOk_of Try.func19 hcd1 mo Try.call19 (rs := [6]) (by kernel_rfl) hcd2 (by rw [Try.ntmps19]; simp) (by simp) (by decide) ?_; unfold C_impl_GiveSeats K_impl_GiveSeats; simp (config := { maxSteps := 2000000 }) only [go_sem, Nat.reduceBEq, Nat.reduceAdd, Nat.reduceMul, Nat.reduceMod, Nat.reduceLT, Nat.reduceDiv, Nat.reduceSub, Nat.reduceLeDiff, Int.reduceToNat, Int.reduceLT, Int.reduceLE, reduceCtorEq, List.take_nil, List.drop_nil]
  refine ⟨fun h => ?_, fun h => ?_⟩
  · refine ⟨_, impl_HamiltonSeats_ok cs n hl, ?_⟩; simp (config := { maxSteps := 2000000 }) only [go_sem, Nat.reduceBEq, Nat.reduceAdd, Nat.reduceMul, Nat.reduceMod, Nat.reduceLT, Nat.reduceDiv, Nat.reduceSub, Nat.reduceLeDiff, Int.reduceToNat, Int.reduceLT, Int.reduceLE, reduceCtorEq, List.take_nil, List.drop_nil]
    simp [giveF, giveB, h]
  · refine ⟨_, impl_SeatsBy_ok m cs n hl, ?_⟩; simp (config := { maxSteps := 2000000 }) only [go_sem, Nat.reduceBEq, Nat.reduceAdd, Nat.reduceMul, Nat.reduceMod, Nat.reduceLT, Nat.reduceDiv, Nat.reduceSub, Nat.reduceLeDiff, Int.reduceToNat, Int.reduceLT, Int.reduceLE, reduceCtorEq, List.take_nil, List.drop_nil]
    simp [giveF, giveB, h]

end Go.Proofs.Ytfdoddeccnjcmaa
