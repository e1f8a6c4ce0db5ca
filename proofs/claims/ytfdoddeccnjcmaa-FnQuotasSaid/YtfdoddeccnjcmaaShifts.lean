/- Own work: contracts of functions that the claim reaches. No condition beyond those that each theorem names. -/
import Derived.Test.YtfdoddeccnjcmaaProg
import Derived.Test.YtfdoddeccnjcmaaSeats
namespace Go.Proofs.Ytfdoddeccnjcmaa
open Go Go.Vc
set_option maxRecDepth 100000
set_option linter.unusedSimpArgs false
set_option linter.unusedVariables false
/- spec_LosesByMore: not in this cut -/
def K_impl_LosesByMore : List Nat := [0, 1, 2, 6, 7, 8, 9, 10, 22, 23, 24]
def C_impl_LosesByMore : C :=
  let ks := K_impl_LosesByMore
  (.seq
   (.rg 0 [(none, .v 6 .mv [.k (.i 0)])])
   (.cl ks (.seq
   (.rg 0 [(none, .v 11 .mv [.s 0]), (none, .v 12 .mv [.s 1]), (none, .v 13 .mv [.s 2]), (none, .co 14 19 [.s 11, .s 12, .s 13]), (none, .v 15 .mv [.s 0]), (none, .v 16 .mv [.s 1]), (none, .v 17 .mv [.s 2]), (none, .v 18 (.bin .adw) [.s 17, .k (.i 1)]), (none, .co 19 19 [.s 15, .s 16, .s 18]), (none, .tk 7 14), (none, .tk 8 19)])
   (.cl ks (.seq
   (.seq
   (.rg 0 [(none, .v 20 .mv [.s 8]), (none, .v 21 .nil [.s 20])])
   (.cond (.s 21)
   (.seq
   (.rg 0 [(none, .v 6 .mv [.k (.i (-1))])])
   .ret)
   .skip))
   (.cl ks (.seq
   (.seq
   (.rg 0 [(none, .v 22 .mv [.s 7]), (none, .v 23 .len [.s 22]), (none, .v 24 .mv [.k (.i 0)])])
   (.cl ks (.block 0
   (.loop
   (.seq
   (.rg 0 [(none, .v 25 (.bin .lss) [.s 24, .s 23])])
   (.seq
   (.cond (.s 25)
   .skip
   (.exit 0))
   (.cl ks (.seq
   (.block 1
   (.seq
   (.rg 0 [(none, .v 26 .mv [.s 24]), (none, .v 27 .idx [.s 22, .s 24]), (none, .v 28 .ld [.s 27]), (none, .tk 9 26), (none, .tk 10 28)])
   (.cl ks (.seq
   (.rg 0 [(none, .v 29 .mv [.s 8]), (none, .v 30 .mv [.s 9]), (none, .v 31 .idx [.s 29, .s 30]), (none, .v 32 .ld [.s 31]), (none, .v 33 .mv [.s 10]), (none, .v 34 (.bin .lss) [.s 32, .s 33])])
   (.cond (.s 34)
   (.seq
   (.rg 0 [(none, .v 35 .mv [.s 9]), (none, .tk 6 35)])
   .ret)
   .skip)))))
   (.cl ks (.rg 0 [(none, .v 36 (.bin .add) [.s 24, .k (.i 1)]), (none, .v 24 .mv [.s 36])]))))))))))
   (.cl ks (.seq
   (.rg 0 [(none, .v 6 .mv [.k (.i (-1))])])
   .ret)))))))))

theorem chk_impl_LosesByMore : ∃ b, Try.f12.body = some b ∧ chk Try.prog Try.f12.ntmps true C_impl_LosesByMore b = true := ⟨_, rfl, by kernel_rfl⟩
/- spec_FirstLoss: not in this cut -/
def K_impl_FirstLoss : List Nat := [0, 1, 2, 6, 7, 11, 12]
def C_impl_FirstLoss : C :=
  let ks := K_impl_FirstLoss
  (.seq
   (.rg 0 [(none, .v 6 .mv [.k (.i 0)])])
   (.cl ks (.seq
   (.seq
   (.rg 0 [(none, .v 8 .mv [.s 2]), (none, .co 9 69 [.s 8, .k (.i 1), .k (.i 99)]), (none, .v 10 .not [.s 9])])
   (.cond (.s 10)
   (.seq
   (.rg 0 [(none, .v 6 .mv [.k (.i (-1))])])
   .ret)
   .skip))
   (.cl ks (.seq
   (.seq
   (.rg 0 [(none, .v 11 .mv [.s 2]), (none, .v 12 .mv [.k (.i 0)])])
   (.cl ks (.block 0
   (.loop
   (.seq
   (.rg 0 [(none, .v 13 (.bin .lss) [.s 12, .s 11])])
   (.seq
   (.cond (.s 13)
   .skip
   (.exit 0))
   (.cl ks (.seq
   (.block 1
   (.seq
   (.rg 0 [(none, .v 14 .mv [.s 12]), (none, .tk 7 14)])
   (.cl ks (.seq
   (.rg 0 [(none, .v 15 .mv [.s 0]), (none, .v 16 .mv [.s 1]), (none, .v 17 .mv [.s 7]), (none, .co 18 12 [.s 15, .s 16, .s 17]), (none, .v 19 (.bin .geq) [.s 18, .k (.i 0)])])
   (.cond (.s 19)
   (.seq
   (.rg 0 [(none, .v 20 .mv [.s 7]), (none, .tk 6 20)])
   .ret)
   .skip)))))
   (.cl ks (.rg 0 [(none, .v 21 (.bin .add) [.s 12, .k (.i 1)]), (none, .v 12 .mv [.s 21])]))))))))))
   (.cl ks (.seq
   (.rg 0 [(none, .v 6 .mv [.k (.i (-1))])])
   .ret)))))))

theorem chk_impl_FirstLoss : ∃ b, Try.f11.body = some b ∧ chk Try.prog Try.f11.ntmps true C_impl_FirstLoss b = true := ⟨_, rfl, by kernel_rfl⟩
/- spec_BreaksQuota: not in this cut -/
def K_impl_BreaksQuota : List Nat := [0, 1, 2, 6, 7, 8, 9, 10, 20, 21, 22]
def C_impl_BreaksQuota : C :=
  let ks := K_impl_BreaksQuota
  (.seq
   (.rg 0 [(none, .v 6 .mv [.k (.i 0)])])
   (.cl ks (.seq
   (.rg 0 [(none, .v 11 .mv [.s 1]), (none, .v 12 .mv [.s 2]), (none, .co 13 23 [.s 11, .s 12]), (none, .v 14 .mv [.s 1]), (none, .v 15 .mv [.s 2]), (none, .co 16 24 [.s 14, .s 15]), (none, .tk 7 13), (none, .tk 8 16)])
   (.cl ks (.seq
   (.seq
   (.rg 0 [(none, .v 17 .mv [.s 0]), (none, .v 18 .mv [.s 1]), (none, .v 19 .mv [.s 2]), (none, .co 20 19 [.s 17, .s 18, .s 19]), (none, .v 21 .len [.s 20]), (none, .v 22 .mv [.k (.i 0)])])
   (.cl ks (.block 0
   (.loop
   (.seq
   (.rg 0 [(none, .v 23 (.bin .lss) [.s 22, .s 21])])
   (.seq
   (.cond (.s 23)
   .skip
   (.exit 0))
   (.cl ks (.seq
   (.block 1
   (.seq
   (.rg 0 [(none, .v 24 .mv [.s 22]), (none, .v 25 .idx [.s 20, .s 22]), (none, .v 26 .ld [.s 25]), (none, .tk 9 24), (none, .tk 10 26)])
   (.cl ks (.seq
   (.rg 9 [(none, .v 27 .mv [.s 10]), (none, .v 28 .mv [.s 7]), (none, .v 29 .mv [.s 9]), (none, .v 30 .idx [.s 28, .s 29]), (none, .v 31 .ld [.s 30]), (none, .v 32 .mv [.s 8]), (none, .v 33 .mv [.s 9]), (none, .v 34 .idx [.s 32, .s 33]), (none, .v 35 .ld [.s 34]), (none, .co 36 69 [.s 27, .s 31, .s 35]), (none, .v 37 .not [.s 36])])
   (.cond (.s 37)
   (.seq
   (.rg 0 [(none, .v 38 .mv [.s 9]), (none, .tk 6 38)])
   .ret)
   .skip)))))
   (.cl ks (.rg 0 [(none, .v 39 (.bin .add) [.s 22, .k (.i 1)]), (none, .v 22 .mv [.s 39])]))))))))))
   (.cl ks (.seq
   (.rg 0 [(none, .v 6 .mv [.k (.i (-1))])])
   .ret)))))))

theorem chk_impl_BreaksQuota : ∃ b, Try.f18.body = some b ∧ chk Try.prog Try.f18.ntmps true C_impl_BreaksQuota b = true := ⟨_, rfl, by kernel_rfl⟩
/-- The first of n that has it, or -1. -/
def firstP (p : Nat → Bool) : Nat → Int
  | 0 => -1
  | n + 1 => if firstP p n = -1 then (if p n = true then (n : Int) else -1) else firstP p n
theorem firstP_no {p : Nat → Bool} : ∀ {n : Nat}, (∀ i, i < n → p i = false) → firstP p n = -1
  | 0, _ => rfl
  | n + 1, h => by
    simp only [firstP]
    rw [if_pos (firstP_no fun i hi => h i (by omega)), if_neg (by rw [h n (by omega)]; simp)]
theorem firstP_hit {p : Nat → Bool} {j : Nat} (h : ∀ i, i < j → p i = false) (hj : p j = true) : ∀ {n : Nat}, j < n → firstP p n = j
  | 0, hn => by omega
  | n + 1, hn => by
    simp only [firstP]
    by_cases e : j = n
    · subst e; rw [if_pos (firstP_no h), if_pos hj]
    · have := firstP_hit h hj (n := n) (by omega)
      rw [this, if_neg (by omega)]
theorem impl_Give_yes {n1 : Option Bool} {m : Int} {cs : List Int} {n : Int} (hl : cs.length ≤ 1048576) (h : giveB m cs n = true) : CallOk Try.prog 19 [.i m, .s n1 (ii cs), .i n] [(0, .own 1 none (ii (giveF m cs n)))] := by
  have := impl_GiveSeats_ok (n1 := n1) m cs n hl
  rw [h] at this
  exact this
theorem impl_Give_no {n1 : Option Bool} {m : Int} {cs : List Int} {n : Int} (hl : cs.length ≤ 1048576) (h : giveB m cs n = false) : CallOk Try.prog 19 [.i m, .s n1 (ii cs), .i n] [(0, .own 1 (some true) [])] := by
  have := impl_GiveSeats_ok (n1 := n1) m cs n hl
  rw [h, give_no h] at this
  exact this
def losP (m : Int) (cs : List Int) (n : Int) (i : Nat) : Bool := decide ((giveF m cs (wrI (n + 1))).getD i 0 < (giveF m cs n).getD i 0)
def losF (m : Int) (cs : List Int) (n : Int) : Int := if giveB m cs n = true ∧ giveB m cs (wrI (n + 1)) = true then firstP (losP m cs n) cs.length else -1
theorem ii_ne {X : List Int} (h : 0 < X.length) : ¬ ii X = [] := fun e => by
  cases X with
  | nil => simp at h
  | cons x xs => simp [ii] at e
theorem step_no {p : Nat → Bool} {j : Nat} (h : ∀ i, i < j → p i = false) (hj : p j = false) : ∀ i, i < j + 1 → p i = false := fun i hi => by
  by_cases e : i = j
  · subst e; exact hj
  · exact h i (by omega)
theorem impl_LosesByMore_ok {n1 : Option Bool} (m : Int) (cs : List Int) (n : Int) (hl : cs.length ≤ 1048576) : CallOk Try.prog 12 [.i m, .s n1 (ii cs), .i n] [(0, .i (losF m cs n))] := by
  obtain ⟨code0, hcd1, hcd2⟩ := chk_impl_LosesByMore; refine callOk_of Try.func12 hcd1 mo Try.call12 (rs := [6]) (by kernel_rfl) hcd2 (by rw [Try.ntmps12]; simp) (by simp) (by decide) ?_; unfold C_impl_LosesByMore K_impl_LosesByMore; simp (config := { maxSteps := 2000000 }) only [go_sem, Nat.reduceBEq, Nat.reduceAdd, Nat.reduceMul, Nat.reduceMod, Nat.reduceLT, Nat.reduceDiv, Nat.reduceSub, Nat.reduceLeDiff, Int.reduceToNat, Int.reduceLT, Int.reduceLE, reduceCtorEq, List.take_nil, List.drop_nil]
  cases hb : giveB m cs (wrI (n + 1)) with
  | false =>
    refine ⟨_, impl_GiveSeats_ok m cs n hl, ?_⟩; simp (config := { maxSteps := 2000000 }) only [go_sem, Nat.reduceBEq, Nat.reduceAdd, Nat.reduceMul, Nat.reduceMod, Nat.reduceLT, Nat.reduceDiv, Nat.reduceSub, Nat.reduceLeDiff, Int.reduceToNat, Int.reduceLT, Int.reduceLE, reduceCtorEq, List.take_nil, List.drop_nil]
    refine ⟨_, impl_Give_no hl hb, ?_⟩; simp (config := { maxSteps := 2000000 }) only [go_sem, Nat.reduceBEq, Nat.reduceAdd, Nat.reduceMul, Nat.reduceMod, Nat.reduceLT, Nat.reduceDiv, Nat.reduceSub, Nat.reduceLeDiff, Int.reduceToNat, Int.reduceLT, Int.reduceLE, reduceCtorEq, List.take_nil, List.drop_nil]
    simp [losF, hb]
  | true =>
    obtain ⟨A, l2, d2⟩ := give_of hb
    have z1 := A.l1
    have z6 := A.l6
    cases ha : giveB m cs n with
    | false =>
      refine ⟨_, impl_Give_no hl ha, ?_⟩; simp (config := { maxSteps := 2000000 }) only [go_sem, Nat.reduceBEq, Nat.reduceAdd, Nat.reduceMul, Nat.reduceMod, Nat.reduceLT, Nat.reduceDiv, Nat.reduceSub, Nat.reduceLeDiff, Int.reduceToNat, Int.reduceLT, Int.reduceLE, reduceCtorEq, List.take_nil, List.drop_nil]
      refine ⟨_, impl_Give_yes hl hb, ?_⟩; simp (config := { maxSteps := 2000000 }) only [go_sem, Nat.reduceBEq, Nat.reduceAdd, Nat.reduceMul, Nat.reduceMod, Nat.reduceLT, Nat.reduceDiv, Nat.reduceSub, Nat.reduceLeDiff, Int.reduceToNat, Int.reduceLT, Int.reduceLE, reduceCtorEq, List.take_nil, List.drop_nil]
      have hF : losF m cs n = -1 := by simp [losF, ha]
      rw [hF]
      refine ⟨ii_ne (by omega), ?_⟩
      refine loopN 0 (fun j => [(0, .i m), (1, .t .arg (.s n1 (ii cs))), (2, .i n), (7, .own 1 (some true) []), (8, .own 1 none (ii (giveF m cs (wrI (n + 1))))), (22, .al 7), (23, .i 0), (24, .i (j : Nat))]) (fun _ => True) ⟨trivial, by simp (config := { maxSteps := 2000000 }) only [go_sem, Nat.reduceBEq, Nat.reduceAdd, Nat.reduceMul, Nat.reduceMod, Nat.reduceLT, Nat.reduceDiv, Nat.reduceSub, Nat.reduceLeDiff, Int.reduceToNat, Int.reduceLT, Int.reduceLE, reduceCtorEq, List.take_nil, List.drop_nil]; simp⟩ fun j hj _ => ?_
      simp (config := { maxSteps := 2000000 }) only [go_sem, Nat.reduceBEq, Nat.reduceAdd, Nat.reduceMul, Nat.reduceMod, Nat.reduceLT, Nat.reduceDiv, Nat.reduceSub, Nat.reduceLeDiff, Int.reduceToNat, Int.reduceLT, Int.reduceLE, reduceCtorEq, List.take_nil, List.drop_nil]
      exact ⟨fun h => by omega, fun _ => trivial⟩
    | true =>
      refine ⟨_, impl_Give_yes hl ha, ?_⟩; simp (config := { maxSteps := 2000000 }) only [go_sem, Nat.reduceBEq, Nat.reduceAdd, Nat.reduceMul, Nat.reduceMod, Nat.reduceLT, Nat.reduceDiv, Nat.reduceSub, Nat.reduceLeDiff, Int.reduceToNat, Int.reduceLT, Int.reduceLE, reduceCtorEq, List.take_nil, List.drop_nil]
      refine ⟨_, impl_Give_yes hl hb, ?_⟩; simp (config := { maxSteps := 2000000 }) only [go_sem, Nat.reduceBEq, Nat.reduceAdd, Nat.reduceMul, Nat.reduceMod, Nat.reduceLT, Nat.reduceDiv, Nat.reduceSub, Nat.reduceLeDiff, Int.reduceToNat, Int.reduceLT, Int.reduceLE, reduceCtorEq, List.take_nil, List.drop_nil]
      obtain ⟨_, l1, d1⟩ := give_of ha
      have hF : losF m cs n = firstP (losP m cs n) cs.length := if_pos ⟨ha, hb⟩
      rw [hF, l1]
      refine ⟨ii_ne (by omega), ?_⟩
      refine loopN cs.length (fun j => [(0, .i m), (1, .t .arg (.s n1 (ii cs))), (2, .i n), (7, .own 1 none (ii (giveF m cs n))), (8, .own 1 none (ii (giveF m cs (wrI (n + 1))))), (22, .al 7), (23, .i cs.length), (24, .i (j : Nat))]) (fun j => ∀ i, i < j → losP m cs n i = false) ⟨fun i hi => by omega, by simp (config := { maxSteps := 2000000 }) only [go_sem, Nat.reduceBEq, Nat.reduceAdd, Nat.reduceMul, Nat.reduceMod, Nat.reduceLT, Nat.reduceDiv, Nat.reduceSub, Nat.reduceLeDiff, Int.reduceToNat, Int.reduceLT, Int.reduceLE, reduceCtorEq, List.take_nil, List.drop_nil]; simp⟩ fun j hj hI => ?_
      simp (config := { maxSteps := 2000000 }) only [go_sem, Nat.reduceBEq, Nat.reduceAdd, Nat.reduceMul, Nat.reduceMod, Nat.reduceLT, Nat.reduceDiv, Nat.reduceSub, Nat.reduceLeDiff, Int.reduceToNat, Int.reduceLT, Int.reduceLE, reduceCtorEq, List.take_nil, List.drop_nil]
      refine ⟨fun hlt => ?_, fun hge => ?_⟩
      · have hj' : j < cs.length := by omega
        exact ⟨by omega, by omega, by omega, by omega, by omega, by omega, fun h => (firstP_hit hI (decide_eq_true h) hj').symm, fun h => ⟨inR_of (by omega) (by omega), hj', step_no hI (decide_eq_false h), by omega⟩⟩
      · have : j = cs.length := by omega
        subst this
        rw [firstP_no hI]
def fstP (m : Int) (cs : List Int) (i : Nat) : Bool := decide (0 ≤ losF m cs i)
def fstF (m : Int) (cs : List Int) (t : Int) : Int := if inI t 1 99 = true then firstP (fstP m cs) t.toNat else -1
theorem impl_FirstLoss_ok {n1 : Option Bool} (m : Int) (cs : List Int) (t : Int) (hl : cs.length ≤ 1048576) : CallOk Try.prog 11 [.i m, .s n1 (ii cs), .i t] [(0, .i (fstF m cs t))] := by
  obtain ⟨code0, hcd1, hcd2⟩ := chk_impl_FirstLoss; refine callOk_of Try.func11 hcd1 mo Try.call11 (rs := [6]) (by kernel_rfl) hcd2 (by rw [Try.ntmps11]; simp) (by simp) (by decide) ?_; unfold C_impl_FirstLoss K_impl_FirstLoss; simp (config := { maxSteps := 2000000 }) only [go_sem, Nat.reduceBEq, Nat.reduceAdd, Nat.reduceMul, Nat.reduceMod, Nat.reduceLT, Nat.reduceDiv, Nat.reduceSub, Nat.reduceLeDiff, Int.reduceToNat, Int.reduceLT, Int.reduceLE, reduceCtorEq, List.take_nil, List.drop_nil]
  refine ⟨_, within_ok _ _ _, ?_⟩; simp (config := { maxSteps := 2000000 }) only [go_sem, Nat.reduceBEq, Nat.reduceAdd, Nat.reduceMul, Nat.reduceMod, Nat.reduceLT, Nat.reduceDiv, Nat.reduceSub, Nat.reduceLeDiff, Int.reduceToNat, Int.reduceLT, Int.reduceLE, reduceCtorEq, List.take_nil, List.drop_nil]
  refine ⟨fun h => by simp [fstF, h], fun h => ?_⟩
  have h : inI t 1 99 = true := by simpa using h
  have hF : fstF m cs t = firstP (fstP m cs) t.toNat := if_pos h
  have hi : 1 ≤ t ∧ t ≤ 99 := by simpa [inI] using h
  rw [hF]
  refine loopN t.toNat (fun j => [(0, .i m), (1, .t .arg (.s n1 (ii cs))), (2, .i t), (11, .i t), (12, .i (j : Nat))]) (fun j => ∀ i, i < j → fstP m cs i = false) ⟨fun i hi => by omega, by simp (config := { maxSteps := 2000000 }) only [go_sem, Nat.reduceBEq, Nat.reduceAdd, Nat.reduceMul, Nat.reduceMod, Nat.reduceLT, Nat.reduceDiv, Nat.reduceSub, Nat.reduceLeDiff, Int.reduceToNat, Int.reduceLT, Int.reduceLE, reduceCtorEq, List.take_nil, List.drop_nil]; simp⟩ fun j hj hI => ?_
  simp (config := { maxSteps := 2000000 }) only [go_sem, Nat.reduceBEq, Nat.reduceAdd, Nat.reduceMul, Nat.reduceMod, Nat.reduceLT, Nat.reduceDiv, Nat.reduceSub, Nat.reduceLeDiff, Int.reduceToNat, Int.reduceLT, Int.reduceLE, reduceCtorEq, List.take_nil, List.drop_nil]
  refine ⟨fun hlt => ?_, fun hge => ?_⟩
  · have hj' : j < t.toNat := by omega
    refine ⟨_, impl_LosesByMore_ok m cs (j : Nat) hl, ?_⟩; simp (config := { maxSteps := 2000000 }) only [go_sem, Nat.reduceBEq, Nat.reduceAdd, Nat.reduceMul, Nat.reduceMod, Nat.reduceLT, Nat.reduceDiv, Nat.reduceSub, Nat.reduceLeDiff, Int.reduceToNat, Int.reduceLT, Int.reduceLE, reduceCtorEq, List.take_nil, List.drop_nil]
    exact ⟨fun h => (firstP_hit hI (decide_eq_true h) hj').symm, fun h => ⟨inR_of (by omega) (by omega), hj', step_no hI (decide_eq_false h), by omega⟩⟩
  · have : j = t.toNat := by omega
    subst this
    rw [firstP_no hI]
theorem giveB_ask {m : Int} {cs : List Int} {n : Int} (h : giveB m cs n = true) : askB cs n = true := by
  unfold giveB okB at h
  split at h
  · exact h
  · simp at h; exact h.2
def brkP (m : Int) (cs : List Int) (n : Int) (i : Nat) : Bool := !inI ((giveF m cs n).getD i 0) ((quoF lowO cs n).getD i 0) ((quoF uppO cs n).getD i 0)
def brkF (m : Int) (cs : List Int) (n : Int) : Int := if giveB m cs n = true then firstP (brkP m cs n) cs.length else -1
theorem impl_BreaksQuota_ok {n1 : Option Bool} (m : Int) (cs : List Int) (n : Int) (hl : cs.length ≤ 1048576) : CallOk Try.prog 18 [.i m, .s n1 (ii cs), .i n] [(0, .i (brkF m cs n))] := by
  obtain ⟨code0, hcd1, hcd2⟩ := chk_impl_BreaksQuota; refine callOk_of Try.func18 hcd1 mo Try.call18 (rs := [6]) (by kernel_rfl) hcd2 (by rw [Try.ntmps18]; simp) (by simp) (by decide) ?_; unfold C_impl_BreaksQuota K_impl_BreaksQuota; simp (config := { maxSteps := 2000000 }) only [go_sem, Nat.reduceBEq, Nat.reduceAdd, Nat.reduceMul, Nat.reduceMod, Nat.reduceLT, Nat.reduceDiv, Nat.reduceSub, Nat.reduceLeDiff, Int.reduceToNat, Int.reduceLT, Int.reduceLE, reduceCtorEq, List.take_nil, List.drop_nil]
  refine ⟨_, impl_LowerQuotas_ok cs n hl, ?_⟩; simp (config := { maxSteps := 2000000 }) only [go_sem, Nat.reduceBEq, Nat.reduceAdd, Nat.reduceMul, Nat.reduceMod, Nat.reduceLT, Nat.reduceDiv, Nat.reduceSub, Nat.reduceLeDiff, Int.reduceToNat, Int.reduceLT, Int.reduceLE, reduceCtorEq, List.take_nil, List.drop_nil]
  refine ⟨_, impl_UpperQuotas_ok cs n hl, ?_⟩; simp (config := { maxSteps := 2000000 }) only [go_sem, Nat.reduceBEq, Nat.reduceAdd, Nat.reduceMul, Nat.reduceMod, Nat.reduceLT, Nat.reduceDiv, Nat.reduceSub, Nat.reduceLeDiff, Int.reduceToNat, Int.reduceLT, Int.reduceLE, reduceCtorEq, List.take_nil, List.drop_nil]
  cases ha : giveB m cs n with
  | false =>
    refine ⟨_, impl_Give_no hl ha, ?_⟩; simp (config := { maxSteps := 2000000 }) only [go_sem, Nat.reduceBEq, Nat.reduceAdd, Nat.reduceMul, Nat.reduceMod, Nat.reduceLT, Nat.reduceDiv, Nat.reduceSub, Nat.reduceLeDiff, Int.reduceToNat, Int.reduceLT, Int.reduceLE, reduceCtorEq, List.take_nil, List.drop_nil]
    have hF : brkF m cs n = -1 := by simp [brkF, ha]
    rw [hF]
    refine loopN 0 (fun j => [(0, .i m), (1, .t .arg (.s n1 (ii cs))), (2, .i n), (7, .own 1 none (ii (quoF lowO cs n))), (8, .own 1 none (ii (quoF uppO cs n))), (20, .own 1 (some true) []), (21, .i 0), (22, .i (j : Nat))]) (fun _ => True) ⟨trivial, by simp (config := { maxSteps := 2000000 }) only [go_sem, Nat.reduceBEq, Nat.reduceAdd, Nat.reduceMul, Nat.reduceMod, Nat.reduceLT, Nat.reduceDiv, Nat.reduceSub, Nat.reduceLeDiff, Int.reduceToNat, Int.reduceLT, Int.reduceLE, reduceCtorEq, List.take_nil, List.drop_nil]; simp⟩ fun j hj _ => ?_
    simp (config := { maxSteps := 2000000 }) only [go_sem, Nat.reduceBEq, Nat.reduceAdd, Nat.reduceMul, Nat.reduceMod, Nat.reduceLT, Nat.reduceDiv, Nat.reduceSub, Nat.reduceLeDiff, Int.reduceToNat, Int.reduceLT, Int.reduceLE, reduceCtorEq, List.take_nil, List.drop_nil]
    exact ⟨fun h => by omega, fun _ => trivial⟩
  | true =>
    refine ⟨_, impl_Give_yes hl ha, ?_⟩; simp (config := { maxSteps := 2000000 }) only [go_sem, Nat.reduceBEq, Nat.reduceAdd, Nat.reduceMul, Nat.reduceMod, Nat.reduceLT, Nat.reduceDiv, Nat.reduceSub, Nat.reduceLeDiff, Int.reduceToNat, Int.reduceLT, Int.reduceLE, reduceCtorEq, List.take_nil, List.drop_nil]
    obtain ⟨A, l1, d1⟩ := give_of ha
    have z1 := A.l1
    have z6 := A.l6
    have hq := giveB_ask ha
    have q1 := quo_len (op := lowO) hq
    have q2 := quo_len (op := uppO) hq
    have hF : brkF m cs n = firstP (brkP m cs n) cs.length := if_pos ha
    rw [hF, l1]
    refine loopN cs.length (fun j => [(0, .i m), (1, .t .arg (.s n1 (ii cs))), (2, .i n), (7, .own 1 none (ii (quoF lowO cs n))), (8, .own 1 none (ii (quoF uppO cs n))), (20, .own 1 none (ii (giveF m cs n))), (21, .i cs.length), (22, .i (j : Nat))]) (fun j => ∀ i, i < j → brkP m cs n i = false) ⟨fun i hi => by omega, by simp (config := { maxSteps := 2000000 }) only [go_sem, Nat.reduceBEq, Nat.reduceAdd, Nat.reduceMul, Nat.reduceMod, Nat.reduceLT, Nat.reduceDiv, Nat.reduceSub, Nat.reduceLeDiff, Int.reduceToNat, Int.reduceLT, Int.reduceLE, reduceCtorEq, List.take_nil, List.drop_nil]; simp⟩ fun j hj hI => ?_
    simp (config := { maxSteps := 2000000 }) only [go_sem, Nat.reduceBEq, Nat.reduceAdd, Nat.reduceMul, Nat.reduceMod, Nat.reduceLT, Nat.reduceDiv, Nat.reduceSub, Nat.reduceLeDiff, Int.reduceToNat, Int.reduceLT, Int.reduceLE, reduceCtorEq, List.take_nil, List.drop_nil]
    refine ⟨fun hlt => ?_, fun hge => ?_⟩
    · have hj' : j < cs.length := by omega
      refine ⟨by omega, by omega, by omega, by omega, by omega, by omega, by omega, by omega, by omega, ?_⟩
      refine ⟨_, within_ok _ _ _, ?_⟩; simp (config := { maxSteps := 2000000 }) only [go_sem, Nat.reduceBEq, Nat.reduceAdd, Nat.reduceMul, Nat.reduceMod, Nat.reduceLT, Nat.reduceDiv, Nat.reduceSub, Nat.reduceLeDiff, Int.reduceToNat, Int.reduceLT, Int.reduceLE, reduceCtorEq, List.take_nil, List.drop_nil]
      exact ⟨fun h => (firstP_hit hI (by unfold brkP; rw [h]; rfl) hj').symm, fun h => ⟨inR_of (by omega) (by omega), hj', step_no hI (by unfold brkP; simpa [-List.getD_eq_getElem?_getD] using h), by omega⟩⟩
    · have : j = cs.length := by omega
      subst this
      rw [firstP_no hI]

end Go.Proofs.Ytfdoddeccnjcmaa
