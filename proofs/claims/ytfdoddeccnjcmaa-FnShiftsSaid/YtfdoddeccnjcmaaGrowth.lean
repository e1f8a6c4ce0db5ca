/- Own work: contracts of functions that the claim reaches. No condition beyond those that each theorem names. -/
import Derived.Test.YtfdoddeccnjcmaaProg
import Derived.Test.YtfdoddeccnjcmaaShifts
namespace Go.Proofs.Ytfdoddeccnjcmaa
open Go Go.Vc
set_option maxRecDepth 100000
set_option linter.unusedSimpArgs false
set_option linter.unusedVariables false
/- spec_LosesByGrowth: not in this cut -/
def K_impl_LosesByGrowth : List Nat := [0, 1, 2, 3, 8, 9, 10, 11, 12, 13, 14, 37, 38, 42, 43]
def C_impl_LosesByGrowth : C :=
  let ks := K_impl_LosesByGrowth
  (.seq
   (.rg 0 [(none, .v 8 .mv [.k (.i 0)]), (none, .v 9 .mv [.k (.i 0)])])
   (.cl ks (.seq
   (.rg 0 [(none, .v 15 .mv [.s 0]), (none, .v 16 .mv [.s 1]), (none, .v 17 .mv [.s 3]), (none, .co 18 19 [.s 15, .s 16, .s 17]), (none, .v 19 .mv [.s 0]), (none, .v 20 .mv [.s 2]), (none, .v 21 .mv [.s 3]), (none, .co 22 19 [.s 19, .s 20, .s 21]), (none, .tk 10 18), (none, .tk 11 22)])
   (.cl ks (.seq
   (.seq
   (.rg 0 [(none, .v 23 .mv [.s 10]), (none, .v 24 .nil [.s 23]), (none, .v 25 .mv [.s 24]), (some (25, false), .v 26 .mv [.s 11]), (some (25, false), .v 27 .nil [.s 26]), (none, .v 28 .pick [.s 25, .k (.b true), .s 27]), (none, .v 29 .mv [.s 28]), (some (29, false), .v 30 .mv [.s 10]), (some (29, false), .v 31 .len [.s 30]), (some (29, false), .v 32 .mv [.s 11]), (some (29, false), .v 33 .len [.s 32]), (some (29, false), .v 34 (.bin .neq) [.s 31, .s 33]), (none, .v 35 .pick [.s 29, .k (.b true), .s 34])])
   (.cond (.s 35)
   (.seq
   (.rg 0 [(none, .v 8 .mv [.k (.i (-1))]), (none, .v 9 .mv [.k (.i (-1))])])
   .ret)
   .skip))
   (.cl ks (.seq
   (.seq
   (.rg 0 [(none, .v 36 .mv [.s 10]), (none, .v 37 .len [.s 36]), (none, .v 38 .mv [.k (.i 0)])])
   (.cl ks (.block 0
   (.loop
   (.seq
   (.rg 0 [(none, .v 39 (.bin .lss) [.s 38, .s 37])])
   (.seq
   (.cond (.s 39)
   .skip
   (.exit 0))
   (.cl ks (.seq
   (.block 1
   (.seq
   (.rg 0 [(none, .v 40 .mv [.s 38]), (none, .tk 12 40)])
   (.cl ks (.seq
   (.rg 0 [(none, .v 41 .mv [.s 10]), (none, .v 42 .len [.s 41]), (none, .v 43 .mv [.k (.i 0)])])
   (.cl ks (.block 2
   (.loop
   (.seq
   (.rg 0 [(none, .v 44 (.bin .lss) [.s 43, .s 42])])
   (.seq
   (.cond (.s 44)
   .skip
   (.exit 2))
   (.cl ks (.seq
   (.block 3
   (.seq
   (.rg 0 [(none, .v 45 .mv [.s 43]), (none, .tk 13 45)])
   (.cl ks (.seq
   (.rg 39 [(none, .v 46 .mv [.s 2]), (none, .v 47 .mv [.s 12]), (none, .v 48 .idx [.s 46, .s 47]), (none, .v 49 .ld [.s 48]), (none, .v 50 .mv [.s 1]), (none, .v 51 .mv [.s 13]), (none, .v 52 .idx [.s 50, .s 51]), (none, .v 53 .ld [.s 52]), (none, .v 54 (.bin .mul) [.s 49, .s 53]), (none, .v 55 .mv [.s 2]), (none, .v 56 .mv [.s 13]), (none, .v 57 .idx [.s 55, .s 56]), (none, .v 58 .ld [.s 57]), (none, .v 59 .mv [.s 1]), (none, .v 60 .mv [.s 12]), (none, .v 61 .idx [.s 59, .s 60]), (none, .v 62 .ld [.s 61]), (none, .v 63 (.bin .mul) [.s 58, .s 62]), (none, .v 64 (.bin .geq) [.s 54, .s 63]), (none, .v 65 .mv [.s 64]), (some (65, true), .v 66 .mv [.s 2]), (some (65, true), .v 67 .mv [.s 12]), (some (65, true), .v 68 .idx [.s 66, .s 67]), (some (65, true), .v 69 .ld [.s 68]), (some (65, true), .v 70 .mv [.s 1]), (some (65, true), .v 71 .mv [.s 12]), (some (65, true), .v 72 .idx [.s 70, .s 71]), (some (65, true), .v 73 .ld [.s 72]), (some (65, true), .v 74 (.bin .geq) [.s 69, .s 73]), (none, .v 75 .pick [.s 65, .s 74, .k (.b false)]), (none, .v 76 .mv [.s 75]), (some (76, true), .v 77 .mv [.s 2]), (some (76, true), .v 78 .mv [.s 13]), (some (76, true), .v 79 .idx [.s 77, .s 78]), (some (76, true), .v 80 .ld [.s 79]), (some (76, true), .v 81 .mv [.s 1]), (some (76, true), .v 82 .mv [.s 13]), (some (76, true), .v 83 .idx [.s 81, .s 82]), (some (76, true), .v 84 .ld [.s 83]), (some (76, true), .v 85 (.bin .leq) [.s 80, .s 84]), (none, .v 86 .pick [.s 76, .s 85, .k (.b false)]), (none, .tk 14 86)])
   (.cl ks (.seq
   (.rg 21 [(none, .v 87 .mv [.s 14]), (none, .v 88 .mv [.s 87]), (some (88, true), .v 89 .mv [.s 11]), (some (88, true), .v 90 .mv [.s 12]), (some (88, true), .v 91 .idx [.s 89, .s 90]), (some (88, true), .v 92 .ld [.s 91]), (some (88, true), .v 93 .mv [.s 10]), (some (88, true), .v 94 .mv [.s 12]), (some (88, true), .v 95 .idx [.s 93, .s 94]), (some (88, true), .v 96 .ld [.s 95]), (some (88, true), .v 97 (.bin .lss) [.s 92, .s 96]), (none, .v 98 .pick [.s 88, .s 97, .k (.b false)]), (none, .v 99 .mv [.s 98]), (some (99, true), .v 100 .mv [.s 11]), (some (99, true), .v 101 .mv [.s 13]), (some (99, true), .v 102 .idx [.s 100, .s 101]), (some (99, true), .v 103 .ld [.s 102]), (some (99, true), .v 104 .mv [.s 10]), (some (99, true), .v 105 .mv [.s 13]), (some (99, true), .v 106 .idx [.s 104, .s 105]), (some (99, true), .v 107 .ld [.s 106]), (some (99, true), .v 108 (.bin .gtr) [.s 103, .s 107]), (none, .v 109 .pick [.s 99, .s 108, .k (.b false)])])
   (.cond (.s 109)
   (.seq
   (.rg 0 [(none, .v 110 .mv [.s 12]), (none, .v 111 .mv [.s 13]), (none, .tk 8 110), (none, .tk 9 111)])
   .ret)
   .skip)))))))
   (.cl ks (.rg 0 [(none, .v 112 (.bin .add) [.s 43, .k (.i 1)]), (none, .v 43 .mv [.s 112])])))))))))))))
   (.cl ks (.rg 0 [(none, .v 113 (.bin .add) [.s 38, .k (.i 1)]), (none, .v 38 .mv [.s 113])]))))))))))
   (.cl ks (.seq
   (.rg 0 [(none, .v 8 .mv [.k (.i (-1))]), (none, .v 9 .mv [.k (.i (-1))])])
   .ret)))))))))

theorem chk_impl_LosesByGrowth : ∃ b, Try.f10.body = some b ∧ chk Try.prog Try.f10.ntmps true C_impl_LosesByGrowth b = true := ⟨_, rfl, by kernel_rfl⟩
def groB (bs cs : List Int) (i k : Nat) : Bool := decide (cs.getD k 0 * bs.getD i 0 ≤ cs.getD i 0 * bs.getD k 0) && decide (bs.getD i 0 ≤ cs.getD i 0) && decide (cs.getD k 0 ≤ bs.getD k 0)
def groP (m : Int) (bs cs : List Int) (n : Int) (i k : Nat) : Bool := decide ((giveF m cs n).getD i 0 < (giveF m bs n).getD i 0) && decide ((giveF m bs n).getD k 0 < (giveF m cs n).getD k 0) && groB bs cs i k
def groR (m : Int) (bs cs : List Int) (n : Int) (i : Nat) : Int := firstP (groP m bs cs n i) bs.length
def groO (m : Int) (bs cs : List Int) (n : Int) (i : Nat) : Bool := decide (0 ≤ groR m bs cs n i)
def groA (m : Int) (bs cs : List Int) (n : Int) : Int := if giveB m bs n = true ∧ giveB m cs n = true ∧ bs.length = cs.length then firstP (groO m bs cs n) bs.length else -1
def groK (m : Int) (bs cs : List Int) (n : Int) : Int := if groA m bs cs n = -1 then -1 else groR m bs cs n (groA m bs cs n).toNat
theorem gro_no {m : Int} {bs cs : List Int} {n : Int} (h : ¬ (giveB m bs n = true ∧ giveB m cs n = true ∧ bs.length = cs.length)) : groA m bs cs n = -1 ∧ groK m bs cs n = -1 := by
  have : groA m bs cs n = -1 := if_neg h
  exact ⟨this, if_pos this⟩
theorem gro_end {m : Int} {bs cs : List Int} {n : Int} (h : giveB m bs n = true ∧ giveB m cs n = true ∧ bs.length = cs.length) (hI : ∀ i, i < bs.length → groO m bs cs n i = false) : groA m bs cs n = -1 ∧ groK m bs cs n = -1 := by
  have : groA m bs cs n = -1 := by rw [groA, if_pos h, firstP_no hI]
  exact ⟨this, if_pos this⟩
theorem gro_hit {m : Int} {bs cs : List Int} {n : Int} {i k : Nat} (h : giveB m bs n = true ∧ giveB m cs n = true ∧ bs.length = cs.length) (hI : ∀ j, j < i → groO m bs cs n j = false) (hi : i < bs.length) (hk : k < bs.length) (hK : ∀ j, j < k → groP m bs cs n i j = false) (hp : groP m bs cs n i k = true) : groA m bs cs n = i ∧ groK m bs cs n = k := by
  have hr : groR m bs cs n i = k := firstP_hit hK hp hk
  have : groA m bs cs n = i := by rw [groA, if_pos h, firstP_hit hI (by unfold groO; rw [hr]; simp) hi]
  refine ⟨this, ?_⟩
  rw [groK, this, if_neg (by omega), Int.toNat_natCast, hr]
theorem gro_row {m : Int} {bs cs : List Int} {n : Int} {i : Nat} (hK : ∀ j, j < bs.length → groP m bs cs n i j = false) : groO m bs cs n i = false := by
  unfold groO groR; rw [firstP_no hK]; rfl
theorem gro_yes {m : Int} {bs cs : List Int} {n : Int} {i k : Nat} (h1 : (giveF m cs n).getD i 0 < (giveF m bs n).getD i 0) (h2 : (giveF m bs n).getD k 0 < (giveF m cs n).getD k 0) (h3 : cs.getD k 0 * bs.getD i 0 ≤ cs.getD i 0 * bs.getD k 0) (h4 : bs.getD i 0 ≤ cs.getD i 0) (h5 : cs.getD k 0 ≤ bs.getD k 0) : groP m bs cs n i k = true := by
  unfold groP groB
  rw [decide_eq_true h1, decide_eq_true h2, decide_eq_true h3, decide_eq_true h4, decide_eq_true h5]; rfl
theorem gro_f1 {m : Int} {bs cs : List Int} {n : Int} {i k : Nat} (h : ¬ (giveF m cs n).getD i 0 < (giveF m bs n).getD i 0) : groP m bs cs n i k = false := by
  unfold groP; rw [decide_eq_false h]; rfl
theorem gro_f2 {m : Int} {bs cs : List Int} {n : Int} {i k : Nat} (h : ¬ (giveF m bs n).getD k 0 < (giveF m cs n).getD k 0) : groP m bs cs n i k = false := by
  unfold groP; rw [decide_eq_false h, Bool.and_false]; rfl
theorem gro_f3 {m : Int} {bs cs : List Int} {n : Int} {i k : Nat} (h : ¬ cs.getD k 0 * bs.getD i 0 ≤ cs.getD i 0 * bs.getD k 0) : groP m bs cs n i k = false := by
  unfold groP groB; rw [decide_eq_false h, Bool.false_and, Bool.false_and, Bool.and_false]
theorem gro_f4 {m : Int} {bs cs : List Int} {n : Int} {i k : Nat} (h : ¬ bs.getD i 0 ≤ cs.getD i 0) : groP m bs cs n i k = false := by
  unfold groP groB; rw [decide_eq_false h, Bool.and_false, Bool.false_and, Bool.and_false]
theorem gro_f5 {m : Int} {bs cs : List Int} {n : Int} {i k : Nat} (h : ¬ cs.getD k 0 ≤ bs.getD k 0) : groP m bs cs n i k = false := by
  unfold groP groB; rw [decide_eq_false h, Bool.and_false, Bool.and_false]
theorem impl_LosesByGrowth_ok {n1 n2 : Option Bool} (m : Int) (bs cs : List Int) (n : Int) (hl : bs.length ≤ 1048576) (hl2 : cs.length ≤ 1048576) : CallOk Try.prog 10 [.i m, .s n1 (ii bs), .s n2 (ii cs), .i n] [(0, .tp 2), (100000, .i (groA m bs cs n)), (101000, .i (groK m bs cs n))] := by
  obtain ⟨code0, hcd1, hcd2⟩ := chk_impl_LosesByGrowth; refine callOk_of Try.func10 hcd1 mo Try.call10 (rs := [8, 9]) (by kernel_rfl) hcd2 (by rw [Try.ntmps10]; simp) (by simp) (by decide) ?_; unfold C_impl_LosesByGrowth K_impl_LosesByGrowth; simp (config := { maxSteps := 2000000 }) only [go_sem, Nat.reduceBEq, Nat.reduceAdd, Nat.reduceMul, Nat.reduceMod, Nat.reduceLT, Nat.reduceDiv, Nat.reduceSub, Nat.reduceLeDiff, Int.reduceToNat, Int.reduceLT, Int.reduceLE, reduceCtorEq, List.take_nil, List.drop_nil]
  cases ha : giveB m bs n with
  | false =>
    refine ⟨_, impl_Give_no hl ha, ?_⟩; simp (config := { maxSteps := 2000000 }) only [go_sem, Nat.reduceBEq, Nat.reduceAdd, Nat.reduceMul, Nat.reduceMod, Nat.reduceLT, Nat.reduceDiv, Nat.reduceSub, Nat.reduceLeDiff, Int.reduceToNat, Int.reduceLT, Int.reduceLE, reduceCtorEq, List.take_nil, List.drop_nil]
    refine ⟨_, impl_GiveSeats_ok m cs n hl2, ?_⟩; simp (config := { maxSteps := 2000000 }) only [go_sem, Nat.reduceBEq, Nat.reduceAdd, Nat.reduceMul, Nat.reduceMod, Nat.reduceLT, Nat.reduceDiv, Nat.reduceSub, Nat.reduceLeDiff, Int.reduceToNat, Int.reduceLT, Int.reduceLE, reduceCtorEq, List.take_nil, List.drop_nil]
    obtain ⟨e1, e2⟩ := gro_no (m := m) (bs := bs) (cs := cs) (n := n) (by simp [ha])
    rw [e1, e2]
    simp
  | true =>
    refine ⟨_, impl_Give_yes hl ha, ?_⟩; simp (config := { maxSteps := 2000000 }) only [go_sem, Nat.reduceBEq, Nat.reduceAdd, Nat.reduceMul, Nat.reduceMod, Nat.reduceLT, Nat.reduceDiv, Nat.reduceSub, Nat.reduceLeDiff, Int.reduceToNat, Int.reduceLT, Int.reduceLE, reduceCtorEq, List.take_nil, List.drop_nil]
    obtain ⟨A, l1, d1⟩ := give_of ha
    have z1 := A.l1
    have z6 := A.l6
    cases hb : giveB m cs n with
    | false =>
      refine ⟨_, impl_Give_no hl2 hb, ?_⟩; simp (config := { maxSteps := 2000000 }) only [go_sem, Nat.reduceBEq, Nat.reduceAdd, Nat.reduceMul, Nat.reduceMod, Nat.reduceLT, Nat.reduceDiv, Nat.reduceSub, Nat.reduceLeDiff, Int.reduceToNat, Int.reduceLT, Int.reduceLE, reduceCtorEq, List.take_nil, List.drop_nil]
      obtain ⟨e1, e2⟩ := gro_no (m := m) (bs := bs) (cs := cs) (n := n) (by simp [hb])
      rw [e1, e2]
      exact ⟨ii_ne (by omega), by decide, rfl, rfl⟩
    | true =>
      refine ⟨_, impl_Give_yes hl2 hb, ?_⟩; simp (config := { maxSteps := 2000000 }) only [go_sem, Nat.reduceBEq, Nat.reduceAdd, Nat.reduceMul, Nat.reduceMod, Nat.reduceLT, Nat.reduceDiv, Nat.reduceSub, Nat.reduceLeDiff, Int.reduceToNat, Int.reduceLT, Int.reduceLE, reduceCtorEq, List.take_nil, List.drop_nil]
      obtain ⟨B, l2, d2⟩ := give_of hb
      have zb := B.l1
      rw [l1, l2]
      by_cases hlen : bs.length = cs.length
      · have hh := And.intro ha (And.intro hb hlen)
        refine ⟨ii_ne (by omega), ii_ne (by omega), fun h => by omega, fun _ => ?_⟩
        refine loopN bs.length (fun i => [(0, .i m), (1, .t .arg (.s n1 (ii bs))), (2, .t .arg (.s n2 (ii cs))), (3, .i n), (10, .own 1 none (ii (giveF m bs n))), (11, .own 1 none (ii (giveF m cs n))), (37, .i bs.length), (38, .i (i : Nat))]) (fun i => ∀ j, j < i → groO m bs cs n j = false) ⟨fun i hi => by omega, by simp (config := { maxSteps := 2000000 }) only [go_sem, Nat.reduceBEq, Nat.reduceAdd, Nat.reduceMul, Nat.reduceMod, Nat.reduceLT, Nat.reduceDiv, Nat.reduceSub, Nat.reduceLeDiff, Int.reduceToNat, Int.reduceLT, Int.reduceLE, reduceCtorEq, List.take_nil, List.drop_nil]; simp⟩ fun i hi hI => ?_
        simp (config := { maxSteps := 2000000 }) only [go_sem, Nat.reduceBEq, Nat.reduceAdd, Nat.reduceMul, Nat.reduceMod, Nat.reduceLT, Nat.reduceDiv, Nat.reduceSub, Nat.reduceLeDiff, Int.reduceToNat, Int.reduceLT, Int.reduceLE, reduceCtorEq, List.take_nil, List.drop_nil]
        refine ⟨fun hlt => ?_, fun hge => ?_⟩
        · have hi' : i < bs.length := by omega
          rw [l1]
          refine loopN bs.length (fun k => [(0, .i m), (1, .t .arg (.s n1 (ii bs))), (2, .t .arg (.s n2 (ii cs))), (3, .i n), (10, .own 1 none (ii (giveF m bs n))), (11, .own 1 none (ii (giveF m cs n))), (12, .i (i : Nat)), (37, .i bs.length), (38, .i (i : Nat)), (42, .i bs.length), (43, .i (k : Nat))]) (fun k => ∀ j, j < k → groP m bs cs n i j = false) ⟨fun i hi => by omega, by simp (config := { maxSteps := 2000000 }) only [go_sem, Nat.reduceBEq, Nat.reduceAdd, Nat.reduceMul, Nat.reduceMod, Nat.reduceLT, Nat.reduceDiv, Nat.reduceSub, Nat.reduceLeDiff, Int.reduceToNat, Int.reduceLT, Int.reduceLE, reduceCtorEq, List.take_nil, List.drop_nil]; simp⟩ fun k hk hK => ?_
          have g1 := fun hk' : k < bs.length => gro_hit hh hI hi' hk' hK
          simp (config := { maxSteps := 2000000 }) only [go_sem, Nat.reduceBEq, Nat.reduceAdd, Nat.reduceMul, Nat.reduceMod, Nat.reduceLT, Nat.reduceDiv, Nat.reduceSub, Nat.reduceLeDiff, Int.reduceToNat, Int.reduceLT, Int.reduceLE, reduceCtorEq, List.take_nil, List.drop_nil]
          refine ⟨fun hlt => ?_, fun hge => ?_⟩
          · have hk' : k < bs.length := by omega
            have g1 := g1 hk'
            have b1 := A.bd _ (getD_mem (d := 0) hi')
            have b2 := A.bd _ (getD_mem (d := 0) hk')
            have b3 := B.bd _ (getD_mem (d := 0) (show i < cs.length by omega))
            have b4 := B.bd _ (getD_mem (d := 0) (show k < cs.length by omega))
            have m1 := mul_bd2 b3.1 b3.2 b2.1 b2.2
            have m2 := mul_bd2 b4.1 b4.2 b1.1 b1.2
            have nx : groP m bs cs n i k = false → (inR ((k : Int) + 1) ∧ k < bs.length ∧ (∀ j, j < k + 1 → groP m bs cs n i j = false) ∧ (k : Int) + 1 = ((k + 1 : Nat) : Int)) := fun h => ⟨inR_of (by omega) (by omega), hk', step_no hK h, by omega⟩
            refine ⟨by omega, by omega, by omega, by omega, by omega, by omega, inR_of (by omega) (by omega), by omega, by omega, by omega, by omega, by omega, by omega, inR_of (by omega) (by omega), fun h3 => ⟨by omega, by omega, by omega, by omega, by omega, by omega, fun h4 => ⟨by omega, by omega, by omega, by omega, by omega, by omega, fun h5 => ⟨by omega, by omega, by omega, by omega, by omega, by omega, fun h1 => ⟨by omega, by omega, by omega, by omega, by omega, by omega, fun h2 => ?_, fun h2 => nx (gro_f2 h2)⟩, fun h1 => nx (gro_f1 h1)⟩, fun h5 => nx (gro_f5 h5)⟩, fun h4 => nx (gro_f4 h4)⟩, fun h3 => nx (gro_f3 h3)⟩
            obtain ⟨e1, e2⟩ := g1 (gro_yes h1 h2 h3 h4 h5)
            exact ⟨by decide, e1.symm, e2.symm⟩
          · have : k = bs.length := by omega
            subst this
            exact ⟨inR_of (by omega) (by omega), hi', step_no hI (gro_row hK), by omega⟩
        · have : i = bs.length := by omega
          subst this
          obtain ⟨e1, e2⟩ := gro_end hh hI
          rw [e1, e2]
          exact ⟨by decide, rfl, rfl⟩
      · obtain ⟨e1, e2⟩ := gro_no (m := m) (bs := bs) (cs := cs) (n := n) (by simp [hlen])
        rw [e1, e2]
        exact ⟨ii_ne (by omega), ii_ne (by omega), fun _ => ⟨by decide, rfl, rfl⟩, fun h => by omega⟩

end Go.Proofs.Ytfdoddeccnjcmaa
