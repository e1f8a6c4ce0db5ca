/- Own work: contracts of functions that the claim reaches. No condition beyond those that each theorem names. -/
import Derived.Test.YtfdoddeccnjcmaaProg
import Derived.Test.YtfdoddeccnjcmaaSeats
import Derived.Test.YtfdoddeccnjcmaaSame
namespace Go.Proofs.Ytfdoddeccnjcmaa
open Go Go.Vc
set_option maxRecDepth 100000
set_option linter.unusedSimpArgs false
set_option linter.unusedVariables false
/- spec_GainBySplit: not in this cut -/
def K_impl_GainBySplit : List Nat := [0, 1, 2, 3, 4, 10, 11, 12, 13, 14]
def C_impl_GainBySplit : C :=
  let ks := K_impl_GainBySplit
  (.seq
   (.rg 0 [(none, .v 10 .mv [.k (.i 0)]), (none, .v 11 .mv [.k (.b false)])])
   (.cl ks (.seq
   (.rg 0 [(none, .v 15 .mv [.s 0]), (none, .v 16 .mv [.s 1]), (none, .v 17 .mv [.s 2]), (none, .co 18 19 [.s 15, .s 16, .s 17]), (none, .tk 12 18)])
   (.cl ks (.seq
   (.seq
   (.rg 0 [(none, .v 19 .mv [.s 12]), (none, .v 20 .nil [.s 19]), (none, .v 21 .mv [.s 20]), (some (21, false), .v 22 .mv [.s 3]), (some (21, false), .v 23 .mv [.s 1]), (some (21, false), .v 24 .len [.s 23]), (some (21, false), .v 25 (.bin .sub) [.s 24, .k (.i 1)]), (some (21, false), .co 26 69 [.s 22, .k (.i 0), .s 25]), (some (21, false), .v 27 .not [.s 26]), (none, .v 28 .pick [.s 21, .k (.b true), .s 27]), (none, .v 29 .mv [.s 28]), (some (29, false), .v 30 .mv [.s 4]), (some (29, false), .v 31 .mv [.s 1]), (some (29, false), .v 32 .mv [.s 3]), (some (29, false), .v 33 .idx [.s 31, .s 32]), (some (29, false), .v 34 .ld [.s 33]), (some (29, false), .co 35 69 [.s 30, .k (.i 0), .s 34]), (some (29, false), .v 36 .not [.s 35]), (none, .v 37 .pick [.s 29, .k (.b true), .s 36]), (none, .v 38 .mv [.s 37]), (some (38, false), .v 39 .mv [.s 1]), (some (38, false), .v 40 .len [.s 39]), (some (38, false), .v 41 (.bin .eql) [.s 40, .k (.i 6)]), (none, .v 42 .pick [.s 38, .k (.b true), .s 41])])
   (.cond (.s 42)
   (.seq
   (.rg 0 [(none, .v 10 .mv [.k (.i 0)]), (none, .v 11 .mv [.k (.b false)])])
   .ret)
   .skip))
   (.cl ks (.seq
   (.rg 0 [(none, .v 43 .mv [.s 1]), (none, .v 44 .mv [.s 1]), (none, .v 45 .mv [.s 3]), (none, .v 46 .idx [.s 44, .s 45]), (none, .v 47 .ld [.s 46]), (none, .v 48 .mv [.s 4]), (none, .v 49 (.bin .sub) [.s 47, .s 48]), (none, .v 50 .litF [.s 49]), (none, .v 51 .litF [.s 43, .s 50]), (none, .co 52 70 [.s 51]), (none, .tk 13 52)])
   (.cl ks (.seq
   (.rg 0 [(none, .v 53 .mv [.s 13]), (none, .v 54 .mv [.s 3]), (none, .v 55 .mv [.s 4]), (none, .v 56 .idx [.s 53, .s 54]), (none, .st (.s 56) (.s 55))])
   (.cl ks (.seq
   (.rg 0 [(none, .v 57 .mv [.s 0]), (none, .v 58 .mv [.s 13]), (none, .v 59 .mv [.s 2]), (none, .co 60 19 [.s 57, .s 58, .s 59]), (none, .tk 14 60)])
   (.cl ks (.seq
   (.rg 14 [(none, .v 61 .mv [.s 14]), (none, .v 62 .mv [.s 3]), (none, .v 63 .idx [.s 61, .s 62]), (none, .v 64 .ld [.s 63]), (none, .v 65 .mv [.s 14]), (none, .v 66 .mv [.s 1]), (none, .v 67 .len [.s 66]), (none, .v 68 .idx [.s 65, .s 67]), (none, .v 69 .ld [.s 68]), (none, .v 70 (.bin .add) [.s 64, .s 69]), (none, .v 71 .mv [.s 12]), (none, .v 72 .mv [.s 3]), (none, .v 73 .idx [.s 71, .s 72]), (none, .v 74 .ld [.s 73]), (none, .v 75 (.bin .sub) [.s 70, .s 74]), (none, .tk 10 75), (none, .v 11 .mv [.k (.b true)])])
   .ret)))))))))))))

theorem chk_impl_GainBySplit : ∃ b, Try.f14.body = some b ∧ chk Try.prog Try.f14.ntmps true C_impl_GainBySplit b = true := ⟨_, rfl, by kernel_rfl⟩
theorem impl_Give_yesS {n1 : Option Bool} {m : Int} {cs : List Int} {n : Int} (hl : cs.length ≤ 1048576) (h : giveB m cs n = true) : CallOk Try.prog 19 [.i m, .s n1 (ii cs), .i n] [(0, .own 1 none (ii (giveF m cs n)))] := by
  have := impl_GiveSeats_ok (n1 := n1) m cs n hl
  rw [h] at this
  exact this
theorem impl_Give_noS {n1 : Option Bool} {m : Int} {cs : List Int} {n : Int} (hl : cs.length ≤ 1048576) (h : giveB m cs n = false) : CallOk Try.prog 19 [.i m, .s n1 (ii cs), .i n] [(0, .own 1 (some true) [])] := by
  have := impl_GiveSeats_ok (n1 := n1) m cs n hl
  rw [h, give_no h] at this
  exact this
theorem ii_neS {X : List Int} (h : 0 < X.length) : ¬ ii X = [] := fun e => by
  cases X with
  | nil => simp at h
  | cons x xs => simp [ii] at e
def spltL (cs : List Int) (i p : Int) : List Int := (cs ++ [cs.getD i.toNat 0 - p]).set i.toNat p
theorem splt_len {cs : List Int} {i p : Int} : (spltL cs i p).length = cs.length + 1 := by simp [spltL]
def splB (m : Int) (cs : List Int) (n i p : Int) : Bool := giveB m cs n && inI i 0 (cs.length - 1) && decide (cs.length ≠ 6) && inI p 0 (cs.getD i.toNat 0)
theorem sumN_app {xs ys : List Int} : ∀ {j : Nat}, j ≤ xs.length → sumN (xs ++ ys) j = sumN xs j
  | 0, _ => rfl
  | j + 1, h => by
    simp only [sumN]
    rw [sumN_app (by omega)]
    congr 1
    simp only [List.getD]
    rw [List.getElem?_append_left (by omega)]
theorem splt_give {m : Int} {cs : List Int} {n i p : Int} (h : splB m cs n i p = true) : giveB m (spltL cs i p) n = true := by
  simp only [splB, inI, Bool.and_eq_true, decide_eq_true_eq] at h
  obtain ⟨⟨⟨hg, hi⟩, h6⟩, hp⟩ := h
  have A := (give_of hg).ask
  have hil : i.toNat < cs.length := by omega
  have hci := A.bd _ (getD_mem (d := 0) hil)
  have hask : askB (spltL cs i p) n = true := by
    have hsum : sumL (spltL cs i p) = sumL cs := by
      unfold sumL
      rw [splt_len, spltL, sumN_set (by simp; omega) (by simp), if_pos (by omega)]
      simp only [sumN]
      rw [sumN_app (Nat.le_refl _)]
      have e1 : (cs ++ [cs.getD i.toNat 0 - p]).getD cs.length 0 = cs.getD i.toNat 0 - p := by
        simp only [List.getD]; rw [List.getElem?_append_right (Nat.le_refl _)]; simp
      have e2 : (cs ++ [cs.getD i.toNat 0 - p]).getD i.toNat 0 = cs.getD i.toNat 0 := by
        simp only [List.getD]; rw [List.getElem?_append_left hil]
      rw [e1, e2]
      omega
    have hl := A.l6
    have hl1 := A.l1
    have hpos := A.pos
    simp only [askB, countsB, inI, Bool.and_eq_true, decide_eq_true_eq, List.all_eq_true]
    refine ⟨⟨⟨by rw [splt_len]; omega, fun x hx => ?_⟩, by rw [hsum]; exact hpos⟩, A.n0, A.n1⟩
    unfold spltL at hx
    rcases List.mem_or_eq_of_mem_set hx with hx | rfl
    · rcases List.mem_append.1 hx with hx | hx
      · have := A.bd x hx; omega
      · simp only [List.mem_singleton] at hx; omega
    · omega
  unfold giveB at hg ⊢
  by_cases hm : m = 0
  · rw [if_pos hm] at hg ⊢; exact hask
  · rw [if_neg hm] at hg ⊢
    simp only [okB, Bool.and_eq_true] at hg ⊢
    exact ⟨hg.1, hask⟩
def splV (m : Int) (cs : List Int) (n i p : Int) : Int := if splB m cs n i p = true then (giveF m (spltL cs i p) n).getD i.toNat 0 + (giveF m (spltL cs i p) n).getD cs.length 0 - (giveF m cs n).getD i.toNat 0 else 0
theorem Cc2 {nl n1 n2 : Option Bool} (a b : List Int) (ha : a.length + b.length ≤ 1048576) : CallOk Try.prog 70 [.s nl [.s n1 (ii a), .s n2 (ii b)]] [(0, .own 1 none (ii (a ++ b)))] := by
  have := Concat_ok (nl := nl) [(n1, a), (n2, b)] (by simp) (by simpa using ha)
  simpa [nrows] using this
theorem impl_GainBySplit_ok {n1 : Option Bool} (m : Int) (cs : List Int) (n i p : Int) (hl : cs.length ≤ 1048576) : CallOk Try.prog 14 [.i m, .s n1 (ii cs), .i n, .i i, .i p] [(0, .tp 2), (100000, .i (splV m cs n i p)), (101000, .b (splB m cs n i p))] := by
  obtain ⟨code0, hcd1, hcd2⟩ := chk_impl_GainBySplit; refine callOk_of Try.func14 hcd1 mo Try.call14 (rs := [10, 11]) (by kernel_rfl) hcd2 (by rw [Try.ntmps14]; simp) (by simp) (by decide) ?_; unfold C_impl_GainBySplit K_impl_GainBySplit; simp (config := { maxSteps := 2000000 }) only [go_sem, Nat.reduceBEq, Nat.reduceAdd, Nat.reduceMul, Nat.reduceMod, Nat.reduceLT, Nat.reduceDiv, Nat.reduceSub, Nat.reduceLeDiff, Int.reduceToNat, Int.reduceLT, Int.reduceLE, reduceCtorEq, List.take_nil, List.drop_nil]
  cases ha : giveB m cs n with
  | false =>
    refine ⟨_, impl_Give_noS hl ha, ?_⟩; simp (config := { maxSteps := 2000000 }) only [go_sem, Nat.reduceBEq, Nat.reduceAdd, Nat.reduceMul, Nat.reduceMod, Nat.reduceLT, Nat.reduceDiv, Nat.reduceSub, Nat.reduceLeDiff, Int.reduceToNat, Int.reduceLT, Int.reduceLE, reduceCtorEq, List.take_nil, List.drop_nil]
    have e : splB m cs n i p = false := by simp [splB, ha]
    simp [splV, e]
  | true =>
    refine ⟨_, impl_Give_yesS hl ha, ?_⟩; simp (config := { maxSteps := 2000000 }) only [go_sem, Nat.reduceBEq, Nat.reduceAdd, Nat.reduceMul, Nat.reduceMod, Nat.reduceLT, Nat.reduceDiv, Nat.reduceSub, Nat.reduceLeDiff, Int.reduceToNat, Int.reduceLT, Int.reduceLE, reduceCtorEq, List.take_nil, List.drop_nil]
    obtain ⟨A, l1, d1⟩ := give_of ha
    have z1 := A.l1
    have z6 := A.l6
    refine ⟨ii_neS (by omega), inR_of (by omega) (by omega), ?_⟩
    refine ⟨_, within_ok i 0 (cs.length - 1), ?_⟩; simp (config := { maxSteps := 2000000 }) only [go_sem, Nat.reduceBEq, Nat.reduceAdd, Nat.reduceMul, Nat.reduceMod, Nat.reduceLT, Nat.reduceDiv, Nat.reduceSub, Nat.reduceLeDiff, Int.reduceToNat, Int.reduceLT, Int.reduceLE, reduceCtorEq, List.take_nil, List.drop_nil]
    refine ⟨fun h1 => ?_, fun h1 => ?_⟩
    · have hil : 0 ≤ i ∧ i ≤ cs.length - 1 := by simpa [inI] using h1
      refine ⟨by omega, by omega, by omega, ?_⟩
      refine ⟨_, within_ok p 0 (cs.getD i.toNat 0), ?_⟩; simp (config := { maxSteps := 2000000 }) only [go_sem, Nat.reduceBEq, Nat.reduceAdd, Nat.reduceMul, Nat.reduceMod, Nat.reduceLT, Nat.reduceDiv, Nat.reduceSub, Nat.reduceLeDiff, Int.reduceToNat, Int.reduceLT, Int.reduceLE, reduceCtorEq, List.take_nil, List.drop_nil]
      have hci := A.bd _ (getD_mem (d := 0) (show i.toNat < cs.length by omega))
      refine ⟨fun h3 => ⟨fun h2 => ?_, fun h2 => ?_⟩, fun h3 => ?_⟩
      · have e : splB m cs n i p = false := by simp [splB]; omega
        simp [splV, e]
      · have hp : 0 ≤ p ∧ p ≤ cs.getD i.toNat 0 := by simpa [inI] using h3
        have hB : splB m cs n i p = true := by unfold splB; rw [ha, h1, h3, decide_eq_true (show cs.length ≠ 6 by omega)]; rfl
        have hg := splt_give hB
        have hsl := splt_len (cs := cs) (i := i) (p := p)
        refine ⟨by omega, by omega, by omega, inR_of (by omega) (by omega), ?_⟩
        refine ⟨_, Cc2 cs [cs.getD i.toNat 0 - p] (by simp; omega), ?_⟩; simp (config := { maxSteps := 2000000 }) only [go_sem, Nat.reduceBEq, Nat.reduceAdd, Nat.reduceMul, Nat.reduceMod, Nat.reduceLT, Nat.reduceDiv, Nat.reduceSub, Nat.reduceLeDiff, Int.reduceToNat, Int.reduceLT, Int.reduceLE, reduceCtorEq, List.take_nil, List.drop_nil]
        refine ⟨by omega, by rw [List.length_append, List.length_singleton]; omega, by rw [List.length_append, List.length_singleton]; omega, ?_⟩
        have e0 : (cs ++ [cs.getD i.toNat 0 - p]).set i.toNat p = spltL cs i p := rfl
        rw [e0]
        refine ⟨_, impl_Give_yesS (by omega) hg, ?_⟩; simp (config := { maxSteps := 2000000 }) only [go_sem, Nat.reduceBEq, Nat.reduceAdd, Nat.reduceMul, Nat.reduceMod, Nat.reduceLT, Nat.reduceDiv, Nat.reduceSub, Nat.reduceLeDiff, Int.reduceToNat, Int.reduceLT, Int.reduceLE, reduceCtorEq, List.take_nil, List.drop_nil]
        obtain ⟨A2, l2, d2⟩ := give_of hg
        have b1 := d2 _ (getD_mem (d := 0) (show i.toNat < (giveF m (spltL cs i p) n).length by omega))
        have b2 := d2 _ (getD_mem (d := 0) (show cs.length < (giveF m (spltL cs i p) n).length by omega))
        have b3 := d1 _ (getD_mem (d := 0) (show i.toNat < (giveF m cs n).length by omega))
        have hV : splV m cs n i p = (giveF m (spltL cs i p) n).getD i.toNat 0 + (giveF m (spltL cs i p) n).getD cs.length 0 - (giveF m cs n).getD i.toNat 0 := if_pos hB
        rw [hV, hB]
        exact ⟨by omega, by omega, by omega, by omega, by omega, by omega, inR_of (by omega) (by omega), by omega, by omega, by omega, inR_of (by omega) (by omega), by omega, rfl, rfl⟩
      · have e : splB m cs n i p = false := by unfold splB; rw [h3, Bool.and_false]
        simp [splV, e]
    · have e : splB m cs n i p = false := by simp [splB, h1]
      simp [splV, e]

end Go.Proofs.Ytfdoddeccnjcmaa
