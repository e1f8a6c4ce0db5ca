/- Own work: contracts of functions that the claim reaches. No condition beyond those that each theorem names. -/
import Derived.Test.YtfdoddeccnjcmaaProg
import Derived.Test.YtfdoddeccnjcmaaHamilton
import Derived.Test.YtfdoddeccnjcmaaClaims
namespace Go.Proofs.Ytfdoddeccnjcmaa
open Go Go.Vc
set_option maxRecDepth 100000
set_option linter.unusedSimpArgs false
set_option linter.unusedVariables false
/- spec_l14Ok: not in this cut -/
/- spec_SeatOrder: not in this cut -/
def K_impl_SeatOrder : List Nat := [0, 1, 2, 6, 7, 8, 9, 10, 23, 24, 27, 28]
def C_impl_SeatOrder : C :=
  let ks := K_impl_SeatOrder
  (.seq
   (.rg 0 [(none, .mkn 6)])
   (.cl ks (.seq
   (.seq
   (.rg 0 [(none, .v 11 .mv [.s 0]), (none, .co 12 69 [.s 11, .k (.i 1), .k (.i 5)]), (none, .v 13 .not [.s 12]), (none, .v 14 .mv [.s 13]), (some (14, false), .v 15 .mv [.s 1]), (some (14, false), .v 16 .mv [.s 2]), (some (14, false), .co 17 75 [.s 15, .s 16]), (some (14, false), .v 18 .not [.s 17]), (none, .v 19 .pick [.s 14, .k (.b true), .s 18])])
   (.cond (.s 19)
   (.seq
   (.rg 0 [(none, .mkn 6)])
   .ret)
   .skip))
   (.cl ks (.seq
   (.rg 0 [(none, .v 20 .mv [.s 1]), (none, .v 21 .len [.s 20]), (none, .mk 22 (.i 0) (.s 21) (.s 21)), (none, .tk 7 22)])
   (.cl ks (.seq
   (.rg 0 [(none, .mkn 8)])
   (.cl ks (.seq
   (.seq
   (.rg 0 [(none, .v 23 .mv [.s 2]), (none, .v 24 .mv [.k (.i 0)])])
   (.cl ks (.block 0
   (.loop
   (.seq
   (.rg 0 [(none, .v 25 (.bin .lss) [.s 24, .s 23])])
   (.seq
   (.cond (.s 25)
   .skip
   (.exit 0))
   (.cl ks (.seq
   (.block 1
   (.seq
   (.rg 0 [(none, .v 9 .mv [.k (.i 0)])])
   (.cl ks (.seq
   (.seq
   (.rg 0 [(none, .v 26 .mv [.s 1]), (none, .v 27 .len [.s 26]), (none, .v 28 .mv [.k (.i 0)])])
   (.cl ks (.block 2
   (.loop
   (.seq
   (.rg 0 [(none, .v 29 (.bin .lss) [.s 28, .s 27])])
   (.seq
   (.cond (.s 29)
   .skip
   (.exit 2))
   (.cl ks (.seq
   (.block 3
   (.seq
   (.rg 0 [(none, .v 30 .mv [.s 28]), (none, .tk 10 30)])
   (.cl ks (.seq
   (.rg 17 [(none, .v 31 .mv [.s 0]), (none, .v 32 .mv [.s 1]), (none, .v 33 .mv [.s 10]), (none, .v 34 .idx [.s 32, .s 33]), (none, .v 35 .ld [.s 34]), (none, .v 36 .mv [.s 7]), (none, .v 37 .mv [.s 10]), (none, .v 38 .idx [.s 36, .s 37]), (none, .v 39 .ld [.s 38]), (none, .v 40 .mv [.s 1]), (none, .v 41 .mv [.s 9]), (none, .v 42 .idx [.s 40, .s 41]), (none, .v 43 .ld [.s 42]), (none, .v 44 .mv [.s 7]), (none, .v 45 .mv [.s 9]), (none, .v 46 .idx [.s 44, .s 45]), (none, .v 47 .ld [.s 46]), (none, .co 48 74 [.s 31, .s 35, .s 39, .s 43, .s 47]), (none, .v 49 (.bin .gtr) [.s 48, .k (.i 0)])])
   (.cond (.s 49)
   (.rg 0 [(none, .v 50 .mv [.s 10]), (none, .tk 9 50)])
   .skip)))))
   (.cl ks (.rg 0 [(none, .v 51 (.bin .add) [.s 28, .k (.i 1)]), (none, .v 28 .mv [.s 51])]))))))))))
   (.cl ks (.seq
   (.rg 0 [(none, .v 52 .mv [.s 7]), (none, .v 53 .mv [.s 9]), (none, .v 54 .idx [.s 52, .s 53]), (none, .v 55 .ld [.s 54]), (none, .v 56 (.bin .add) [.s 55, .k (.i 1)]), (none, .v 57 .idx [.s 52, .s 53]), (none, .st (.s 57) (.s 56))])
   (.cl ks (.rg 0 [(none, .v 58 .mv [.s 8]), (none, .v 59 .mv [.s 9]), (none, .lit 60 [.s 59] 0), (none, .app 61 (.s 58) (.s 60) 0), (none, .tk 8 61)]))))))))
   (.cl ks (.rg 0 [(none, .v 62 (.bin .add) [.s 24, .k (.i 1)]), (none, .v 24 .mv [.s 62])]))))))))))
   (.cl ks (.seq
   (.rg 0 [(none, .v 63 .mv [.s 8]), (none, .tk 6 63)])
   .ret)))))))))))

theorem chk_impl_SeatOrder : ∃ b, Try.f73.body = some b ∧ chk Try.prog Try.f73.ntmps true C_impl_SeatOrder b = true := ⟨_, rfl, by kernel_rfl⟩
/- spec_l14Seats: not in this cut -/
/- spec_SeatsBy: not in this cut -/
def K_impl_SeatsBy : List Nat := [0, 1, 2, 6, 7, 9, 25, 26, 27]
def C_impl_SeatsBy : C :=
  let ks := K_impl_SeatsBy
  (.seq
   (.rg 0 [(none, .mkn 6)])
   (.cl ks (.seq
   (.seq
   (.rg 0 [(none, .v 10 .mv [.s 0]), (none, .co 11 69 [.s 10, .k (.i 1), .k (.i 5)]), (none, .v 12 .not [.s 11]), (none, .v 13 .mv [.s 12]), (some (13, false), .v 14 .mv [.s 1]), (some (13, false), .v 15 .mv [.s 2]), (some (13, false), .co 16 75 [.s 14, .s 15]), (some (13, false), .v 17 .not [.s 16]), (none, .v 18 .pick [.s 13, .k (.b true), .s 17])])
   (.cond (.s 18)
   (.seq
   (.rg 0 [(none, .mkn 6)])
   .ret)
   .skip))
   (.cl ks (.seq
   (.rg 0 [(none, .v 19 .mv [.s 1]), (none, .v 20 .len [.s 19]), (none, .mk 21 (.i 0) (.s 20) (.s 20)), (none, .tk 7 21)])
   (.cl ks (.seq
   (.seq
   (.rg 0 [(none, .v 22 .mv [.s 0]), (none, .v 23 .mv [.s 1]), (none, .v 24 .mv [.s 2]), (none, .co 25 73 [.s 22, .s 23, .s 24]), (none, .v 26 .len [.s 25]), (none, .v 27 .mv [.k (.i 0)])])
   (.cl ks (.block 0
   (.loop
   (.seq
   (.rg 0 [(none, .v 28 (.bin .lss) [.s 27, .s 26])])
   (.seq
   (.cond (.s 28)
   .skip
   (.exit 0))
   (.cl ks (.seq
   (.block 1
   (.seq
   (.rg 0 [(none, .v 29 .idx [.s 25, .s 27]), (none, .v 30 .ld [.s 29]), (none, .tk 9 30)])
   (.cl ks (.rg 0 [(none, .v 31 .mv [.s 7]), (none, .v 32 .mv [.s 9]), (none, .v 33 .idx [.s 31, .s 32]), (none, .v 34 .ld [.s 33]), (none, .v 35 (.bin .add) [.s 34, .k (.i 1)]), (none, .v 36 .idx [.s 31, .s 32]), (none, .st (.s 36) (.s 35))]))))
   (.cl ks (.rg 0 [(none, .v 37 (.bin .add) [.s 27, .k (.i 1)]), (none, .v 27 .mv [.s 37])]))))))))))
   (.cl ks (.seq
   (.rg 0 [(none, .v 38 .mv [.s 7]), (none, .tk 6 38)])
   .ret)))))))))

theorem chk_impl_SeatsBy : ∃ b, Try.f20.body = some b ∧ chk Try.prog Try.f20.ntmps true C_impl_SeatsBy b = true := ⟨_, rfl, by kernel_rfl⟩
/-- The first of the greatest claims among the first j. -/
def topS (m : Int) (cs ss : List Int) : Nat → Int
  | 0 => 0
  | j + 1 => if 0 < clmS m (cs.getD j 0) (ss.getD j 0) (cs.getD (topS m cs ss j).toNat 0) (ss.getD (topS m cs ss j).toNat 0) then j else topS m cs ss j
theorem topS_bd {m : Int} {cs ss : List Int} : ∀ {j : Nat}, 0 ≤ topS m cs ss j ∧ (topS m cs ss j = 0 ∨ topS m cs ss j < j)
  | 0 => by simp [topS]
  | j + 1 => by
    have := topS_bd (m := m) (cs := cs) (ss := ss) (j := j)
    simp only [topS]
    split <;> omega
def incL (ss : List Int) (b : Int) : List Int := ss.set b.toNat (ss.getD b.toNat 0 + 1)
/-- The order of the first t seats, and the seats. -/
def ordS (m : Int) (cs : List Int) : Nat → List Int × List Int
  | 0 => ([], List.replicate cs.length 0)
  | t + 1 => ((ordS m cs t).1 ++ [topS m cs (ordS m cs t).2 cs.length], incL (ordS m cs t).2 (topS m cs (ordS m cs t).2 cs.length))
theorem ordS_len {m : Int} {cs : List Int} : ∀ {t : Nat}, (ordS m cs t).1.length = t ∧ (ordS m cs t).2.length = cs.length
  | 0 => by simp [ordS]
  | t + 1 => by
    obtain ⟨h1, h2⟩ := ordS_len (m := m) (cs := cs) (t := t)
    simp [ordS, incL, h1, h2]
theorem ordS_bd {m : Int} {cs : List Int} : ∀ {t : Nat}, ∀ x ∈ (ordS m cs t).2, 0 ≤ x ∧ x ≤ t
  | 0, x, hx => by simp [ordS, List.mem_replicate] at hx; omega
  | t + 1, x, hx => by
    simp only [ordS, incL] at hx
    rcases List.mem_or_eq_of_mem_set hx with hx | rfl
    · have := ordS_bd (m := m) (cs := cs) (t := t) x hx; omega
    · by_cases h : (topS m cs (ordS m cs t).2 cs.length).toNat < (ordS m cs t).2.length
      · have := ordS_bd (m := m) (cs := cs) (t := t) _ (getD_mem (d := 0) h); omega
      · rw [List.getD, List.getElem?_eq_none (by omega), Option.getD_none]; omega
theorem ordS_el {m : Int} {cs : List Int} (h0 : 0 < cs.length) : ∀ {t : Nat}, ∀ x ∈ (ordS m cs t).1, 0 ≤ x ∧ x < cs.length
  | 0, x, hx => by simp [ordS] at hx
  | t + 1, x, hx => by
    simp only [ordS, List.mem_append, List.mem_singleton] at hx
    rcases hx with hx | rfl
    · exact ordS_el h0 x hx
    · have := topS_bd (m := m) (cs := cs) (ss := (ordS m cs t).2) (j := cs.length); omega
theorem ordS_pre {m : Int} {cs : List Int} {t : Nat} : ∀ {j : Nat}, j ≤ t → (ordS m cs t).1.take j = (ordS m cs j).1 := by
  induction t with
  | zero => intro j h; have : j = 0 := by omega
            subst this; simp [ordS]
  | succ t ih =>
    intro j h
    by_cases e : j = t + 1
    · subst e; rw [List.take_of_length_le (by rw [ordS_len.1]; exact Nat.le_refl _)]
    · rw [ordS, List.take_append_of_le_length (by rw [ordS_len.1]; omega), ih (by omega)]
theorem ordS_get {m : Int} {cs : List Int} {t j : Nat} (h : j < t) : (ordS m cs t).1.getD j 0 = topS m cs (ordS m cs j).2 cs.length := by
  have e : (ordS m cs t).1.getD j 0 = ((ordS m cs t).1.take (j + 1)).getD j 0 := by simp only [List.getD, List.getElem?_take]; rw [if_pos (by omega)]
  rw [e, ordS_pre (by omega), ordS]
  simp only [List.getD]
  rw [List.getElem?_append_right (by rw [ordS_len.1]; exact Nat.le_refl _), ordS_len.1]
  simp
def okB (m : Int) (cs : List Int) (n : Int) : Bool := inI m 1 5 && askB cs n
theorem okB_ask {m : Int} {cs : List Int} {n : Int} (h : okB m cs n = true) : Ask cs n := ask_of (by unfold okB at h; exact (Bool.and_eq_true _ _ ▸ h).2)
def orderF (m : Int) (cs : List Int) (n : Int) : List Int := if okB m cs n = true then (ordS m cs n.toNat).1 else []
theorem impl_SeatOrder_ok {n1 : Option Bool} (m : Int) (cs : List Int) (n : Int) (hl : cs.length ≤ 1048576) : CallOk Try.prog 73 [.i m, .s n1 (ii cs), .i n] [(0, .own 1 none (ii (orderF m cs n)))] := by
  obtain ⟨code0, hcd1, hcd2⟩ := chk_impl_SeatOrder; refine callOk_of Try.func73 hcd1 mo Try.call73 (rs := [6]) (by kernel_rfl) hcd2 (by rw [Try.ntmps73]; simp) (by simp) (by decide) ?_; unfold C_impl_SeatOrder K_impl_SeatOrder; simp (config := { maxSteps := 2000000 }) only [go_sem, Nat.reduceBEq, Nat.reduceAdd, Nat.reduceMul, Nat.reduceMod, Nat.reduceLT, Nat.reduceDiv, Nat.reduceSub, Nat.reduceLeDiff, Int.reduceToNat, Int.reduceLT, Int.reduceLE, reduceCtorEq, List.take_nil, List.drop_nil]
  refine ⟨_, within_ok _ _ _, ?_⟩; simp (config := { maxSteps := 2000000 }) only [go_sem, Nat.reduceBEq, Nat.reduceAdd, Nat.reduceMul, Nat.reduceMod, Nat.reduceLT, Nat.reduceDiv, Nat.reduceSub, Nat.reduceLeDiff, Int.reduceToNat, Int.reduceLT, Int.reduceLE, reduceCtorEq, List.take_nil, List.drop_nil]
  refine ⟨fun hi => ?_, fun hi => ?_⟩
  · refine ⟨_, impl_quotaAsked_ok cs n hl, ?_⟩; simp (config := { maxSteps := 2000000 }) only [go_sem, Nat.reduceBEq, Nat.reduceAdd, Nat.reduceMul, Nat.reduceMod, Nat.reduceLT, Nat.reduceDiv, Nat.reduceSub, Nat.reduceLeDiff, Int.reduceToNat, Int.reduceLT, Int.reduceLE, reduceCtorEq, List.take_nil, List.drop_nil]
    refine ⟨fun h => by simp [orderF, okB, h], fun h => ?_⟩
    have h : askB cs n = true := by simpa using h
    have hk : okB m cs n = true := by simp [okB, hi, h]
    obtain ⟨l1, l6, hb, _, _, hn0, hn1⟩ := ask_of h
    have hF : orderF m cs n = (ordS m cs n.toNat).1 := by simp [orderF, hk]
    rw [hF]
    refine ⟨by omega, by omega, ?_⟩
    refine loopN n.toNat (fun t => [(0, .i m), (1, .t .arg (.s n1 (ii cs))), (2, .i n), (7, .own 1 (some false) (ii (ordS m cs t).2)), (8, .own 1 none (ii (ordS m cs t).1)), (23, .i n), (24, .i (t : Nat))]) (fun _ => True) ⟨trivial, by simp (config := { maxSteps := 2000000 }) only [go_sem, Nat.reduceBEq, Nat.reduceAdd, Nat.reduceMul, Nat.reduceMod, Nat.reduceLT, Nat.reduceDiv, Nat.reduceSub, Nat.reduceLeDiff, Int.reduceToNat, Int.reduceLT, Int.reduceLE, reduceCtorEq, List.take_nil, List.drop_nil]; simp [ordS]⟩ fun t ht _ => ?_
    simp (config := { maxSteps := 2000000 }) only [go_sem, Nat.reduceBEq, Nat.reduceAdd, Nat.reduceMul, Nat.reduceMod, Nat.reduceLT, Nat.reduceDiv, Nat.reduceSub, Nat.reduceLeDiff, Int.reduceToNat, Int.reduceLT, Int.reduceLE, reduceCtorEq, List.take_nil, List.drop_nil, ordS_len.1]
    have hlt2 := (ordS_len (m := m) (cs := cs) (t := t)).2
    have hbd := ordS_bd (m := m) (cs := cs) (t := t)
    refine ⟨fun hlt => ?_, fun hge => ?_⟩
    · have ht' : t < n.toNat := by omega
      refine loopN cs.length (fun j => [(0, .i m), (1, .t .arg (.s n1 (ii cs))), (2, .i n), (7, .own 1 (some false) (ii (ordS m cs t).2)), (8, .own 1 none (ii (ordS m cs t).1)), (9, .i (topS m cs (ordS m cs t).2 j)), (23, .i n), (24, .i (t : Nat)), (27, .i cs.length), (28, .i (j : Nat))]) (fun _ => True) ⟨trivial, by simp (config := { maxSteps := 2000000 }) only [go_sem, Nat.reduceBEq, Nat.reduceAdd, Nat.reduceMul, Nat.reduceMod, Nat.reduceLT, Nat.reduceDiv, Nat.reduceSub, Nat.reduceLeDiff, Int.reduceToNat, Int.reduceLT, Int.reduceLE, reduceCtorEq, List.take_nil, List.drop_nil]; simp [topS]⟩ fun j hj _ => ?_
      have tb := topS_bd (m := m) (cs := cs) (ss := (ordS m cs t).2) (j := j)
      simp (config := { maxSteps := 2000000 }) only [go_sem, Nat.reduceBEq, Nat.reduceAdd, Nat.reduceMul, Nat.reduceMod, Nat.reduceLT, Nat.reduceDiv, Nat.reduceSub, Nat.reduceLeDiff, Int.reduceToNat, Int.reduceLT, Int.reduceLE, reduceCtorEq, List.take_nil, List.drop_nil]
      refine ⟨fun hlt => ?_, fun hge => ?_⟩
      · have hj' : j < cs.length := by omega
        have c1 := hb _ (getD_mem (d := 0) hj')
        have c2 := hb _ (getD_mem (d := 0) (show (topS m cs (ordS m cs t).2 j).toNat < cs.length by omega))
        have c3 := hbd _ (getD_mem (d := 0) (show j < (ordS m cs t).2.length by omega))
        have c4 := hbd _ (getD_mem (d := 0) (show (topS m cs (ordS m cs t).2 j).toNat < (ordS m cs t).2.length by omega))
        refine ⟨by omega, by omega, by omega, by omega, by omega, by omega, by omega, by omega, by omega, by omega, by omega, by omega, ?_⟩
        refine ⟨_, impl_compareClaims_ok m (cs.getD j 0) ((ordS m cs t).2.getD j 0) (cs.getD (topS m cs (ordS m cs t).2 j).toNat 0) ((ordS m cs t).2.getD (topS m cs (ordS m cs t).2 j).toNat 0) (by omega) (by omega) (by omega) (by omega) (by omega) (by omega) (by omega) (by omega), ?_⟩; simp (config := { maxSteps := 2000000 }) only [go_sem, Nat.reduceBEq, Nat.reduceAdd, Nat.reduceMul, Nat.reduceMod, Nat.reduceLT, Nat.reduceDiv, Nat.reduceSub, Nat.reduceLeDiff, Int.reduceToNat, Int.reduceLT, Int.reduceLE, reduceCtorEq, List.take_nil, List.drop_nil]
        refine ⟨fun h1 => ⟨inR_of (by omega) (by omega), hj', ?_, by omega⟩, fun h1 => ⟨inR_of (by omega) (by omega), hj', ?_, by omega⟩⟩
        · simp only [topS]; rw [if_pos h1]
        · simp only [topS]; rw [if_neg h1]
      · have : j = cs.length := by omega
        subst this
        have c4 := hbd _ (getD_mem (d := 0) (show (topS m cs (ordS m cs t).2 cs.length).toNat < (ordS m cs t).2.length by omega))
        exact ⟨by omega, by omega, by omega, inR_of (by omega) (by omega), by omega, by omega, by omega, by rw [ordS_len.1]; omega, inR_of (by omega) (by omega), ht', rfl, rfl, by omega⟩
    · have : t = n.toNat := by omega
      subst this
      rfl
  · simp [orderF, okB, hi]
def byF (m : Int) (cs : List Int) (n : Int) : List Int := if okB m cs n = true then (ordS m cs n.toNat).2 else []
theorem impl_SeatsBy_ok {n1 : Option Bool} (m : Int) (cs : List Int) (n : Int) (hl : cs.length ≤ 1048576) : CallOk Try.prog 20 [.i m, .s n1 (ii cs), .i n] [(0, .own 1 (nlO (okB m cs n)) (ii (byF m cs n)))] := by
  obtain ⟨code0, hcd1, hcd2⟩ := chk_impl_SeatsBy; refine callOk_of Try.func20 hcd1 mo Try.call20 (rs := [6]) (by kernel_rfl) hcd2 (by rw [Try.ntmps20]; simp) (by simp) (by decide) ?_; unfold C_impl_SeatsBy K_impl_SeatsBy; simp (config := { maxSteps := 2000000 }) only [go_sem, Nat.reduceBEq, Nat.reduceAdd, Nat.reduceMul, Nat.reduceMod, Nat.reduceLT, Nat.reduceDiv, Nat.reduceSub, Nat.reduceLeDiff, Int.reduceToNat, Int.reduceLT, Int.reduceLE, reduceCtorEq, List.take_nil, List.drop_nil]
  refine ⟨_, within_ok _ _ _, ?_⟩; simp (config := { maxSteps := 2000000 }) only [go_sem, Nat.reduceBEq, Nat.reduceAdd, Nat.reduceMul, Nat.reduceMod, Nat.reduceLT, Nat.reduceDiv, Nat.reduceSub, Nat.reduceLeDiff, Int.reduceToNat, Int.reduceLT, Int.reduceLE, reduceCtorEq, List.take_nil, List.drop_nil]
  refine ⟨fun hi => ?_, fun hi => ?_⟩
  · refine ⟨_, impl_quotaAsked_ok cs n hl, ?_⟩; simp (config := { maxSteps := 2000000 }) only [go_sem, Nat.reduceBEq, Nat.reduceAdd, Nat.reduceMul, Nat.reduceMod, Nat.reduceLT, Nat.reduceDiv, Nat.reduceSub, Nat.reduceLeDiff, Int.reduceToNat, Int.reduceLT, Int.reduceLE, reduceCtorEq, List.take_nil, List.drop_nil]
    refine ⟨fun h => by simp [byF, okB, h, nlO], fun h => ?_⟩
    have h : askB cs n = true := by simpa using h
    have hk : okB m cs n = true := by simp [okB, hi, h]
    obtain ⟨l1, l6, hb, _, _, hn0, hn1⟩ := ask_of h
    have hF : byF m cs n = (ordS m cs n.toNat).2 := by simp [byF, hk]
    have hG : orderF m cs n = (ordS m cs n.toNat).1 := by simp [orderF, hk]
    refine ⟨by omega, by omega, ?_⟩
    refine ⟨_, impl_SeatOrder_ok m cs n hl, ?_⟩; simp (config := { maxSteps := 2000000 }) only [go_sem, Nat.reduceBEq, Nat.reduceAdd, Nat.reduceMul, Nat.reduceMod, Nat.reduceLT, Nat.reduceDiv, Nat.reduceSub, Nat.reduceLeDiff, Int.reduceToNat, Int.reduceLT, Int.reduceLE, reduceCtorEq, List.take_nil, List.drop_nil]
    rw [hF, hG, hk]
    have hol := (ordS_len (m := m) (cs := cs) (t := n.toNat)).1
    refine loopN n.toNat (fun t => [(0, .i m), (1, .t .arg (.s n1 (ii cs))), (2, .i n), (7, .own 1 (some false) (ii (ordS m cs t).2)), (25, .own 1 none (ii (ordS m cs n.toNat).1)), (26, .i n), (27, .i (t : Nat))]) (fun _ => True) ⟨trivial, by simp (config := { maxSteps := 2000000 }) only [go_sem, Nat.reduceBEq, Nat.reduceAdd, Nat.reduceMul, Nat.reduceMod, Nat.reduceLT, Nat.reduceDiv, Nat.reduceSub, Nat.reduceLeDiff, Int.reduceToNat, Int.reduceLT, Int.reduceLE, reduceCtorEq, List.take_nil, List.drop_nil]; simp [ordS, hol]; omega⟩ fun t ht _ => ?_
    simp (config := { maxSteps := 2000000 }) only [go_sem, Nat.reduceBEq, Nat.reduceAdd, Nat.reduceMul, Nat.reduceMod, Nat.reduceLT, Nat.reduceDiv, Nat.reduceSub, Nat.reduceLeDiff, Int.reduceToNat, Int.reduceLT, Int.reduceLE, reduceCtorEq, List.take_nil, List.drop_nil, hol]
    refine ⟨fun hlt => ?_, fun hge => ?_⟩
    · have ht' : t < n.toNat := by omega
      have tb := topS_bd (m := m) (cs := cs) (ss := (ordS m cs t).2) (j := cs.length)
      have hlt2 := (ordS_len (m := m) (cs := cs) (t := t)).2
      have c4 := ordS_bd (m := m) (cs := cs) (t := t) _ (getD_mem (d := 0) (show (topS m cs (ordS m cs t).2 cs.length).toNat < (ordS m cs t).2.length by omega))
      rw [ordS_get ht']
      exact ⟨by omega, by omega, by omega, by omega, by omega, by omega, inR_of (by omega) (by omega), by omega, by omega, by omega, inR_of (by omega) (by omega), ht', rfl, by omega⟩
    · have : t = n.toNat := by omega
      subst this
      simp [nlO]
  · simp [byF, okB, hi, nlO]

end Go.Proofs.Ytfdoddeccnjcmaa
