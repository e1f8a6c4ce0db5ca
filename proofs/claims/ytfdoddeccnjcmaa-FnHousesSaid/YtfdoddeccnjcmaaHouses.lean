/- Own work: contracts of functions that the claim reaches. No condition beyond those that each theorem names. -/
import Derived.Test.YtfdoddeccnjcmaaProg
import Derived.Test.YtfdoddeccnjcmaaRanks
import Derived.Test.YtfdoddeccnjcmaaLaws
namespace Go.Proofs.Ytfdoddeccnjcmaa
open Go Go.Vc
set_option maxRecDepth 100000
set_option linter.unusedSimpArgs false
set_option linter.unusedVariables false
/- spec_l17Lists: not in this cut -/
def K_impl_areRankings : List Nat := [0, 1, 2, 4, 1002]
def C_impl_areRankings : C :=
  let ks := K_impl_areRankings
  (.seq
   (.rg 0 [(none, .box 2 (.s 0)), (none, .v 4 .mv [.k (.b false)])])
   (.cl ks (.seq
   (.rg 0 [(none, .v 5 .mv [.s 1]), (none, .v 6 (.clo 144) [.s 2]), (none, .co 7 140 [.s 5, .s 6]), (none, .v 8 .not [.s 7]), (none, .tk 4 8)])
   .ret)))

theorem chk_impl_areRankings : ∃ b, Try.f105.body = some b ∧ chk Try.prog Try.f105.ntmps true C_impl_areRankings b = true := ⟨_, rfl, by kernel_rfl⟩
def K_impl_areRankings_1 : List Nat := [0, 1, 3]
def C_impl_areRankings_1 : C :=
  let ks := K_impl_areRankings_1
  (.seq
   (.rg 0 [(none, .v 3 .mv [.k (.b false)])])
   (.cl ks (.seq
   (.rg 0 [(none, .v 4 .ld [.s 1]), (none, .v 5 .mv [.s 0]), (none, .co 6 90 [.s 4, .s 5]), (none, .v 7 .not [.s 6]), (none, .tk 3 7)])
   .ret)))

theorem chk_impl_areRankings_1 : ∃ b, Try.f144.body = some b ∧ chk Try.prog Try.f144.ntmps true C_impl_areRankings_1 b = true := ⟨_, rfl, by kernel_rfl⟩
/- spec_HousesOk: not in this cut -/
def K_impl_HousesOk : List Nat := [0, 2]
def C_impl_HousesOk : C :=
  let ks := K_impl_HousesOk
  (.seq
   (.rg 0 [(none, .v 2 .mv [.k (.b false)])])
   (.cl ks (.seq
   (.rg 0 [(none, .v 3 .mv [.s 0]), (none, .v 4 .len [.s 3]), (none, .co 5 69 [.s 4, .k (.i 1), .k (.i 5)]), (none, .v 6 .mv [.s 5]), (some (6, true), .v 7 .mv [.s 0]), (some (6, true), .v 8 .len [.s 7]), (some (6, true), .v 9 .mv [.s 0]), (some (6, true), .co 10 105 [.s 8, .s 9]), (none, .v 11 .pick [.s 6, .s 10, .k (.b false)]), (none, .tk 2 11)])
   .ret)))

theorem chk_impl_HousesOk : ∃ b, Try.f44.body = some b ∧ chk Try.prog Try.f44.ntmps true C_impl_HousesOk b = true := ⟨_, rfl, by kernel_rfl⟩
def ranksB (m : Int) (ls : List (List Int)) : Bool := ls.all fun l => rankB m l
theorem impl_areRankings1_ok {nl : Option Bool} (l : List Int) (m : Int) (hl : l.length ≤ 1048576) : CallOk Try.prog 144 [.s nl (ii l), .q [.i m] 0] [(0, .b (!rankB m l))] := by
  obtain ⟨code0, hcd1, hcd2⟩ := chk_impl_areRankings_1; refine callOk_of Try.func144 hcd1 mo Try.call144 (rs := [3]) (by kernel_rfl) hcd2 (by rw [Try.ntmps144]; simp) (by simp) (by decide) ?_; unfold C_impl_areRankings_1 K_impl_areRankings_1; simp (config := { maxSteps := 2000000 }) only [go_sem, Nat.reduceBEq, Nat.reduceAdd, Nat.reduceMul, Nat.reduceMod, Nat.reduceLT, Nat.reduceDiv, Nat.reduceSub, Nat.reduceLeDiff, Int.reduceToNat, Int.reduceLT, Int.reduceLE, reduceCtorEq, List.take_nil, List.drop_nil]
  refine ⟨_, impl_RankingOk_ok m l hl, ?_⟩; simp (config := { maxSteps := 2000000 }) only [go_sem, Nat.reduceBEq, Nat.reduceAdd, Nat.reduceMul, Nat.reduceMod, Nat.reduceLT, Nat.reduceDiv, Nat.reduceSub, Nat.reduceLeDiff, Int.reduceToNat, Int.reduceLT, Int.reduceLE, reduceCtorEq, List.take_nil, List.drop_nil]
theorem impl_areRankings_ok {nl : Option Bool} (ls : List (List Int)) (m : Int) (hl : ls.length ≤ 1048576) (hr : ∀ r ∈ ls, r.length ≤ 1048576) : CallOk Try.prog 105 [.i m, .s nl (rr ls)] [(0, .b (ranksB m ls))] := by
  obtain ⟨code0, hcd1, hcd2⟩ := chk_impl_areRankings; refine callOk_of Try.func105 hcd1 mo Try.call105 (rs := [4]) (by kernel_rfl) hcd2 (by rw [Try.ntmps105]; simp) (by simp) (by decide) ?_; unfold C_impl_areRankings K_impl_areRankings; simp (config := { maxSteps := 2000000 }) only [go_sem, Nat.reduceBEq, Nat.reduceAdd, Nat.reduceMul, Nat.reduceMod, Nat.reduceLT, Nat.reduceDiv, Nat.reduceSub, Nat.reduceLeDiff, Int.reduceToNat, Int.reduceLT, Int.reduceLE, reduceCtorEq, List.take_nil, List.drop_nil]
  refine ⟨_, ContainsFuncR (fun l => !rankB m l) (fun l h => impl_areRankings1_ok l m (hr l h)) hl, ?_⟩; simp (config := { maxSteps := 2000000 }) only [go_sem, Nat.reduceBEq, Nat.reduceAdd, Nat.reduceMul, Nat.reduceMod, Nat.reduceLT, Nat.reduceDiv, Nat.reduceSub, Nat.reduceLeDiff, Int.reduceToNat, Int.reduceLT, Int.reduceLE, reduceCtorEq, List.take_nil, List.drop_nil]
  simp [ranksB, List.all_eq_not_any_not]
def housesB (ls : List (List Int)) : Bool := inI ls.length 1 5 && ranksB ls.length ls
theorem impl_HousesOk_ok {nl : Option Bool} (ls : List (List Int)) (hl : ls.length ≤ 1048576) (hr : ∀ r ∈ ls, r.length ≤ 1048576) : CallOk Try.prog 44 [.s nl (rr ls)] [(0, .b (housesB ls))] := by
  obtain ⟨code0, hcd1, hcd2⟩ := chk_impl_HousesOk; refine callOk_of Try.func44 hcd1 mo Try.call44 (rs := [2]) (by kernel_rfl) hcd2 (by rw [Try.ntmps44]; simp) (by simp) (by decide) ?_; unfold C_impl_HousesOk K_impl_HousesOk; simp (config := { maxSteps := 2000000 }) only [go_sem, Nat.reduceBEq, Nat.reduceAdd, Nat.reduceMul, Nat.reduceMod, Nat.reduceLT, Nat.reduceDiv, Nat.reduceSub, Nat.reduceLeDiff, Int.reduceToNat, Int.reduceLT, Int.reduceLE, reduceCtorEq, List.take_nil, List.drop_nil]
  refine ⟨_, within_ok _ _ _, ?_⟩; simp (config := { maxSteps := 2000000 }) only [go_sem, Nat.reduceBEq, Nat.reduceAdd, Nat.reduceMul, Nat.reduceMod, Nat.reduceLT, Nat.reduceDiv, Nat.reduceSub, Nat.reduceLeDiff, Int.reduceToNat, Int.reduceLT, Int.reduceLE, reduceCtorEq, List.take_nil, List.drop_nil]
  refine ⟨fun h => ?_, fun h => by simp [housesB, h]⟩
  refine ⟨_, impl_areRankings_ok ls _ hl hr, ?_⟩; simp (config := { maxSteps := 2000000 }) only [go_sem, Nat.reduceBEq, Nat.reduceAdd, Nat.reduceMul, Nat.reduceMod, Nat.reduceLT, Nat.reduceDiv, Nat.reduceSub, Nat.reduceLeDiff, Int.reduceToNat, Int.reduceLT, Int.reduceLE, reduceCtorEq, List.take_nil, List.drop_nil]
  simp [housesB, h]
/- spec_l22Ok: not in this cut -/
/- spec_KeepsOwners: not in this cut -/
def K_impl_KeepsOwners : List Nat := [0, 1, 4, 5, 6, 17, 18, 19]
def C_impl_KeepsOwners : C :=
  let ks := K_impl_KeepsOwners
  (.seq
   (.rg 0 [(none, .v 4 .mv [.k (.b false)])])
   (.cl ks (.seq
   (.seq
   (.rg 0 [(none, .v 7 .mv [.s 0]), (none, .co 8 44 [.s 7]), (none, .v 9 .not [.s 8]), (none, .v 10 .mv [.s 9]), (some (10, false), .v 11 .mv [.s 0]), (some (10, false), .v 12 .len [.s 11]), (some (10, false), .v 13 .mv [.s 1]), (some (10, false), .co 14 90 [.s 12, .s 13]), (some (10, false), .v 15 .not [.s 14]), (none, .v 16 .pick [.s 10, .k (.b true), .s 15])])
   (.cond (.s 16)
   (.seq
   (.rg 0 [(none, .v 4 .mv [.k (.b false)])])
   .ret)
   .skip))
   (.cl ks (.seq
   (.seq
   (.rg 0 [(none, .v 17 .mv [.s 1]), (none, .v 18 .len [.s 17]), (none, .v 19 .mv [.k (.i 0)])])
   (.cl ks (.block 0
   (.loop
   (.seq
   (.rg 0 [(none, .v 20 (.bin .lss) [.s 19, .s 18])])
   (.seq
   (.cond (.s 20)
   .skip
   (.exit 0))
   (.cl ks (.seq
   (.block 1
   (.seq
   (.rg 0 [(none, .v 21 .mv [.s 19]), (none, .v 22 .idx [.s 17, .s 19]), (none, .v 23 .ld [.s 22]), (none, .tk 5 21), (none, .tk 6 23)])
   (.cl ks (.seq
   (.rg 0 [(none, .v 24 .mv [.s 0]), (none, .v 25 .mv [.s 5]), (none, .v 26 .idx [.s 24, .s 25]), (none, .v 27 .ld [.s 26]), (none, .v 28 .mv [.s 5]), (none, .v 29 .mv [.s 6]), (none, .co 30 100 [.s 27, .s 28, .s 29])])
   (.cond (.s 30)
   (.seq
   (.rg 0 [(none, .v 4 .mv [.k (.b false)])])
   .ret)
   .skip)))))
   (.cl ks (.rg 0 [(none, .v 31 (.bin .add) [.s 19, .k (.i 1)]), (none, .v 19 .mv [.s 31])]))))))))))
   (.cl ks (.seq
   (.rg 0 [(none, .v 4 .mv [.k (.b true)])])
   .ret)))))))

theorem chk_impl_KeepsOwners : ∃ b, Try.f40.body = some b ∧ chk Try.prog Try.f40.ntmps true C_impl_KeepsOwners b = true := ⟨_, rfl, by kernel_rfl⟩
def exchB (ls : List (List Int)) (l : List Int) : Bool := housesB ls && rankB ls.length l
/-- Rankings of n houses, and an exchange. -/
structure Hs (ls : List (List Int)) (n : Nat) : Prop where
  n1 : 1 ≤ n
  n5 : n ≤ 5
  len : ls.length = n
  rk : ∀ i, i < n → rankB n (ls.getD i []) = true
theorem hs_of {ls : List (List Int)} (h : housesB ls = true) : Hs ls ls.length := by
  simp only [housesB, Bool.and_eq_true, inI, decide_eq_true_eq, ranksB, List.all_eq_true] at h
  exact ⟨by omega, by omega, rfl, fun i hi => h.2 _ (getD_mem hi)⟩
def keepsB (ls : List (List Int)) (l : List Int) : Bool := exchB ls l && (List.range ls.length).all fun i => !prefB (ls.getD i []) i (l.getD i 0)
theorem exch_len {ls : List (List Int)} {l : List Int} (h : exchB ls l = true) : l.length = ls.length := by
  simp only [exchB, Bool.and_eq_true] at h
  have := rank_len h.2; omega
theorem impl_KeepsOwners_ok {n1 n2 : Option Bool} (ls : List (List Int)) (l : List Int) (hl : ls.length ≤ 1048576) (hr : ∀ r ∈ ls, r.length ≤ 1048576) (hll : l.length ≤ 1048576) : CallOk Try.prog 40 [.s n1 (rr ls), .s n2 (ii l)] [(0, .b (keepsB ls l))] := by
  obtain ⟨code0, hcd1, hcd2⟩ := chk_impl_KeepsOwners; refine callOk_of Try.func40 hcd1 mo Try.call40 (rs := [4]) (by kernel_rfl) hcd2 (by rw [Try.ntmps40]; simp) (by simp) (by decide) ?_; unfold C_impl_KeepsOwners K_impl_KeepsOwners; simp (config := { maxSteps := 2000000 }) only [go_sem, Nat.reduceBEq, Nat.reduceAdd, Nat.reduceMul, Nat.reduceMod, Nat.reduceLT, Nat.reduceDiv, Nat.reduceSub, Nat.reduceLeDiff, Int.reduceToNat, Int.reduceLT, Int.reduceLE, reduceCtorEq, List.take_nil, List.drop_nil]
  refine ⟨_, impl_HousesOk_ok ls hl hr, ?_⟩; simp (config := { maxSteps := 2000000 }) only [go_sem, Nat.reduceBEq, Nat.reduceAdd, Nat.reduceMul, Nat.reduceMod, Nat.reduceLT, Nat.reduceDiv, Nat.reduceSub, Nat.reduceLeDiff, Int.reduceToNat, Int.reduceLT, Int.reduceLE, reduceCtorEq, List.take_nil, List.drop_nil]
  refine ⟨fun h0 => ?_, fun h0 => by simp [keepsB, exchB, h0]⟩
  refine ⟨_, impl_RankingOk_ok _ l hll, ?_⟩; simp (config := { maxSteps := 2000000 }) only [go_sem, Nat.reduceBEq, Nat.reduceAdd, Nat.reduceMul, Nat.reduceMod, Nat.reduceLT, Nat.reduceDiv, Nat.reduceSub, Nat.reduceLeDiff, Int.reduceToNat, Int.reduceLT, Int.reduceLE, reduceCtorEq, List.take_nil, List.drop_nil]
  refine ⟨fun h1 => by simp [keepsB, exchB, h1], fun h1 => ?_⟩
  have h : exchB ls l = true := by simp [exchB, h0, h1]
  have hn := exch_len h
  have key : keepsB ls l = (List.range ls.length).all fun i => !prefB (ls.getD i []) i (l.getD i 0) := by simp only [keepsB, h, Bool.true_and]
  rw [key]
  refine loopN ls.length (fun j => [(0, .t .arg (.s n1 (rr ls))), (1, .t .arg (.s n2 (ii l))), (17, .t .arg (.s n2 (ii l))), (18, .i l.length), (19, .i (j : Nat))]) (fun j => ∀ i, i < j → prefB (ls.getD i []) i (l.getD i 0) = false) ⟨by simp, by simp (config := { maxSteps := 2000000 }) only [go_sem, Nat.reduceBEq, Nat.reduceAdd, Nat.reduceMul, Nat.reduceMod, Nat.reduceLT, Nat.reduceDiv, Nat.reduceSub, Nat.reduceLeDiff, Int.reduceToNat, Int.reduceLT, Int.reduceLE, reduceCtorEq, List.take_nil, List.drop_nil]; simp⟩ fun j hj hI => ?_
  simp (config := { maxSteps := 2000000 }) only [go_sem, Nat.reduceBEq, Nat.reduceAdd, Nat.reduceMul, Nat.reduceMod, Nat.reduceLT, Nat.reduceDiv, Nat.reduceSub, Nat.reduceLeDiff, Int.reduceToNat, Int.reduceLT, Int.reduceLE, reduceCtorEq, List.take_nil, List.drop_nil]
  refine ⟨fun hlt => ?_, fun hge => ?_⟩
  case refine_2 =>
    have : j = ls.length := by omega
    subst this
    exact (all_range fun i hi => by rw [hI i hi]; rfl).symm
  have hj' : j < ls.length := by omega
  have leaf : prefB (ls.getD j []) j (l.getD j 0) = false → inR ((j : Int) + 1) ∧ j < ls.length ∧ (∀ i, i < j + 1 → prefB (ls.getD i []) i (l.getD i 0) = false) ∧ (j : Int) + 1 = ((j + 1 : Nat) : Int) := fun hn => ⟨inR_of (by omega) (by omega), hj', fun i hi => by
    by_cases e : i = j
    · subst e; exact hn
    · exact hI i (by omega), by simp⟩
  have bad : prefB (ls.getD j []) j (l.getD j 0) = true → (false = (List.range ls.length).all fun i => !prefB (ls.getD i []) i (l.getD i 0)) := fun h => (not_all_range hj' (by rw [h]; rfl)).symm
  refine ⟨by omega, by omega, by omega, by omega, by omega, by omega, ?_⟩
  refine ⟨_, impl_Prefers_ok (ls.getD j []) _ _ (hr _ (getD_mem hj')), ?_⟩; simp (config := { maxSteps := 2000000 }) only [go_sem, Nat.reduceBEq, Nat.reduceAdd, Nat.reduceMul, Nat.reduceMod, Nat.reduceLT, Nat.reduceDiv, Nat.reduceSub, Nat.reduceLeDiff, Int.reduceToNat, Int.reduceLT, Int.reduceLE, reduceCtorEq, List.take_nil, List.drop_nil]
  exact ⟨bad, leaf⟩

end Go.Proofs.Ytfdoddeccnjcmaa
