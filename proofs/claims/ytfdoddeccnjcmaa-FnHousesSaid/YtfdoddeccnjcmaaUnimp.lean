/- Own work: contracts of functions that the claim reaches. No condition beyond those that each theorem names. -/
import Derived.Test.YtfdoddeccnjcmaaProg
import Derived.Test.YtfdoddeccnjcmaaImprove
import Derived.Test.YtfdoddeccnjcmaaMarks
namespace Go.Proofs.Ytfdoddeccnjcmaa
open Go Go.Vc
set_option maxRecDepth 100000
set_option linter.unusedSimpArgs false
set_option linter.unusedVariables false
def K_impl_UnimprovedExchanges : List Nat := [0, 2, 3, 5, 16, 17, 18]
def C_impl_UnimprovedExchanges : C :=
  let ks := K_impl_UnimprovedExchanges
  (.seq
   (.rg 0 [(none, .mkn 2)])
   (.cl ks (.seq
   (.seq
   (.rg 0 [(none, .v 6 .mv [.s 0]), (none, .co 7 44 [.s 6]), (none, .v 8 .not [.s 7]), (none, .v 9 .mv [.s 8]), (some (9, false), .v 10 .mv [.s 0]), (some (9, false), .v 11 .len [.s 10]), (some (9, false), .v 12 (.bin .eql) [.s 11, .k (.i 5)]), (none, .v 13 .pick [.s 9, .k (.b true), .s 12])])
   (.cond (.s 13)
   (.seq
   (.rg 0 [(none, .mkn 2)])
   .ret)
   .skip))
   (.cl ks (.seq
   (.rg 0 [(none, .mkn 3)])
   (.cl ks (.seq
   (.seq
   (.rg 0 [(none, .v 14 .mv [.s 0]), (none, .v 15 .len [.s 14]), (none, .co 16 42 [.s 15]), (none, .v 17 .len [.s 16]), (none, .v 18 .mv [.k (.i 0)])])
   (.cl ks (.block 0
   (.loop
   (.seq
   (.rg 0 [(none, .v 19 (.bin .lss) [.s 18, .s 17])])
   (.seq
   (.cond (.s 19)
   .skip
   (.exit 0))
   (.cl ks (.seq
   (.block 1
   (.seq
   (.rg 0 [(none, .v 20 .idx [.s 16, .s 18]), (none, .v 21 .lde [.s 20]), (none, .tk 5 21)])
   (.cl ks (.seq
   (.rg 0 [(none, .v 22 .mv [.s 0]), (none, .v 23 .mv [.s 5]), (none, .co 24 96 [.s 22, .s 23])])
   (.cond (.s 24)
   (.rg 0 [(none, .v 25 .mv [.s 3]), (none, .v 26 .mv [.s 5]), (none, .tkr 26), (none, .lit 27 [.s 26] 1), (none, .app 28 (.s 25) (.s 27) 1), (none, .tk 3 28)])
   .skip)))))
   (.cl ks (.rg 0 [(none, .v 29 (.bin .add) [.s 18, .k (.i 1)]), (none, .v 18 .mv [.s 29])]))))))))))
   (.cl ks (.seq
   (.rg 0 [(none, .v 30 .mv [.s 3]), (none, .tk 2 30)])
   .ret)))))))))

theorem chk_impl_UnimprovedExchanges : ∃ b, Try.f43.body = some b ∧ chk Try.prog Try.f43.ntmps true C_impl_UnimprovedExchanges b = true := ⟨_, rfl, by kernel_rfl⟩
/- spec_UnimprovedExchanges: not in this cut -/
def unimpB (ls : List (List Int)) : Bool := housesB ls && !decide ((ls.length : Int) = 5)
/-- The exchanges that no other one improves, those of the first k rankings. -/
def unimpK (ls : List (List Int)) (k : Nat) : List (List Int) := ((allRank (ls.length : Int)).take k).filter fun l => unimprB ls l ls.length
def unimpF (ls : List (List Int)) : List (List Int) := if unimpB ls = true then unimpK ls (allRank (ls.length : Int)).length else []
theorem unimpK_s {ls : List (List Int)} {k : Nat} (hk : k < (allRank (ls.length : Int)).length) : unimpK ls (k + 1) = unimpK ls k ++ if unimprB ls ((allRank (ls.length : Int)).getD k []) ls.length = true then [(allRank (ls.length : Int)).getD k []] else [] := by
  unfold unimpK
  rw [take_getD [] hk, List.filter_append]
  congr 1
  by_cases h : unimprB ls ((allRank (ls.length : Int)).getD k []) ls.length = true
  · rw [if_pos h]; simp only [List.filter_cons, h, if_true, List.filter_nil]
  · rw [if_neg h]; simp only [List.filter_cons, h, Bool.false_eq_true, if_false, List.filter_nil]
theorem unimpK_len {ls : List (List Int)} {k : Nat} : (unimpK ls k).length ≤ (allRank (ls.length : Int)).length :=
  Nat.le_trans (List.length_filter_le _ _) (by rw [List.length_take]; omega)
theorem impl_UnimprovedExchanges_ok {n1 : Option Bool} (ls : List (List Int)) (hl : ls.length ≤ 1048576) (hr : ∀ r ∈ ls, r.length ≤ 1048576) : CallOk Try.prog 43 [.s n1 (rr ls)] [(0, .own 1 none (rr (unimpF ls)))] := by
  obtain ⟨code0, hcd1, hcd2⟩ := chk_impl_UnimprovedExchanges; refine callOk_of Try.func43 hcd1 mo Try.call43 (rs := [2]) (by kernel_rfl) hcd2 (by rw [Try.ntmps43]; simp) (by simp) (by decide) ?_; unfold C_impl_UnimprovedExchanges K_impl_UnimprovedExchanges; simp (config := { maxSteps := 2000000 }) only [go_sem, Nat.reduceBEq, Nat.reduceAdd, Nat.reduceMul, Nat.reduceMod, Nat.reduceLT, Nat.reduceDiv, Nat.reduceSub, Nat.reduceLeDiff, Int.reduceToNat, Int.reduceLT, Int.reduceLE, reduceCtorEq, List.take_nil, List.drop_nil]
  refine ⟨_, impl_HousesOk_ok ls hl hr, ?_⟩; simp (config := { maxSteps := 2000000 }) only [go_sem, Nat.reduceBEq, Nat.reduceAdd, Nat.reduceMul, Nat.reduceMod, Nat.reduceLT, Nat.reduceDiv, Nat.reduceSub, Nat.reduceLeDiff, Int.reduceToNat, Int.reduceLT, Int.reduceLE, reduceCtorEq, List.take_nil, List.drop_nil]
  refine ⟨fun h0 => ⟨fun h5 => by simp [unimpF, unimpB, h0, h5], fun h5 => ?_⟩, fun h0 => by simp [unimpF, unimpB, h0]⟩
  have H := hs_of h0
  have n5 := H.n5
  have hF : unimpF ls = unimpK ls (allRank (ls.length : Int)).length := if_pos (by simp [unimpB, h0]; omega)
  rw [hF]
  refine ⟨_, impl_AllRankings_ok (ls.length : Int), ?_⟩; simp (config := { maxSteps := 2000000 }) only [go_sem, Nat.reduceBEq, Nat.reduceAdd, Nat.reduceMul, Nat.reduceMod, Nat.reduceLT, Nat.reduceDiv, Nat.reduceSub, Nat.reduceLeDiff, Int.reduceToNat, Int.reduceLT, Int.reduceLE, reduceCtorEq, List.take_nil, List.drop_nil]
  have hAl := allRank_len (m := (ls.length : Int))
  have hR : ∀ k, k < (allRank (ls.length : Int)).length → ((allRank (ls.length : Int)).getD k []).length = ls.length := fun k hk => by
    have := rank_len (allRank_rank (getD_mem (d := []) hk)); omega
  refine loopN (allRank (ls.length : Int)).length (fun j => [(0, .t .arg (.s n1 (rr ls))), (3, .own 1 none (rr (unimpK ls j))), (16, .own 1 none (hols j (allRank (ls.length : Int)))), (17, .i (allRank (ls.length : Int)).length), (18, .i (j : Nat))]) (fun _ => True) ⟨trivial, by simp (config := { maxSteps := 2000000 }) only [go_sem, Nat.reduceBEq, Nat.reduceAdd, Nat.reduceMul, Nat.reduceMod, Nat.reduceLT, Nat.reduceDiv, Nat.reduceSub, Nat.reduceLeDiff, Int.reduceToNat, Int.reduceLT, Int.reduceLE, reduceCtorEq, List.take_nil, List.drop_nil]; simp [unimpK]⟩ fun j hj _ => ?_
  have hs := @unimpK_s ls j
  have hlen := unimpK_len (ls := ls) (k := j)
  simp (config := { maxSteps := 2000000 }) only [go_sem, Nat.reduceBEq, Nat.reduceAdd, Nat.reduceMul, Nat.reduceMod, Nat.reduceLT, Nat.reduceDiv, Nat.reduceSub, Nat.reduceLeDiff, Int.reduceToNat, Int.reduceLT, Int.reduceLE, reduceCtorEq, List.take_nil, List.drop_nil]
  refine ⟨fun hlt => ?_, fun hge => ?_⟩
  · have hj' : j < (allRank (ls.length : Int)).length := by omega
    have hg := hols_get hj'
    have hs := hs hj'
    rw [hg]
    refine ⟨by omega, hj', hj', _, impl_isUnimproved_ok ls ((allRank (ls.length : Int)).getD j []) ls.length H (hR j hj'), ?_⟩
    simp (config := { maxSteps := 2000000 }) only [go_sem, Nat.reduceBEq, Nat.reduceAdd, Nat.reduceMul, Nat.reduceMod, Nat.reduceLT, Nat.reduceDiv, Nat.reduceSub, Nat.reduceLeDiff, Int.reduceToNat, Int.reduceLT, Int.reduceLE, reduceCtorEq, List.take_nil, List.drop_nil, hg]
    refine ⟨fun hu => ?_, fun hu => ?_⟩
    · refine ⟨hj', by simp, by omega, inR_of (by omega) (by omega), hj', ?_, by simp⟩
      rw [hs, if_pos hu]
    · refine ⟨inR_of (by omega) (by omega), hj', ?_, by simp⟩
      rw [hs, if_neg (by rw [hu]; simp), List.append_nil]
  · have : j = (allRank (ls.length : Int)).length := by omega
    subst this
    rfl
end Go.Proofs.Ytfdoddeccnjcmaa
