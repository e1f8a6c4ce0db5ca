/- Own work: contracts of functions. No condition beyond those that each theorem names. -/
import Derived.Test.YtllcbempbdibhaaProg
import Derived.Test.YtllcbempbdibhaaRanks
import Derived.Test.YtllcbempbdibhaaLaws
namespace Go.Proofs.Ytllcbempbdibhaa
open Go Go.Vc
set_option maxRecDepth 100000
set_option linter.unusedSimpArgs false
set_option linter.unusedVariables false
def K_spec_l17Lists:List Nat:=[0,1,4,6,11,12,13]
def C_spec_l17Lists : C :=
 let ks:=K_spec_l17Lists
 (.seq
  (.rg 0 [(none,.v 4 .mv [.k (.b false)])])
  (.cl ks (.seq
  (.seq
  (.rg 0 [(none,.v 7 .mv [.s 0]),(none,.v 8 .len [.s 7]),(none,.v 9 .mv [.s 1]),(none,.v 10 (.bin .neq) [.s 8,.s 9])])
  (.cond (.s 10)
  (.seq
  (.rg 0 [(none,.v 4 .mv [.k (.b false)])])
  .ret)
  .skip))
  (.cl ks (.seq
  (.seq
  (.rg 0 [(none,.v 11 .mv [.s 0]),(none,.v 12 .len [.s 11]),(none,.v 13 .mv [.k (.i 0)])])
  (.cl ks (.block 0
  (.loop
  (.seq
  (.rg 0 [(none,.v 14 (.bin .lss) [.s 13,.s 12])])
  (.seq
  (.cond (.s 14)
  .skip
  (.exit 0))
  (.cl ks (.seq
  (.block 1
  (.seq
  (.rg 0 [(none,.v 15 .idx [.s 11,.s 13]),(none,.v 16 .ld [.s 15]),(none,.tk 6 16)])
  (.cl ks (.seq
  (.rg 0 [(none,.v 17 .mv [.s 1]),(none,.v 18 .mv [.s 6]),(none,.co 19 126 [.s 17,.s 18]),(none,.v 20 .not [.s 19])])
  (.cond (.s 20)
  (.seq
  (.rg 0 [(none,.v 4 .mv [.k (.b false)])])
  .ret)
  .skip)))))
  (.cl ks (.rg 0 [(none,.v 21 (.bin .add) [.s 13,.k (.i 1)]),(none,.v 13 .mv [.s 21])]))))))))))
  (.cl ks (.seq
  (.rg 0 [(none,.v 4 .mv [.k (.b true)])])
  .ret)))))))
theorem chk_spec_l17Lists:∃ b,Try.f108.body = some b ∧ chk Try.prog Try.f108.ntmps true C_spec_l17Lists b = true:=⟨_,rfl,by kernel_rfl⟩
def K_impl_areRankings:List Nat:=[0,1,2,4,1002]
def C_impl_areRankings : C :=
 let ks:=K_impl_areRankings
 (.seq
  (.rg 0 [(none,.box 2 (.s 0)),(none,.v 4 .mv [.k (.b false)])])
  (.cl ks (.seq
  (.rg 0 [(none,.v 5 .mv [.s 1]),(none,.v 6 (.clo 122) [.s 2]),(none,.co 7 75 [.s 5,.s 6]),(none,.v 8 .not [.s 7]),(none,.tk 4 8)])
  .ret)))
theorem chk_impl_areRankings:∃ b,Try.f97.body = some b ∧ chk Try.prog Try.f97.ntmps true C_impl_areRankings b = true:=⟨_,rfl,by kernel_rfl⟩
def K_impl_areRankings_1:List Nat:=[0,1,3]
def C_impl_areRankings_1 : C :=
 let ks:=K_impl_areRankings_1
 (.seq
  (.rg 0 [(none,.v 3 .mv [.k (.b false)])])
  (.cl ks (.seq
  (.rg 0 [(none,.v 4 .ld [.s 1]),(none,.v 5 .mv [.s 0]),(none,.co 6 101 [.s 4,.s 5]),(none,.v 7 .not [.s 6]),(none,.tk 3 7)])
  .ret)))
theorem chk_impl_areRankings_1:∃ b,Try.f122.body = some b ∧ chk Try.prog Try.f122.ntmps true C_impl_areRankings_1 b = true:=⟨_,rfl,by kernel_rfl⟩
def ranksB (m:Int) (ls:List (List Int)):Bool:=ls.all fun l => rankB m l
theorem spec_l17Lists_ok {nl : Option Bool} (ls : List (List Int)) (m : Int) (hl : ls.length ≤ 1048576) (hr : ∀ r ∈ ls, r.length ≤ 1048576) : CallOk Try.prog 108 [.s nl (rr ls), .i m] [(0, .b (decide ((ls.length : Int) = m) && ranksB m ls))] := by
 obtain ⟨code0,hcd1,hcd2⟩:=chk_spec_l17Lists; refine callOk_of Try.func108 hcd1 mo Try.call108 (rs:=[4]) (by kernel_rfl) hcd2 (by rw [Try.ntmps108]; simp) (by simp) (by decide) ?_; unfold C_spec_l17Lists K_spec_l17Lists; simp (maxSteps:=2000000) only [go_sem,Nat.reduceBEq,Nat.reduceAdd,Nat.reduceMul,Nat.reduceMod,Nat.reduceLT,Nat.reduceDiv,Nat.reduceSub,Nat.reduceLeDiff,Int.reduceToNat,Int.reduceLT,Int.reduceLE,reduceCtorEq]
 refine ⟨fun h => by simp [h],fun h => ?_⟩
 have key:(decide ((ls.length:Int) = m) && ranksB m ls) = ls.all fun l => rankB m l:=by simp [ranksB,h]
 rw [key]
 refine loopN ls.length (fun j => [(0,.t .arg (.s nl (rr ls))),(1,.i m),(11,.t .arg (.s nl (rr ls))),(12,.i ls.length),(13,.i (j:Nat))]) (fun j => ∀ i,i < j → rankB m (ls.getD i []) = true) ⟨by simp,by simp (maxSteps:=2000000) only [go_sem,Nat.reduceBEq,Nat.reduceAdd,Nat.reduceMul,Nat.reduceMod,Nat.reduceLT,Nat.reduceDiv,Nat.reduceSub,Nat.reduceLeDiff,Int.reduceToNat,Int.reduceLT,Int.reduceLE,reduceCtorEq]; simp [h]⟩ fun j hj hI => ?_
 simp (maxSteps:=2000000) only [go_sem,Nat.reduceBEq,Nat.reduceAdd,Nat.reduceMul,Nat.reduceMod,Nat.reduceLT,Nat.reduceDiv,Nat.reduceSub,Nat.reduceLeDiff,Int.reduceToNat,Int.reduceLT,Int.reduceLE,reduceCtorEq]
 refine ⟨fun hlt => ?_,fun hge => ?_⟩
 case refine_2 =>
  have:j = ls.length:=by omega
  subst this
  exact (all_of_getD [] hI).symm
 have hj':j < ls.length:=by omega
 refine ⟨by omega,by omega,by omega,?_⟩
 refine ⟨_,spec_RankingOk_ok m (ls.getD j []) (hr _ (getD_mem hj')),?_⟩; simp (maxSteps:=2000000) only [go_sem,Nat.reduceBEq,Nat.reduceAdd,Nat.reduceMul,Nat.reduceMod,Nat.reduceLT,Nat.reduceDiv,Nat.reduceSub,Nat.reduceLeDiff,Int.reduceToNat,Int.reduceLT,Int.reduceLE,reduceCtorEq]
 refine ⟨fun h2 => (not_all_getD [] hj' h2).symm,fun h2 => ⟨inR_of (by omega) (by omega),hj',fun i hi => ?_,by simp⟩⟩
 by_cases e : i = j
 ·rw [e]; exact h2
 ·exact hI i (by omega)
theorem impl_areRankings1_ok {nl : Option Bool} (l : List Int) (m : Int) (hl : l.length ≤ 1048576) : CallOk Try.prog 122 [.s nl (ii l), .q [.i m] 0] [(0, .b (!rankB m l))] := by
 obtain ⟨code0,hcd1,hcd2⟩:=chk_impl_areRankings_1; refine callOk_of Try.func122 hcd1 mo Try.call122 (rs:=[3]) (by kernel_rfl) hcd2 (by rw [Try.ntmps122]; simp) (by simp) (by decide) ?_; unfold C_impl_areRankings_1 K_impl_areRankings_1; simp (maxSteps:=2000000) only [go_sem,Nat.reduceBEq,Nat.reduceAdd,Nat.reduceMul,Nat.reduceMod,Nat.reduceLT,Nat.reduceDiv,Nat.reduceSub,Nat.reduceLeDiff,Int.reduceToNat,Int.reduceLT,Int.reduceLE,reduceCtorEq]
 refine ⟨_,impl_RankingOk_ok m l hl,?_⟩; simp (maxSteps:=2000000) only [go_sem,Nat.reduceBEq,Nat.reduceAdd,Nat.reduceMul,Nat.reduceMod,Nat.reduceLT,Nat.reduceDiv,Nat.reduceSub,Nat.reduceLeDiff,Int.reduceToNat,Int.reduceLT,Int.reduceLE,reduceCtorEq]
theorem impl_areRankings_ok {nl : Option Bool} (ls : List (List Int)) (m : Int) (hl : ls.length ≤ 1048576) (hr : ∀ r ∈ ls, r.length ≤ 1048576) : CallOk Try.prog 97 [.i m, .s nl (rr ls)] [(0, .b (ranksB m ls))] := by
 obtain ⟨code0,hcd1,hcd2⟩:=chk_impl_areRankings; refine callOk_of Try.func97 hcd1 mo Try.call97 (rs:=[4]) (by kernel_rfl) hcd2 (by rw [Try.ntmps97]; simp) (by simp) (by decide) ?_; unfold C_impl_areRankings K_impl_areRankings; simp (maxSteps:=2000000) only [go_sem,Nat.reduceBEq,Nat.reduceAdd,Nat.reduceMul,Nat.reduceMod,Nat.reduceLT,Nat.reduceDiv,Nat.reduceSub,Nat.reduceLeDiff,Int.reduceToNat,Int.reduceLT,Int.reduceLE,reduceCtorEq]
 refine ⟨_,ContainsFuncR (fun l => !rankB m l) (fun l h => impl_areRankings1_ok l m (hr l h)) hl,?_⟩; simp (maxSteps:=2000000) only [go_sem,Nat.reduceBEq,Nat.reduceAdd,Nat.reduceMul,Nat.reduceMod,Nat.reduceLT,Nat.reduceDiv,Nat.reduceSub,Nat.reduceLeDiff,Int.reduceToNat,Int.reduceLT,Int.reduceLE,reduceCtorEq]
 simp [ranksB,List.all_eq_not_any_not]
def housesB (ls:List (List Int)):Bool:=inI ls.length 1 5 && ranksB ls.length ls
def exchB (ls:List (List Int)) (l:List Int):Bool:=housesB ls && rankB ls.length l
structure Hs (ls : List (List Int)) (n : Nat) : Prop where
 n1:1 ≤ n
 n5:n ≤ 5
 len:ls.length = n
 rk:∀ i,i < n → rankB n (ls.getD i []) = true
theorem hs_of {ls : List (List Int)} (h : housesB ls = true) : Hs ls ls.length := by
 simp only [housesB,Bool.and_eq_true,inI,decide_eq_true_eq,ranksB,List.all_eq_true] at h
 exact ⟨by omega,by omega,rfl,fun i hi => h.2 _ (getD_mem hi)⟩
def keepsB (ls:List (List Int)) (l:List Int):Bool:=exchB ls l && (List.range ls.length).all fun i => !prefB (ls.getD i []) i (l.getD i 0)
theorem exch_len {ls : List (List Int)} {l : List Int} (h : exchB ls l = true) : l.length = ls.length := by
 simp only [exchB,Bool.and_eq_true] at h
 have:=rank_len h.2; omega
end Go.Proofs.Ytllcbempbdibhaa
