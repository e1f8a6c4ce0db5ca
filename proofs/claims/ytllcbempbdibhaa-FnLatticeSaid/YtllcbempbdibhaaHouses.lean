/- Own work: contracts of functions. No condition beyond those that each theorem names. -/
import Derived.Test.YtllcbempbdibhaaProg
import Derived.Test.YtllcbempbdibhaaRanks
import Derived.Test.YtllcbempbdibhaaLaws
namespace Go.Proofs.Ytllcbempbdibhaa
open Go Go.Vc
set_option maxRecDepth 100000
set_option linter.unusedSimpArgs false
set_option linter.unusedVariables false
def K_impl_areRankings:List Nat:=[0,1,2,4,1002]
def C_impl_areRankings : C :=
 let ks:=K_impl_areRankings
 (.seq
  (.rg 0 [(none,.box 2 (.s 0)),(none,.v 4 .mv [.k (.b false)])])
  (.cl ks (.seq
  (.rg 0 [(none,.v 5 .mv [.s 1]),(none,.v 6 (.clo 122) [.s 2]),(none,.co 7 75 [.s 5,.s 6]),(none,.v 8 .not [.s 7]),(none,.tk 4 8)])
  .ret)))
theorem chk_impl_areRankings:∃ b,Try.f97.body = some b ∧ chk Try.prog Try.f97.ntmps true C_impl_areRankings b = true:=⟨_,rfl,by kernel_rfl⟩
def K_impl_areRankings_1:List Nat:=[0,1,3]
def C_impl_areRankings_1 : C :=
 let ks:=K_impl_areRankings_1
 (.seq
  (.rg 0 [(none,.v 3 .mv [.k (.b false)])])
  (.cl ks (.seq
  (.rg 0 [(none,.v 4 .ld [.s 1]),(none,.v 5 .mv [.s 0]),(none,.co 6 101 [.s 4,.s 5]),(none,.v 7 .not [.s 6]),(none,.tk 3 7)])
  .ret)))
theorem chk_impl_areRankings_1:∃ b,Try.f122.body = some b ∧ chk Try.prog Try.f122.ntmps true C_impl_areRankings_1 b = true:=⟨_,rfl,by kernel_rfl⟩
def ranksB (m:Int) (ls:List (List Int)):Bool:=ls.all fun l => rankB m l
theorem impl_areRankings1_ok {nl : Option Bool} (l : List Int) (m : Int) (hl : l.length ≤ 1048576) : CallOk Try.prog 122 [.s nl (ii l), .q [.i m] 0] [(0, .b (!rankB m l))] := by
 obtain ⟨code0,hcd1,hcd2⟩:=chk_impl_areRankings_1; refine callOk_of Try.func122 hcd1 mo Try.call122 (rs:=[3]) (by kernel_rfl) hcd2 (by rw [Try.ntmps122]; simp) (by simp) (by decide) ?_; unfold C_impl_areRankings_1 K_impl_areRankings_1; simp (maxSteps:=2000000) only [go_sem,Nat.reduceBEq,Nat.reduceAdd,Nat.reduceMul,Nat.reduceMod,Nat.reduceLT,Nat.reduceDiv,Nat.reduceSub,Nat.reduceLeDiff,Int.reduceToNat,Int.reduceLT,Int.reduceLE,reduceCtorEq]
 refine ⟨_,impl_RankingOk_ok m l hl,?_⟩; simp (maxSteps:=2000000) only [go_sem,Nat.reduceBEq,Nat.reduceAdd,Nat.reduceMul,Nat.reduceMod,Nat.reduceLT,Nat.reduceDiv,Nat.reduceSub,Nat.reduceLeDiff,Int.reduceToNat,Int.reduceLT,Int.reduceLE,reduceCtorEq]
theorem impl_areRankings_ok {nl : Option Bool} (ls : List (List Int)) (m : Int) (hl : ls.length ≤ 1048576) (hr : ∀ r ∈ ls, r.length ≤ 1048576) : CallOk Try.prog 97 [.i m, .s nl (rr ls)] [(0, .b (ranksB m ls))] := by
 obtain ⟨code0,hcd1,hcd2⟩:=chk_impl_areRankings; refine callOk_of Try.func97 hcd1 mo Try.call97 (rs:=[4]) (by kernel_rfl) hcd2 (by rw [Try.ntmps97]; simp) (by simp) (by decide) ?_; unfold C_impl_areRankings K_impl_areRankings; simp (maxSteps:=2000000) only [go_sem,Nat.reduceBEq,Nat.reduceAdd,Nat.reduceMul,Nat.reduceMod,Nat.reduceLT,Nat.reduceDiv,Nat.reduceSub,Nat.reduceLeDiff,Int.reduceToNat,Int.reduceLT,Int.reduceLE,reduceCtorEq]
 refine ⟨_,ContainsFuncR (fun l => !rankB m l) (fun l h => impl_areRankings1_ok l m (hr l h)) hl,?_⟩; simp (maxSteps:=2000000) only [go_sem,Nat.reduceBEq,Nat.reduceAdd,Nat.reduceMul,Nat.reduceMod,Nat.reduceLT,Nat.reduceDiv,Nat.reduceSub,Nat.reduceLeDiff,Int.reduceToNat,Int.reduceLT,Int.reduceLE,reduceCtorEq]
 simp [ranksB,List.all_eq_not_any_not]
structure Hs (ls : List (List Int)) (n : Nat) : Prop where
 n1:1 ≤ n
 n5:n ≤ 5
 len:ls.length = n
 rk:∀ i,i < n → rankB n (ls.getD i []) = true
end Go.Proofs.Ytllcbempbdibhaa
