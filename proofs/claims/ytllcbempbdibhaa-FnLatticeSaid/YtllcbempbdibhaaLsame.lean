/- Own work: contracts of functions. No condition beyond those that each theorem names. -/
import Derived.Test.YtllcbempbdibhaaProg
import Derived.Test.YtllcbempbdibhaaLaws
namespace Go.Proofs.Ytllcbempbdibhaa
open Go Go.Vc
set_option maxRecDepth 100000
set_option linter.unusedSimpArgs false
set_option linter.unusedVariables false
def K_laws_same:List Nat:=[0,1,4,5,6,12,13,14]
def C_laws_same : C :=
 let ks:=K_laws_same
 (.seq
  (.rg 0 [(none,.v 4 .mv [.k (.b false)])])
  (.cl ks (.seq
  (.seq
  (.rg 0 [(none,.v 7 .mv [.s 0]),(none,.v 8 .len [.s 7]),(none,.v 9 .mv [.s 1]),(none,.v 10 .len [.s 9]),(none,.v 11 (.bin .neq) [.s 8,.s 10])])
  (.cond (.s 11)
  (.seq
  (.rg 0 [(none,.v 4 .mv [.k (.b false)])])
  .ret)
  .skip))
  (.cl ks (.seq
  (.seq
  (.rg 0 [(none,.v 12 .mv [.s 0]),(none,.v 13 .len [.s 12]),(none,.v 14 .mv [.k (.i 0)])])
  (.cl ks (.block 0
  (.loop
  (.seq
  (.rg 0 [(none,.v 15 (.bin .lss) [.s 14,.s 13])])
  (.seq
  (.cond (.s 15)
  .skip
  (.exit 0))
  (.cl ks (.seq
  (.block 1
  (.seq
  (.rg 0 [(none,.v 16 .mv [.s 14]),(none,.v 17 .idx [.s 12,.s 14]),(none,.v 18 .ld [.s 17]),(none,.tk 5 16),(none,.tk 6 18)])
  (.cl ks (.seq
  (.rg 0 [(none,.v 19 .mv [.s 6]),(none,.v 20 .mv [.s 1]),(none,.v 21 .mv [.s 5]),(none,.v 22 .idx [.s 20,.s 21]),(none,.v 23 .ld [.s 22]),(none,.v 24 (.bin .neq) [.s 19,.s 23])])
  (.cond (.s 24)
  (.seq
  (.rg 0 [(none,.v 4 .mv [.k (.b false)])])
  .ret)
  .skip)))))
  (.cl ks (.rg 0 [(none,.v 25 (.bin .add) [.s 14,.k (.i 1)]),(none,.v 14 .mv [.s 25])]))))))))))
  (.cl ks (.seq
  (.rg 0 [(none,.v 4 .mv [.k (.b true)])])
  .ret)))))))
theorem chk_laws_same:∃ b,Try.f30.body = some b ∧ chk Try.prog Try.f30.ntmps true C_laws_same b = true:=⟨_,rfl,by kernel_rfl⟩
theorem laws_same_ok {n1 n2 : Option Bool} (a b : List Int) (hl : a.length ≤ 1048576) : CallOk Try.prog 30 [.s n1 (ii a), .s n2 (ii b)] [(0, .b (decide (a = b)))] := by
 obtain ⟨code0,hcd1,hcd2⟩:=chk_laws_same; refine callOk_of Try.func30 hcd1 mo Try.call30 (rs:=[4]) (by kernel_rfl) hcd2 (by rw [Try.ntmps30]; simp) (by simp) (by decide) ?_; unfold C_laws_same K_laws_same; simp (maxSteps:=2000000) only [go_sem,Nat.reduceBEq,Nat.reduceAdd,Nat.reduceMul,Nat.reduceMod,Nat.reduceLT,Nat.reduceDiv,Nat.reduceSub,Nat.reduceLeDiff,Int.reduceToNat,Int.reduceLT,Int.reduceLE,reduceCtorEq]
 refine ⟨fun h => ?_, fun hab => ?_⟩
 ·have:¬ a = b:=fun e => h (by rw [e])
  simp [this]
 refine loopN a.length (fun j => [(0,.t .arg (.s n1 (ii a))),(1,.t .arg (.s n2 (ii b))),(12,.t .arg (.s n1 (ii a))),(13,.i a.length),(14,.i (j:Nat))]) (fun j => a.take j = b.take j) ⟨rfl,by simp (maxSteps:=2000000) only [go_sem,Nat.reduceBEq,Nat.reduceAdd,Nat.reduceMul,Nat.reduceMod,Nat.reduceLT,Nat.reduceDiv,Nat.reduceSub,Nat.reduceLeDiff,Int.reduceToNat,Int.reduceLT,Int.reduceLE,reduceCtorEq]; simp⟩ fun j hj he => ?_
 simp (maxSteps:=2000000) only [go_sem,Nat.reduceBEq,Nat.reduceAdd,Nat.reduceMul,Nat.reduceMod,Nat.reduceLT,Nat.reduceDiv,Nat.reduceSub,Nat.reduceLeDiff,Int.reduceToNat,Int.reduceLT,Int.reduceLE,reduceCtorEq]
 refine ⟨fun hlt => ?_, fun hge => ?_⟩
 ·refine ⟨by omega, by omega, by omega, by omega, by omega, by omega, fun hn => ?_, fun hn => ⟨inR_of (by omega) (by omega), by omega, ?_, by simp⟩⟩
  ·have:¬ a = b:=fun e => hn (by rw [e])
   simp [this]
  ·rw [take_getD 0 (show j < a.length by omega),take_getD 0 (show j < b.length by omega),he,hn]
 ·have:j = a.length:=by omega
  subst this
  have:a = b:=by rw [List.take_length,hab,List.take_length] at he; exact he
  simp [this]
theorem laws_same_yes {n1 n2 : Option Bool} (a b : List Int) (hl : a.length ≤ 1048576) (h : a = b) : CallOk Try.prog 30 [.s n1 (ii a), .s n2 (ii b)] [(0, .b true)] := by
 have:=laws_same_ok (n1:=n1) (n2:=n2) a b hl
 rwa [decide_eq_true h] at this
end Go.Proofs.Ytllcbempbdibhaa
