/- Own work: contracts of functions. No condition beyond those that each theorem names. -/
import Derived.Test.YtllcbempbdibhaaProg
import Derived.Test.YtllcbempbdibhaaSlices
namespace Go.Proofs.Ytllcbempbdibhaa
open Go Go.Vc
set_option maxRecDepth 100000
set_option linter.unusedSimpArgs false
set_option linter.unusedVariables false
def K_impl_within:List Nat:=[0,1,2,6]
def C_impl_within : C :=
 let ks:=K_impl_within
 (.seq
  (.rg 0 [(none,.v 6 .mv [.k (.b false)])])
  (.cl ks (.seq
  (.rg 0 [(none,.v 7 .mv [.s 0]),(none,.v 8 .mv [.s 1]),(none,.v 9 (.bin .geq) [.s 7,.s 8]),(none,.v 10 .mv [.s 9]),(some (10,true),.v 11 .mv [.s 0]),(some (10,true),.v 12 .mv [.s 2]),(some (10,true),.v 13 (.bin .leq) [.s 11,.s 12]),(none,.v 14 .pick [.s 10,.s 13,.k (.b false)]),(none,.tk 6 14)])
  .ret)))
theorem chk_impl_within:∃ b,Try.f47.body = some b ∧ chk Try.prog Try.f47.ntmps true C_impl_within b = true:=⟨_,rfl,by kernel_rfl⟩
def K_spec_l01In:List Nat:=[0,1,2,6]
def C_spec_l01In : C :=
 let ks:=K_spec_l01In
 (.seq
  (.rg 0 [(none,.v 6 .mv [.k (.b false)])])
  (.cl ks (.seq
  (.rg 0 [(none,.v 7 .mv [.s 0]),(none,.v 8 .mv [.s 1]),(none,.v 9 (.bin .geq) [.s 7,.s 8]),(none,.v 10 .mv [.s 9]),(some (10,true),.v 11 .mv [.s 0]),(some (10,true),.v 12 .mv [.s 2]),(some (10,true),.v 13 (.bin .leq) [.s 11,.s 12]),(none,.v 14 .pick [.s 10,.s 13,.k (.b false)]),(none,.tk 6 14)])
  .ret)))
theorem chk_spec_l01In:∃ b,Try.f45.body = some b ∧ chk Try.prog Try.f45.ntmps true C_spec_l01In b = true:=⟨_,rfl,by kernel_rfl⟩
def K_impl_allWithin:List Nat:=[0,1,2,4,5,6,1004,1005]
def C_impl_allWithin : C :=
 let ks:=K_impl_allWithin
 (.seq
  (.rg 0 [(none,.box 4 (.s 1)),(none,.box 5 (.s 2)),(none,.v 6 .mv [.k (.b false)])])
  (.cl ks (.seq
  (.rg 0 [(none,.v 7 .mv [.s 0]),(none,.v 8 (.clo 105) [.s 4,.s 5]),(none,.co 9 104 [.s 7,.s 8]),(none,.v 10 .not [.s 9]),(none,.tk 6 10)])
  .ret)))
theorem chk_impl_allWithin:∃ b,Try.f81.body = some b ∧ chk Try.prog Try.f81.ntmps true C_impl_allWithin b = true:=⟨_,rfl,by kernel_rfl⟩
def K_impl_allWithin_1:List Nat:=[0,1,2,4]
def C_impl_allWithin_1 : C :=
 let ks:=K_impl_allWithin_1
 (.seq
  (.rg 0 [(none,.v 4 .mv [.k (.b false)])])
  (.cl ks (.seq
  (.rg 0 [(none,.v 5 .mv [.s 0]),(none,.v 6 .ld [.s 1]),(none,.v 7 .ld [.s 2]),(none,.co 8 47 [.s 5,.s 6,.s 7]),(none,.v 9 .not [.s 8]),(none,.tk 4 9)])
  .ret)))
theorem chk_impl_allWithin_1:∃ b,Try.f105.body = some b ∧ chk Try.prog Try.f105.ntmps true C_impl_allWithin_1 b = true:=⟨_,rfl,by kernel_rfl⟩
def inI (n lo hi:Int):Bool:=decide (lo ≤ n) && decide (n ≤ hi)
theorem within_ok (n lo hi : Int) : CallOk Try.prog 47 [.i n, .i lo, .i hi] [(0, .b (inI n lo hi))] := by
 obtain ⟨code0,hcd1,hcd2⟩:=chk_impl_within; refine callOk_of Try.func47 hcd1 mo Try.call47 (rs:=[6]) (by kernel_rfl) hcd2 (by rw [Try.ntmps47]; simp) (by simp) (by decide) ?_; unfold C_impl_within K_impl_within; simp (maxSteps:=2000000) only [go_sem,Nat.reduceBEq,Nat.reduceAdd,Nat.reduceMul,Nat.reduceMod,Nat.reduceLT,Nat.reduceDiv,Nat.reduceSub,Nat.reduceLeDiff,Int.reduceToNat,Int.reduceLT,Int.reduceLE,reduceCtorEq]
 constructor <;> intro h <;> simp [inI,h]
theorem l01In_ok (n lo hi : Int) : CallOk Try.prog 45 [.i n, .i lo, .i hi] [(0, .b (inI n lo hi))] := by
 obtain ⟨code0,hcd1,hcd2⟩:=chk_spec_l01In; refine callOk_of Try.func45 hcd1 mo Try.call45 (rs:=[6]) (by kernel_rfl) hcd2 (by rw [Try.ntmps45]; simp) (by simp) (by decide) ?_; unfold C_spec_l01In K_spec_l01In; simp (maxSteps:=2000000) only [go_sem,Nat.reduceBEq,Nat.reduceAdd,Nat.reduceMul,Nat.reduceMod,Nat.reduceLT,Nat.reduceDiv,Nat.reduceSub,Nat.reduceLeDiff,Int.reduceToNat,Int.reduceLT,Int.reduceLE,reduceCtorEq]
 constructor <;> intro h <;> simp [inI,h]
theorem allWithin1_ok (n lo hi : Int) : CallOk Try.prog 105 [.i n, .q [.i lo] 0, .q [.i hi] 0] [(0, .b (!inI n lo hi))] := by
 obtain ⟨code0,hcd1,hcd2⟩:=chk_impl_allWithin_1; refine callOk_of Try.func105 hcd1 mo Try.call105 (rs:=[4]) (by kernel_rfl) hcd2 (by rw [Try.ntmps105]; simp) (by simp) (by decide) ?_; unfold C_impl_allWithin_1 K_impl_allWithin_1; simp (maxSteps:=2000000) only [go_sem,Nat.reduceBEq,Nat.reduceAdd,Nat.reduceMul,Nat.reduceMod,Nat.reduceLT,Nat.reduceDiv,Nat.reduceSub,Nat.reduceLeDiff,Int.reduceToNat,Int.reduceLT,Int.reduceLE,reduceCtorEq]
 refine ⟨_,within_ok n lo hi,?_⟩; simp (maxSteps:=2000000) only [go_sem,Nat.reduceBEq,Nat.reduceAdd,Nat.reduceMul,Nat.reduceMod,Nat.reduceLT,Nat.reduceDiv,Nat.reduceSub,Nat.reduceLeDiff,Int.reduceToNat,Int.reduceLT,Int.reduceLE,reduceCtorEq]
theorem allWithin_ok {nl : Option Bool} (xs : List Int) (lo hi : Int) (hl : xs.length ≤ 1048576) : CallOk Try.prog 81 [.s nl (ii xs), .i lo, .i hi] [(0, .b (xs.all fun n => inI n lo hi))] := by
 obtain ⟨code0,hcd1,hcd2⟩:=chk_impl_allWithin; refine callOk_of Try.func81 hcd1 mo Try.call81 (rs:=[6]) (by kernel_rfl) hcd2 (by rw [Try.ntmps81]; simp) (by simp) (by decide) ?_; unfold C_impl_allWithin K_impl_allWithin; simp (maxSteps:=2000000) only [go_sem,Nat.reduceBEq,Nat.reduceAdd,Nat.reduceMul,Nat.reduceMod,Nat.reduceLT,Nat.reduceDiv,Nat.reduceSub,Nat.reduceLeDiff,Int.reduceToNat,Int.reduceLT,Int.reduceLE,reduceCtorEq]
 refine ⟨_,ContainsFuncI (fun n => !inI n lo hi) (fun n _ => allWithin1_ok n lo hi) hl,?_⟩; simp (maxSteps:=2000000) only [go_sem,Nat.reduceBEq,Nat.reduceAdd,Nat.reduceMul,Nat.reduceMod,Nat.reduceLT,Nat.reduceDiv,Nat.reduceSub,Nat.reduceLeDiff,Int.reduceToNat,Int.reduceLT,Int.reduceLE,reduceCtorEq]
 simp [List.all_eq_not_any_not]
def rectB (xs:List (List Int)) (a b c:Int):Bool:=inI xs.length 1 a && inI (xs.getD 0 []).length 1 b && xs.all fun r => decide (r.length = (xs.getD 0 []).length) && r.all fun n => inI n 0 c
end Go.Proofs.Ytllcbempbdibhaa
