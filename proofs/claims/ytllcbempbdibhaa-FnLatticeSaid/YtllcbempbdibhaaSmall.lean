/- Own work: contracts of functions. No condition beyond those that each theorem names. -/
import Derived.Test.YtllcbempbdibhaaProg
import Derived.Test.YtllcbempbdibhaaSlices
namespace Go.Proofs.Ytllcbempbdibhaa
open Go Go.Vc
set_option maxRecDepth 100000
set_option linter.unusedSimpArgs false
set_option linter.unusedVariables false
def K_impl_within:List Nat:=[0,1,2,6]
def C_impl_within : C :=
 let ks:=K_impl_within
 (.seq
  (.rg 0 [(none,.v 6 .mv [.k (.b false)])])
  (.cl ks (.seq
  (.rg 0 [(none,.v 7 .mv [.s 0]),(none,.v 8 .mv [.s 1]),(none,.v 9 (.bin .geq) [.s 7,.s 8]),(none,.v 10 .mv [.s 9]),(some (10,true),.v 11 .mv [.s 0]),(some (10,true),.v 12 .mv [.s 2]),(some (10,true),.v 13 (.bin .leq) [.s 11,.s 12]),(none,.v 14 .pick [.s 10,.s 13,.k (.b false)]),(none,.tk 6 14)])
  .ret)))
theorem chk_impl_within:∃ b,Try.f47.body = some b ∧ chk Try.prog Try.f47.ntmps true C_impl_within b = true:=⟨_,rfl,by kernel_rfl⟩
def inI (n lo hi:Int):Bool:=decide (lo ≤ n) && decide (n ≤ hi)
theorem within_ok (n lo hi : Int) : CallOk Try.prog 47 [.i n, .i lo, .i hi] [(0, .b (inI n lo hi))] := by
 obtain ⟨code0,hcd1,hcd2⟩:=chk_impl_within; refine callOk_of Try.func47 hcd1 mo Try.call47 (rs:=[6]) (by kernel_rfl) hcd2 (by rw [Try.ntmps47]; simp) (by simp) (by decide) ?_; unfold C_impl_within K_impl_within; simp (maxSteps:=2000000) only [go_sem,Nat.reduceBEq,Nat.reduceAdd,Nat.reduceMul,Nat.reduceMod,Nat.reduceLT,Nat.reduceDiv,Nat.reduceSub,Nat.reduceLeDiff,Int.reduceToNat,Int.reduceLT,Int.reduceLE,reduceCtorEq]
 constructor <;> intro h <;> simp [inI,h]
end Go.Proofs.Ytllcbempbdibhaa
