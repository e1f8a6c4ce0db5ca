/- Own work: contracts of functions. No condition beyond those that each theorem names. -/
import Derived.Test.YtllcbempbdibhaaProg
import Derived.Test.YtllcbempbdibhaaSmall
namespace Go.Proofs.Ytllcbempbdibhaa
open Go Go.Vc
set_option maxRecDepth 100000
set_option linter.unusedSimpArgs false
set_option linter.unusedVariables false
def K_impl_indices:List Nat:=[0,2,3,4,8,9]
def C_impl_indices : C :=
 let ks:=K_impl_indices
 (.seq
  (.rg 0 [(none,.mkn 2)])
  (.cl ks (.seq
  (.rg 0 [(none,.v 5 .mv [.s 0]),(none,.mk 6 (.i 0) (.s 5) (.s 5)),(none,.tk 3 6)])
  (.cl ks (.seq
  (.seq
  (.rg 0 [(none,.v 7 .mv [.s 3]),(none,.v 8 .len [.s 7]),(none,.v 9 .mv [.k (.i 0)])])
  (.cl ks (.block 0
  (.loop
  (.seq
  (.rg 0 [(none,.v 10 (.bin .lss) [.s 9,.s 8])])
  (.seq
  (.cond (.s 10)
  .skip
  (.exit 0))
  (.cl ks (.seq
  (.block 1
  (.seq
  (.rg 0 [(none,.v 11 .mv [.s 9]),(none,.tk 4 11)])
  (.cl ks (.rg 0 [(none,.v 12 .mv [.s 3]),(none,.v 13 .mv [.s 4]),(none,.v 14 .mv [.s 4]),(none,.v 15 .idx [.s 12,.s 13]),(none,.st (.s 15) (.s 14))]))))
  (.cl ks (.rg 0 [(none,.v 16 (.bin .add) [.s 9,.k (.i 1)]),(none,.v 9 .mv [.s 16])]))))))))))
  (.cl ks (.seq
  (.rg 0 [(none,.v 17 .mv [.s 3]),(none,.tk 2 17)])
  .ret)))))))
theorem chk_impl_indices:∃ b,Try.f99.body = some b ∧ chk Try.prog Try.f99.ntmps true C_impl_indices b = true:=⟨_,rfl,by kernel_rfl⟩
def upto (n:Nat):List Int:=(List.range n).map fun (x:Nat) => (x:Int)
theorem upto_len {n:Nat}:(upto n).length = n:=by simp [upto]
def uptoJ (n j:Nat):List Int:=(List.range n).map fun (x:Nat) => if x < j then (x:Int) else 0
theorem uptoJ_len {n j:Nat}:(uptoJ n j).length = n:=by simp [uptoJ]
theorem uptoJ_s {n j : Nat} (h : j < n) : (uptoJ n j).set j j = uptoJ n (j + 1) := by
 apply List.ext_getElem
 ·simp [uptoJ]
 ·intro i h1 h2
  simp only [uptoJ,List.getElem_set,List.getElem_map,List.getElem_range]
  by_cases e : j = i
  ·subst e; simp
  ·rw [if_neg e]
   by_cases e2 : i < j
   ·rw [if_pos e2,if_pos (by omega)]
   ·rw [if_neg e2,if_neg (by omega)]
theorem uptoJ_n {n:Nat}:uptoJ n n = upto n:=List.map_congr_left fun x hx => if_pos (by simpa using hx)
theorem indices_ok (m : Int) (h0 : 0 ≤ m) (h1 : m ≤ 1048576) : CallOk Try.prog 99 [.i m] [(0, .own 1 (some false) (ii (upto m.toNat)))] := by
 obtain ⟨code0,hcd1,hcd2⟩:=chk_impl_indices; refine callOk_of Try.func99 hcd1 mo Try.call99 (rs:=[2]) (by kernel_rfl) hcd2 (by rw [Try.ntmps99]; simp) (by simp) (by decide) ?_; unfold C_impl_indices K_impl_indices; simp (maxSteps:=2000000) only [go_sem,Nat.reduceBEq,Nat.reduceAdd,Nat.reduceMul,Nat.reduceMod,Nat.reduceLT,Nat.reduceDiv,Nat.reduceSub,Nat.reduceLeDiff,Int.reduceToNat,Int.reduceLT,Int.reduceLE,reduceCtorEq]
 refine ⟨by omega,by omega,?_⟩
 refine loopN m.toNat (fun j => [(0,.i m),(3,.own 1 (some false) (ii (uptoJ m.toNat j))),(8,.i m),(9,.i (j:Nat))]) (fun j => True) ⟨trivial,by simp (maxSteps:=2000000) only [go_sem,Nat.reduceBEq,Nat.reduceAdd,Nat.reduceMul,Nat.reduceMod,Nat.reduceLT,Nat.reduceDiv,Nat.reduceSub,Nat.reduceLeDiff,Int.reduceToNat,Int.reduceLT,Int.reduceLE,reduceCtorEq]; simp [uptoJ,List.map_const']; omega⟩ fun j hj _ => ?_
 simp (maxSteps:=2000000) only [go_sem,Nat.reduceBEq,Nat.reduceAdd,Nat.reduceMul,Nat.reduceMod,Nat.reduceLT,Nat.reduceDiv,Nat.reduceSub,Nat.reduceLeDiff,Int.reduceToNat,Int.reduceLT,Int.reduceLE,reduceCtorEq]
 refine ⟨fun hlt => ?_, fun hge => ?_⟩
 ·have hj':j < m.toNat:=by omega
  rw [uptoJ_len]
  exact ⟨by omega,hj',hj',inR_of (by omega) (by omega),hj',uptoJ_s hj',by simp⟩
 ·have:j = m.toNat:=by omega
  subst this
  exact uptoJ_n
theorem mem_upto {n : Nat} {x : Int} : x ∈ upto n ↔ 0 ≤ x ∧ x < n := by
 simp only [upto,List.mem_map,List.mem_range]
 constructor
 ·rintro ⟨a,h,rfl⟩; omega
 ·intro h; exact ⟨x.toNat,by omega,by omega⟩
end Go.Proofs.Ytllcbempbdibhaa
