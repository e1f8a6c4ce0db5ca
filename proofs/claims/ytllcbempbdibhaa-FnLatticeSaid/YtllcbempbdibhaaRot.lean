/- Own work: contracts of functions. No condition beyond those that each theorem names. -/
import Derived.Test.YtllcbempbdibhaaProg
import Derived.Test.YtllcbempbdibhaaLeast
import Derived.Test.YtllcbempbdibhaaPth
import Derived.Test.YtllcbempbdibhaaSame
import Derived.Test.YtllcbempbdibhaaClone
namespace Go.Proofs.Ytllcbempbdibhaa
open Go Go.Vc
set_option maxRecDepth 100000
set_option linter.unusedSimpArgs false
set_option linter.unusedVariables false
theorem IndexP_ok {nl:Option Bool} (xs:List Int) (v:Int) (hl:xs.length ≤ 1048576):CallOk Try.prog 73 [.s nl (ii xs),.i v] [(0,.i (placeI xs v))]:=by rw [placeI_sym]; exact IndexI xs v hl
def K_impl_IsStable:List Nat:=[0,1,2,4,1002,2002]
def C_impl_IsStable : C :=
 let ks:=K_impl_IsStable
 (.seq
  (.rg 0 [(none,.v 2 .boxS [.s 0]),(none,.v 4 .mv [.k (.b false)])])
  (.cl ks (.seq
  (.rg 0 [(none,.v 5 (.lds 2) [.s 2]),(none,.v 6 .mv [.s 1]),(none,.co 7 64 [.s 5,.s 6]),(none,.v 8 .mv [.s 7]),(some (8,true),.v 9 (.lds 2) [.s 2]),(some (8,true),.v 10 .mv [.s 1]),(some (8,true),.co 11 57 [.s 9,.s 10]),(some (8,true),.v 12 .len [.s 11]),(some (8,true),.v 13 (.bin .eql) [.s 12,.k (.i 0)]),(none,.v 14 .pick [.s 8,.s 13,.k (.b false)]),(none,.tk 4 14)])
  .ret)))
theorem chk_impl_IsStable:∃ b,Try.f21.body = some b ∧ chk Try.prog Try.f21.ntmps true C_impl_IsStable b = true:=⟨_,rfl,by kernel_rfl⟩
def stabB (x y:List (List Int)) (l:List Int):Bool:=matchB x y l && stableB x y x.length l
theorem impl_IsStable_ok {n1 n2 n3 : Option Bool} (x y : List (List Int)) (l : List Int) (hx : x.length ≤ 1048576) (kx : ∀ r ∈ x, r.length ≤ 1048576) (hy : y.length ≤ 1048576) (ky : ∀ r ∈ y, r.length ≤ 1048576) (hl : l.length ≤ 1048576) :
  CallOk Try.prog 21 [.a [.s n1 (rr x),.s n2 (rr y)],.s n3 (ii l)] [(0,.b (stabB x y l))]:=by
 obtain ⟨code0,hcd1,hcd2⟩:=chk_impl_IsStable; refine callOk_of Try.func21 hcd1 mo Try.call21 (rs:=[4]) (by kernel_rfl) hcd2 (by rw [Try.ntmps21]; simp) (by simp) (by decide) ?_; unfold C_impl_IsStable K_impl_IsStable; simp (maxSteps:=2000000) only [go_sem,Nat.reduceBEq,Nat.reduceAdd,Nat.reduceMul,Nat.reduceMod,Nat.reduceLT,Nat.reduceDiv,Nat.reduceSub,Nat.reduceLeDiff,Int.reduceToNat,Int.reduceLT,Int.reduceLE,reduceCtorEq]
 refine ⟨_,impl_IsMatching_ok x y l hx kx hy ky hl,?_⟩; simp (maxSteps:=2000000) only [go_sem,Nat.reduceBEq,Nat.reduceAdd,Nat.reduceMul,Nat.reduceMod,Nat.reduceLT,Nat.reduceDiv,Nat.reduceSub,Nat.reduceLeDiff,Int.reduceToNat,Int.reduceLT,Int.reduceLE,reduceCtorEq]
 refine ⟨fun h0 => ?_,fun h0 => by simp [stabB,h0]⟩
 have h0':=h0
 simp only [matchB,Bool.and_eq_true] at h0'
 have M:=mk_of h0'.1
 refine ⟨_,impl_blocks_ok x y l x.length M h0'.2,?_⟩; simp (maxSteps:=2000000) only [go_sem,Nat.reduceBEq,Nat.reduceAdd,Nat.reduceMul,Nat.reduceMod,Nat.reduceLT,Nat.reduceDiv,Nat.reduceSub,Nat.reduceLeDiff,Int.reduceToNat,Int.reduceLT,Int.reduceLE,reduceCtorEq]
 rw [stabB,h0,Bool.true_and]
 rw [Bool.eq_iff_iff,decide_eq_true_iff]
 first | exact blkL_st | exact blkU_st M
theorem stab_of {x y : List (List Int)} {l : List Int} (h : stabB x y l = true) : marketB x y = true ∧ rankB x.length l = true ∧ Mk x y x.length := by
 simp only [stabB,matchB,Bool.and_eq_true] at h
 exact ⟨h.1.1,h.1.2,mk_of h.1.1⟩
end Go.Proofs.Ytllcbempbdibhaa
