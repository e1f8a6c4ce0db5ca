/- Own work: contracts of functions. No condition beyond those that each theorem names. -/
import Derived.Test.YtllcbempbdibhaaProg
import Derived.Test.YtllcbempbdibhaaTurnm
import Derived.Test.YtllcbempbdibhaaClone
import Derived.Test.YtllcbempbdibhaaWend
namespace Go.Proofs.Ytllcbempbdibhaa
open Go Go.Vc
set_option maxRecDepth 100000
set_option linter.unusedSimpArgs false
set_option linter.unusedVariables false
def K_impl_copyRows:List Nat:=[0,2,3,5,6,7,8]
def C_impl_copyRows : C :=
 let ks:=K_impl_copyRows
 (.seq
  (.rg 0 [(none,.mkn 2)])
  (.cl ks (.seq
  (.rg 0 [(none,.mkn 3)])
  (.cl ks (.seq
  (.seq
  (.rg 0 [(none,.v 6 .mv [.s 0]),(none,.v 7 .len [.s 6]),(none,.v 8 .mv [.k (.i 0)])])
  (.cl ks (.block 0
  (.loop
  (.seq
  (.rg 0 [(none,.v 9 (.bin .lss) [.s 8,.s 7])])
  (.seq
  (.cond (.s 9)
  .skip
  (.exit 0))
  (.cl ks (.seq
  (.block 1
  (.seq
  (.rg 0 [(none,.v 10 .idx [.s 6,.s 8]),(none,.v 11 .ld [.s 10]),(none,.tk 5 11)])
  (.cl ks (.rg 0 [(none,.v 12 .mv [.s 3]),(none,.v 13 .mv [.s 5]),(none,.co 14 100 [.s 13]),(none,.lit 15 [.s 14] 1),(none,.app 16 (.s 12) (.s 15) 1),(none,.tk 3 16)]))))
  (.cl ks (.rg 0 [(none,.v 17 (.bin .add) [.s 8,.k (.i 1)]),(none,.v 8 .mv [.s 17])]))))))))))
  (.cl ks (.seq
  (.rg 0 [(none,.v 18 .mv [.s 3]),(none,.tk 2 18)])
  .ret)))))))
theorem chk_impl_copyRows:∃ b,Try.f63.body = some b ∧ chk Try.prog Try.f63.ntmps true C_impl_copyRows b = true:=⟨_,rfl,by kernel_rfl⟩
def K_impl_TurnMarket:List Nat:=[0,1,2,3,1001,2001,1002,2002]
def C_impl_TurnMarket : C :=
 let ks:=K_impl_TurnMarket
 (.seq
  (.rg 0 [(none,.v 1 .boxS [.s 0]),(none,.new 2 [.s (some true) [],.s (some true) []]),(none,.v 3 .mv [.k (.b false)])])
  (.cl ks (.seq
  (.seq
  (.rg 0 [(none,.v 4 (.lds 2) [.s 1]),(none,.co 5 55 [.s 4]),(none,.v 6 .not [.s 5])])
  (.cond (.s 6)
  (.seq
  (.rg 0 [(none,.v 7 .bld [.k (.s (some true) []),.k (.s (some true) [])]),(none,.sts (.s 2) (.s 7) 2),(none,.v 3 .mv [.k (.b false)])])
  .ret)
  .skip))
  (.cl ks (.seq
  (.rg 5 [(none,.v 8 (.fa 1) [.s 1]),(none,.v 9 .ld [.s 8]),(none,.v 10 (.call 63) [.s 9]),(none,.v 11 (.fa 0) [.s 1]),(none,.v 12 .ld [.s 11]),(none,.v 13 (.call 63) [.s 12]),(none,.v 14 .bld [.s 10,.s 13]),(none,.sts (.s 2) (.s 14) 2),(none,.v 3 .mv [.k (.b true)])])
  .ret)))))
theorem chk_impl_TurnMarket:∃ b,Try.f20.body = some b ∧ chk Try.prog Try.f20.ntmps true C_impl_TurnMarket b = true:=⟨_,rfl,by kernel_rfl⟩
theorem impl_copyRows_ok {n1 : Option Bool} (x : List (List Int)) (hx : x.length ≤ 1048576) (kx : ∀ r ∈ x, 0 < r.length ∧ r.length ≤ 1048576) :
  CallOk Try.prog 63 [.s n1 (rr x)] [(0,.own 1 none (rr x))]:=by
 obtain ⟨code0,hcd1,hcd2⟩:=chk_impl_copyRows; refine callOk_of Try.func63 hcd1 mo Try.call63 (rs:=[2]) (by kernel_rfl) hcd2 (by rw [Try.ntmps63]; simp) (by simp) (by decide) ?_; unfold C_impl_copyRows K_impl_copyRows; simp (maxSteps:=2000000) only [go_sem,Nat.reduceBEq,Nat.reduceAdd,Nat.reduceMul,Nat.reduceMod,Nat.reduceLT,Nat.reduceDiv,Nat.reduceSub,Nat.reduceLeDiff,Int.reduceToNat,Int.reduceLT,Int.reduceLE,reduceCtorEq]
 refine loopN x.length (fun j => [(0,.t .arg (.s n1 (rr x))),(3,.own 1 none (rr (x.take j))),(6,.t .arg (.s n1 (rr x))),(7,.i x.length),(8,.i (j:Nat))]) (fun _ => True) ⟨trivial,by simp (maxSteps:=2000000) only [go_sem,Nat.reduceBEq,Nat.reduceAdd,Nat.reduceMul,Nat.reduceMod,Nat.reduceLT,Nat.reduceDiv,Nat.reduceSub,Nat.reduceLeDiff,Int.reduceToNat,Int.reduceLT,Int.reduceLE,reduceCtorEq]; simp⟩ fun j hj _ => ?_
 simp (maxSteps:=2000000) only [go_sem,Nat.reduceBEq,Nat.reduceAdd,Nat.reduceMul,Nat.reduceMod,Nat.reduceLT,Nat.reduceDiv,Nat.reduceSub,Nat.reduceLeDiff,Int.reduceToNat,Int.reduceLT,Int.reduceLE,reduceCtorEq]
 refine ⟨fun hlt => ?_, fun hge => ?_⟩
 ·have hj':j < x.length:=by omega
  have hk:=kx _ (getD_mem (d:=[]) hj')
  refine ⟨by omega,hj',hj',?_⟩
  refine ⟨_,Clone_ok (x.getD j []) hk.1 hk.2,?_⟩; simp (maxSteps:=2000000) only [go_sem,Nat.reduceBEq,Nat.reduceAdd,Nat.reduceMul,Nat.reduceMod,Nat.reduceLT,Nat.reduceDiv,Nat.reduceSub,Nat.reduceLeDiff,Int.reduceToNat,Int.reduceLT,Int.reduceLE,reduceCtorEq]
  have e:=take_getD [] hj'
  exact ⟨by simp,by rw [List.length_take]; omega,inR_of (by omega) (by omega),hj',e.symm,by simp⟩
 ·have:j = x.length:=by omega
  subst this
  rw [List.take_length]
theorem impl_TurnMarket_ok {n1 n2 : Option Bool} (x y : List (List Int)) (h : marketB x y = true) (hx : x.length ≤ 1048576) (kx : ∀ r ∈ x, r.length ≤ 1048576) (hy : y.length ≤ 1048576) (ky : ∀ r ∈ y, r.length ≤ 1048576) :
  CallOk Try.prog 20 [.a [.s n1 (rr x),.s n2 (rr y)]] [(0,.tp 2),(100000,.t .fr (.a [.s none (rr y),.s none (rr x)])),(101000,.b true)]:=by
 obtain ⟨code0,hcd1,hcd2⟩:=chk_impl_TurnMarket; refine callT_of Try.func20 hcd1 mo Try.call20 (z:=2) (ty:=29) (r:=3) (by kernel_rfl) (by kernel_rfl) hcd2 (by rw [Try.ntmps20]; simp) (by simp) (by decide) (by decide) ?_; unfold C_impl_TurnMarket K_impl_TurnMarket; simp (maxSteps:=2000000) only [go_sem,Nat.reduceBEq,Nat.reduceAdd,Nat.reduceMul,Nat.reduceMod,Nat.reduceLT,Nat.reduceDiv,Nat.reduceSub,Nat.reduceLeDiff,Int.reduceToNat,Int.reduceLT,Int.reduceLE,reduceCtorEq]
 have M:=mk_of h
 have pos : ∀ {ls : List (List Int)}, Hs ls x.length → ∀ r ∈ ls, 0 < r.length ∧ r.length ≤ 1048576 := fun H r hr => by
  obtain ⟨i,hi,rfl⟩:=mem_getD [] hr
  rw [H.len] at hi
  have:=rank_len (H.rk i hi)
  have:=H.n5
  omega
 refine ⟨_,impl_MarketOk_ok x y hx kx hy ky,?_⟩; simp (maxSteps:=2000000) only [go_sem,Nat.reduceBEq,Nat.reduceAdd,Nat.reduceMul,Nat.reduceMod,Nat.reduceLT,Nat.reduceDiv,Nat.reduceSub,Nat.reduceLeDiff,Int.reduceToNat,Int.reduceLT,Int.reduceLE,reduceCtorEq]
 refine ⟨fun h1 => absurd (h.symm.trans h1) (by simp),fun _ => ?_⟩
 refine ⟨_,impl_copyRows_ok y hy (pos M.w),?_⟩; simp (maxSteps:=2000000) only [go_sem,Nat.reduceBEq,Nat.reduceAdd,Nat.reduceMul,Nat.reduceMod,Nat.reduceLT,Nat.reduceDiv,Nat.reduceSub,Nat.reduceLeDiff,Int.reduceToNat,Int.reduceLT,Int.reduceLE,reduceCtorEq]
 refine ⟨_,impl_copyRows_ok x hx (pos M.m),?_⟩; simp (maxSteps:=2000000) only [go_sem,Nat.reduceBEq,Nat.reduceAdd,Nat.reduceMul,Nat.reduceMod,Nat.reduceLT,Nat.reduceDiv,Nat.reduceSub,Nat.reduceLeDiff,Int.reduceToNat,Int.reduceLT,Int.reduceLE,reduceCtorEq]
theorem market_swap {x y : List (List Int)} (h : marketB x y = true) : marketB y x = true := by
 have M:=mk_of h
 have e:=M.w.len
 simp only [marketB,Bool.and_eq_true,decide_eq_true_eq] at h ⊢
 rw [e]
 exact ⟨⟨⟨h.1.1.1,rfl⟩,h.2⟩,h.1.2⟩
end Go.Proofs.Ytllcbempbdibhaa
