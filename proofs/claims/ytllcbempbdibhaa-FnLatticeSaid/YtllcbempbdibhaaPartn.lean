/- Own work: contracts of functions. No condition beyond those that each theorem names. -/
import Derived.Test.YtllcbempbdibhaaProg
import Derived.Test.YtllcbempbdibhaaMkt
namespace Go.Proofs.Ytllcbempbdibhaa
open Go Go.Vc
set_option maxRecDepth 100000
set_option linter.unusedSimpArgs false
set_option linter.unusedVariables false
def K_impl_PartnersOf_1:List Nat:=[0,1,2,4]
def C_impl_PartnersOf_1 : C :=
 let ks:=K_impl_PartnersOf_1
 (.seq
  (.rg 0 [(none,.v 4 .mv [.k (.b false)])])
  (.cl ks (.seq
  (.rg 5 [(none,.v 5 .mv [.s 0]),(none,.v 6 .ld [.s 1]),(none,.v 7 .idx [.s 5,.s 6]),(none,.v 8 .ld [.s 7]),(none,.v 9 .ld [.s 2]),(none,.v 10 (.bin .eql) [.s 8,.s 9]),(none,.tk 4 10)])
  .ret)))
theorem chk_impl_PartnersOf_1:∃ b,Try.f76.body = some b ∧ chk Try.prog Try.f76.ntmps true C_impl_PartnersOf_1 b = true:=⟨_,rfl,by kernel_rfl⟩
def K_impl_PartnersOf:List Nat:=[0,1,2,3,4,5,6,8,27,28,29,1002,2002,1003,1008]
def C_impl_PartnersOf : C :=
 let ks:=K_impl_PartnersOf
 (.seq
  (.rg 0 [(none,.v 2 .boxS [.s 0]),(none,.box 3 (.s 1)),(none,.mkn 4)])
  (.cl ks (.seq
  (.seq
  (.rg 0 [(none,.v 9 (.lds 2) [.s 2]),(none,.co 10 55 [.s 9]),(none,.v 11 .not [.s 10]),(none,.v 12 .mv [.s 11]),(some (12,false),.v 13 .ld [.s 3]),(some (12,false),.v 14 (.fa 0) [.s 2]),(some (12,false),.v 15 .ld [.s 14]),(some (12,false),.v 16 .len [.s 15]),(some (12,false),.v 17 (.bin .sub) [.s 16,.k (.i 1)]),(some (12,false),.co 18 47 [.s 13,.k (.i 0),.s 17]),(some (12,false),.v 19 .not [.s 18]),(none,.v 20 .pick [.s 12,.k (.b true),.s 19])])
  (.cond (.s 20)
  (.seq
  (.rg 0 [(none,.mkn 4)])
  .ret)
  .skip))
  (.cl ks (.seq
  (.rg 0 [(none,.v 21 (.lds 2) [.s 2]),(none,.co 22 16 [.s 21]),(none,.tk 5 22)])
  (.cl ks (.seq
  (.rg 0 [(none,.mkn 6)])
  (.cl ks (.seq
  (.seq
  (.rg 0 [(none,.v 23 (.fa 0) [.s 2]),(none,.v 24 .ld [.s 23]),(none,.v 25 .ld [.s 3]),(none,.v 26 .idx [.s 24,.s 25]),(none,.v 27 .ld [.s 26]),(none,.v 28 .len [.s 27]),(none,.v 29 .mv [.k (.i 0)])])
  (.cl ks (.block 0
  (.loop
  (.seq
  (.rg 0 [(none,.v 30 (.bin .lss) [.s 29,.s 28])])
  (.seq
  (.cond (.s 30)
  .skip
  (.exit 0))
  (.cl ks (.seq
  (.block 1
  (.seq
  (.rg 0 [(none,.v 31 .idx [.s 27,.s 29]),(none,.v 32 .ld [.s 31]),(none,.new 8 [.i 0]),(none,.st (.s 8) (.s 32))])
  (.cl ks (.seq
  (.rg 0 [(none,.v 33 .mv [.s 5]),(none,.v 34 (.clo 76) [.s 3,.s 8]),(none,.co 35 75 [.s 33,.s 34])])
  (.cond (.s 35)
  (.rg 0 [(none,.v 36 .mv [.s 6]),(none,.v 37 .ld [.s 8]),(none,.lit 38 [.s 37] 0),(none,.app 39 (.s 36) (.s 38) 0),(none,.tk 6 39)])
  .skip)))))
  (.cl ks (.rg 0 [(none,.v 40 (.bin .add) [.s 29,.k (.i 1)]),(none,.v 29 .mv [.s 40])]))))))))))
  (.cl ks (.seq
  (.rg 0 [(none,.v 41 .mv [.s 6]),(none,.tk 4 41)])
  .ret)))))))))))
theorem chk_impl_PartnersOf:∃ b,Try.f31.body = some b ∧ chk Try.prog Try.f31.ntmps true C_impl_PartnersOf b = true:=⟨_,rfl,by kernel_rfl⟩
def partW (x y:List (List Int)) (i:Nat) (w:Int):Bool:=(stabF x y).any fun l => decide (l.getD i 0 = w)
def partB (x y:List (List Int)) (i:Int):Bool:=marketB x y && inI i 0 (x.length - 1)
def partK (x y:List (List Int)) (i k:Nat):List Int:=((x.getD i []).take k).filter (partW x y i)
def partF (x y:List (List Int)) (i:Int):List Int:=if partB x y i = true then partK x y i.toNat (x.getD i.toNat []).length else []
theorem partK_s {x y : List (List Int)} {i k : Nat} (hk : k < (x.getD i []).length) : partK x y i (k + 1) = partK x y i k ++ if partW x y i ((x.getD i []).getD k 0) = true then [(x.getD i []).getD k 0] else [] := by
 unfold partK
 rw [take_getD 0 hk,List.filter_append]
 congr 1
 by_cases h : partW x y i ((x.getD i []).getD k 0) = true
 ·rw [if_pos h]; simp only [List.filter_cons,h,if_true,List.filter_nil]
 ·rw [if_neg h]; simp only [List.filter_cons,h,Bool.false_eq_true,if_false,List.filter_nil]
theorem partK_len {x y : List (List Int)} {i k : Nat} : (partK x y i k).length ≤ (x.getD i []).length :=
 Nat.le_trans (List.length_filter_le _ _) (by rw [List.length_take]; omega)
theorem impl_PartnersOf1_ok {n1 : Option Bool} (l : List Int) (i : Nat) (w : Int) (hi : i < l.length) : CallOk Try.prog 76 [.s n1 (ii l), .q [.i i] 0, .q [.i w] 0] [(0, .b (decide (l.getD i 0 = w)))] := by
 obtain ⟨code0,hcd1,hcd2⟩:=chk_impl_PartnersOf_1; refine callOk_of Try.func76 hcd1 mo Try.call76 (rs:=[4]) (by kernel_rfl) hcd2 (by rw [Try.ntmps76]; simp) (by simp) (by decide) ?_; unfold C_impl_PartnersOf_1 K_impl_PartnersOf_1; simp (maxSteps:=2000000) only [go_sem,Nat.reduceBEq,Nat.reduceAdd,Nat.reduceMul,Nat.reduceMod,Nat.reduceLT,Nat.reduceDiv,Nat.reduceSub,Nat.reduceLeDiff,Int.reduceToNat,Int.reduceLT,Int.reduceLE,reduceCtorEq]
 exact ⟨by omega,hi,hi⟩
theorem impl_PartnersOf_ok {n1 n2 : Option Bool} (x y : List (List Int)) (i : Int) (hx : x.length ≤ 1048576) (kx : ∀ r ∈ x, r.length ≤ 1048576) (hy : y.length ≤ 1048576) (ky : ∀ r ∈ y, r.length ≤ 1048576) :
  CallOk Try.prog 31 [.a [.s n1 (rr x),.s n2 (rr y)],.i i] [(0,.own 1 none (ii (partF x y i)))]:=by
 obtain ⟨code0,hcd1,hcd2⟩:=chk_impl_PartnersOf; refine callOk_of Try.func31 hcd1 mo Try.call31 (rs:=[4]) (by kernel_rfl) hcd2 (by rw [Try.ntmps31]; simp) (by simp) (by decide) ?_; unfold C_impl_PartnersOf K_impl_PartnersOf; simp (maxSteps:=2000000) only [go_sem,Nat.reduceBEq,Nat.reduceAdd,Nat.reduceMul,Nat.reduceMod,Nat.reduceLT,Nat.reduceDiv,Nat.reduceSub,Nat.reduceLeDiff,Int.reduceToNat,Int.reduceLT,Int.reduceLE,reduceCtorEq]
 refine ⟨_,impl_MarketOk_ok x y hx kx hy ky,?_⟩; simp (maxSteps:=2000000) only [go_sem,Nat.reduceBEq,Nat.reduceAdd,Nat.reduceMul,Nat.reduceMod,Nat.reduceLT,Nat.reduceDiv,Nat.reduceSub,Nat.reduceLeDiff,Int.reduceToNat,Int.reduceLT,Int.reduceLE,reduceCtorEq]
 refine ⟨fun h0 => ⟨inR_of (by omega) (by omega),?_⟩,fun h0 => by simp [partF,partB,h0]⟩
 refine ⟨_,within_ok _ _ _,?_⟩; simp (maxSteps:=2000000) only [go_sem,Nat.reduceBEq,Nat.reduceAdd,Nat.reduceMul,Nat.reduceMod,Nat.reduceLT,Nat.reduceDiv,Nat.reduceSub,Nat.reduceLeDiff,Int.reduceToNat,Int.reduceLT,Int.reduceLE,reduceCtorEq]
 refine ⟨fun h1 => by simp [partF,partB,h0,h1],fun h1 => ?_⟩
 have M:=mk_of h0
 have n5:=M.m.n5
 have hi:0 ≤ i ∧ i < x.length:=by simp only [inI,Bool.and_eq_true,decide_eq_true_eq] at h1; omega
 have hF:partF x y i = partK x y i.toNat (x.getD i.toNat []).length:=if_pos (by simp [partB,h0,h1])
 rw [hF]
 refine ⟨_,impl_StableMatchings_ok x y hx kx hy ky,?_⟩; simp (maxSteps:=2000000) only [go_sem,Nat.reduceBEq,Nat.reduceAdd,Nat.reduceMul,Nat.reduceMod,Nat.reduceLT,Nat.reduceDiv,Nat.reduceSub,Nat.reduceLeDiff,Int.reduceToNat,Int.reduceLT,Int.reduceLE,reduceCtorEq]
 have rl:=rank_len (M.m.rk i.toNat (by omega))
 refine ⟨by omega,by omega,by omega,?_⟩
 have hpl:=fun k => partK_len (x:=x) (y:=y) (i:=i.toNat) (k:=k)
 have hps:=fun k hk => partK_s (x:=x) (y:=y) (i:=i.toNat) (k:=k) hk
 revert rl hpl hps
 generalize hr:x.getD i.toNat [] = r
 intro rl hpl hps
 refine loopN r.length (fun k => [(0,.t .arg (.a [.s n1 (rr x),.s n2 (rr y)])),(1,.i i),(2,.t .arg (.q [.s n1 (rr x),.s n2 (rr y)] 0)),(3,.bx 1),(1003,.i i),(5,.own 1 none (rr (stabF x y))),(6,.own 1 none (ii (partK x y i.toNat k))),(27,.t .arg (.s none (ii r))),(28,.i r.length),(29,.i (k:Nat))]) (fun _ => True) ⟨trivial,by simp (maxSteps:=2000000) only [go_sem,Nat.reduceBEq,Nat.reduceAdd,Nat.reduceMul,Nat.reduceMod,Nat.reduceLT,Nat.reduceDiv,Nat.reduceSub,Nat.reduceLeDiff,Int.reduceToNat,Int.reduceLT,Int.reduceLE,reduceCtorEq]; simp [partK]⟩ fun k hk _ => ?_
 have hpk:=hpl k
 simp (maxSteps:=2000000) only [go_sem,Nat.reduceBEq,Nat.reduceAdd,Nat.reduceMul,Nat.reduceMod,Nat.reduceLT,Nat.reduceDiv,Nat.reduceSub,Nat.reduceLeDiff,Int.reduceToNat,Int.reduceLT,Int.reduceLE,reduceCtorEq]
 refine ⟨fun hlt => ?_, fun hge => ?_⟩
 ·have hk':k < r.length:=by omega
  refine ⟨by omega, hk', hk', _, ContainsFuncR (fun l => decide (l.getD i.toNat 0 = r.getD k 0)) (fun l hl => ?_) (by have := stabF_len (x := x) (y := y); omega), ?_⟩
  ·have:=impl_PartnersOf1_ok (n1:=none) l i.toNat (r.getD k 0) (by have:=rank_len (stab_rank hl).2.1; omega)
   rw [Int.toNat_of_nonneg hi.1] at this; exact this
  ·simp (maxSteps:=2000000) only [go_sem,Nat.reduceBEq,Nat.reduceAdd,Nat.reduceMul,Nat.reduceMod,Nat.reduceLT,Nat.reduceDiv,Nat.reduceSub,Nat.reduceLeDiff,Int.reduceToNat,Int.reduceLT,Int.reduceLE,reduceCtorEq]
   have hp:partW x y i.toNat (r.getD k 0) = (stabF x y).any fun l => decide (l.getD i.toNat 0 = r.getD k 0):=rfl
   rw [← hp]
   refine ⟨fun hb => ⟨by omega,inR_of (by omega) (by omega),hk',by rw [hps k hk',if_pos hb],by simp⟩,fun hb => ⟨inR_of (by omega) (by omega),hk',by rw [hps k hk',if_neg (by rw [hb]; simp),List.append_nil],by simp⟩⟩
 ·have:k = r.length:=by omega
  subst this
  rfl
end Go.Proofs.Ytllcbempbdibhaa
