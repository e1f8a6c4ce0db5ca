/- Own work: contracts of functions. No condition beyond those that each theorem names. -/
import Derived.Test.YtgdpplhbblapgaaProg
import Derived.Test.YtgdpplhbblapgaaHouses
import Derived.Test.YtgdpplhbblapgaaSchool
import Derived.Test.YtgdpplhbblapgaaConcat
namespace Go.Proofs.Ytgdpplhbblapgaa
open Go Go.Vc
set_option maxRecDepth 100000
set_option linter.unusedSimpArgs false
set_option linter.unusedVariables false
def K_impl_SchoolOk:List Nat:=[0,1,2,3,4,1001,2001,3001]
def C_impl_SchoolOk : C :=
 let ks:=K_impl_SchoolOk
 (.seq
  (.rg 0 [(none,.v 1 .boxS [.s 0]),(none,.v 2 .mv [.k (.b false)])])
  (.cl ks (.seq
  (.rg 7 [(none,.v 5 (.fa 0) [.s 1]),(none,.v 6 .ld [.s 5]),(none,.v 7 .len [.s 6]),(none,.v 8 (.fa 1) [.s 1]),(none,.v 9 .ld [.s 8]),(none,.v 10 .len [.s 9]),(none,.v 3 .mv [.s 7]),(none,.tk 4 10)])
  (.cl ks (.seq
  (.rg 0 [(none,.v 11 .mv [.s 3]),(none,.co 12 107 [.s 11,.k (.i 1),.k (.i 5)]),(none,.v 13 .mv [.s 12]),(some (13,true),.v 14 .mv [.s 4]),(some (13,true),.co 15 107 [.s 14,.k (.i 1),.k (.i 3)]),(none,.v 16 .pick [.s 13,.s 15,.k (.b false)]),(none,.v 17 .mv [.s 16]),(some (17,true),.v 18 .mv [.s 4]),(some (17,true),.v 19 (.fa 0) [.s 1]),(some (17,true),.v 20 .ld [.s 19]),(some (17,true),.co 21 152 [.s 18,.s 20]),(none,.v 22 .pick [.s 17,.s 21,.k (.b false)]),(none,.v 23 .mv [.s 22]),(some (23,true),.v 24 .mv [.s 3]),(some (23,true),.v 25 (.fa 1) [.s 1]),(some (23,true),.v 26 .ld [.s 25]),(some (23,true),.co 27 152 [.s 24,.s 26]),(none,.v 28 .pick [.s 23,.s 27,.k (.b false)]),(none,.v 29 .mv [.s 28]),(some (29,true),.v 30 (.fa 2) [.s 1]),(some (29,true),.v 31 .ld [.s 30]),(some (29,true),.v 32 .len [.s 31]),(some (29,true),.v 33 .mv [.s 4]),(some (29,true),.v 34 (.bin .eql) [.s 32,.s 33]),(none,.v 35 .pick [.s 29,.s 34,.k (.b false)]),(none,.v 36 .mv [.s 35]),(some (36,true),.v 37 (.fa 2) [.s 1]),(some (36,true),.v 38 .ld [.s 37]),(some (36,true),.co 39 117 [.s 38,.k (.i 0),.k (.i 5)]),(none,.v 40 .pick [.s 36,.s 39,.k (.b false)]),(none,.tk 2 40)])
  .ret)))))
theorem chk_impl_SchoolOk:∃ b,Try.f86.body = some b ∧ chk Try.prog Try.f86.ntmps true C_impl_SchoolOk b = true:=⟨_,rfl,by kernel_rfl⟩
def K_spec_SchoolOk:List Nat:=[0,1,2,3,4,6,7,8,31,32,33,43,44,45,1001,2001,3001]
def C_spec_SchoolOk : C :=
 let ks:=K_spec_SchoolOk
 (.seq
  (.rg 0 [(none,.v 1 .boxS [.s 0]),(none,.v 2 .mv [.k (.b false)])])
  (.cl ks (.seq
  (.rg 0 [(none,.v 9 (.fa 0) [.s 1]),(none,.v 10 .ld [.s 9]),(none,.v 11 .len [.s 10]),(none,.tk 3 11)])
  (.cl ks (.seq
  (.rg 0 [(none,.v 12 (.fa 1) [.s 1]),(none,.v 13 .ld [.s 12]),(none,.v 14 .len [.s 13]),(none,.tk 4 14)])
  (.cl ks (.seq
  (.seq
  (.rg 0 [(none,.v 15 .mv [.s 3]),(none,.co 16 106 [.s 15,.k (.i 1),.k (.i 5)]),(none,.v 17 .not [.s 16]),(none,.v 18 .mv [.s 17]),(some (18,false),.v 19 .mv [.s 4]),(some (18,false),.co 20 106 [.s 19,.k (.i 1),.k (.i 3)]),(some (18,false),.v 21 .not [.s 20]),(none,.v 22 .pick [.s 18,.k (.b true),.s 21]),(none,.v 23 .mv [.s 22]),(some (23,false),.v 24 (.fa 2) [.s 1]),(some (23,false),.v 25 .ld [.s 24]),(some (23,false),.v 26 .len [.s 25]),(some (23,false),.v 27 .mv [.s 4]),(some (23,false),.v 28 (.bin .neq) [.s 26,.s 27]),(none,.v 29 .pick [.s 23,.k (.b true),.s 28])])
  (.cond (.s 29)
  (.seq
  (.rg 0 [(none,.v 2 .mv [.k (.b false)])])
  .ret)
  .skip))
  (.cl ks (.seq
  (.seq
  (.rg 0 [(none,.v 30 (.fa 0) [.s 1]),(none,.v 31 .ld [.s 30]),(none,.v 32 .len [.s 31]),(none,.v 33 .mv [.k (.i 0)])])
  (.cl ks (.block 0
  (.loop
  (.seq
  (.rg 0 [(none,.v 34 (.bin .lss) [.s 33,.s 32])])
  (.seq
  (.cond (.s 34)
  .skip
  (.exit 0))
  (.cl ks (.seq
  (.block 1
  (.seq
  (.rg 0 [(none,.v 35 .idx [.s 31,.s 33]),(none,.v 36 .ld [.s 35]),(none,.tk 6 36)])
  (.cl ks (.seq
  (.rg 0 [(none,.v 37 .mv [.s 4]),(none,.v 38 .mv [.s 6]),(none,.co 39 67 [.s 37,.s 38]),(none,.v 40 .not [.s 39])])
  (.cond (.s 40)
  (.seq
  (.rg 0 [(none,.v 2 .mv [.k (.b false)])])
  .ret)
  .skip)))))
  (.cl ks (.rg 0 [(none,.v 41 (.bin .add) [.s 33,.k (.i 1)]),(none,.v 33 .mv [.s 41])]))))))))))
  (.cl ks (.seq
  (.seq
  (.rg 0 [(none,.v 42 (.fa 1) [.s 1]),(none,.v 43 .ld [.s 42]),(none,.v 44 .len [.s 43]),(none,.v 45 .mv [.k (.i 0)])])
  (.cl ks (.block 2
  (.loop
  (.seq
  (.rg 0 [(none,.v 46 (.bin .lss) [.s 45,.s 44])])
  (.seq
  (.cond (.s 46)
  .skip
  (.exit 2))
  (.cl ks (.seq
  (.block 3
  (.seq
  (.rg 0 [(none,.v 47 .mv [.s 45]),(none,.v 48 .idx [.s 43,.s 45]),(none,.v 49 .ld [.s 48]),(none,.tk 7 47),(none,.tk 8 49)])
  (.cl ks (.seq
  (.rg 0 [(none,.v 50 .mv [.s 3]),(none,.v 51 .mv [.s 8]),(none,.co 52 67 [.s 50,.s 51]),(none,.v 53 .not [.s 52]),(none,.v 54 .mv [.s 53]),(some (54,false),.v 55 (.fa 2) [.s 1]),(some (54,false),.v 56 .ld [.s 55]),(some (54,false),.v 57 .mv [.s 7]),(some (54,false),.v 58 .idx [.s 56,.s 57]),(some (54,false),.v 59 .ld [.s 58]),(some (54,false),.co 60 106 [.s 59,.k (.i 0),.k (.i 5)]),(some (54,false),.v 61 .not [.s 60]),(none,.v 62 .pick [.s 54,.k (.b true),.s 61])])
  (.cond (.s 62)
  (.seq
  (.rg 0 [(none,.v 2 .mv [.k (.b false)])])
  .ret)
  .skip)))))
  (.cl ks (.rg 0 [(none,.v 63 (.bin .add) [.s 45,.k (.i 1)]),(none,.v 45 .mv [.s 63])]))))))))))
  (.cl ks (.seq
  (.rg 0 [(none,.v 2 .mv [.k (.b true)])])
  .ret)))))))))))))
theorem chk_spec_SchoolOk:∃ b,Try.f82.body = some b ∧ chk Try.prog Try.f82.ntmps true C_spec_SchoolOk b = true:=⟨_,rfl,by kernel_rfl⟩
def schoolB (x y : List (List Int)) (z : List Int) : Bool :=
 inI x.length 1 5 && inI y.length 1 3 && ranksB y.length x && ranksB x.length y && decide (z.length = y.length) && z.all fun v => inI v 0 5
structure Sc (x y : List (List Int)) (z : List Int) (n c : Nat) : Prop where
 n1:1 ≤ n
 n5:n ≤ 5
 c1:1 ≤ c
 c3:c ≤ 3
 lx:x.length = n
 ly:y.length = c
 lz:z.length = c
 rx:∀ i,i < n → rankB c (x.getD i []) = true
 ry:∀ i,i < c → rankB n (y.getD i []) = true
 bz:∀ i,i < c → 0 ≤ z.getD i 0 ∧ z.getD i 0 ≤ 5
theorem sc_of {x y : List (List Int)} {z : List Int} (h : schoolB x y z = true) : Sc x y z x.length y.length := by
 simp only [schoolB,Bool.and_eq_true,inI,decide_eq_true_eq,ranksB,List.all_eq_true] at h
 obtain ⟨⟨⟨⟨⟨h1,h2⟩,h3⟩,h4⟩,h5⟩,h6⟩:=h
 exact ⟨by omega, by omega, by omega, by omega, rfl, rfl, h5, fun i hi => h3 _ (getD_mem hi), fun i hi => h4 _ (getD_mem hi), fun i hi => by
  have:=h6 _ (getD_mem (d:=0) (show i < z.length by omega)); omega⟩
theorem impl_SchoolOk_ok {n1 n2 n3 : Option Bool} (x y : List (List Int)) (z : List Int) (hx : x.length ≤ 1048576) (kx : ∀ r ∈ x, r.length ≤ 1048576) (hy : y.length ≤ 1048576) (ky : ∀ r ∈ y, r.length ≤ 1048576) (hz : z.length ≤ 1048576) :
  CallOk Try.prog 86 [.a [.s n1 (rr x),.s n2 (rr y),.s n3 (ii z)]] [(0,.b (schoolB x y z))]:=by
 obtain ⟨code0,hcd1,hcd2⟩:=chk_impl_SchoolOk; refine callOk_of Try.func86 hcd1 mo Try.call86 (rs:=[2]) (by kernel_rfl) hcd2 (by rw [Try.ntmps86]; simp) (by simp) (by decide) ?_; unfold C_impl_SchoolOk K_impl_SchoolOk; simp (maxSteps:=2000000) only [go_sem,Nat.reduceBEq,Nat.reduceAdd,Nat.reduceMul,Nat.reduceMod,Nat.reduceLT,Nat.reduceDiv,Nat.reduceSub,Nat.reduceLeDiff,Int.reduceToNat,Int.reduceLT,Int.reduceLE,reduceCtorEq]
 refine ⟨_,within_ok _ _ _,?_⟩; simp (maxSteps:=2000000) only [go_sem,Nat.reduceBEq,Nat.reduceAdd,Nat.reduceMul,Nat.reduceMod,Nat.reduceLT,Nat.reduceDiv,Nat.reduceSub,Nat.reduceLeDiff,Int.reduceToNat,Int.reduceLT,Int.reduceLE,reduceCtorEq]
 refine ⟨fun h0 => ?_,fun h0 => by simp [schoolB,h0]⟩
 refine ⟨_,within_ok _ _ _,?_⟩; simp (maxSteps:=2000000) only [go_sem,Nat.reduceBEq,Nat.reduceAdd,Nat.reduceMul,Nat.reduceMod,Nat.reduceLT,Nat.reduceDiv,Nat.reduceSub,Nat.reduceLeDiff,Int.reduceToNat,Int.reduceLT,Int.reduceLE,reduceCtorEq]
 refine ⟨fun h1 => ?_,fun h1 => by simp [schoolB,h0,h1]⟩
 refine ⟨_,impl_areRankings_ok x _ hx kx,?_⟩; simp (maxSteps:=2000000) only [go_sem,Nat.reduceBEq,Nat.reduceAdd,Nat.reduceMul,Nat.reduceMod,Nat.reduceLT,Nat.reduceDiv,Nat.reduceSub,Nat.reduceLeDiff,Int.reduceToNat,Int.reduceLT,Int.reduceLE,reduceCtorEq]
 refine ⟨fun h2 => ?_,fun h2 => by simp [schoolB,h0,h1,h2]⟩
 refine ⟨_,impl_areRankings_ok y _ hy ky,?_⟩; simp (maxSteps:=2000000) only [go_sem,Nat.reduceBEq,Nat.reduceAdd,Nat.reduceMul,Nat.reduceMod,Nat.reduceLT,Nat.reduceDiv,Nat.reduceSub,Nat.reduceLeDiff,Int.reduceToNat,Int.reduceLT,Int.reduceLE,reduceCtorEq]
 refine ⟨fun h3 => ⟨fun h4 => ?_,fun h4 => by simp [schoolB,h0,h1,h2,h3,h4]⟩,fun h3 => by simp [schoolB,h0,h1,h2,h3]⟩
 refine ⟨_,allWithin_ok z 0 5 hz,?_⟩; simp (maxSteps:=2000000) only [go_sem,Nat.reduceBEq,Nat.reduceAdd,Nat.reduceMul,Nat.reduceMod,Nat.reduceLT,Nat.reduceDiv,Nat.reduceSub,Nat.reduceLeDiff,Int.reduceToNat,Int.reduceLT,Int.reduceLE,reduceCtorEq]
 simp [schoolB,h0,h1,h2,h3,h4]
theorem spec_SchoolOk_ok {n1 n2 n3 : Option Bool} (x y : List (List Int)) (z : List Int) (hx : x.length ≤ 1048576) (kx : ∀ r ∈ x, r.length ≤ 1048576) (hy : y.length ≤ 1048576) (ky : ∀ r ∈ y, r.length ≤ 1048576) (hz : z.length ≤ 1048576) :
  CallOk Try.prog 82 [.a [.s n1 (rr x),.s n2 (rr y),.s n3 (ii z)]] [(0,.b (schoolB x y z))]:=by
 obtain ⟨code0,hcd1,hcd2⟩:=chk_spec_SchoolOk; refine callOk_of Try.func82 hcd1 mo Try.call82 (rs:=[2]) (by kernel_rfl) hcd2 (by rw [Try.ntmps82]; simp) (by simp) (by decide) ?_; unfold C_spec_SchoolOk K_spec_SchoolOk; simp (maxSteps:=2000000) only [go_sem,Nat.reduceBEq,Nat.reduceAdd,Nat.reduceMul,Nat.reduceMod,Nat.reduceLT,Nat.reduceDiv,Nat.reduceSub,Nat.reduceLeDiff,Int.reduceToNat,Int.reduceLT,Int.reduceLE,reduceCtorEq]
 refine ⟨_,l01In_ok _ _ _,?_⟩; simp (maxSteps:=2000000) only [go_sem,Nat.reduceBEq,Nat.reduceAdd,Nat.reduceMul,Nat.reduceMod,Nat.reduceLT,Nat.reduceDiv,Nat.reduceSub,Nat.reduceLeDiff,Int.reduceToNat,Int.reduceLT,Int.reduceLE,reduceCtorEq]
 refine ⟨fun h0 => ?_,fun h0 => by simp [schoolB,h0]⟩
 refine ⟨_,l01In_ok _ _ _,?_⟩; simp (maxSteps:=2000000) only [go_sem,Nat.reduceBEq,Nat.reduceAdd,Nat.reduceMul,Nat.reduceMod,Nat.reduceLT,Nat.reduceDiv,Nat.reduceSub,Nat.reduceLeDiff,Int.reduceToNat,Int.reduceLT,Int.reduceLE,reduceCtorEq]
 refine ⟨fun h1 => ⟨fun h4 => by simp [schoolB,h4],fun h4 => ?_⟩,fun h1 => by simp [schoolB,h0,h1]⟩
 have h5:z.length = y.length:=by omega
 have n5:x.length ≤ 5 ∧ y.length ≤ 3:=by simp only [inI,Bool.and_eq_true,decide_eq_true_eq] at h0 h1; omega
 refine loopN x.length (fun k => [(0,.t .arg (.a [.s n1 (rr x),.s n2 (rr y),.s n3 (ii z)])),(1,.t .arg (.q [.s n1 (rr x),.s n2 (rr y),.s n3 (ii z)] 0)),(3,.i x.length),(4,.i y.length),(31,.t .arg (.s n1 (rr x))),(32,.i x.length),(33,.i (k:Nat))]) (fun k => ∀ i,i < k → rankB y.length (x.getD i []) = true) ⟨by simp,by simp (maxSteps:=2000000) only [go_sem,Nat.reduceBEq,Nat.reduceAdd,Nat.reduceMul,Nat.reduceMod,Nat.reduceLT,Nat.reduceDiv,Nat.reduceSub,Nat.reduceLeDiff,Int.reduceToNat,Int.reduceLT,Int.reduceLE,reduceCtorEq]; simp⟩ fun k hk hI => ?_
 simp (maxSteps:=2000000) only [go_sem,Nat.reduceBEq,Nat.reduceAdd,Nat.reduceMul,Nat.reduceMod,Nat.reduceLT,Nat.reduceDiv,Nat.reduceSub,Nat.reduceLeDiff,Int.reduceToNat,Int.reduceLT,Int.reduceLE,reduceCtorEq]
 refine ⟨fun hlt => ?_, fun hge => ?_⟩
 ·have hk':k < x.length:=by omega
  refine ⟨by omega,hk',hk',?_⟩
  refine ⟨_,spec_RankingOk_ok _ (x.getD k []) (kx _ (getD_mem hk')),?_⟩; simp (maxSteps:=2000000) only [go_sem,Nat.reduceBEq,Nat.reduceAdd,Nat.reduceMul,Nat.reduceMod,Nat.reduceLT,Nat.reduceDiv,Nat.reduceSub,Nat.reduceLeDiff,Int.reduceToNat,Int.reduceLT,Int.reduceLE,reduceCtorEq]
  refine ⟨fun h2 => ?_, fun h2 => ⟨inR_of (by omega) (by omega), hk', fun i hi => ?_, by simp⟩⟩
  ·have:ranksB y.length x = false:=not_all_getD [] hk' h2
   simp [schoolB,this]
  ·by_cases e : i = k
   ·rw [e]; exact h2
   ·exact hI i (by omega)
 ·have:k = x.length:=by omega
  subst this
  have g1:ranksB y.length x = true:=all_of_getD [] hI
  refine loopN y.length (fun k => [(0,.t .arg (.a [.s n1 (rr x),.s n2 (rr y),.s n3 (ii z)])),(1,.t .arg (.q [.s n1 (rr x),.s n2 (rr y),.s n3 (ii z)] 0)),(3,.i x.length),(4,.i y.length),(43,.t .arg (.s n2 (rr y))),(44,.i y.length),(45,.i (k:Nat))]) (fun k => ∀ i,i < k → rankB x.length (y.getD i []) = true ∧ inI (z.getD i 0) 0 5 = true) ⟨by simp,by simp (maxSteps:=2000000) only [go_sem,Nat.reduceBEq,Nat.reduceAdd,Nat.reduceMul,Nat.reduceMod,Nat.reduceLT,Nat.reduceDiv,Nat.reduceSub,Nat.reduceLeDiff,Int.reduceToNat,Int.reduceLT,Int.reduceLE,reduceCtorEq]; simp⟩ fun k hk hJ => ?_
  simp (maxSteps:=2000000) only [go_sem,Nat.reduceBEq,Nat.reduceAdd,Nat.reduceMul,Nat.reduceMod,Nat.reduceLT,Nat.reduceDiv,Nat.reduceSub,Nat.reduceLeDiff,Int.reduceToNat,Int.reduceLT,Int.reduceLE,reduceCtorEq]
  refine ⟨fun hlt => ?_, fun hge => ?_⟩
  ·have hk':k < y.length:=by omega
   refine ⟨by omega,hk',hk',?_⟩
   refine ⟨_,spec_RankingOk_ok _ (y.getD k []) (ky _ (getD_mem hk')),?_⟩; simp (maxSteps:=2000000) only [go_sem,Nat.reduceBEq,Nat.reduceAdd,Nat.reduceMul,Nat.reduceMod,Nat.reduceLT,Nat.reduceDiv,Nat.reduceSub,Nat.reduceLeDiff,Int.reduceToNat,Int.reduceLT,Int.reduceLE,reduceCtorEq]
   refine ⟨fun h2 => ?_, fun h2 => ?_⟩
   ·refine ⟨by omega,by omega,by omega,?_⟩
    refine ⟨_,l01In_ok _ _ _,?_⟩; simp (maxSteps:=2000000) only [go_sem,Nat.reduceBEq,Nat.reduceAdd,Nat.reduceMul,Nat.reduceMod,Nat.reduceLT,Nat.reduceDiv,Nat.reduceSub,Nat.reduceLeDiff,Int.reduceToNat,Int.reduceLT,Int.reduceLE,reduceCtorEq]
    refine ⟨fun h3 => ?_, fun h3 => ⟨inR_of (by omega) (by omega), hk', fun i hi => ?_, by simp⟩⟩
    ·have:(z.all fun v => inI v 0 5) = false:=not_all_getD 0 (j:=k) (by omega) h3
     simp [schoolB,this]
    ·by_cases e : i = k
     ·rw [e]; exact ⟨h2,h3⟩
     ·exact hJ i (by omega)
   ·have:ranksB x.length y = false:=not_all_getD [] hk' h2
    simp [schoolB,this]
  ·have:k = y.length:=by omega
   subst this
   have g2:ranksB x.length y = true:=all_of_getD [] fun i hi => (hJ i hi).1
   have g3:(z.all fun v => inI v 0 5) = true:=all_of_getD 0 fun i hi => (hJ i (by omega)).2
   simp [schoolB,h0,h1,g1,g2,g3,h5]
def K_impl_School_filled:List Nat:=[0,1,2,4,5,7,12,13,14,1002,2002,3002]
def C_impl_School_filled : C :=
 let ks:=K_impl_School_filled
 (.seq
  (.rg 0 [(none,.v 2 .boxS [.s 0]),(none,.mkn 4)])
  (.cl ks (.seq
  (.rg 0 [(none,.v 8 (.fa 1) [.s 2]),(none,.v 9 .ld [.s 8]),(none,.v 10 .len [.s 9]),(none,.mk 11 (.i 0) (.s 10) (.s 10)),(none,.tk 5 11)])
  (.cl ks (.seq
  (.seq
  (.rg 0 [(none,.v 12 .mv [.s 1]),(none,.v 13 .len [.s 12]),(none,.v 14 .mv [.k (.i 0)])])
  (.cl ks (.block 0
  (.loop
  (.seq
  (.rg 0 [(none,.v 15 (.bin .lss) [.s 14,.s 13])])
  (.seq
  (.cond (.s 15)
  .skip
  (.exit 0))
  (.cl ks (.seq
  (.block 1
  (.seq
  (.rg 0 [(none,.v 16 .idx [.s 12,.s 14]),(none,.v 17 .ld [.s 16]),(none,.tk 7 17)])
  (.cl ks (.seq
  (.rg 0 [(none,.v 18 .mv [.s 7]),(none,.v 19 (.bin .geq) [.s 18,.k (.i 0)])])
  (.cond (.s 19)
  (.rg 0 [(none,.v 20 .mv [.s 5]),(none,.v 21 .mv [.s 7]),(none,.v 22 .idx [.s 20,.s 21]),(none,.v 23 .ld [.s 22]),(none,.v 24 (.bin .add) [.s 23,.k (.i 1)]),(none,.v 25 .idx [.s 20,.s 21]),(none,.st (.s 25) (.s 24))])
  .skip)))))
  (.cl ks (.rg 0 [(none,.v 26 (.bin .add) [.s 14,.k (.i 1)]),(none,.v 14 .mv [.s 26])]))))))))))
  (.cl ks (.seq
  (.rg 0 [(none,.v 27 .mv [.s 5]),(none,.tk 4 27)])
  .ret)))))))
theorem chk_impl_School_filled:∃ b,Try.f91.body = some b ∧ chk Try.prog Try.f91.ntmps true C_impl_School_filled b = true:=⟨_,rfl,by kernel_rfl⟩
def K_spec_l21Filled:List Nat:=[0,1,2,4,5,7,12,13,14,1002,2002,3002]
def C_spec_l21Filled : C :=
 let ks:=K_spec_l21Filled
 (.seq
  (.rg 0 [(none,.v 2 .boxS [.s 0]),(none,.mkn 4)])
  (.cl ks (.seq
  (.rg 0 [(none,.v 8 (.fa 1) [.s 2]),(none,.v 9 .ld [.s 8]),(none,.v 10 .len [.s 9]),(none,.mk 11 (.i 0) (.s 10) (.s 10)),(none,.tk 5 11)])
  (.cl ks (.seq
  (.seq
  (.rg 0 [(none,.v 12 .mv [.s 1]),(none,.v 13 .len [.s 12]),(none,.v 14 .mv [.k (.i 0)])])
  (.cl ks (.block 0
  (.loop
  (.seq
  (.rg 0 [(none,.v 15 (.bin .lss) [.s 14,.s 13])])
  (.seq
  (.cond (.s 15)
  .skip
  (.exit 0))
  (.cl ks (.seq
  (.block 1
  (.seq
  (.rg 0 [(none,.v 16 .idx [.s 12,.s 14]),(none,.v 17 .ld [.s 16]),(none,.tk 7 17)])
  (.cl ks (.seq
  (.rg 0 [(none,.v 18 .mv [.s 7]),(none,.v 19 (.bin .geq) [.s 18,.k (.i 0)])])
  (.cond (.s 19)
  (.rg 0 [(none,.v 20 .mv [.s 5]),(none,.v 21 .mv [.s 7]),(none,.v 22 .idx [.s 20,.s 21]),(none,.v 23 .ld [.s 22]),(none,.v 24 (.bin .add) [.s 23,.k (.i 1)]),(none,.v 25 .idx [.s 20,.s 21]),(none,.st (.s 25) (.s 24))])
  .skip)))))
  (.cl ks (.rg 0 [(none,.v 26 (.bin .add) [.s 14,.k (.i 1)]),(none,.v 14 .mv [.s 26])]))))))))))
  (.cl ks (.seq
  (.rg 0 [(none,.v 27 .mv [.s 5]),(none,.tk 4 27)])
  .ret)))))))
theorem chk_spec_l21Filled:∃ b,Try.f83.body = some b ∧ chk Try.prog Try.f83.ntmps true C_spec_l21Filled b = true:=⟨_,rfl,by kernel_rfl⟩
def filN (c : Nat) (l : List Int) : Nat → List Int
 | 0 => List.replicate c 0
 | k + 1 => if 0 ≤ l.getD k 0 then (filN c l k).set (l.getD k 0).toNat ((filN c l k).getD (l.getD k 0).toNat 0 + 1) else filN c l k
theorem filN_len {c : Nat} {l : List Int} : ∀ {k : Nat}, (filN c l k).length = c
 | 0 => by simp [filN]
 | k + 1 => by simp only [filN]; split <;> simp [filN_len (k:=k)]
theorem set_or {xs : List Int} {i q : Nat} {v : Int} : (xs.set i v).getD q 0 = v ∨ (xs.set i v).getD q 0 = xs.getD q 0 := by
 by_cases h : i = q
 ·subst h
  by_cases h2 : i < xs.length
  ·left; simp [List.getD,h2]
  ·right; rw [List.set_eq_of_length_le (by omega)]
 ·right; simp [List.getD,List.getElem?_set,h]
theorem filN_bd {c : Nat} {l : List Int} : ∀ {k : Nat} (q : Nat), 0 ≤ (filN c l k).getD q 0 ∧ (filN c l k).getD q 0 ≤ k
 | 0, q => by
  simp only [filN,List.getD,List.getElem?_replicate]
  split <;> simp
 | k + 1, q => by
  have h1:=filN_bd (c:=c) (l:=l) (k:=k) q
  have h2:=filN_bd (c:=c) (l:=l) (k:=k) (l.getD k 0).toNat
  simp only [filN]
  split
  ·rcases set_or (xs:=filN c l k) (i:=(l.getD k 0).toNat) (q:=q) (v:=(filN c l k).getD (l.getD k 0).toNat 0 + 1) with e | e <;> omega
  ·omega
theorem impl_School_filled_ok {n1 n2 n3 n4 : Option Bool} (x y : List (List Int)) (z l : List Int) (hy : y.length ≤ 1048576) (hl : l.length ≤ 1048576) (hb : ∀ i, i < l.length → l.getD i 0 < y.length) :
  CallOk Try.prog 91 [.a [.s n1 (rr x),.s n2 (rr y),.s n3 (ii z)],.s n4 (ii l)] [(0,.own 1 none (ii (filN y.length l l.length)))]:=by
 obtain ⟨code0,hcd1,hcd2⟩:=chk_impl_School_filled; refine callOk_of Try.func91 hcd1 mo Try.call91 (rs:=[4]) (by kernel_rfl) hcd2 (by rw [Try.ntmps91]; simp) (by simp) (by decide) ?_; unfold C_impl_School_filled K_impl_School_filled; simp (maxSteps:=2000000) only [go_sem,Nat.reduceBEq,Nat.reduceAdd,Nat.reduceMul,Nat.reduceMod,Nat.reduceLT,Nat.reduceDiv,Nat.reduceSub,Nat.reduceLeDiff,Int.reduceToNat,Int.reduceLT,Int.reduceLE,reduceCtorEq]
 refine ⟨by omega,by omega,?_⟩
 refine loopN l.length (fun k => [(0,.t .arg (.a [.s n1 (rr x),.s n2 (rr y),.s n3 (ii z)])),(1,.t .arg (.s n4 (ii l))),(2,.t .arg (.q [.s n1 (rr x),.s n2 (rr y),.s n3 (ii z)] 0)),(5,.own 1 none (ii (filN y.length l k))),(12,.t .arg (.s n4 (ii l))),(13,.i l.length),(14,.i (k:Nat))]) (fun _ => True) ⟨trivial,by simp (maxSteps:=2000000) only [go_sem,Nat.reduceBEq,Nat.reduceAdd,Nat.reduceMul,Nat.reduceMod,Nat.reduceLT,Nat.reduceDiv,Nat.reduceSub,Nat.reduceLeDiff,Int.reduceToNat,Int.reduceLT,Int.reduceLE,reduceCtorEq]; simp [filN]⟩ fun k hk _ => ?_
 have e1:filN y.length l (k + 1) = if 0 ≤ l.getD k 0 then (filN y.length l k).set (l.getD k 0).toNat ((filN y.length l k).getD (l.getD k 0).toNat 0 + 1) else filN y.length l k:=rfl
 have hfl:=filN_len (c:=y.length) (l:=l) (k:=k)
 have hbd:=filN_bd (c:=y.length) (l:=l) (k:=k) (l.getD k 0).toNat
 simp (maxSteps:=2000000) only [go_sem,Nat.reduceBEq,Nat.reduceAdd,Nat.reduceMul,Nat.reduceMod,Nat.reduceLT,Nat.reduceDiv,Nat.reduceSub,Nat.reduceLeDiff,Int.reduceToNat,Int.reduceLT,Int.reduceLE,reduceCtorEq]
 refine ⟨fun hlt => ?_, fun hge => ?_⟩
 ·have hk':k < l.length:=by omega
  have hbk:=hb k hk'
  refine ⟨by omega,hk',hk',fun h => ⟨h,by omega,by omega,inR_of (by omega) (by omega),h,by omega,by omega,inR_of (by omega) (by omega),hk',by rw [e1,if_pos h],by simp⟩,fun h => ⟨inR_of (by omega) (by omega),hk',by rw [e1,if_neg h],by simp⟩⟩
 ·have:k = l.length:=by omega
  subst this
  rfl
theorem spec_l21Filled_ok {n1 n2 n3 n4 : Option Bool} (x y : List (List Int)) (z l : List Int) (hy : y.length ≤ 1048576) (hl : l.length ≤ 1048576) (hb : ∀ i, i < l.length → l.getD i 0 < y.length) :
  CallOk Try.prog 83 [.a [.s n1 (rr x),.s n2 (rr y),.s n3 (ii z)],.s n4 (ii l)] [(0,.own 1 none (ii (filN y.length l l.length)))]:=by
 obtain ⟨code0,hcd1,hcd2⟩:=chk_spec_l21Filled; refine callOk_of Try.func83 hcd1 mo Try.call83 (rs:=[4]) (by kernel_rfl) hcd2 (by rw [Try.ntmps83]; simp) (by simp) (by decide) ?_; unfold C_spec_l21Filled K_spec_l21Filled; simp (maxSteps:=2000000) only [go_sem,Nat.reduceBEq,Nat.reduceAdd,Nat.reduceMul,Nat.reduceMod,Nat.reduceLT,Nat.reduceDiv,Nat.reduceSub,Nat.reduceLeDiff,Int.reduceToNat,Int.reduceLT,Int.reduceLE,reduceCtorEq]
 refine ⟨by omega,by omega,?_⟩
 refine loopN l.length (fun k => [(0,.t .arg (.a [.s n1 (rr x),.s n2 (rr y),.s n3 (ii z)])),(1,.t .arg (.s n4 (ii l))),(2,.t .arg (.q [.s n1 (rr x),.s n2 (rr y),.s n3 (ii z)] 0)),(5,.own 1 none (ii (filN y.length l k))),(12,.t .arg (.s n4 (ii l))),(13,.i l.length),(14,.i (k:Nat))]) (fun _ => True) ⟨trivial,by simp (maxSteps:=2000000) only [go_sem,Nat.reduceBEq,Nat.reduceAdd,Nat.reduceMul,Nat.reduceMod,Nat.reduceLT,Nat.reduceDiv,Nat.reduceSub,Nat.reduceLeDiff,Int.reduceToNat,Int.reduceLT,Int.reduceLE,reduceCtorEq]; simp [filN]⟩ fun k hk _ => ?_
 have e1:filN y.length l (k + 1) = if 0 ≤ l.getD k 0 then (filN y.length l k).set (l.getD k 0).toNat ((filN y.length l k).getD (l.getD k 0).toNat 0 + 1) else filN y.length l k:=rfl
 have hfl:=filN_len (c:=y.length) (l:=l) (k:=k)
 have hbd:=filN_bd (c:=y.length) (l:=l) (k:=k) (l.getD k 0).toNat
 simp (maxSteps:=2000000) only [go_sem,Nat.reduceBEq,Nat.reduceAdd,Nat.reduceMul,Nat.reduceMod,Nat.reduceLT,Nat.reduceDiv,Nat.reduceSub,Nat.reduceLeDiff,Int.reduceToNat,Int.reduceLT,Int.reduceLE,reduceCtorEq]
 refine ⟨fun hlt => ?_, fun hge => ?_⟩
 ·have hk':k < l.length:=by omega
  have hbk:=hb k hk'
  refine ⟨by omega,hk',hk',fun h => ⟨h,by omega,by omega,inR_of (by omega) (by omega),h,by omega,by omega,inR_of (by omega) (by omega),hk',by rw [e1,if_pos h],by simp⟩,fun h => ⟨inR_of (by omega) (by omega),hk',by rw [e1,if_neg h],by simp⟩⟩
 ·have:k = l.length:=by omega
  subst this
  rfl
def K_impl_EntryOk:List Nat:=[0,1,2,4,5,6,29,30,31,1002,2002,3002]
def C_impl_EntryOk : C :=
 let ks:=K_impl_EntryOk
 (.seq
  (.rg 0 [(none,.v 2 .boxS [.s 0]),(none,.v 4 .mv [.k (.b false)])])
  (.cl ks (.seq
  (.seq
  (.rg 0 [(none,.v 7 (.lds 3) [.s 2]),(none,.co 8 86 [.s 7]),(none,.v 9 .not [.s 8]),(none,.v 10 .mv [.s 9]),(some (10,false),.v 11 .mv [.s 1]),(some (10,false),.v 12 .len [.s 11]),(some (10,false),.v 13 (.fa 0) [.s 2]),(some (10,false),.v 14 .ld [.s 13]),(some (10,false),.v 15 .len [.s 14]),(some (10,false),.v 16 (.bin .neq) [.s 12,.s 15]),(none,.v 17 .pick [.s 10,.k (.b true),.s 16]),(none,.v 18 .mv [.s 17]),(some (18,false),.v 19 .mv [.s 1]),(some (18,false),.v 20 (.fa 1) [.s 2]),(some (18,false),.v 21 .ld [.s 20]),(some (18,false),.v 22 .len [.s 21]),(some (18,false),.v 23 (.bin .sub) [.s 22,.k (.i 1)]),(some (18,false),.co 24 117 [.s 19,.k (.i (-1)),.s 23]),(some (18,false),.v 25 .not [.s 24]),(none,.v 26 .pick [.s 18,.k (.b true),.s 25])])
  (.cond (.s 26)
  (.seq
  (.rg 0 [(none,.v 4 .mv [.k (.b false)])])
  .ret)
  .skip))
  (.cl ks (.seq
  (.seq
  (.rg 0 [(none,.v 27 (.lds 3) [.s 2]),(none,.v 28 .mv [.s 1]),(none,.co 29 91 [.s 27,.s 28]),(none,.v 30 .len [.s 29]),(none,.v 31 .mv [.k (.i 0)])])
  (.cl ks (.block 0
  (.loop
  (.seq
  (.rg 0 [(none,.v 32 (.bin .lss) [.s 31,.s 30])])
  (.seq
  (.cond (.s 32)
  .skip
  (.exit 0))
  (.cl ks (.seq
  (.block 1
  (.seq
  (.rg 0 [(none,.v 33 .mv [.s 31]),(none,.v 34 .idx [.s 29,.s 31]),(none,.v 35 .ld [.s 34]),(none,.tk 5 33),(none,.tk 6 35)])
  (.cl ks (.seq
  (.rg 0 [(none,.v 36 .mv [.s 6]),(none,.v 37 (.fa 2) [.s 2]),(none,.v 38 .ld [.s 37]),(none,.v 39 .mv [.s 5]),(none,.v 40 .idx [.s 38,.s 39]),(none,.v 41 .ld [.s 40]),(none,.v 42 (.bin .gtr) [.s 36,.s 41])])
  (.cond (.s 42)
  (.seq
  (.rg 0 [(none,.v 4 .mv [.k (.b false)])])
  .ret)
  .skip)))))
  (.cl ks (.rg 0 [(none,.v 43 (.bin .add) [.s 31,.k (.i 1)]),(none,.v 31 .mv [.s 43])]))))))))))
  (.cl ks (.seq
  (.rg 0 [(none,.v 4 .mv [.k (.b true)])])
  .ret)))))))
theorem chk_impl_EntryOk:∃ b,Try.f42.body = some b ∧ chk Try.prog Try.f42.ntmps true C_impl_EntryOk b = true:=⟨_,rfl,by kernel_rfl⟩
def K_spec_EntryOk:List Nat:=[0,1,2,4,6,7,8,20,21,22,36,37,38,1002,2002,3002]
def C_spec_EntryOk : C :=
 let ks:=K_spec_EntryOk
 (.seq
  (.rg 0 [(none,.v 2 .boxS [.s 0]),(none,.v 4 .mv [.k (.b false)])])
  (.cl ks (.seq
  (.seq
  (.rg 0 [(none,.v 9 (.lds 3) [.s 2]),(none,.co 10 82 [.s 9]),(none,.v 11 .not [.s 10]),(none,.v 12 .mv [.s 11]),(some (12,false),.v 13 .mv [.s 1]),(some (12,false),.v 14 .len [.s 13]),(some (12,false),.v 15 (.fa 0) [.s 2]),(some (12,false),.v 16 .ld [.s 15]),(some (12,false),.v 17 .len [.s 16]),(some (12,false),.v 18 (.bin .neq) [.s 14,.s 17]),(none,.v 19 .pick [.s 12,.k (.b true),.s 18])])
  (.cond (.s 19)
  (.seq
  (.rg 0 [(none,.v 4 .mv [.k (.b false)])])
  .ret)
  .skip))
  (.cl ks (.seq
  (.seq
  (.rg 0 [(none,.v 20 .mv [.s 1]),(none,.v 21 .len [.s 20]),(none,.v 22 .mv [.k (.i 0)])])
  (.cl ks (.block 0
  (.loop
  (.seq
  (.rg 0 [(none,.v 23 (.bin .lss) [.s 22,.s 21])])
  (.seq
  (.cond (.s 23)
  .skip
  (.exit 0))
  (.cl ks (.seq
  (.block 1
  (.seq
  (.rg 0 [(none,.v 24 .idx [.s 20,.s 22]),(none,.v 25 .ld [.s 24]),(none,.tk 6 25)])
  (.cl ks (.seq
  (.rg 0 [(none,.v 26 .mv [.s 6]),(none,.v 27 (.fa 1) [.s 2]),(none,.v 28 .ld [.s 27]),(none,.v 29 .len [.s 28]),(none,.v 30 (.bin .sub) [.s 29,.k (.i 1)]),(none,.co 31 106 [.s 26,.k (.i (-1)),.s 30]),(none,.v 32 .not [.s 31])])
  (.cond (.s 32)
  (.seq
  (.rg 0 [(none,.v 4 .mv [.k (.b false)])])
  .ret)
  .skip)))))
  (.cl ks (.rg 0 [(none,.v 33 (.bin .add) [.s 22,.k (.i 1)]),(none,.v 22 .mv [.s 33])]))))))))))
  (.cl ks (.seq
  (.seq
  (.rg 0 [(none,.v 34 (.lds 3) [.s 2]),(none,.v 35 .mv [.s 1]),(none,.co 36 83 [.s 34,.s 35]),(none,.v 37 .len [.s 36]),(none,.v 38 .mv [.k (.i 0)])])
  (.cl ks (.block 2
  (.loop
  (.seq
  (.rg 0 [(none,.v 39 (.bin .lss) [.s 38,.s 37])])
  (.seq
  (.cond (.s 39)
  .skip
  (.exit 2))
  (.cl ks (.seq
  (.block 3
  (.seq
  (.rg 0 [(none,.v 40 .mv [.s 38]),(none,.v 41 .idx [.s 36,.s 38]),(none,.v 42 .ld [.s 41]),(none,.tk 7 40),(none,.tk 8 42)])
  (.cl ks (.seq
  (.rg 0 [(none,.v 43 .mv [.s 8]),(none,.v 44 (.fa 2) [.s 2]),(none,.v 45 .ld [.s 44]),(none,.v 46 .mv [.s 7]),(none,.v 47 .idx [.s 45,.s 46]),(none,.v 48 .ld [.s 47]),(none,.v 49 (.bin .gtr) [.s 43,.s 48])])
  (.cond (.s 49)
  (.seq
  (.rg 0 [(none,.v 4 .mv [.k (.b false)])])
  .ret)
  .skip)))))
  (.cl ks (.rg 0 [(none,.v 50 (.bin .add) [.s 38,.k (.i 1)]),(none,.v 38 .mv [.s 50])]))))))))))
  (.cl ks (.seq
  (.rg 0 [(none,.v 4 .mv [.k (.b true)])])
  .ret)))))))))
theorem chk_spec_EntryOk:∃ b,Try.f34.body = some b ∧ chk Try.prog Try.f34.ntmps true C_spec_EntryOk b = true:=⟨_,rfl,by kernel_rfl⟩
def filF (c:Nat) (l:List Int):List Int:=filN c l l.length
theorem filF_len {c:Nat} {l:List Int}:(filF c l).length = c:=filN_len
def entryB (x y : List (List Int)) (z l : List Int) : Bool :=
 schoolB x y z && decide (l.length = x.length) && (l.all fun v => inI v (-1) (y.length - 1)) && (List.range y.length).all fun k => decide ((filF y.length l).getD k 0 ≤ z.getD k 0)
theorem entry_in {x y : List (List Int)} {z l : List Int} (h : entryB x y z l = true) : schoolB x y z = true ∧ l.length = x.length ∧ (∀ i, i < l.length → -1 ≤ l.getD i 0 ∧ l.getD i 0 < y.length) := by
 simp only [entryB,Bool.and_eq_true,decide_eq_true_eq,List.all_eq_true,inI] at h
 obtain ⟨⟨⟨h1,h2⟩,h3⟩,_⟩:=h
 exact ⟨h1,h2,fun i hi => by have:=h3 _ (getD_mem (d:=0) hi); omega⟩
theorem impl_EntryOk_ok {n1 n2 n3 n4 : Option Bool} (x y : List (List Int)) (z l : List Int) (hx : x.length ≤ 1048576) (kx : ∀ r ∈ x, r.length ≤ 1048576) (hy : y.length ≤ 1048576) (ky : ∀ r ∈ y, r.length ≤ 1048576) (hz : z.length ≤ 1048576) (hl : l.length ≤ 1048576) :
  CallOk Try.prog 42 [.a [.s n1 (rr x),.s n2 (rr y),.s n3 (ii z)],.s n4 (ii l)] [(0,.b (entryB x y z l))]:=by
 obtain ⟨code0,hcd1,hcd2⟩:=chk_impl_EntryOk; refine callOk_of Try.func42 hcd1 mo Try.call42 (rs:=[4]) (by kernel_rfl) hcd2 (by rw [Try.ntmps42]; simp) (by simp) (by decide) ?_; unfold C_impl_EntryOk K_impl_EntryOk; simp (maxSteps:=2000000) only [go_sem,Nat.reduceBEq,Nat.reduceAdd,Nat.reduceMul,Nat.reduceMod,Nat.reduceLT,Nat.reduceDiv,Nat.reduceSub,Nat.reduceLeDiff,Int.reduceToNat,Int.reduceLT,Int.reduceLE,reduceCtorEq]
 refine ⟨_,impl_SchoolOk_ok x y z hx kx hy ky hz,?_⟩; simp (maxSteps:=2000000) only [go_sem,Nat.reduceBEq,Nat.reduceAdd,Nat.reduceMul,Nat.reduceMod,Nat.reduceLT,Nat.reduceDiv,Nat.reduceSub,Nat.reduceLeDiff,Int.reduceToNat,Int.reduceLT,Int.reduceLE,reduceCtorEq]
 refine ⟨fun h0 => ?_,fun h0 => by simp [entryB,h0]⟩
 have S:=sc_of h0
 refine ⟨fun h1 => ⟨inR_of (by omega) (by have:=S.c3; omega),?_⟩,fun h1 => by simp [entryB,h0,h1]⟩
 refine ⟨_,allWithin_ok l _ _ hl,?_⟩; simp (maxSteps:=2000000) only [go_sem,Nat.reduceBEq,Nat.reduceAdd,Nat.reduceMul,Nat.reduceMod,Nat.reduceLT,Nat.reduceDiv,Nat.reduceSub,Nat.reduceLeDiff,Int.reduceToNat,Int.reduceLT,Int.reduceLE,reduceCtorEq]
 refine ⟨fun h2 => by simp [entryB,h0,h1,h2],fun h2 => ?_⟩
 have c3:=S.c3
 have c1:=S.c1
 have lz:=S.lz
 have hin : ∀ i, i < l.length → l.getD i 0 < y.length := fun i hi => by
  have:=List.all_eq_true.1 h2 _ (getD_mem (d:=0) hi); simp only [inI,Bool.and_eq_true,decide_eq_true_eq] at this; omega
 refine ⟨_,impl_School_filled_ok x y z l hy hl hin,?_⟩; simp (maxSteps:=2000000) only [go_sem,Nat.reduceBEq,Nat.reduceAdd,Nat.reduceMul,Nat.reduceMod,Nat.reduceLT,Nat.reduceDiv,Nat.reduceSub,Nat.reduceLeDiff,Int.reduceToNat,Int.reduceLT,Int.reduceLE,reduceCtorEq]
 have hE:entryB x y z l = (List.range y.length).all fun k => decide ((filF y.length l).getD k 0 ≤ z.getD k 0):=by simp [entryB,h0,h1,h2]
 rw [hE]
 have e0:filN y.length l l.length = filF y.length l:=rfl
 rw [e0]
 have hfl:=filF_len (c:=y.length) (l:=l)
 refine loopN y.length (fun k => [(0,.t .arg (.a [.s n1 (rr x),.s n2 (rr y),.s n3 (ii z)])),(1,.t .arg (.s n4 (ii l))),(2,.t .arg (.q [.s n1 (rr x),.s n2 (rr y),.s n3 (ii z)] 0)),(29,.own 1 none (ii (filF y.length l))),(30,.i y.length),(31,.i (k:Nat))]) (fun k => ∀ i,i < k → decide ((filF y.length l).getD i 0 ≤ z.getD i 0) = true) ⟨by simp,by simp (maxSteps:=2000000) only [go_sem,Nat.reduceBEq,Nat.reduceAdd,Nat.reduceMul,Nat.reduceMod,Nat.reduceLT,Nat.reduceDiv,Nat.reduceSub,Nat.reduceLeDiff,Int.reduceToNat,Int.reduceLT,Int.reduceLE,reduceCtorEq]; simp [hfl]⟩ fun k hk hI => ?_
 simp (maxSteps:=2000000) only [go_sem,Nat.reduceBEq,Nat.reduceAdd,Nat.reduceMul,Nat.reduceMod,Nat.reduceLT,Nat.reduceDiv,Nat.reduceSub,Nat.reduceLeDiff,Int.reduceToNat,Int.reduceLT,Int.reduceLE,reduceCtorEq]
 refine ⟨fun hlt => ?_, fun hge => ?_⟩
 ·have hk':k < y.length:=by omega
  refine ⟨by omega, by omega, by omega, by omega, by omega, by omega, fun hg => ?_, fun hg => ⟨inR_of (by omega) (by omega), hk', fun i hi => ?_, by simp⟩⟩
  ·exact (not_all_range hk' (decide_eq_false (by omega))).symm
  ·by_cases e : i = k
   ·subst e; first | exact decide_eq_true (by omega) | omega
   ·exact of_decide_eq_true (hI i (by omega))
 ·have:k = y.length:=by omega
  subst this
  exact (all_range hI).symm
theorem spec_EntryOk_ok {n1 n2 n3 n4 : Option Bool} (x y : List (List Int)) (z l : List Int) (hx : x.length ≤ 1048576) (kx : ∀ r ∈ x, r.length ≤ 1048576) (hy : y.length ≤ 1048576) (ky : ∀ r ∈ y, r.length ≤ 1048576) (hz : z.length ≤ 1048576) (hl : l.length ≤ 1048576) :
  CallOk Try.prog 34 [.a [.s n1 (rr x),.s n2 (rr y),.s n3 (ii z)],.s n4 (ii l)] [(0,.b (entryB x y z l))]:=by
 obtain ⟨code0,hcd1,hcd2⟩:=chk_spec_EntryOk; refine callOk_of Try.func34 hcd1 mo Try.call34 (rs:=[4]) (by kernel_rfl) hcd2 (by rw [Try.ntmps34]; simp) (by simp) (by decide) ?_; unfold C_spec_EntryOk K_spec_EntryOk; simp (maxSteps:=2000000) only [go_sem,Nat.reduceBEq,Nat.reduceAdd,Nat.reduceMul,Nat.reduceMod,Nat.reduceLT,Nat.reduceDiv,Nat.reduceSub,Nat.reduceLeDiff,Int.reduceToNat,Int.reduceLT,Int.reduceLE,reduceCtorEq]
 refine ⟨_,spec_SchoolOk_ok x y z hx kx hy ky hz,?_⟩; simp (maxSteps:=2000000) only [go_sem,Nat.reduceBEq,Nat.reduceAdd,Nat.reduceMul,Nat.reduceMod,Nat.reduceLT,Nat.reduceDiv,Nat.reduceSub,Nat.reduceLeDiff,Int.reduceToNat,Int.reduceLT,Int.reduceLE,reduceCtorEq]
 refine ⟨fun h0 => ?_,fun h0 => by simp [entryB,h0]⟩
 have S:=sc_of h0
 have c3:=S.c3
 have c1:=S.c1
 have lz:=S.lz
 refine ⟨fun h1 => by simp [entryB,h0,h1],fun h1 => ?_⟩
 refine loopN l.length (fun k => [(0,.t .arg (.a [.s n1 (rr x),.s n2 (rr y),.s n3 (ii z)])),(1,.t .arg (.s n4 (ii l))),(2,.t .arg (.q [.s n1 (rr x),.s n2 (rr y),.s n3 (ii z)] 0)),(20,.t .arg (.s n4 (ii l))),(21,.i l.length),(22,.i (k:Nat))]) (fun k => ∀ i,i < k → inI (l.getD i 0) (-1) (y.length - 1) = true) ⟨by simp,by simp (maxSteps:=2000000) only [go_sem,Nat.reduceBEq,Nat.reduceAdd,Nat.reduceMul,Nat.reduceMod,Nat.reduceLT,Nat.reduceDiv,Nat.reduceSub,Nat.reduceLeDiff,Int.reduceToNat,Int.reduceLT,Int.reduceLE,reduceCtorEq]; simp⟩ fun k hk hI => ?_
 simp (maxSteps:=2000000) only [go_sem,Nat.reduceBEq,Nat.reduceAdd,Nat.reduceMul,Nat.reduceMod,Nat.reduceLT,Nat.reduceDiv,Nat.reduceSub,Nat.reduceLeDiff,Int.reduceToNat,Int.reduceLT,Int.reduceLE,reduceCtorEq]
 refine ⟨fun hlt => ?_, fun hge => ?_⟩
 ·have hk':k < l.length:=by omega
  refine ⟨by omega,hk',hk',inR_of (by omega) (by omega),?_⟩
  refine ⟨_,l01In_ok _ _ _,?_⟩; simp (maxSteps:=2000000) only [go_sem,Nat.reduceBEq,Nat.reduceAdd,Nat.reduceMul,Nat.reduceMod,Nat.reduceLT,Nat.reduceDiv,Nat.reduceSub,Nat.reduceLeDiff,Int.reduceToNat,Int.reduceLT,Int.reduceLE,reduceCtorEq]
  refine ⟨fun h2 => ?_, fun h2 => ⟨inR_of (by omega) (by omega), hk', fun i hi => ?_, by simp⟩⟩
  ·have:(l.all fun v => inI v (-1) (y.length - 1)) = false:=not_all_getD 0 hk' h2
   simp [entryB,this]
  ·by_cases e : i = k
   ·subst e; exact h2
   ·exact hI i (by omega)
 ·have:k = l.length:=by omega
  subst this
  have h2:(l.all fun v => inI v (-1) (y.length - 1)) = true:=all_of_getD 0 hI
  have hin : ∀ i, i < l.length → l.getD i 0 < y.length := fun i hi => by
   have:=hI i hi; simp only [inI,Bool.and_eq_true,decide_eq_true_eq] at this; omega
  refine ⟨_,spec_l21Filled_ok x y z l hy hl hin,?_⟩; simp (maxSteps:=2000000) only [go_sem,Nat.reduceBEq,Nat.reduceAdd,Nat.reduceMul,Nat.reduceMod,Nat.reduceLT,Nat.reduceDiv,Nat.reduceSub,Nat.reduceLeDiff,Int.reduceToNat,Int.reduceLT,Int.reduceLE,reduceCtorEq]
  have hE:entryB x y z l = (List.range y.length).all fun k => decide ((filF y.length l).getD k 0 ≤ z.getD k 0):=by simp [entryB,h0,h1,h2]
  rw [hE]
  have e0:filN y.length l l.length = filF y.length l:=rfl
  rw [e0]
  have hfl:=filF_len (c:=y.length) (l:=l)
  refine loopN y.length (fun k => [(0,.t .arg (.a [.s n1 (rr x),.s n2 (rr y),.s n3 (ii z)])),(1,.t .arg (.s n4 (ii l))),(2,.t .arg (.q [.s n1 (rr x),.s n2 (rr y),.s n3 (ii z)] 0)),(36,.own 1 none (ii (filF y.length l))),(37,.i y.length),(38,.i (k:Nat))]) (fun k => ∀ i,i < k → decide ((filF y.length l).getD i 0 ≤ z.getD i 0) = true) ⟨by simp,by simp (maxSteps:=2000000) only [go_sem,Nat.reduceBEq,Nat.reduceAdd,Nat.reduceMul,Nat.reduceMod,Nat.reduceLT,Nat.reduceDiv,Nat.reduceSub,Nat.reduceLeDiff,Int.reduceToNat,Int.reduceLT,Int.reduceLE,reduceCtorEq]; simp [hfl]⟩ fun k hk hI => ?_
  simp (maxSteps:=2000000) only [go_sem,Nat.reduceBEq,Nat.reduceAdd,Nat.reduceMul,Nat.reduceMod,Nat.reduceLT,Nat.reduceDiv,Nat.reduceSub,Nat.reduceLeDiff,Int.reduceToNat,Int.reduceLT,Int.reduceLE,reduceCtorEq]
  refine ⟨fun hlt => ?_, fun hge => ?_⟩
  ·have hk':k < y.length:=by omega
   refine ⟨by omega, by omega, by omega, by omega, by omega, by omega, fun hg => ?_, fun hg => ⟨inR_of (by omega) (by omega), hk', fun i hi => ?_, by simp⟩⟩
   ·exact (not_all_range hk' (decide_eq_false (by omega))).symm
   ·by_cases e : i = k
    ·subst e; first | exact decide_eq_true (by omega) | omega
    ·exact of_decide_eq_true (hI i (by omega))
  ·have:k = y.length:=by omega
   subst this
   exact (all_range hI).symm
def K_impl_School_blocks_1:List Nat:=[0,1,2,3,4,6]
def C_impl_School_blocks_1 : C :=
 let ks:=K_impl_School_blocks_1
 (.seq
  (.rg 0 [(none,.v 6 .mv [.k (.b false)])])
  (.cl ks (.seq
  (.rg 14 [(none,.v 7 .ld [.s 1]),(none,.v 8 .mv [.s 0]),(none,.v 9 .idx [.s 7,.s 8]),(none,.v 10 .ld [.s 9]),(none,.v 11 .ld [.s 2]),(none,.v 12 (.bin .eql) [.s 10,.s 11]),(none,.v 13 .mv [.s 12]),(some (13,true),.v 14 (.fa 1) [.s 3]),(some (13,true),.v 15 .ld [.s 14]),(some (13,true),.v 16 .ld [.s 2]),(some (13,true),.v 17 .idx [.s 15,.s 16]),(some (13,true),.v 18 .ld [.s 17]),(some (13,true),.v 19 .ld [.s 4]),(some (13,true),.v 20 .mv [.s 0]),(some (13,true),.co 21 39 [.s 18,.s 19,.s 20]),(none,.v 22 .pick [.s 13,.s 21,.k (.b false)]),(none,.tk 6 22)])
  .ret)))
theorem chk_impl_School_blocks_1:∃ b,Try.f167.body = some b ∧ chk Try.prog Try.f167.ntmps true C_impl_School_blocks_1 b = true:=⟨_,rfl,by kernel_rfl⟩
def K_impl_School_blocks:List Nat:=[0,1,2,3,4,5,6,7,8,9,10,11,12,19,20,1002,2002,3002,1003,1006,1008]
def C_impl_School_blocks : C :=
 let ks:=K_impl_School_blocks
 (.seq
  (.rg 0 [(none,.v 2 .boxS [.s 0]),(none,.box 3 (.s 1)),(none,.mkn 4)])
  (.cl ks (.seq
  (.rg 0 [(none,.mkn 5)])
  (.cl ks (.seq
  (.seq
  (.rg 0 [(none,.v 10 .ld [.s 3]),(none,.v 11 .len [.s 10]),(none,.v 12 .mv [.k (.i 0)])])
  (.cl ks (.block 0
  (.loop
  (.seq
  (.rg 0 [(none,.v 13 (.bin .lss) [.s 12,.s 11])])
  (.seq
  (.cond (.s 13)
  .skip
  (.exit 0))
  (.cl ks (.seq
  (.block 1
  (.seq
  (.rg 0 [(none,.v 14 .mv [.s 12]),(none,.v 15 .idx [.s 10,.s 12]),(none,.v 16 .ld [.s 15]),(none,.new 6 [.i 0]),(none,.st (.s 6) (.s 14)),(none,.tk 7 16)])
  (.cl ks (.seq
  (.rg 0 [(none,.v 17 (.fa 1) [.s 2]),(none,.v 18 .ld [.s 17]),(none,.v 19 .len [.s 18]),(none,.v 20 .mv [.k (.i 0)])])
  (.cl ks (.block 2
  (.loop
  (.seq
  (.rg 0 [(none,.v 21 (.bin .lss) [.s 20,.s 19])])
  (.seq
  (.cond (.s 21)
  .skip
  (.exit 2))
  (.cl ks (.seq
  (.block 3
  (.seq
  (.rg 0 [(none,.v 22 .mv [.s 20]),(none,.new 8 [.i 0]),(none,.st (.s 8) (.s 22))])
  (.cl ks (.seq
  (.seq
  (.rg 10 [(none,.v 23 .mv [.s 7]),(none,.v 24 (.bin .geq) [.s 23,.k (.i 0)]),(none,.v 25 .mv [.s 24]),(some (25,true),.v 26 (.fa 0) [.s 2]),(some (25,true),.v 27 .ld [.s 26]),(some (25,true),.v 28 .ld [.s 6]),(some (25,true),.v 29 .idx [.s 27,.s 28]),(some (25,true),.v 30 .ld [.s 29]),(some (25,true),.v 31 .ld [.s 8]),(some (25,true),.v 32 .mv [.s 7]),(some (25,true),.co 33 39 [.s 30,.s 31,.s 32]),(some (25,true),.v 34 .not [.s 33]),(none,.v 35 .pick [.s 25,.s 34,.k (.b false)])])
  (.cond (.s 35)
  (.exit 3)
  .skip))
  (.cl ks (.seq
  (.rg 0 [(none,.v 36 (.clo 167) [.s 3,.s 8,.s 2,.s 6]),(none,.tk 9 36)])
  (.cl ks (.seq
  (.rg 17 [(none,.v 37 (.lds 3) [.s 2]),(none,.v 38 .ld [.s 3]),(none,.v 39 (.call 91) [.s 37,.s 38]),(none,.v 40 .ld [.s 8]),(none,.v 41 .idx [.s 39,.s 40]),(none,.v 42 .ld [.s 41]),(none,.v 43 (.fa 2) [.s 2]),(none,.v 44 .ld [.s 43]),(none,.v 45 .ld [.s 8]),(none,.v 46 .idx [.s 44,.s 45]),(none,.v 47 .ld [.s 46]),(none,.v 48 (.bin .lss) [.s 42,.s 47]),(none,.v 49 .mv [.s 48]),(some (49,false),.v 50 .ld [.s 3]),(some (49,false),.v 51 .len [.s 50]),(some (49,false),.v 52 (.call 89) [.s 51]),(some (49,false),.v 53 .mv [.s 9]),(some (49,false),.co 54 168 [.s 52,.s 53]),(none,.v 55 .pick [.s 49,.k (.b true),.s 54])])
  (.cond (.s 55)
  (.rg 0 [(none,.v 56 .mv [.s 5]),(none,.v 57 .ld [.s 6]),(none,.v 58 .ld [.s 8]),(none,.lit 59 [.s 57,.s 58] 0),(none,.lit 60 [.s 59] 1),(none,.app 61 (.s 56) (.s 60) 1),(none,.tk 5 61)])
  .skip)))))))))
  (.cl ks (.rg 0 [(none,.v 62 (.bin .add) [.s 20,.k (.i 1)]),(none,.v 20 .mv [.s 62])])))))))))))))
  (.cl ks (.rg 0 [(none,.v 63 (.bin .add) [.s 12,.k (.i 1)]),(none,.v 12 .mv [.s 63])]))))))))))
  (.cl ks (.seq
  (.rg 0 [(none,.v 64 .mv [.s 5]),(none,.tk 4 64)])
  .ret)))))))
theorem chk_impl_School_blocks:∃ b,Try.f115.body = some b ∧ chk Try.prog Try.f115.ntmps true C_impl_School_blocks b = true:=⟨_,rfl,by kernel_rfl⟩
def K_impl_EntryBlocks:List Nat:=[0,1,2,4,1002,2002,3002]
def C_impl_EntryBlocks : C :=
 let ks:=K_impl_EntryBlocks
 (.seq
  (.rg 0 [(none,.v 2 .boxS [.s 0]),(none,.mkn 4)])
  (.cl ks (.seq
  (.seq
  (.rg 0 [(none,.v 5 (.lds 3) [.s 2]),(none,.v 6 .mv [.s 1]),(none,.co 7 42 [.s 5,.s 6]),(none,.v 8 .not [.s 7])])
  (.cond (.s 8)
  (.seq
  (.rg 0 [(none,.mkn 4)])
  .ret)
  .skip))
  (.cl ks (.seq
  (.rg 0 [(none,.v 9 (.lds 3) [.s 2]),(none,.v 10 .mv [.s 1]),(none,.co 11 115 [.s 9,.s 10]),(none,.tk 4 11)])
  .ret)))))
theorem chk_impl_EntryBlocks:∃ b,Try.f37.body = some b ∧ chk Try.prog Try.f37.ntmps true C_impl_EntryBlocks b = true:=⟨_,rfl,by kernel_rfl⟩
def wantsB (y:List (List Int)) (z l:List Int) (i k:Nat):Bool:=decide ((filF y.length l).getD k 0 < z.getD k 0) || (List.range l.length).any fun o => decide (l.getD o 0 = k) && prefB (y.getD k []) i o
def blkB (x y:List (List Int)) (z l:List Int) (i k:Nat):Bool:=(decide (l.getD i 0 < 0) || prefB (x.getD i []) k (l.getD i 0)) && wantsB y z l i k
def prK (p : Nat → Nat → Bool) (i : Nat) : Nat → List (List Int)
 | 0 => []
 | k + 1 => prK p i k ++ if p i k = true then [[(i:Int),(k:Int)]] else []
def prI (p : Nat → Nat → Bool) (c : Nat) : Nat → List (List Int)
 | 0 => []
 | i + 1 => prI p c i ++ prK p i c
theorem prK_len {p : Nat → Nat → Bool} {i : Nat} : ∀ {k : Nat}, (prK p i k).length ≤ k
 | 0 => by simp [prK]
 | k + 1 => by simp only [prK,List.length_append]; have:=prK_len (p:=p) (i:=i) (k:=k); split <;> simp <;> omega
theorem prI_len {p : Nat → Nat → Bool} {c : Nat} : ∀ {i : Nat}, (prI p c i).length ≤ i * c
 | 0 => by simp [prI]
 | i + 1 => by simp only [prI,List.length_append,Nat.succ_mul]; have:=prI_len (p:=p) (c:=c) (i:=i); have:=prK_len (p:=p) (i:=i) (k:=c); omega
theorem impl_blocks1_ok {n1 n2 n3 n4 : Option Bool} (x y : List (List Int)) (z l : List Int) (i k o : Nat) (ho : o < l.length) (hk : k < y.length) (hr : (y.getD k []).length ≤ 1048576) :
  CallOk Try.prog 167 [.i o,.q [.s n4 (ii l)] 0,.q [.i k] 0,.q [.s n1 (rr x),.s n2 (rr y),.s n3 (ii z)] 0,.q [.i i] 0] [(0,.b (decide (l.getD o 0 = k) && prefB (y.getD k []) i o))]:=by
 obtain ⟨code0,hcd1,hcd2⟩:=chk_impl_School_blocks_1; refine callOk_of Try.func167 hcd1 mo Try.call167 (rs:=[6]) (by kernel_rfl) hcd2 (by rw [Try.ntmps167]; simp) (by simp) (by decide) ?_; unfold C_impl_School_blocks_1 K_impl_School_blocks_1; simp (maxSteps:=2000000) only [go_sem,Nat.reduceBEq,Nat.reduceAdd,Nat.reduceMul,Nat.reduceMod,Nat.reduceLT,Nat.reduceDiv,Nat.reduceSub,Nat.reduceLeDiff,Int.reduceToNat,Int.reduceLT,Int.reduceLE,reduceCtorEq]
 refine ⟨by omega,ho,ho,fun h => ⟨by omega,by omega,by omega,?_⟩,fun h => by rw [decide_eq_false h,Bool.false_and]⟩
 refine ⟨_,impl_Prefers_ok (y.getD k []) _ _ hr,?_⟩; simp (maxSteps:=2000000) only [go_sem,Nat.reduceBEq,Nat.reduceAdd,Nat.reduceMul,Nat.reduceMod,Nat.reduceLT,Nat.reduceDiv,Nat.reduceSub,Nat.reduceLeDiff,Int.reduceToNat,Int.reduceLT,Int.reduceLE,reduceCtorEq]
 rw [decide_eq_true h,Bool.true_and]
set_option maxHeartbeats 1000000 in
theorem impl_blocks_ok {n1 n2 n3 n4 : Option Bool} (x y : List (List Int)) (z l : List Int) (h : entryB x y z l = true) :
  CallOk Try.prog 115 [.a [.s n1 (rr x),.s n2 (rr y),.s n3 (ii z)],.s n4 (ii l)] [(0,.own 1 none (rr (prI (blkB x y z l) y.length x.length)))]:=by
 obtain ⟨code0,hcd1,hcd2⟩:=chk_impl_School_blocks; refine callOk_of Try.func115 hcd1 mo Try.call115 (rs:=[4]) (by kernel_rfl) hcd2 (by rw [Try.ntmps115]; simp) (by simp) (by decide) ?_; unfold C_impl_School_blocks K_impl_School_blocks; simp (maxSteps:=2000000) only [go_sem,Nat.reduceBEq,Nat.reduceAdd,Nat.reduceMul,Nat.reduceMod,Nat.reduceLT,Nat.reduceDiv,Nat.reduceSub,Nat.reduceLeDiff,Int.reduceToNat,Int.reduceLT,Int.reduceLE,reduceCtorEq]
 obtain ⟨h0,hl,hb⟩:=entry_in h
 have S:=sc_of h0
 have c3:=S.c3
 have c1:=S.c1
 have n5:=S.n5
 have lz:=S.lz
 refine loopN l.length (fun i => [(0,.t .arg (.a [.s n1 (rr x),.s n2 (rr y),.s n3 (ii z)])),(1,.t .arg (.s n4 (ii l))),(2,.t .arg (.q [.s n1 (rr x),.s n2 (rr y),.s n3 (ii z)] 0)),(3,.bx 1),(1003,.t .arg (.s n4 (ii l))),(5,.own 1 none (rr (prI (blkB x y z l) y.length i))),(10,.t .arg (.s n4 (ii l))),(11,.i l.length),(12,.i (i:Nat))]) (fun _ => True) ⟨trivial,by simp (maxSteps:=2000000) only [go_sem,Nat.reduceBEq,Nat.reduceAdd,Nat.reduceMul,Nat.reduceMod,Nat.reduceLT,Nat.reduceDiv,Nat.reduceSub,Nat.reduceLeDiff,Int.reduceToNat,Int.reduceLT,Int.reduceLE,reduceCtorEq]; simp [prI]⟩ fun i hi _ => ?_
 have hI:=prI_len (p:=blkB x y z l) (c:=y.length) (i:=i)
 have hin:i * y.length ≤ 5 * 3:=Nat.mul_le_mul (by omega) c3
 simp (maxSteps:=2000000) only [go_sem,Nat.reduceBEq,Nat.reduceAdd,Nat.reduceMul,Nat.reduceMod,Nat.reduceLT,Nat.reduceDiv,Nat.reduceSub,Nat.reduceLeDiff,Int.reduceToNat,Int.reduceLT,Int.reduceLE,reduceCtorEq]
 refine ⟨fun hlt => ?_, fun hge => ?_⟩
 ·have hi':i < l.length:=by omega
  refine ⟨by omega,hi',hi',?_⟩
  refine loopN y.length (fun k => [(0,.t .arg (.a [.s n1 (rr x),.s n2 (rr y),.s n3 (ii z)])),(1,.t .arg (.s n4 (ii l))),(2,.t .arg (.q [.s n1 (rr x),.s n2 (rr y),.s n3 (ii z)] 0)),(3,.bx 1),(1003,.t .arg (.s n4 (ii l))),(5,.own 1 none (rr (prI (blkB x y z l) y.length i ++ prK (blkB x y z l) i k))),(10,.t .arg (.s n4 (ii l))),(11,.i l.length),(12,.i (i:Nat)),(6,.bx 1),(1006,.i i),(7,.i (l.getD i 0)),(19,.i y.length),(20,.i (k:Nat))]) (fun _ => True) ⟨trivial,by simp (maxSteps:=2000000) only [go_sem,Nat.reduceBEq,Nat.reduceAdd,Nat.reduceMul,Nat.reduceMod,Nat.reduceLT,Nat.reduceDiv,Nat.reduceSub,Nat.reduceLeDiff,Int.reduceToNat,Int.reduceLT,Int.reduceLE,reduceCtorEq]; simp [prK]⟩ fun k hk _ => ?_
  have hR:=prK_len (p:=blkB x y z l) (i:=i) (k:=k)
  simp (maxSteps:=2000000) only [go_sem,Nat.reduceBEq,Nat.reduceAdd,Nat.reduceMul,Nat.reduceMod,Nat.reduceLT,Nat.reduceDiv,Nat.reduceSub,Nat.reduceLeDiff,Int.reduceToNat,Int.reduceLT,Int.reduceLE,reduceCtorEq]
  refine ⟨fun hlt2 => ?_, fun hge2 => ?_⟩
  ·have hk':k < y.length:=by omega
   have rx:=rank_len (S.rx i (by omega))
   have ry:=rank_len (S.ry k (by omega))
   have wk : ∀ v ∈ upto (l.length : Int).toNat, CallOk Try.prog 167 (.i v :: [.q [.s n4 (ii l)] 0, .q [.i k] 0, .q [.s n1 (rr x), .s n2 (rr y), .s n3 (ii z)] 0, .q [.i i] 0]) [(0, .b (decide (l.getD v.toNat 0 = k) && prefB (y.getD k []) i v))] := fun v hv => by
    simp only [upto,List.mem_map,List.mem_range] at hv
    obtain ⟨o,ho,rfl⟩:=hv
    exact impl_blocks1_ok x y z l i k o (by omega) hk' (by omega)
   have hs:prK (blkB x y z l) i (k + 1) = prK (blkB x y z l) i k ++ if blkB x y z l i k = true then [[(i:Int),(k:Int)]] else []:=rfl
   have yes : blkB x y z l i k = true → (prI (blkB x y z l) y.length i ++ prK (blkB x y z l) i k).length ≤ 1099511627775 ∧ inR ((k : Int) + 1) ∧ k < y.length ∧ T.leL (rr (prI (blkB x y z l) y.length i ++ prK (blkB x y z l) i k) ++ [T.s (some false) [T.i i, T.i k]]) (rr (prI (blkB x y z l) y.length i ++ prK (blkB x y z l) i (k + 1))) ∧ (k : Int) + 1 = ((k + 1 : Nat) : Int) := fun h => ⟨by rw [List.length_append]; omega, inR_of (by omega) (by omega), by omega, by
    show T.leL (rr _ ++ [.s (some false) (ii [(i:Int),(k:Int)])]) _
    rw [leL_rr_app1,hs,if_pos h,List.append_assoc],by simp⟩
   have no:blkB x y z l i k = false → inR ((k:Int) + 1) ∧ k < y.length ∧ prI (blkB x y z l) y.length i ++ prK (blkB x y z l) i k = prI (blkB x y z l) y.length i ++ prK (blkB x y z l) i (k + 1) ∧ (k:Int) + 1 = ((k + 1:Nat):Int):=fun h => ⟨inR_of (by omega) (by omega),by omega,by rw [hs,if_neg (by rw [h]; simp),List.append_nil],by simp⟩
   refine ⟨fun a => ⟨by omega, by omega, by omega, ?_⟩, fun a => ?_⟩
   ·refine ⟨_,impl_Prefers_ok (x.getD i []) _ _ (by omega),?_⟩; simp (maxSteps:=2000000) only [go_sem,Nat.reduceBEq,Nat.reduceAdd,Nat.reduceMul,Nat.reduceMod,Nat.reduceLT,Nat.reduceDiv,Nat.reduceSub,Nat.reduceLeDiff,Int.reduceToNat,Int.reduceLT,Int.reduceLE,reduceCtorEq]
    refine ⟨fun h1 => ?_, fun h1 => ?_⟩
    ·exact no (by rw [blkB,decide_eq_false (by omega),h1]; rfl)
    ·have hb2:blkB x y z l i k = wantsB y z l i k:=by rw [blkB,h1,Bool.or_true,Bool.true_and]
     refine ⟨_,impl_School_filled_ok x y z l (by omega) (by omega) (fun i hi => (hb i hi).2),?_⟩; simp (maxSteps:=2000000) only [go_sem,Nat.reduceBEq,Nat.reduceAdd,Nat.reduceMul,Nat.reduceMod,Nat.reduceLT,Nat.reduceDiv,Nat.reduceSub,Nat.reduceLeDiff,Int.reduceToNat,Int.reduceLT,Int.reduceLE,reduceCtorEq]
     have e0:filN y.length l l.length = filF y.length l:=rfl
     have hfl:=filF_len (c:=y.length) (l:=l)
     rw [e0]
     refine ⟨by omega, by omega, by omega, by omega, by omega, by omega, fun h2 => ?_, fun h2 => ?_⟩
     ·refine ⟨_,indices_ok (l.length:Int) (by omega) (by omega),?_⟩; simp (maxSteps:=2000000) only [go_sem,Nat.reduceBEq,Nat.reduceAdd,Nat.reduceMul,Nat.reduceMod,Nat.reduceLT,Nat.reduceDiv,Nat.reduceSub,Nat.reduceLeDiff,Int.reduceToNat,Int.reduceLT,Int.reduceLE,reduceCtorEq]
      have hup:(upto (l.length:Int).toNat).length ≤ 1048576:=by rw [upto_len]; omega
      refine ⟨_,ContainsFuncI (fun v => decide (l.getD v.toNat 0 = k) && prefB (y.getD k []) i v) (fun v hv => wk v hv) hup,?_⟩; simp (maxSteps:=2000000) only [go_sem,Nat.reduceBEq,Nat.reduceAdd,Nat.reduceMul,Nat.reduceMod,Nat.reduceLT,Nat.reduceDiv,Nat.reduceSub,Nat.reduceLeDiff,Int.reduceToNat,Int.reduceLT,Int.reduceLE,reduceCtorEq]
      have hW : ((upto l.length).any fun v => decide (l.getD v.toNat 0 = k) && prefB (y.getD k []) i v) = wantsB y z l i k := by
       rw [wantsB,decide_eq_false h2,Bool.false_or,upto,List.any_map]; rfl
      rw [hW]
      exact ⟨fun h3 => ⟨by simp,yes (hb2.trans h3)⟩,fun h3 => no (hb2.trans h3)⟩
     ·exact ⟨by simp,yes (hb2.trans (by rw [wantsB,decide_eq_true h2,Bool.true_or]))⟩
   ·have hb2:blkB x y z l i k = wantsB y z l i k:=by rw [blkB,decide_eq_true (by omega),Bool.true_or,Bool.true_and]
    refine ⟨_,impl_School_filled_ok x y z l (by omega) (by omega) (fun i hi => (hb i hi).2),?_⟩; simp (maxSteps:=2000000) only [go_sem,Nat.reduceBEq,Nat.reduceAdd,Nat.reduceMul,Nat.reduceMod,Nat.reduceLT,Nat.reduceDiv,Nat.reduceSub,Nat.reduceLeDiff,Int.reduceToNat,Int.reduceLT,Int.reduceLE,reduceCtorEq]
    have e0:filN y.length l l.length = filF y.length l:=rfl
    have hfl:=filF_len (c:=y.length) (l:=l)
    rw [e0]
    refine ⟨by omega, by omega, by omega, by omega, by omega, by omega, fun h2 => ?_, fun h2 => ?_⟩
    ·refine ⟨_,indices_ok (l.length:Int) (by omega) (by omega),?_⟩; simp (maxSteps:=2000000) only [go_sem,Nat.reduceBEq,Nat.reduceAdd,Nat.reduceMul,Nat.reduceMod,Nat.reduceLT,Nat.reduceDiv,Nat.reduceSub,Nat.reduceLeDiff,Int.reduceToNat,Int.reduceLT,Int.reduceLE,reduceCtorEq]
     have hup:(upto (l.length:Int).toNat).length ≤ 1048576:=by rw [upto_len]; omega
     refine ⟨_,ContainsFuncI (fun v => decide (l.getD v.toNat 0 = k) && prefB (y.getD k []) i v) (fun v hv => wk v hv) hup,?_⟩; simp (maxSteps:=2000000) only [go_sem,Nat.reduceBEq,Nat.reduceAdd,Nat.reduceMul,Nat.reduceMod,Nat.reduceLT,Nat.reduceDiv,Nat.reduceSub,Nat.reduceLeDiff,Int.reduceToNat,Int.reduceLT,Int.reduceLE,reduceCtorEq]
     have hW : ((upto l.length).any fun v => decide (l.getD v.toNat 0 = k) && prefB (y.getD k []) i v) = wantsB y z l i k := by
      rw [wantsB,decide_eq_false h2,Bool.false_or,upto,List.any_map]; rfl
     rw [hW]
     exact ⟨fun h3 => ⟨by simp,yes (hb2.trans h3)⟩,fun h3 => no (hb2.trans h3)⟩
    ·exact ⟨by simp,yes (hb2.trans (by rw [wantsB,decide_eq_true h2,Bool.true_or]))⟩
  ·have:k = y.length:=by omega
   subst this
   exact ⟨inR_of (by omega) (by omega),hi',rfl,by simp⟩
 ·have:i = l.length:=by omega
  rw [this,hl]
def blocksF (x y:List (List Int)) (z l:List Int):List (List Int):=if entryB x y z l = true then prI (blkB x y z l) y.length x.length else []
theorem impl_EntryBlocks_ok {n1 n2 n3 n4 : Option Bool} (x y : List (List Int)) (z l : List Int) (hx : x.length ≤ 1048576) (kx : ∀ r ∈ x, r.length ≤ 1048576) (hy : y.length ≤ 1048576) (ky : ∀ r ∈ y, r.length ≤ 1048576) (hz : z.length ≤ 1048576) (hl : l.length ≤ 1048576) :
  CallOk Try.prog 37 [.a [.s n1 (rr x),.s n2 (rr y),.s n3 (ii z)],.s n4 (ii l)] [(0,.own 1 none (rr (blocksF x y z l)))]:=by
 obtain ⟨code0,hcd1,hcd2⟩:=chk_impl_EntryBlocks; refine callOk_of Try.func37 hcd1 mo Try.call37 (rs:=[4]) (by kernel_rfl) hcd2 (by rw [Try.ntmps37]; simp) (by simp) (by decide) ?_; unfold C_impl_EntryBlocks K_impl_EntryBlocks; simp (maxSteps:=2000000) only [go_sem,Nat.reduceBEq,Nat.reduceAdd,Nat.reduceMul,Nat.reduceMod,Nat.reduceLT,Nat.reduceDiv,Nat.reduceSub,Nat.reduceLeDiff,Int.reduceToNat,Int.reduceLT,Int.reduceLE,reduceCtorEq]
 refine ⟨_,impl_EntryOk_ok x y z l hx kx hy ky hz hl,?_⟩; simp (maxSteps:=2000000) only [go_sem,Nat.reduceBEq,Nat.reduceAdd,Nat.reduceMul,Nat.reduceMod,Nat.reduceLT,Nat.reduceDiv,Nat.reduceSub,Nat.reduceLeDiff,Int.reduceToNat,Int.reduceLT,Int.reduceLE,reduceCtorEq]
 refine ⟨fun h => by simp [blocksF,h],fun h => ?_⟩
 refine ⟨_,impl_blocks_ok x y z l h,?_⟩; simp (maxSteps:=2000000) only [go_sem,Nat.reduceBEq,Nat.reduceAdd,Nat.reduceMul,Nat.reduceMod,Nat.reduceLT,Nat.reduceDiv,Nat.reduceSub,Nat.reduceLeDiff,Int.reduceToNat,Int.reduceLT,Int.reduceLE,reduceCtorEq]
 simp [blocksF,h]
end Go.Proofs.Ytgdpplhbblapgaa
