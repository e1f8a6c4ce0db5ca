/- Own work: contracts of functions. No condition beyond those that each theorem names. -/
import Derived.Test.YtllcbempbdibhaaProg
import Derived.Test.YtllcbempbdibhaaMkt
import Derived.Test.YtllcbempbdibhaaLeast
import Derived.Test.YtllcbempbdibhaaPropose
namespace Go.Proofs.Ytllcbempbdibhaa
open Go Go.Vc
set_option maxRecDepth 100000
set_option linter.unusedSimpArgs false
set_option linter.unusedVariables false
def K_impl_AtLeastAsGood:List Nat:=[0,1,2,3,6,7,19,20,1003,2003]
def C_impl_AtLeastAsGood : C :=
 let ks:=K_impl_AtLeastAsGood
 (.seq
  (.rg 0 [(none,.v 3 .boxS [.s 0]),(none,.v 6 .mv [.k (.b false)])])
  (.cl ks (.seq
  (.seq
  (.rg 0 [(none,.v 8 (.lds 2) [.s 3]),(none,.v 9 .mv [.s 1]),(none,.co 10 64 [.s 8,.s 9]),(none,.v 11 .not [.s 10]),(none,.v 12 .mv [.s 11]),(some (12,false),.v 13 (.lds 2) [.s 3]),(some (12,false),.v 14 .mv [.s 2]),(some (12,false),.co 15 64 [.s 13,.s 14]),(some (12,false),.v 16 .not [.s 15]),(none,.v 17 .pick [.s 12,.k (.b true),.s 16])])
  (.cond (.s 17)
  (.seq
  (.rg 0 [(none,.v 6 .mv [.k (.b false)])])
  .ret)
  .skip))
  (.cl ks (.seq
  (.seq
  (.rg 0 [(none,.v 18 .mv [.s 1]),(none,.v 19 .len [.s 18]),(none,.v 20 .mv [.k (.i 0)])])
  (.cl ks (.block 0
  (.loop
  (.seq
  (.rg 0 [(none,.v 21 (.bin .lss) [.s 20,.s 19])])
  (.seq
  (.cond (.s 21)
  .skip
  (.exit 0))
  (.cl ks (.seq
  (.block 1
  (.seq
  (.rg 0 [(none,.v 22 .mv [.s 20]),(none,.tk 7 22)])
  (.cl ks (.seq
  (.rg 13 [(none,.v 23 (.fa 0) [.s 3]),(none,.v 24 .ld [.s 23]),(none,.v 25 .mv [.s 7]),(none,.v 26 .idx [.s 24,.s 25]),(none,.v 27 .ld [.s 26]),(none,.v 28 .mv [.s 2]),(none,.v 29 .mv [.s 7]),(none,.v 30 .idx [.s 28,.s 29]),(none,.v 31 .ld [.s 30]),(none,.v 32 .mv [.s 1]),(none,.v 33 .mv [.s 7]),(none,.v 34 .idx [.s 32,.s 33]),(none,.v 35 .ld [.s 34]),(none,.co 36 61 [.s 27,.s 31,.s 35])])
  (.cond (.s 36)
  (.seq
  (.rg 0 [(none,.v 6 .mv [.k (.b false)])])
  .ret)
  .skip)))))
  (.cl ks (.rg 0 [(none,.v 37 (.bin .add) [.s 20,.k (.i 1)]),(none,.v 20 .mv [.s 37])]))))))))))
  (.cl ks (.seq
  (.rg 0 [(none,.v 6 .mv [.k (.b true)])])
  .ret)))))))
theorem chk_impl_AtLeastAsGood:∃ b,Try.f22.body = some b ∧ chk Try.prog Try.f22.ntmps true C_impl_AtLeastAsGood b = true:=⟨_,rfl,by kernel_rfl⟩
def K_impl_isRanking:List Nat:=[0,2]
def C_impl_isRanking : C :=
 let ks:=K_impl_isRanking
 (.seq
  (.rg 0 [(none,.v 2 .mv [.k (.b false)])])
  (.cl ks (.seq
  (.rg 0 [(none,.v 3 .mv [.s 0]),(none,.v 4 .len [.s 3]),(none,.v 5 .mv [.s 0]),(none,.co 6 101 [.s 4,.s 5]),(none,.tk 2 6)])
  .ret)))
theorem chk_impl_isRanking:∃ b,Try.f65.body = some b ∧ chk Try.prog Try.f65.ntmps true C_impl_isRanking b = true:=⟨_,rfl,by kernel_rfl⟩
def K_impl_TurnMatching:List Nat:=[0,2,3,4,5,12,13,14]
def C_impl_TurnMatching : C :=
 let ks:=K_impl_TurnMatching
 (.seq
  (.rg 0 [(none,.mkn 2)])
  (.cl ks (.seq
  (.seq
  (.rg 0 [(none,.v 6 .mv [.s 0]),(none,.co 7 65 [.s 6]),(none,.v 8 .not [.s 7])])
  (.cond (.s 8)
  (.seq
  (.rg 0 [(none,.mkn 2)])
  .ret)
  .skip))
  (.cl ks (.seq
  (.rg 0 [(none,.v 9 .mv [.s 0]),(none,.v 10 .len [.s 9]),(none,.mk 11 (.i 0) (.s 10) (.s 10)),(none,.tk 3 11)])
  (.cl ks (.seq
  (.seq
  (.rg 0 [(none,.v 12 .mv [.s 0]),(none,.v 13 .len [.s 12]),(none,.v 14 .mv [.k (.i 0)])])
  (.cl ks (.block 0
  (.loop
  (.seq
  (.rg 0 [(none,.v 15 (.bin .lss) [.s 14,.s 13])])
  (.seq
  (.cond (.s 15)
  .skip
  (.exit 0))
  (.cl ks (.seq
  (.block 1
  (.seq
  (.rg 0 [(none,.v 16 .mv [.s 14]),(none,.v 17 .idx [.s 12,.s 14]),(none,.v 18 .ld [.s 17]),(none,.tk 4 16),(none,.tk 5 18)])
  (.cl ks (.rg 0 [(none,.v 19 .mv [.s 3]),(none,.v 20 .mv [.s 5]),(none,.v 21 .mv [.s 4]),(none,.v 22 .idx [.s 19,.s 20]),(none,.st (.s 22) (.s 21))]))))
  (.cl ks (.rg 0 [(none,.v 23 (.bin .add) [.s 14,.k (.i 1)]),(none,.v 14 .mv [.s 23])]))))))))))
  (.cl ks (.seq
  (.rg 0 [(none,.v 24 .mv [.s 3]),(none,.tk 2 24)])
  .ret)))))))))
theorem chk_impl_TurnMatching:∃ b,Try.f23.body = some b ∧ chk Try.prog Try.f23.ntmps true C_impl_TurnMatching b = true:=⟨_,rfl,by kernel_rfl⟩
def goodB (x y:List (List Int)) (a b:List Int):Bool:=matchB x y a && matchB x y b && (List.range x.length).all fun i => !prefB (x.getD i []) (b.getD i 0) (a.getD i 0)
theorem impl_AtLeastAsGood_ok {n1 n2 n3 n4 : Option Bool} (x y : List (List Int)) (a b : List Int) (hx : x.length ≤ 1048576) (kx : ∀ r ∈ x, r.length ≤ 1048576) (hy : y.length ≤ 1048576) (ky : ∀ r ∈ y, r.length ≤ 1048576) (ha : a.length ≤ 1048576) (hb : b.length ≤ 1048576) :
  CallOk Try.prog 22 [.a [.s n1 (rr x),.s n2 (rr y)],.s n3 (ii a),.s n4 (ii b)] [(0,.b (goodB x y a b))]:=by
 obtain ⟨code0,hcd1,hcd2⟩:=chk_impl_AtLeastAsGood; refine callOk_of Try.func22 hcd1 mo Try.call22 (rs:=[6]) (by kernel_rfl) hcd2 (by rw [Try.ntmps22]; simp) (by simp) (by decide) ?_; unfold C_impl_AtLeastAsGood K_impl_AtLeastAsGood; simp (maxSteps:=2000000) only [go_sem,Nat.reduceBEq,Nat.reduceAdd,Nat.reduceMul,Nat.reduceMod,Nat.reduceLT,Nat.reduceDiv,Nat.reduceSub,Nat.reduceLeDiff,Int.reduceToNat,Int.reduceLT,Int.reduceLE,reduceCtorEq]
 refine ⟨_,impl_IsMatching_ok x y a hx kx hy ky ha,?_⟩; simp (maxSteps:=2000000) only [go_sem,Nat.reduceBEq,Nat.reduceAdd,Nat.reduceMul,Nat.reduceMod,Nat.reduceLT,Nat.reduceDiv,Nat.reduceSub,Nat.reduceLeDiff,Int.reduceToNat,Int.reduceLT,Int.reduceLE,reduceCtorEq]
 refine ⟨fun h0 => ?_,fun h0 => by simp [goodB,h0]⟩
 refine ⟨_,impl_IsMatching_ok x y b hx kx hy ky hb,?_⟩; simp (maxSteps:=2000000) only [go_sem,Nat.reduceBEq,Nat.reduceAdd,Nat.reduceMul,Nat.reduceMod,Nat.reduceLT,Nat.reduceDiv,Nat.reduceSub,Nat.reduceLeDiff,Int.reduceToNat,Int.reduceLT,Int.reduceLE,reduceCtorEq]
 refine ⟨fun h1 => by simp [goodB,h1],fun h1 => ?_⟩
 have h0':=h0
 have h1':=h1
 simp only [matchB,Bool.and_eq_true] at h0' h1'
 have M:=mk_of h0'.1
 have hla:=rank_len h0'.2
 have hlb:=rank_len h1'.2
 have n5:=M.m.n5
 have hG:goodB x y a b = (List.range x.length).all fun i => !prefB (x.getD i []) (b.getD i 0) (a.getD i 0):=by simp [goodB,h0,h1]
 rw [hG]
 refine loopN a.length (fun j => [(0,.t .arg (.a [.s n1 (rr x),.s n2 (rr y)])),(1,.t .arg (.s n3 (ii a))),(2,.t .arg (.s n4 (ii b))),(3,.t .arg (.q [.s n1 (rr x),.s n2 (rr y)] 0)),(19,.i a.length),(20,.i (j:Nat))]) (fun j => ∀ q,q < j → prefB (x.getD q []) (b.getD q 0) (a.getD q 0) = false) ⟨by simp,by simp (maxSteps:=2000000) only [go_sem,Nat.reduceBEq,Nat.reduceAdd,Nat.reduceMul,Nat.reduceMod,Nat.reduceLT,Nat.reduceDiv,Nat.reduceSub,Nat.reduceLeDiff,Int.reduceToNat,Int.reduceLT,Int.reduceLE,reduceCtorEq]; simp⟩ fun j hj hI => ?_
 simp (maxSteps:=2000000) only [go_sem,Nat.reduceBEq,Nat.reduceAdd,Nat.reduceMul,Nat.reduceMod,Nat.reduceLT,Nat.reduceDiv,Nat.reduceSub,Nat.reduceLeDiff,Int.reduceToNat,Int.reduceLT,Int.reduceLE,reduceCtorEq]
 refine ⟨fun hlt => ?_, fun hge => ?_⟩
 ·have hj':j < a.length:=by omega
  have hr:=rank_len (M.m.rk j (by omega))
  refine ⟨by omega,by omega,by omega,by omega,by omega,by omega,by omega,by omega,by omega,?_⟩
  refine ⟨_,impl_Prefers_ok (x.getD j []) (b.getD j 0) (a.getD j 0) (by omega),?_⟩; simp (maxSteps:=2000000) only [go_sem,Nat.reduceBEq,Nat.reduceAdd,Nat.reduceMul,Nat.reduceMod,Nat.reduceLT,Nat.reduceDiv,Nat.reduceSub,Nat.reduceLeDiff,Int.reduceToNat,Int.reduceLT,Int.reduceLE,reduceCtorEq]
  refine ⟨fun h => ?_, fun h => ?_⟩
  ·rw [eq_comm,List.all_eq_false]
   exact ⟨j,List.mem_range.2 (by omega),by rw [h]; simp⟩
  ·exact ⟨inR_of (by omega) (by omega), hj', fun q hq => by
    by_cases e : q = j
    ·subst e; exact h
    ·exact hI q (by omega),by simp⟩
 ·have:j = a.length:=by omega
  subst this
  rw [eq_comm,List.all_eq_true]
  intro q hq
  rw [hI q (by have:=List.mem_range.1 hq; omega)]; rfl
def invK (l : List Int) : Nat → List Int
 | 0 => List.replicate l.length 0
 | k + 1 => (invK l k).set (l.getD k 0).toNat k
theorem invK_len {l : List Int} : ∀ {k : Nat}, (invK l k).length = l.length
 | 0 => by simp [invK]
 | k + 1 => by simp only [invK,List.length_set]; exact invK_len
def invL (l:List Int):List Int:=if rankB l.length l = true then invK l l.length else []
theorem impl_isRanking_ok {n1 : Option Bool} (l : List Int) (hl : l.length ≤ 1048576) : CallOk Try.prog 65 [.s n1 (ii l)] [(0, .b (rankB l.length l))] := by
 obtain ⟨code0,hcd1,hcd2⟩:=chk_impl_isRanking; refine callOk_of Try.func65 hcd1 mo Try.call65 (rs:=[2]) (by kernel_rfl) hcd2 (by rw [Try.ntmps65]; simp) (by simp) (by decide) ?_; unfold C_impl_isRanking K_impl_isRanking; simp (maxSteps:=2000000) only [go_sem,Nat.reduceBEq,Nat.reduceAdd,Nat.reduceMul,Nat.reduceMod,Nat.reduceLT,Nat.reduceDiv,Nat.reduceSub,Nat.reduceLeDiff,Int.reduceToNat,Int.reduceLT,Int.reduceLE,reduceCtorEq]
 refine ⟨_,impl_RankingOk_ok (l.length:Int) l hl,?_⟩; simp (maxSteps:=2000000) only [go_sem,Nat.reduceBEq,Nat.reduceAdd,Nat.reduceMul,Nat.reduceMod,Nat.reduceLT,Nat.reduceDiv,Nat.reduceSub,Nat.reduceLeDiff,Int.reduceToNat,Int.reduceLT,Int.reduceLE,reduceCtorEq]
theorem impl_TurnMatching_ok {n1 : Option Bool} (l : List Int) (hl : l.length ≤ 1048576) :
  CallOk Try.prog 23 [.s n1 (ii l)] [(0,.own 1 none (ii (invL l)))]:=by
 obtain ⟨code0,hcd1,hcd2⟩:=chk_impl_TurnMatching; refine callOk_of Try.func23 hcd1 mo Try.call23 (rs:=[2]) (by kernel_rfl) hcd2 (by rw [Try.ntmps23]; simp) (by simp) (by decide) ?_; unfold C_impl_TurnMatching K_impl_TurnMatching; simp (maxSteps:=2000000) only [go_sem,Nat.reduceBEq,Nat.reduceAdd,Nat.reduceMul,Nat.reduceMod,Nat.reduceLT,Nat.reduceDiv,Nat.reduceSub,Nat.reduceLeDiff,Int.reduceToNat,Int.reduceLT,Int.reduceLE,reduceCtorEq]
 refine ⟨_,impl_isRanking_ok l hl,?_⟩; simp (maxSteps:=2000000) only [go_sem,Nat.reduceBEq,Nat.reduceAdd,Nat.reduceMul,Nat.reduceMod,Nat.reduceLT,Nat.reduceDiv,Nat.reduceSub,Nat.reduceLeDiff,Int.reduceToNat,Int.reduceLT,Int.reduceLE,reduceCtorEq]
 refine ⟨fun h0 => by simp [invL,h0],fun h0 => ?_⟩
 have hL:invL l = invK l l.length:=if_pos h0
 rw [hL]
 refine ⟨by omega,by omega,?_⟩
 refine loopN l.length (fun j => [(0,.t .arg (.s n1 (ii l))),(3,.own 1 none (ii (invK l j))),(12,.t .arg (.s n1 (ii l))),(13,.i l.length),(14,.i (j:Nat))]) (fun _ => True) ⟨trivial,by simp (maxSteps:=2000000) only [go_sem,Nat.reduceBEq,Nat.reduceAdd,Nat.reduceMul,Nat.reduceMod,Nat.reduceLT,Nat.reduceDiv,Nat.reduceSub,Nat.reduceLeDiff,Int.reduceToNat,Int.reduceLT,Int.reduceLE,reduceCtorEq]; simp [invK]⟩ fun j hj _ => ?_
 have hkl:=invK_len (l:=l) (k:=j)
 have hs:invK l (j + 1) = (invK l j).set (l.getD j 0).toNat j:=rfl
 simp (maxSteps:=2000000) only [go_sem,Nat.reduceBEq,Nat.reduceAdd,Nat.reduceMul,Nat.reduceMod,Nat.reduceLT,Nat.reduceDiv,Nat.reduceSub,Nat.reduceLeDiff,Int.reduceToNat,Int.reduceLT,Int.reduceLE,reduceCtorEq]
 refine ⟨fun hlt => ?_, fun hge => ?_⟩
 ·have hj':j < l.length:=by omega
  have hb:=rank_bd h0 hj'
  exact ⟨by omega,hj',hj',by omega,by omega,by omega,inR_of (by omega) (by omega),hj',hs.symm,by simp⟩
 ·have:j = l.length:=by omega
  subst this
  rfl
end Go.Proofs.Ytllcbempbdibhaa
