/- Own work: contracts of functions. No condition beyond those that each theorem names. -/
import Derived.Test.YtllcbempbdibhaaProg
import Derived.Test.YtllcbempbdibhaaSmall
namespace Go.Proofs.Ytllcbempbdibhaa
open Go Go.Vc
set_option maxRecDepth 100000
set_option linter.unusedSimpArgs false
set_option linter.unusedVariables false
def K_slices_Index_Sint_int:List Nat:=[0,1,4,5,7,8]
def C_slices_Index_Sint_int : C :=
 let ks:=K_slices_Index_Sint_int
 (.seq
  (.rg 0 [(none,.v 4 .mv [.k (.i 0)])])
  (.cl ks (.seq
  (.seq
  (.rg 0 [(none,.v 6 .mv [.s 0]),(none,.v 7 .len [.s 6]),(none,.v 8 .mv [.k (.i 0)])])
  (.cl ks (.block 0
  (.loop
  (.seq
  (.rg 0 [(none,.v 9 (.bin .lss) [.s 8,.s 7])])
  (.seq
  (.cond (.s 9)
  .skip
  (.exit 0))
  (.cl ks (.seq
  (.block 1
  (.seq
  (.rg 0 [(none,.v 10 .mv [.s 8]),(none,.tk 5 10)])
  (.cl ks (.seq
  (.rg 0 [(none,.v 11 .mv [.s 1]),(none,.v 12 .mv [.s 0]),(none,.v 13 .mv [.s 5]),(none,.v 14 .idx [.s 12,.s 13]),(none,.v 15 .ld [.s 14]),(none,.v 16 (.bin .eql) [.s 11,.s 15])])
  (.cond (.s 16)
  (.seq
  (.rg 0 [(none,.v 17 .mv [.s 5]),(none,.tk 4 17)])
  .ret)
  .skip)))))
  (.cl ks (.rg 0 [(none,.v 18 (.bin .add) [.s 8,.k (.i 1)]),(none,.v 8 .mv [.s 18])]))))))))))
  (.cl ks (.seq
  (.rg 0 [(none,.v 4 .mv [.k (.i (-1))])])
  .ret)))))
theorem chk_slices_Index_Sint_int:∃ b,Try.f73.body = some b ∧ chk Try.prog Try.f73.ntmps true C_slices_Index_Sint_int b = true:=⟨_,rfl,by kernel_rfl⟩
def K_slices_Contains_Sint_int:List Nat:=[0,1,4]
def C_slices_Contains_Sint_int : C :=
 let ks:=K_slices_Contains_Sint_int
 (.seq
  (.rg 0 [(none,.v 4 .mv [.k (.b false)])])
  (.cl ks (.seq
  (.rg 0 [(none,.v 5 .mv [.s 0]),(none,.v 6 .mv [.s 1]),(none,.co 7 73 [.s 5,.s 6]),(none,.v 8 (.bin .geq) [.s 7,.k (.i 0)]),(none,.tk 4 8)])
  .ret)))
theorem chk_slices_Contains_Sint_int:∃ b,Try.f82.body = some b ∧ chk Try.prog Try.f82.ntmps true C_slices_Contains_Sint_int b = true:=⟨_,rfl,by kernel_rfl⟩
theorem IndexI {nl : Option Bool} (xs : List Int) (v : Int) (hl : xs.length ≤ 1048576) : CallOk Try.prog 73 [.s nl (ii xs), .i v] [(0, .i (idxP (fun x => decide (v = x)) xs))] := by
 obtain ⟨code0,hcd1,hcd2⟩:=chk_slices_Index_Sint_int; refine callOk_of Try.func73 hcd1 mo Try.call73 (rs:=[4]) (by kernel_rfl) hcd2 (by rw [Try.ntmps73]; simp) (by simp) (by decide) ?_; unfold C_slices_Index_Sint_int K_slices_Index_Sint_int; simp (maxSteps:=2000000) only [go_sem,Nat.reduceBEq,Nat.reduceAdd,Nat.reduceMul,Nat.reduceMod,Nat.reduceLT,Nat.reduceDiv,Nat.reduceSub,Nat.reduceLeDiff,Int.reduceToNat,Int.reduceLT,Int.reduceLE,reduceCtorEq]
 refine loopN xs.length (fun j => [(0,.t .arg (.s nl (ii xs))),(1,.i v),(7,.i xs.length),(8,.i (j:Nat))]) (fun j => ∀ i,i < j → decide (v = xs.getD i 0) = false) ⟨by simp,by simp (maxSteps:=2000000) only [go_sem,Nat.reduceBEq,Nat.reduceAdd,Nat.reduceMul,Nat.reduceMod,Nat.reduceLT,Nat.reduceDiv,Nat.reduceSub,Nat.reduceLeDiff,Int.reduceToNat,Int.reduceLT,Int.reduceLE,reduceCtorEq]; simp⟩ fun j hj hI => ?_
 simp (maxSteps:=2000000) only [go_sem,Nat.reduceBEq,Nat.reduceAdd,Nat.reduceMul,Nat.reduceMod,Nat.reduceLT,Nat.reduceDiv,Nat.reduceSub,Nat.reduceLeDiff,Int.reduceToNat,Int.reduceLT,Int.reduceLE,reduceCtorEq]
 refine ⟨fun hlt => ?_, fun hge => ?_⟩
 ·have hj':j < xs.length:=by omega
  refine ⟨by omega, by omega, by omega, fun hp => ?_, fun hp => ⟨inR_of (by omega) (by omega), hj', fun i hi => ?_, by simp⟩⟩
  ·exact (idxP_hit hj' (by simpa using hp) hI).symm
  ·by_cases e : i = j
   ·rw [e]; simpa using hp
   ·simpa using hI i (by omega)
 ·have:j = xs.length:=by omega
  subst this
  exact (idxP_miss hI).symm
theorem ContainsI {nl : Option Bool} (xs : List Int) (v : Int) (hl : xs.length ≤ 1048576) : CallOk Try.prog 82 [.s nl (ii xs), .i v] [(0, .b (xs.any fun x => decide (v = x)))] := by
 obtain ⟨code0,hcd1,hcd2⟩:=chk_slices_Contains_Sint_int; refine callOk_of Try.func82 hcd1 mo Try.call82 (rs:=[4]) (by kernel_rfl) hcd2 (by rw [Try.ntmps82]; simp) (by simp) (by decide) ?_; unfold C_slices_Contains_Sint_int K_slices_Contains_Sint_int; simp (maxSteps:=2000000) only [go_sem,Nat.reduceBEq,Nat.reduceAdd,Nat.reduceMul,Nat.reduceMod,Nat.reduceLT,Nat.reduceDiv,Nat.reduceSub,Nat.reduceLeDiff,Int.reduceToNat,Int.reduceLT,Int.reduceLE,reduceCtorEq]
 refine ⟨_,IndexI xs v hl,?_⟩; simp (maxSteps:=2000000) only [go_sem,Nat.reduceBEq,Nat.reduceAdd,Nat.reduceMul,Nat.reduceMod,Nat.reduceLT,Nat.reduceDiv,Nat.reduceSub,Nat.reduceLeDiff,Int.reduceToNat,Int.reduceLT,Int.reduceLE,reduceCtorEq]
 exact idxP_any
def K_impl_RankingOk:List Nat:=[0,1,4,5,6,16,17,18]
def C_impl_RankingOk : C :=
 let ks:=K_impl_RankingOk
 (.seq
  (.rg 0 [(none,.v 4 .mv [.k (.b false)])])
  (.cl ks (.seq
  (.seq
  (.rg 0 [(none,.v 7 .mv [.s 0]),(none,.co 8 47 [.s 7,.k (.i 1),.k (.i 5)]),(none,.v 9 .not [.s 8]),(none,.v 10 .mv [.s 9]),(some (10,false),.v 11 .mv [.s 1]),(some (10,false),.v 12 .len [.s 11]),(some (10,false),.v 13 .mv [.s 0]),(some (10,false),.v 14 (.bin .neq) [.s 12,.s 13]),(none,.v 15 .pick [.s 10,.k (.b true),.s 14])])
  (.cond (.s 15)
  (.seq
  (.rg 0 [(none,.v 4 .mv [.k (.b false)])])
  .ret)
  .skip))
  (.cl ks (.seq
  (.seq
  (.rg 0 [(none,.v 16 .mv [.s 1]),(none,.v 17 .len [.s 16]),(none,.v 18 .mv [.k (.i 0)])])
  (.cl ks (.block 0
  (.loop
  (.seq
  (.rg 0 [(none,.v 19 (.bin .lss) [.s 18,.s 17])])
  (.seq
  (.cond (.s 19)
  .skip
  (.exit 0))
  (.cl ks (.seq
  (.block 1
  (.seq
  (.rg 0 [(none,.v 20 .mv [.s 18]),(none,.v 21 .idx [.s 16,.s 18]),(none,.v 22 .ld [.s 21]),(none,.tk 5 20),(none,.tk 6 22)])
  (.cl ks (.seq
  (.rg 0 [(none,.v 23 .mv [.s 6]),(none,.v 24 .mv [.s 0]),(none,.v 25 (.bin .sub) [.s 24,.k (.i 1)]),(none,.co 26 47 [.s 23,.k (.i 0),.s 25]),(none,.v 27 .not [.s 26]),(none,.v 28 .mv [.s 27]),(some (28,false),.v 29 .mv [.s 1]),(some (28,false),.v 30 .mv [.s 5]),(some (28,false),.v 31 (.sub false true) [.s 29,.s 30]),(some (28,false),.v 32 .mv [.s 6]),(some (28,false),.co 33 82 [.s 31,.s 32]),(none,.v 34 .pick [.s 28,.k (.b true),.s 33])])
  (.cond (.s 34)
  (.seq
  (.rg 0 [(none,.v 4 .mv [.k (.b false)])])
  .ret)
  .skip)))))
  (.cl ks (.rg 0 [(none,.v 35 (.bin .add) [.s 18,.k (.i 1)]),(none,.v 18 .mv [.s 35])]))))))))))
  (.cl ks (.seq
  (.rg 0 [(none,.v 4 .mv [.k (.b true)])])
  .ret)))))))
theorem chk_impl_RankingOk:∃ b,Try.f101.body = some b ∧ chk Try.prog Try.f101.ntmps true C_impl_RankingOk b = true:=⟨_,rfl,by kernel_rfl⟩
def rankAt (m:Int) (l:List Int) (i:Nat):Bool:=inI (l.getD i 0) 0 (m - 1) && !((l.take i).any fun x => decide (l.getD i 0 = x))
def rankB (m:Int) (l:List Int):Bool:=inI m 1 5 && decide ((l.length:Int) = m) && (List.range l.length).all fun i => rankAt m l i
theorem impl_RankingOk_ok {nl : Option Bool} (m : Int) (l : List Int) (hl : l.length ≤ 1048576) : CallOk Try.prog 101 [.i m, .s nl (ii l)] [(0, .b (rankB m l))] := by
 obtain ⟨code0,hcd1,hcd2⟩:=chk_impl_RankingOk; refine callOk_of Try.func101 hcd1 mo Try.call101 (rs:=[4]) (by kernel_rfl) hcd2 (by rw [Try.ntmps101]; simp) (by simp) (by decide) ?_; unfold C_impl_RankingOk K_impl_RankingOk; simp (maxSteps:=2000000) only [go_sem,Nat.reduceBEq,Nat.reduceAdd,Nat.reduceMul,Nat.reduceMod,Nat.reduceLT,Nat.reduceDiv,Nat.reduceSub,Nat.reduceLeDiff,Int.reduceToNat,Int.reduceLT,Int.reduceLE,reduceCtorEq]
 refine ⟨_,within_ok _ _ _,?_⟩; simp (maxSteps:=2000000) only [go_sem,Nat.reduceBEq,Nat.reduceAdd,Nat.reduceMul,Nat.reduceMod,Nat.reduceLT,Nat.reduceDiv,Nat.reduceSub,Nat.reduceLeDiff,Int.reduceToNat,Int.reduceLT,Int.reduceLE,reduceCtorEq]
 refine ⟨fun h => ⟨fun h1 => ?_,fun h1 => ?_⟩,fun h => ?_⟩
 case refine_3 => simp [-List.getD_eq_getElem?_getD,rankB,h]
 case refine_1 => simp [-List.getD_eq_getElem?_getD,rankB,h1]
 have hm:1 ≤ m ∧ m ≤ 5:=by simpa [inI] using h
 have key:rankB m l = (List.range l.length).all fun i => rankAt m l i:=by simp only [rankB,h,h1,decide_true,Bool.true_and]
 rw [key]
 refine loopN l.length (fun j => [(0,.i m),(1,.t .arg (.s nl (ii l))),(16,.t .arg (.s nl (ii l))),(17,.i l.length),(18,.i (j:Nat))]) (fun j => ∀ i,i < j → rankAt m l i = true) ⟨by simp,by simp (maxSteps:=2000000) only [go_sem,Nat.reduceBEq,Nat.reduceAdd,Nat.reduceMul,Nat.reduceMod,Nat.reduceLT,Nat.reduceDiv,Nat.reduceSub,Nat.reduceLeDiff,Int.reduceToNat,Int.reduceLT,Int.reduceLE,reduceCtorEq]; simp [h1]⟩ fun j hj hI => ?_
 simp (maxSteps:=2000000) only [go_sem,Nat.reduceBEq,Nat.reduceAdd,Nat.reduceMul,Nat.reduceMod,Nat.reduceLT,Nat.reduceDiv,Nat.reduceSub,Nat.reduceLeDiff,Int.reduceToNat,Int.reduceLT,Int.reduceLE,reduceCtorEq]
 refine ⟨fun hlt => ?_,fun hge => ?_⟩
 case refine_2 =>
  have:j = l.length:=by omega
  subst this
  exact (all_range hI).symm
 have hj':j < l.length:=by omega
 have leaf : rankAt m l j = true → inR ((j : Int) + 1) ∧ j < l.length ∧ (∀ i, i < j + 1 → rankAt m l i = true) ∧ (j : Int) + 1 = ((j + 1 : Nat) : Int) := fun hn => ⟨inR_of (by omega) (by omega), hj', fun i hi => by
  by_cases e : i = j
  ·subst e; exact hn
  ·exact hI i (by omega),by simp⟩
 refine ⟨by omega,by omega,by omega,inR_of (by omega) (by omega),?_⟩
 refine ⟨_,within_ok _ _ _,?_⟩; simp (maxSteps:=2000000) only [go_sem,Nat.reduceBEq,Nat.reduceAdd,Nat.reduceMul,Nat.reduceMod,Nat.reduceLT,Nat.reduceDiv,Nat.reduceSub,Nat.reduceLeDiff,Int.reduceToNat,Int.reduceLT,Int.reduceLE,reduceCtorEq]
 have bad:rankAt m l j = false → (false = (List.range l.length).all fun i => rankAt m l i):=fun h => (not_all_range hj' h).symm
 refine ⟨fun h2 => ⟨by unfold subOk; omega, ?_⟩, fun h2 => ?_⟩
 ·refine ⟨_,ContainsI ((l.take j).drop 0) (l.getD j 0) (by rw [List.drop_zero,List.length_take]; omega),?_⟩; simp (maxSteps:=2000000) only [go_sem,Nat.reduceBEq,Nat.reduceAdd,Nat.reduceMul,Nat.reduceMod,Nat.reduceLT,Nat.reduceDiv,Nat.reduceSub,Nat.reduceLeDiff,Int.reduceToNat,Int.reduceLT,Int.reduceLE,reduceCtorEq]
  rw [List.drop_zero]
  refine ⟨fun h3 => bad ?_, fun h3 => leaf ?_⟩
  ·simp only [rankAt,h3,Bool.not_true,Bool.and_false]
  ·simp only [rankAt,h2,h3,Bool.not_false,Bool.and_true]
 ·exact bad (by simp only [rankAt,h2,Bool.false_and])
theorem rank_len {m : Int} {l : List Int} (h : rankB m l = true) : (l.length : Int) = m := by
 simp only [rankB,Bool.and_eq_true,decide_eq_true_eq] at h; exact h.1.2
theorem rank_bd {m : Int} {l : List Int} (h : rankB m l = true) {i : Nat} (hi : i < l.length) : 0 ≤ l.getD i 0 ∧ l.getD i 0 < m := by
 simp only [rankB,Bool.and_eq_true] at h
 have:=all_range_iff.1 h.2 i hi
 simp only [rankAt,inI,Bool.and_eq_true,decide_eq_true_eq] at this
 omega
def K_impl_PlaceOf:List Nat:=[0,1,4]
def C_impl_PlaceOf : C :=
 let ks:=K_impl_PlaceOf
 (.seq
  (.rg 0 [(none,.v 4 .mv [.k (.i 0)])])
  (.cl ks (.seq
  (.rg 0 [(none,.v 5 .mv [.s 0]),(none,.v 6 .mv [.s 1]),(none,.co 7 73 [.s 5,.s 6]),(none,.tk 4 7)])
  .ret)))
theorem chk_impl_PlaceOf:∃ b,Try.f50.body = some b ∧ chk Try.prog Try.f50.ntmps true C_impl_PlaceOf b = true:=⟨_,rfl,by kernel_rfl⟩
def K_impl_Prefers:List Nat:=[0,1,2,6,7,8]
def C_impl_Prefers : C :=
 let ks:=K_impl_Prefers
 (.seq
  (.rg 0 [(none,.v 6 .mv [.k (.b false)])])
  (.cl ks (.seq
  (.rg 0 [(none,.v 9 .mv [.s 0]),(none,.v 10 .mv [.s 1]),(none,.co 11 50 [.s 9,.s 10]),(none,.v 12 .mv [.s 0]),(none,.v 13 .mv [.s 2]),(none,.co 14 50 [.s 12,.s 13]),(none,.tk 7 11),(none,.tk 8 14)])
  (.cl ks (.seq
  (.rg 0 [(none,.v 15 .mv [.s 7]),(none,.v 16 (.bin .geq) [.s 15,.k (.i 0)]),(none,.v 17 .mv [.s 16]),(some (17,true),.v 18 .mv [.s 8]),(some (17,true),.v 19 (.bin .geq) [.s 18,.k (.i 0)]),(none,.v 20 .pick [.s 17,.s 19,.k (.b false)]),(none,.v 21 .mv [.s 20]),(some (21,true),.v 22 .mv [.s 7]),(some (21,true),.v 23 .mv [.s 8]),(some (21,true),.v 24 (.bin .lss) [.s 22,.s 23]),(none,.v 25 .pick [.s 21,.s 24,.k (.b false)]),(none,.tk 6 25)])
  .ret)))))
theorem chk_impl_Prefers:∃ b,Try.f61.body = some b ∧ chk Try.prog Try.f61.ntmps true C_impl_Prefers b = true:=⟨_,rfl,by kernel_rfl⟩
def placeI (l:List Int) (a:Int):Int:=idxP (fun x => decide (x = a)) l
theorem idxP_congr {α : Type} {p q : α → Bool} {xs : List α} (h : ∀ x ∈ xs, p x = q x) : idxP p xs = idxP q xs := by
 have : xs.findIdx? p = xs.findIdx? q := by
  induction xs with
  | nil => rfl
  | cons x xs ih =>
   rw [List.findIdx?_cons,List.findIdx?_cons,h x (by simp),ih fun y hy => h y (by simp [hy])]
 simp only [idxP,this]
theorem placeI_sym {l : List Int} {a : Int} : placeI l a = idxP (fun x => decide (a = x)) l := idxP_congr fun x _ => by
 rw [decide_eq_decide]; exact ⟨fun h => h.symm,fun h => h.symm⟩
theorem impl_PlaceOf_ok {nl : Option Bool} (l : List Int) (a : Int) (hl : l.length ≤ 1048576) : CallOk Try.prog 50 [.s nl (ii l), .i a] [(0, .i (placeI l a))] := by
 obtain ⟨code0,hcd1,hcd2⟩:=chk_impl_PlaceOf; refine callOk_of Try.func50 hcd1 mo Try.call50 (rs:=[4]) (by kernel_rfl) hcd2 (by rw [Try.ntmps50]; simp) (by simp) (by decide) ?_; unfold C_impl_PlaceOf K_impl_PlaceOf; simp (maxSteps:=2000000) only [go_sem,Nat.reduceBEq,Nat.reduceAdd,Nat.reduceMul,Nat.reduceMod,Nat.reduceLT,Nat.reduceDiv,Nat.reduceSub,Nat.reduceLeDiff,Int.reduceToNat,Int.reduceLT,Int.reduceLE,reduceCtorEq]
 refine ⟨_,IndexI l a hl,?_⟩; simp (maxSteps:=2000000) only [go_sem,Nat.reduceBEq,Nat.reduceAdd,Nat.reduceMul,Nat.reduceMod,Nat.reduceLT,Nat.reduceDiv,Nat.reduceSub,Nat.reduceLeDiff,Int.reduceToNat,Int.reduceLT,Int.reduceLE,reduceCtorEq]
 exact placeI_sym.symm
def prefB (l:List Int) (a b:Int):Bool:=decide (0 ≤ placeI l a) && decide (0 ≤ placeI l b) && decide (placeI l a < placeI l b)
theorem impl_Prefers_ok {nl : Option Bool} (l : List Int) (a b : Int) (hl : l.length ≤ 1048576) : CallOk Try.prog 61 [.s nl (ii l), .i a, .i b] [(0, .b (prefB l a b))] := by
 obtain ⟨code0,hcd1,hcd2⟩:=chk_impl_Prefers; refine callOk_of Try.func61 hcd1 mo Try.call61 (rs:=[6]) (by kernel_rfl) hcd2 (by rw [Try.ntmps61]; simp) (by simp) (by decide) ?_; unfold C_impl_Prefers K_impl_Prefers; simp (maxSteps:=2000000) only [go_sem,Nat.reduceBEq,Nat.reduceAdd,Nat.reduceMul,Nat.reduceMod,Nat.reduceLT,Nat.reduceDiv,Nat.reduceSub,Nat.reduceLeDiff,Int.reduceToNat,Int.reduceLT,Int.reduceLE,reduceCtorEq]
 refine ⟨_,impl_PlaceOf_ok l a hl,?_⟩; simp (maxSteps:=2000000) only [go_sem,Nat.reduceBEq,Nat.reduceAdd,Nat.reduceMul,Nat.reduceMod,Nat.reduceLT,Nat.reduceDiv,Nat.reduceSub,Nat.reduceLeDiff,Int.reduceToNat,Int.reduceLT,Int.reduceLE,reduceCtorEq]
 refine ⟨_,impl_PlaceOf_ok l b hl,?_⟩; simp (maxSteps:=2000000) only [go_sem,Nat.reduceBEq,Nat.reduceAdd,Nat.reduceMul,Nat.reduceMod,Nat.reduceLT,Nat.reduceDiv,Nat.reduceSub,Nat.reduceLeDiff,Int.reduceToNat,Int.reduceLT,Int.reduceLE,reduceCtorEq]
 refine ⟨fun h1 => ⟨fun h2 => ?_, fun h2 => ?_⟩, fun h1 => ?_⟩
 ·simp [prefB,h1,h2]
 ·simp [prefB,h2]
 ·simp [prefB,h1]
end Go.Proofs.Ytllcbempbdibhaa
