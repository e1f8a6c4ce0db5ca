/- Own work: contracts of functions. No condition beyond those that each theorem names. -/
import Derived.Test.YtllcbempbdibhaaProg
import Derived.Test.YtllcbempbdibhaaMkt
namespace Go.Proofs.Ytllcbempbdibhaa
open Go Go.Vc
set_option maxRecDepth 100000
set_option linter.unusedSimpArgs false
set_option linter.unusedVariables false
def K_impl_sumOf:List Nat:=[0,2,3,5,6,7,8]
def C_impl_sumOf : C :=
 let ks:=K_impl_sumOf
 (.seq
  (.rg 0 [(none,.v 2 .mv [.k (.i 0)])])
  (.cl ks (.seq
  (.rg 0 [(none,.v 3 .mv [.k (.i 0)])])
  (.cl ks (.seq
  (.seq
  (.rg 0 [(none,.v 6 .mv [.s 0]),(none,.v 7 .len [.s 6]),(none,.v 8 .mv [.k (.i 0)])])
  (.cl ks (.block 0
  (.loop
  (.seq
  (.rg 0 [(none,.v 9 (.bin .lss) [.s 8,.s 7])])
  (.seq
  (.cond (.s 9)
  .skip
  (.exit 0))
  (.cl ks (.seq
  (.block 1
  (.seq
  (.rg 0 [(none,.v 10 .idx [.s 6,.s 8]),(none,.v 11 .ld [.s 10]),(none,.tk 5 11)])
  (.cl ks (.rg 0 [(none,.v 12 .mv [.s 3]),(none,.v 13 .mv [.s 5]),(none,.v 14 (.bin .add) [.s 12,.s 13]),(none,.tk 3 14)]))))
  (.cl ks (.rg 0 [(none,.v 15 (.bin .add) [.s 8,.k (.i 1)]),(none,.v 8 .mv [.s 15])]))))))))))
  (.cl ks (.seq
  (.rg 0 [(none,.v 16 .mv [.s 3]),(none,.tk 2 16)])
  .ret)))))))
theorem chk_impl_sumOf:∃ b,Try.f67.body = some b ∧ chk Try.prog Try.f67.ntmps true C_impl_sumOf b = true:=⟨_,rfl,by kernel_rfl⟩
def K_slices_Max_Sint_int:List Nat:=[0,2,3,4]
def C_slices_Max_Sint_int : C :=
 let ks:=K_slices_Max_Sint_int
 (.seq
  (.rg 0 [(none,.v 2 .mv [.k (.i 0)])])
  (.cl ks (.seq
  (.seq
  (.rg 0 [(none,.v 5 .mv [.s 0]),(none,.v 6 .len [.s 5]),(none,.v 7 (.bin .lss) [.s 6,.k (.i 1)])])
  (.cond (.s 7)
  .no
  .skip))
  (.cl ks (.seq
  (.rg 0 [(none,.v 9 .mv [.s 0]),(none,.v 10 .idx [.s 9,.k (.i 0)]),(none,.v 11 .ld [.s 10]),(none,.tk 3 11)])
  (.cl ks (.seq
  (.seq
  (.rg 0 [(none,.v 4 .mv [.k (.i 1)])])
  (.cl ks (.block 0
  (.loop
  (.seq
  (.seq
  (.rg 0 [(none,.v 12 .mv [.s 4]),(none,.v 13 .mv [.s 0]),(none,.v 14 .len [.s 13]),(none,.v 15 (.bin .lss) [.s 12,.s 14])])
  (.cond (.s 15)
  .skip
  (.exit 0)))
  (.cl ks (.seq
  (.block 1
  (.rg 0 [(none,.v 18 .mv [.s 3]),(none,.v 19 .mv [.s 0]),(none,.v 20 .mv [.s 4]),(none,.v 21 .idx [.s 19,.s 20]),(none,.v 22 .ld [.s 21]),(none,.v 23 .mx [.s 18,.s 22]),(none,.tk 3 23)]))
  (.cl ks (.rg 0 [(none,.v 16 .mv [.s 4]),(none,.v 17 (.bin .add) [.s 16,.k (.i 1)]),(none,.tk 4 17)])))))))))
  (.cl ks (.seq
  (.rg 0 [(none,.v 24 .mv [.s 3]),(none,.tk 2 24)])
  .ret)))))))))
theorem chk_slices_Max_Sint_int:∃ b,Try.f74.body = some b ∧ chk Try.prog Try.f74.ntmps true C_slices_Max_Sint_int b = true:=⟨_,rfl,by kernel_rfl⟩
def K_impl_IsMatching:List Nat:=[0,1,2,4,1002,2002]
def C_impl_IsMatching : C :=
 let ks:=K_impl_IsMatching
 (.seq
  (.rg 0 [(none,.v 2 .boxS [.s 0]),(none,.v 4 .mv [.k (.b false)])])
  (.cl ks (.seq
  (.rg 0 [(none,.v 5 (.lds 2) [.s 2]),(none,.co 6 55 [.s 5]),(none,.v 7 .mv [.s 6]),(some (7,true),.v 8 (.fa 0) [.s 2]),(some (7,true),.v 9 .ld [.s 8]),(some (7,true),.v 10 .len [.s 9]),(some (7,true),.v 11 .mv [.s 1]),(some (7,true),.co 12 101 [.s 10,.s 11]),(none,.v 13 .pick [.s 7,.s 12,.k (.b false)]),(none,.tk 4 13)])
  .ret)))
theorem chk_impl_IsMatching:∃ b,Try.f64.body = some b ∧ chk Try.prog Try.f64.ntmps true C_impl_IsMatching b = true:=⟨_,rfl,by kernel_rfl⟩
def K_impl_Market_places:List Nat:=[0,1,2,4,5,6,7,8,9,10,11,12,1002,2002]
def C_impl_Market_places : C :=
 let ks:=K_impl_Market_places
 (.seq
  (.rg 0 [(none,.v 2 .boxS [.s 0]),(none,.mkn 4),(none,.mkn 5)])
  (.cl ks (.seq
  (.rg 0 [(none,.mkn 6),(none,.mkn 7)])
  (.cl ks (.seq
  (.seq
  (.rg 0 [(none,.v 10 .mv [.s 1]),(none,.v 11 .len [.s 10]),(none,.v 12 .mv [.k (.i 0)])])
  (.cl ks (.block 0
  (.loop
  (.seq
  (.rg 0 [(none,.v 13 (.bin .lss) [.s 12,.s 11])])
  (.seq
  (.cond (.s 13)
  .skip
  (.exit 0))
  (.cl ks (.seq
  (.block 1
  (.seq
  (.rg 0 [(none,.v 14 .mv [.s 12]),(none,.v 15 .idx [.s 10,.s 12]),(none,.v 16 .ld [.s 15]),(none,.tk 8 14),(none,.tk 9 16)])
  (.cl ks (.seq
  (.rg 0 [(none,.v 17 .mv [.s 6]),(none,.v 18 (.fa 0) [.s 2]),(none,.v 19 .ld [.s 18]),(none,.v 20 .mv [.s 8]),(none,.v 21 .idx [.s 19,.s 20]),(none,.v 22 .ld [.s 21]),(none,.v 23 .mv [.s 9]),(none,.co 24 50 [.s 22,.s 23]),(none,.lit 25 [.s 24] 0),(none,.app 26 (.s 17) (.s 25) 0),(none,.tk 6 26)])
  (.cl ks (.rg 0 [(none,.v 27 .mv [.s 7]),(none,.v 28 (.fa 1) [.s 2]),(none,.v 29 .ld [.s 28]),(none,.v 30 .mv [.s 9]),(none,.v 31 .idx [.s 29,.s 30]),(none,.v 32 .ld [.s 31]),(none,.v 33 .mv [.s 8]),(none,.co 34 50 [.s 32,.s 33]),(none,.lit 35 [.s 34] 0),(none,.app 36 (.s 27) (.s 35) 0),(none,.tk 7 36)]))))))
  (.cl ks (.rg 0 [(none,.v 37 (.bin .add) [.s 12,.k (.i 1)]),(none,.v 12 .mv [.s 37])]))))))))))
  (.cl ks (.seq
  (.rg 0 [(none,.v 38 .mv [.s 6]),(none,.v 39 .mv [.s 7]),(none,.tk 4 38),(none,.tk 5 39)])
  .ret)))))))
theorem chk_impl_Market_places:∃ b,Try.f66.body = some b ∧ chk Try.prog Try.f66.ntmps true C_impl_Market_places b = true:=⟨_,rfl,by kernel_rfl⟩
def K_impl_PlaceSums:List Nat:=[0,1,2,4,5,6,7,1002,2002]
def C_impl_PlaceSums : C :=
 let ks:=K_impl_PlaceSums
 (.seq
  (.rg 0 [(none,.v 2 .boxS [.s 0]),(none,.v 4 .mv [.k (.i 0)]),(none,.v 5 .mv [.k (.i 0)])])
  (.cl ks (.seq
  (.seq
  (.rg 0 [(none,.v 8 (.lds 2) [.s 2]),(none,.v 9 .mv [.s 1]),(none,.co 10 64 [.s 8,.s 9]),(none,.v 11 .not [.s 10])])
  (.cond (.s 11)
  (.seq
  (.rg 0 [(none,.v 4 .mv [.k (.i (-1))]),(none,.v 5 .mv [.k (.i (-1))])])
  .ret)
  .skip))
  (.cl ks (.seq
  (.rg 0 [(none,.v 13 (.lds 2) [.s 2]),(none,.v 14 .mv [.s 1]),(none,.co 15 66 [.s 13,.s 14]),(none,.tk 12 15),(none,.tk 16 100012),(none,.tk 17 101012),(none,.tk 6 16),(none,.tk 7 17)])
  (.cl ks (.seq
  (.rg 0 [(none,.v 18 .mv [.s 6]),(none,.co 19 67 [.s 18]),(none,.v 20 .mv [.s 7]),(none,.co 21 67 [.s 20]),(none,.tk 4 19),(none,.tk 5 21)])
  .ret)))))))
theorem chk_impl_PlaceSums:∃ b,Try.f24.body = some b ∧ chk Try.prog Try.f24.ntmps true C_impl_PlaceSums b = true:=⟨_,rfl,by kernel_rfl⟩
def K_impl_RegretOf:List Nat:=[0,1,2,4,5,6,1002,2002]
def C_impl_RegretOf : C :=
 let ks:=K_impl_RegretOf
 (.seq
  (.rg 0 [(none,.v 2 .boxS [.s 0]),(none,.v 4 .mv [.k (.i 0)])])
  (.cl ks (.seq
  (.seq
  (.rg 0 [(none,.v 7 (.lds 2) [.s 2]),(none,.v 8 .mv [.s 1]),(none,.co 9 64 [.s 7,.s 8]),(none,.v 10 .not [.s 9])])
  (.cond (.s 10)
  (.seq
  (.rg 0 [(none,.v 4 .mv [.k (.i (-1))])])
  .ret)
  .skip))
  (.cl ks (.seq
  (.rg 0 [(none,.v 12 (.lds 2) [.s 2]),(none,.v 13 .mv [.s 1]),(none,.co 14 66 [.s 12,.s 13]),(none,.tk 11 14),(none,.tk 15 100011),(none,.tk 16 101011),(none,.tk 5 15),(none,.tk 6 16)])
  (.cl ks (.seq
  (.rg 0 [(none,.v 17 .mv [.s 5]),(none,.co 18 74 [.s 17]),(none,.v 19 .mv [.s 6]),(none,.co 20 74 [.s 19]),(none,.v 21 .mx [.s 18,.s 20]),(none,.tk 4 21)])
  .ret)))))))
theorem chk_impl_RegretOf:∃ b,Try.f29.body = some b ∧ chk Try.prog Try.f29.ntmps true C_impl_RegretOf b = true:=⟨_,rfl,by kernel_rfl⟩
def tab (f:Nat → Int) (k:Nat):List Int:=(List.range k).map f
theorem tab_len {f:Nat → Int} {k:Nat}:(tab f k).length = k:=by simp [tab]
theorem tab_get {f:Nat → Int} {k i:Nat} (h:i < k):(tab f k).getD i 0 = f i:=by simp [tab,List.getD,h]
theorem tab_s {f:Nat → Int} {k:Nat}:tab f (k + 1) = tab f k ++ [f k]:=by simp [tab,List.range_succ]
def sumN (xs : List Int) : Nat → Int
 | 0 => 0
 | j + 1 => sumN xs j + xs.getD j 0
def sumF (f : Nat → Int) : Nat → Int
 | 0 => 0
 | j + 1 => sumF f j + f j
theorem sumN_tab {f : Nat → Int} {k : Nat} : ∀ {j : Nat}, j ≤ k → sumN (tab f k) j = sumF f j
 | 0,_ => rfl
 | j + 1,h => by simp only [sumN,sumF]; rw [sumN_tab (by omega),tab_get h]
theorem sumF_bd {f : Nat → Int} {n : Nat} (h : ∀ i, i < n → 0 ≤ f i ∧ f i < 5) : ∀ {j : Nat}, j ≤ n → 0 ≤ sumF f j ∧ sumF f j ≤ 5 * j
 | 0,_ => by simp [sumF]
 | j + 1, hj => by
  have h1:=sumF_bd h (j:=j) (by omega)
  have h2:=h j (by omega)
  simp only [sumF]; omega
theorem sumN_bd {xs : List Int} {B : Int} (h : ∀ x ∈ xs, 0 ≤ x ∧ x ≤ B) : ∀ {j : Nat}, j ≤ xs.length → 0 ≤ sumN xs j ∧ sumN xs j ≤ B * j
 | 0,_ => by simp [sumN]
 | j + 1, hj => by
  have h1:=sumN_bd h (j:=j) (by omega)
  have h2:=h _ (getD_mem (d:=0) (show j < xs.length by omega))
  simp only [sumN]
  have:B * ((j + 1:Nat):Int) = B * j + B:=by rw [Int.natCast_add,Int.mul_add]; simp
  omega
theorem impl_sumOf_ok {n1 : Option Bool} (xs : List Int) (hl : xs.length ≤ 1048576) (hb : ∀ x ∈ xs, 0 ≤ x ∧ x ≤ 1000000000) : CallOk Try.prog 67 [.s n1 (ii xs)] [(0, .i (sumN xs xs.length))] := by
 obtain ⟨code0,hcd1,hcd2⟩:=chk_impl_sumOf; refine callOk_of Try.func67 hcd1 mo Try.call67 (rs:=[2]) (by kernel_rfl) hcd2 (by rw [Try.ntmps67]; simp) (by simp) (by decide) ?_; unfold C_impl_sumOf K_impl_sumOf; simp (maxSteps:=2000000) only [go_sem,Nat.reduceBEq,Nat.reduceAdd,Nat.reduceMul,Nat.reduceMod,Nat.reduceLT,Nat.reduceDiv,Nat.reduceSub,Nat.reduceLeDiff,Int.reduceToNat,Int.reduceLT,Int.reduceLE,reduceCtorEq]
 refine loopN xs.length (fun j => [(0,.t .arg (.s n1 (ii xs))),(3,.i (sumN xs j)),(6,.t .arg (.s n1 (ii xs))),(7,.i xs.length),(8,.i (j:Nat))]) (fun _ => True) ⟨trivial,by simp (maxSteps:=2000000) only [go_sem,Nat.reduceBEq,Nat.reduceAdd,Nat.reduceMul,Nat.reduceMod,Nat.reduceLT,Nat.reduceDiv,Nat.reduceSub,Nat.reduceLeDiff,Int.reduceToNat,Int.reduceLT,Int.reduceLE,reduceCtorEq]; simp [sumN]⟩ fun j hj _ => ?_
 simp (maxSteps:=2000000) only [go_sem,Nat.reduceBEq,Nat.reduceAdd,Nat.reduceMul,Nat.reduceMod,Nat.reduceLT,Nat.reduceDiv,Nat.reduceSub,Nat.reduceLeDiff,Int.reduceToNat,Int.reduceLT,Int.reduceLE,reduceCtorEq]
 refine ⟨fun hlt => ?_, fun hge => ?_⟩
 ·have hj':j < xs.length:=by omega
  have h1:=sumN_bd hb hj
  have h2:=hb _ (getD_mem (d:=0) hj')
  exact ⟨by omega,hj',hj',inR_of (by omega) (by omega),inR_of (by omega) (by omega),hj',rfl,by simp⟩
 ·have:j = xs.length:=by omega
  subst this
  rfl
def maxN (xs : List Int) : Nat → Int
 | 0 => xs.getD 0 0
 | j + 1 => max (maxN xs j) (xs.getD (j + 1) 0)
def maxF (f : Nat → Int) : Nat → Int
 | 0 => f 0
 | j + 1 => max (maxF f j) (f (j + 1))
theorem maxN_tab {f : Nat → Int} {k : Nat} : ∀ {j : Nat}, j < k → maxN (tab f k) j = maxF f j
 | 0,h => tab_get h
 | j + 1,h => by simp only [maxN,maxF]; rw [maxN_tab (by omega),tab_get h]
theorem Max_ok {n1 : Option Bool} (xs : List Int) (hl : xs.length ≤ 1048576) (h0 : 0 < xs.length) : CallOk Try.prog 74 [.s n1 (ii xs)] [(0, .i (maxN xs (xs.length - 1)))] := by
 obtain ⟨code0,hcd1,hcd2⟩:=chk_slices_Max_Sint_int; refine callOk_of Try.func74 hcd1 mo Try.call74 (rs:=[2]) (by kernel_rfl) hcd2 (by rw [Try.ntmps74]; simp) (by simp) (by decide) ?_; unfold C_slices_Max_Sint_int K_slices_Max_Sint_int; simp (maxSteps:=2000000) only [go_sem,Nat.reduceBEq,Nat.reduceAdd,Nat.reduceMul,Nat.reduceMod,Nat.reduceLT,Nat.reduceDiv,Nat.reduceSub,Nat.reduceLeDiff,Int.reduceToNat,Int.reduceLT,Int.reduceLE,reduceCtorEq]
 refine ⟨fun h => by omega,fun _ => ⟨h0,h0,?_⟩⟩
 refine loopN (xs.length - 1) (fun j => [(0,.t .arg (.s n1 (ii xs))),(3,.i (maxN xs j)),(4,.i (j + 1:Nat))]) (fun _ => True) ⟨trivial,by simp (maxSteps:=2000000) only [go_sem,Nat.reduceBEq,Nat.reduceAdd,Nat.reduceMul,Nat.reduceMod,Nat.reduceLT,Nat.reduceDiv,Nat.reduceSub,Nat.reduceLeDiff,Int.reduceToNat,Int.reduceLT,Int.reduceLE,reduceCtorEq]; simp [maxN]⟩ fun j hj _ => ?_
 simp (maxSteps:=2000000) only [go_sem,Nat.reduceBEq,Nat.reduceAdd,Nat.reduceMul,Nat.reduceMod,Nat.reduceLT,Nat.reduceDiv,Nat.reduceSub,Nat.reduceLeDiff,Int.reduceToNat,Int.reduceLT,Int.reduceLE,reduceCtorEq]
 refine ⟨fun hlt => ?_, fun hge => ?_⟩
 ·have hj':j + 1 < xs.length:=by omega
  exact ⟨by omega,hj',hj',inR_of (by omega) (by omega),by omega,rfl,by simp⟩
 ·have:j = xs.length - 1:=by omega
  subst this
  rfl
def matchB (x y:List (List Int)) (l:List Int):Bool:=marketB x y && rankB x.length l
theorem impl_IsMatching_ok {n1 n2 n3 : Option Bool} (x y : List (List Int)) (l : List Int) (hx : x.length ≤ 1048576) (kx : ∀ r ∈ x, r.length ≤ 1048576) (hy : y.length ≤ 1048576) (ky : ∀ r ∈ y, r.length ≤ 1048576) (hl : l.length ≤ 1048576) :
  CallOk Try.prog 64 [.a [.s n1 (rr x),.s n2 (rr y)],.s n3 (ii l)] [(0,.b (matchB x y l))]:=by
 obtain ⟨code0,hcd1,hcd2⟩:=chk_impl_IsMatching; refine callOk_of Try.func64 hcd1 mo Try.call64 (rs:=[4]) (by kernel_rfl) hcd2 (by rw [Try.ntmps64]; simp) (by simp) (by decide) ?_; unfold C_impl_IsMatching K_impl_IsMatching; simp (maxSteps:=2000000) only [go_sem,Nat.reduceBEq,Nat.reduceAdd,Nat.reduceMul,Nat.reduceMod,Nat.reduceLT,Nat.reduceDiv,Nat.reduceSub,Nat.reduceLeDiff,Int.reduceToNat,Int.reduceLT,Int.reduceLE,reduceCtorEq]
 refine ⟨_,impl_MarketOk_ok x y hx kx hy ky,?_⟩; simp (maxSteps:=2000000) only [go_sem,Nat.reduceBEq,Nat.reduceAdd,Nat.reduceMul,Nat.reduceMod,Nat.reduceLT,Nat.reduceDiv,Nat.reduceSub,Nat.reduceLeDiff,Int.reduceToNat,Int.reduceLT,Int.reduceLE,reduceCtorEq]
 refine ⟨fun h0 => ?_,fun h0 => by simp [matchB,h0]⟩
 refine ⟨_,impl_RankingOk_ok _ l hl,?_⟩; simp (maxSteps:=2000000) only [go_sem,Nat.reduceBEq,Nat.reduceAdd,Nat.reduceMul,Nat.reduceMod,Nat.reduceLT,Nat.reduceDiv,Nat.reduceSub,Nat.reduceLeDiff,Int.reduceToNat,Int.reduceLT,Int.reduceLE,reduceCtorEq]
 simp [matchB,h0]
def placeM (x:List (List Int)) (l:List Int) (i:Nat):Int:=placeI (x.getD i []) (l.getD i 0)
def placeW (y:List (List Int)) (l:List Int) (i:Nat):Int:=placeI (y.getD (l.getD i 0).toNat []) i
section
variable {x y:List (List Int)} {l:List Int} {n:Nat}
theorem plM (M : Mk x y n) (R : rankB n l = true) {i : Nat} (hi : i < n) : 0 ≤ placeM x l i ∧ placeM x l i < 5 := by
 have hl:=rank_len R
 have hb:=rank_bd R (i:=i) (by omega)
 have hr:=M.m.rk i hi
 obtain ⟨j,h1,_,h3⟩:=placeI_mem (rank_all hr hb.1 hb.2)
 have:=rank_len hr; have:=M.m.n5
 unfold placeM; rw [h3]; omega
theorem plW (M : Mk x y n) (R : rankB n l = true) {i : Nat} (hi : i < n) : 0 ≤ placeW y l i ∧ placeW y l i < 5 := by
 have hl:=rank_len R
 have hb:=rank_bd R (i:=i) (by omega)
 have hr:=M.w.rk (l.getD i 0).toNat (by omega)
 obtain ⟨j,h1,_,h3⟩:=placeI_mem (rank_all hr (a:=(i:Int)) (by omega) (by omega))
 have:=rank_len hr; have:=M.m.n5
 unfold placeW; rw [h3]; omega
end
def regN (x y : List (List Int)) (l : List Int) : Nat → Int
 | 0 => 0
 | k + 1 => max (regN x y l k) (max (placeM x l k) (placeW y l k))
theorem regN_eq {x y : List (List Int)} {l : List Int} : ∀ {k : Nat}, (∀ i, i < k + 1 → 0 ≤ placeM x l i) → (∀ i, i < k + 1 → 0 ≤ placeW y l i) → regN x y l (k + 1) = max (maxF (placeM x l) k) (maxF (placeW y l) k)
 | 0, h1, h2 => by
  have a:=h1 0 (by omega)
  have b:=h2 0 (by omega)
  simp only [regN,maxF]; omega
 | k + 1, h1, h2 => by
  have ih:=regN_eq (k:=k) (fun i hi => h1 i (by omega)) (fun i hi => h2 i (by omega))
  have e:regN x y l (k + 1 + 1) = max (regN x y l (k + 1)) (max (placeM x l (k + 1)) (placeW y l (k + 1))):=rfl
  rw [e,ih]; simp only [maxF]; omega
theorem places_ok {n1 n2 n3 : Option Bool} (x y : List (List Int)) (l : List Int) (n : Nat) (M : Mk x y n) (R : rankB n l = true) :
  CallOk Try.prog 66 [.a [.s n1 (rr x),.s n2 (rr y)],.s n3 (ii l)] [(0,.tp 2),(100000,.own 1 none (ii (tab (placeM x l) n))),(101000,.own 1 none (ii (tab (placeW y l) n)))]:=by
 obtain ⟨code0,hcd1,hcd2⟩:=chk_impl_Market_places; refine callOk_of Try.func66 hcd1 mo Try.call66 (rs:=[4,5]) (by kernel_rfl) hcd2 (by rw [Try.ntmps66]; simp) (by simp) (by decide) ?_; unfold C_impl_Market_places K_impl_Market_places; simp (maxSteps:=2000000) only [go_sem,Nat.reduceBEq,Nat.reduceAdd,Nat.reduceMul,Nat.reduceMod,Nat.reduceLT,Nat.reduceDiv,Nat.reduceSub,Nat.reduceLeDiff,Int.reduceToNat,Int.reduceLT,Int.reduceLE,reduceCtorEq]
 have n5:=M.m.n5
 have hl:=rank_len R
 have hxn:=M.m.n1
 have hyn:=M.w.n1
 refine loopN n (fun k => [(0,.t .arg (.a [.s n1 (rr x),.s n2 (rr y)])),(1,.t .arg (.s n3 (ii l))),(2,.t .arg (.q [.s n1 (rr x),.s n2 (rr y)] 0)),(6,.own 1 none (ii (tab (placeM x l) k))),(7,.own 1 none (ii (tab (placeW y l) k))),(10,.t .arg (.s n3 (ii l))),(11,.i (n:Nat)),(12,.i (k:Nat))]) (fun _ => True) ⟨trivial,by simp (maxSteps:=2000000) only [go_sem,Nat.reduceBEq,Nat.reduceAdd,Nat.reduceMul,Nat.reduceMod,Nat.reduceLT,Nat.reduceDiv,Nat.reduceSub,Nat.reduceLeDiff,Int.reduceToNat,Int.reduceLT,Int.reduceLE,reduceCtorEq]; simp [tab]; omega⟩ fun k hk _ => ?_
 simp (maxSteps:=2000000) only [go_sem,Nat.reduceBEq,Nat.reduceAdd,Nat.reduceMul,Nat.reduceMod,Nat.reduceLT,Nat.reduceDiv,Nat.reduceSub,Nat.reduceLeDiff,Int.reduceToNat,Int.reduceLT,Int.reduceLE,reduceCtorEq]
 refine ⟨fun hlt => ?_, fun hge => ?_⟩
 ·have hk':k < n:=by omega
  have hxl:=M.m.len
  have hyl:=M.w.len
  have hb:=rank_bd R (i:=k) (by omega)
  have hr1:=rank_len (M.m.rk k hk')
  have hr2:=rank_len (M.w.rk (l.getD k 0).toNat (by omega))
  refine ⟨by omega,by omega,by omega,by omega,by omega,by omega,?_⟩
  refine ⟨_,impl_PlaceOf_ok (x.getD k []) (l.getD k 0) (by omega),?_⟩; simp (maxSteps:=2000000) only [go_sem,Nat.reduceBEq,Nat.reduceAdd,Nat.reduceMul,Nat.reduceMod,Nat.reduceLT,Nat.reduceDiv,Nat.reduceSub,Nat.reduceLeDiff,Int.reduceToNat,Int.reduceLT,Int.reduceLE,reduceCtorEq]
  have e1:placeI (x.getD k []) (l.getD k 0) = placeM x l k:=rfl
  rw [e1,← tab_s,tab_len]
  refine ⟨by omega,by omega,by omega,by omega,?_⟩
  refine ⟨_,impl_PlaceOf_ok (y.getD (l.getD k 0).toNat []) (k:Nat) (by omega),?_⟩; simp (maxSteps:=2000000) only [go_sem,Nat.reduceBEq,Nat.reduceAdd,Nat.reduceMul,Nat.reduceMod,Nat.reduceLT,Nat.reduceDiv,Nat.reduceSub,Nat.reduceLeDiff,Int.reduceToNat,Int.reduceLT,Int.reduceLE,reduceCtorEq]
  exact ⟨by rw [tab_len]; omega,inR_of (by omega) (by omega),hk',by rw [tab_s]; rfl,by simp⟩
 ·have:k = n:=by omega
  subst this
  exact ⟨by omega,rfl,rfl⟩
theorem impl_PlaceSums_ok {n1 n2 n3 : Option Bool} (x y : List (List Int)) (l : List Int) (h0 : marketB x y = true) (R : rankB x.length l = true) (hx : x.length ≤ 1048576) (kx : ∀ r ∈ x, r.length ≤ 1048576) (hy : y.length ≤ 1048576) (ky : ∀ r ∈ y, r.length ≤ 1048576) :
  CallOk Try.prog 24 [.a [.s n1 (rr x),.s n2 (rr y)],.s n3 (ii l)] [(0,.tp 2),(100000,.i (sumF (placeM x l) x.length)),(101000,.i (sumF (placeW y l) x.length))]:=by
 obtain ⟨code0,hcd1,hcd2⟩:=chk_impl_PlaceSums; refine callOk_of Try.func24 hcd1 mo Try.call24 (rs:=[4,5]) (by kernel_rfl) hcd2 (by rw [Try.ntmps24]; simp) (by simp) (by decide) ?_; unfold C_impl_PlaceSums K_impl_PlaceSums; simp (maxSteps:=2000000) only [go_sem,Nat.reduceBEq,Nat.reduceAdd,Nat.reduceMul,Nat.reduceMod,Nat.reduceLT,Nat.reduceDiv,Nat.reduceSub,Nat.reduceLeDiff,Int.reduceToNat,Int.reduceLT,Int.reduceLE,reduceCtorEq]
 have M:=mk_of h0
 have n5:=M.m.n5
 have hl:=rank_len R
 have hm:matchB x y l = true:=by simp [matchB,h0,R]
 refine ⟨_,impl_IsMatching_ok x y l hx kx hy ky (by omega),?_⟩; simp (maxSteps:=2000000) only [go_sem,Nat.reduceBEq,Nat.reduceAdd,Nat.reduceMul,Nat.reduceMod,Nat.reduceLT,Nat.reduceDiv,Nat.reduceSub,Nat.reduceLeDiff,Int.reduceToNat,Int.reduceLT,Int.reduceLE,reduceCtorEq]
 refine ⟨fun h => absurd (hm.symm.trans h) (by simp),fun _ => ?_⟩
 refine ⟨_,places_ok x y l x.length M R,?_⟩; simp (maxSteps:=2000000) only [go_sem,Nat.reduceBEq,Nat.reduceAdd,Nat.reduceMul,Nat.reduceMod,Nat.reduceLT,Nat.reduceDiv,Nat.reduceSub,Nat.reduceLeDiff,Int.reduceToNat,Int.reduceLT,Int.reduceLE,reduceCtorEq]
 have bM:=fun i hi => plM M R (i:=i) hi
 have bW:=fun i hi => plW M R (i:=i) hi
 have tM : ∀ v ∈ tab (placeM x l) x.length, 0 ≤ v ∧ v ≤ 1000000000 := fun v hv => by
  simp only [tab,List.mem_map,List.mem_range] at hv
  obtain ⟨i,hi,e⟩:=hv; have:=bM i hi; omega
 have tW : ∀ v ∈ tab (placeW y l) x.length, 0 ≤ v ∧ v ≤ 1000000000 := fun v hv => by
  simp only [tab,List.mem_map,List.mem_range] at hv
  obtain ⟨i,hi,e⟩:=hv; have:=bW i hi; omega
 refine ⟨_,impl_sumOf_ok _ (by rw [tab_len]; omega) tM,?_⟩; simp (maxSteps:=2000000) only [go_sem,Nat.reduceBEq,Nat.reduceAdd,Nat.reduceMul,Nat.reduceMod,Nat.reduceLT,Nat.reduceDiv,Nat.reduceSub,Nat.reduceLeDiff,Int.reduceToNat,Int.reduceLT,Int.reduceLE,reduceCtorEq]
 refine ⟨_,impl_sumOf_ok _ (by rw [tab_len]; omega) tW,?_⟩; simp (maxSteps:=2000000) only [go_sem,Nat.reduceBEq,Nat.reduceAdd,Nat.reduceMul,Nat.reduceMod,Nat.reduceLT,Nat.reduceDiv,Nat.reduceSub,Nat.reduceLeDiff,Int.reduceToNat,Int.reduceLT,Int.reduceLE,reduceCtorEq]
 rw [tab_len,tab_len,sumN_tab (Nat.le_refl _),sumN_tab (Nat.le_refl _)]
 exact ⟨by omega,rfl,rfl⟩
theorem impl_RegretOf_ok {n1 n2 n3 : Option Bool} (x y : List (List Int)) (l : List Int) (h0 : marketB x y = true) (R : rankB x.length l = true) (hx : x.length ≤ 1048576) (kx : ∀ r ∈ x, r.length ≤ 1048576) (hy : y.length ≤ 1048576) (ky : ∀ r ∈ y, r.length ≤ 1048576) :
  CallOk Try.prog 29 [.a [.s n1 (rr x),.s n2 (rr y)],.s n3 (ii l)] [(0,.i (regN x y l x.length))]:=by
 obtain ⟨code0,hcd1,hcd2⟩:=chk_impl_RegretOf; refine callOk_of Try.func29 hcd1 mo Try.call29 (rs:=[4]) (by kernel_rfl) hcd2 (by rw [Try.ntmps29]; simp) (by simp) (by decide) ?_; unfold C_impl_RegretOf K_impl_RegretOf; simp (maxSteps:=2000000) only [go_sem,Nat.reduceBEq,Nat.reduceAdd,Nat.reduceMul,Nat.reduceMod,Nat.reduceLT,Nat.reduceDiv,Nat.reduceSub,Nat.reduceLeDiff,Int.reduceToNat,Int.reduceLT,Int.reduceLE,reduceCtorEq]
 have M:=mk_of h0
 have n5:=M.m.n5
 have hl:=rank_len R
 have hm:matchB x y l = true:=by simp [matchB,h0,R]
 refine ⟨_,impl_IsMatching_ok x y l hx kx hy ky (by omega),?_⟩; simp (maxSteps:=2000000) only [go_sem,Nat.reduceBEq,Nat.reduceAdd,Nat.reduceMul,Nat.reduceMod,Nat.reduceLT,Nat.reduceDiv,Nat.reduceSub,Nat.reduceLeDiff,Int.reduceToNat,Int.reduceLT,Int.reduceLE,reduceCtorEq]
 refine ⟨fun h => absurd (hm.symm.trans h) (by simp),fun _ => ?_⟩
 have hxn:=M.m.n1
 refine ⟨_,places_ok x y l x.length M R,?_⟩; simp (maxSteps:=2000000) only [go_sem,Nat.reduceBEq,Nat.reduceAdd,Nat.reduceMul,Nat.reduceMod,Nat.reduceLT,Nat.reduceDiv,Nat.reduceSub,Nat.reduceLeDiff,Int.reduceToNat,Int.reduceLT,Int.reduceLE,reduceCtorEq]
 refine ⟨_,Max_ok _ (by rw [tab_len]; omega) (by rw [tab_len]; omega),?_⟩; simp (maxSteps:=2000000) only [go_sem,Nat.reduceBEq,Nat.reduceAdd,Nat.reduceMul,Nat.reduceMod,Nat.reduceLT,Nat.reduceDiv,Nat.reduceSub,Nat.reduceLeDiff,Int.reduceToNat,Int.reduceLT,Int.reduceLE,reduceCtorEq]
 refine ⟨_,Max_ok _ (by rw [tab_len]; omega) (by rw [tab_len]; omega),?_⟩; simp (maxSteps:=2000000) only [go_sem,Nat.reduceBEq,Nat.reduceAdd,Nat.reduceMul,Nat.reduceMod,Nat.reduceLT,Nat.reduceDiv,Nat.reduceSub,Nat.reduceLeDiff,Int.reduceToNat,Int.reduceLT,Int.reduceLE,reduceCtorEq]
 rw [tab_len,tab_len,maxN_tab (by omega),maxN_tab (by omega)]
 obtain ⟨k,hk⟩:∃ k,x.length = k + 1:=⟨x.length - 1,by omega⟩
 rw [hk,regN_eq (fun i hi => (plM M R (by omega)).1) (fun i hi => (plW M R (by omega)).1)]
 rfl
def K_impl_CalmMatching_1:List Nat:=[0,1,3]
def C_impl_CalmMatching_1 : C :=
 let ks:=K_impl_CalmMatching_1
 (.seq
  (.rg 0 [(none,.v 3 .mv [.k (.i 0)])])
  (.cl ks (.seq
  (.rg 0 [(none,.v 4 (.lds 2) [.s 1]),(none,.v 5 .mv [.s 0]),(none,.co 6 29 [.s 4,.s 5]),(none,.tk 3 6)])
  .ret)))
theorem chk_impl_CalmMatching_1:∃ b,Try.f70.body = some b ∧ chk Try.prog Try.f70.ntmps true C_impl_CalmMatching_1 b = true:=⟨_,rfl,by kernel_rfl⟩
def K_impl_EqualMatching_1:List Nat:=[0,1,3,4,5]
def C_impl_EqualMatching_1 : C :=
 let ks:=K_impl_EqualMatching_1
 (.seq
  (.rg 0 [(none,.v 3 .mv [.k (.i 0)])])
  (.cl ks (.seq
  (.rg 0 [(none,.v 7 (.lds 2) [.s 1]),(none,.v 8 .mv [.s 0]),(none,.co 9 24 [.s 7,.s 8]),(none,.tk 6 9),(none,.tk 10 100006),(none,.tk 11 101006),(none,.tk 4 10),(none,.tk 5 11)])
  (.cl ks (.seq
  (.rg 0 [(none,.v 12 .mv [.s 4]),(none,.v 13 .mv [.s 5]),(none,.v 14 (.bin .add) [.s 12,.s 13]),(none,.tk 3 14)])
  .ret)))))
theorem chk_impl_EqualMatching_1:∃ b,Try.f69.body = some b ∧ chk Try.prog Try.f69.ntmps true C_impl_EqualMatching_1 b = true:=⟨_,rfl,by kernel_rfl⟩
def K_impl_EvenMatching_1:List Nat:=[0,1,3,4,5]
def C_impl_EvenMatching_1 : C :=
 let ks:=K_impl_EvenMatching_1
 (.seq
  (.rg 0 [(none,.v 3 .mv [.k (.i 0)])])
  (.cl ks (.seq
  (.rg 0 [(none,.v 7 (.lds 2) [.s 1]),(none,.v 8 .mv [.s 0]),(none,.co 9 24 [.s 7,.s 8]),(none,.tk 6 9),(none,.tk 10 100006),(none,.tk 11 101006),(none,.tk 4 10),(none,.tk 5 11)])
  (.cl ks (.seq
  (.rg 0 [(none,.v 12 .mv [.s 4]),(none,.v 13 .mv [.s 5]),(none,.v 14 (.bin .sub) [.s 12,.s 13]),(none,.v 15 .mv [.s 5]),(none,.v 16 .mv [.s 4]),(none,.v 17 (.bin .sub) [.s 15,.s 16]),(none,.v 18 .mx [.s 14,.s 17]),(none,.tk 3 18)])
  .ret)))))
theorem chk_impl_EvenMatching_1:∃ b,Try.f71.body = some b ∧ chk Try.prog Try.f71.ntmps true C_impl_EvenMatching_1 b = true:=⟨_,rfl,by kernel_rfl⟩
def K_impl_Market_leastMatching:List Nat:=[0,1,2,4,5,6,8,10,11,12,1002,2002]
def C_impl_Market_leastMatching : C :=
 let ks:=K_impl_Market_leastMatching
 (.seq
  (.rg 0 [(none,.v 2 .boxS [.s 0]),(none,.mkn 4),(none,.v 5 .mv [.k (.b false)])])
  (.cl ks (.seq
  (.rg 0 [(none,.mkn 6)])
  (.cl ks (.seq
  (.seq
  (.rg 0 [(none,.v 9 (.lds 2) [.s 2]),(none,.co 10 16 [.s 9]),(none,.v 11 .len [.s 10]),(none,.v 12 .mv [.k (.i 0)])])
  (.cl ks (.block 0
  (.loop
  (.seq
  (.rg 0 [(none,.v 13 (.bin .lss) [.s 12,.s 11])])
  (.seq
  (.cond (.s 13)
  .skip
  (.exit 0))
  (.cl ks (.seq
  (.block 1
  (.seq
  (.rg 0 [(none,.v 14 .idx [.s 10,.s 12]),(none,.v 15 .lde [.s 14]),(none,.tk 8 15)])
  (.cl ks (.seq
  (.rg 0 [(none,.v 16 .mv [.s 6]),(none,.v 17 .nil [.s 16]),(none,.v 18 .mv [.s 17]),(some (18,false),.v 19 .mv [.s 1]),(some (18,false),.v 20 .mv [.s 8]),(some (18,false),.coC 21 [.s 19,.s 20]),(some (18,false),.v 22 .mv [.s 1]),(some (18,false),.v 23 .mv [.s 6]),(some (18,false),.coC 24 [.s 22,.s 23]),(some (18,false),.v 25 (.bin .lss) [.s 21,.s 24]),(none,.v 26 .pick [.s 18,.k (.b true),.s 25])])
  (.cond (.s 26)
  (.rg 0 [(none,.v 27 .mv [.s 8]),(none,.tkr 27),(none,.tk 6 27)])
  .skip)))))
  (.cl ks (.rg 0 [(none,.v 28 (.bin .add) [.s 12,.k (.i 1)]),(none,.v 12 .mv [.s 28])]))))))))))
  (.cl ks (.seq
  (.rg 0 [(none,.v 29 .mv [.s 6]),(none,.v 30 .mv [.s 6]),(none,.v 31 .nnil [.s 30]),(none,.tk 4 29),(none,.tk 5 31)])
  .ret)))))))
theorem chk_impl_Market_leastMatching:∃ b,Try.f68.body = some b ∧ chk Try.prog Try.f68.ntmps true C_impl_Market_leastMatching b = true:=⟨_,rfl,by kernel_rfl⟩
def costF (x y : List (List Int)) (kd : Int) (l : List Int) : Int :=
 if kd = 0 then sumF (placeM x l) x.length + sumF (placeW y l) x.length else if kd = 1 then regN x y l x.length
 else max (sumF (placeM x l) x.length - sumF (placeW y l) x.length) (sumF (placeW y l) x.length - sumF (placeM x l) x.length)
theorem impl_CalmMatching1_ok {n1 n2 n3 : Option Bool} (x y : List (List Int)) (l : List Int) (h0 : marketB x y = true) (R : rankB x.length l = true) (hx : x.length ≤ 1048576) (kx : ∀ r ∈ x, r.length ≤ 1048576) (hy : y.length ≤ 1048576) (ky : ∀ r ∈ y, r.length ≤ 1048576) :
  CallOk Try.prog 70 [.s n3 (ii l),.q [.s n1 (rr x),.s n2 (rr y)] 0] [(0,.i (costF x y 1 l))]:=by
 obtain ⟨code0,hcd1,hcd2⟩:=chk_impl_CalmMatching_1; refine callOk_of Try.func70 hcd1 mo Try.call70 (rs:=[3]) (by kernel_rfl) hcd2 (by rw [Try.ntmps70]; simp) (by simp) (by decide) ?_; unfold C_impl_CalmMatching_1 K_impl_CalmMatching_1; simp (maxSteps:=2000000) only [go_sem,Nat.reduceBEq,Nat.reduceAdd,Nat.reduceMul,Nat.reduceMod,Nat.reduceLT,Nat.reduceDiv,Nat.reduceSub,Nat.reduceLeDiff,Int.reduceToNat,Int.reduceLT,Int.reduceLE,reduceCtorEq]
 refine ⟨_,impl_RegretOf_ok x y l h0 R hx kx hy ky,?_⟩; simp (maxSteps:=2000000) only [go_sem,Nat.reduceBEq,Nat.reduceAdd,Nat.reduceMul,Nat.reduceMod,Nat.reduceLT,Nat.reduceDiv,Nat.reduceSub,Nat.reduceLeDiff,Int.reduceToNat,Int.reduceLT,Int.reduceLE,reduceCtorEq]
 simp [costF]
theorem impl_EqualMatching1_ok {n1 n2 n3 : Option Bool} (x y : List (List Int)) (l : List Int) (h0 : marketB x y = true) (R : rankB x.length l = true) (hx : x.length ≤ 1048576) (kx : ∀ r ∈ x, r.length ≤ 1048576) (hy : y.length ≤ 1048576) (ky : ∀ r ∈ y, r.length ≤ 1048576) :
  CallOk Try.prog 69 [.s n3 (ii l),.q [.s n1 (rr x),.s n2 (rr y)] 0] [(0,.i (costF x y 0 l))]:=by
 obtain ⟨code0,hcd1,hcd2⟩:=chk_impl_EqualMatching_1; refine callOk_of Try.func69 hcd1 mo Try.call69 (rs:=[3]) (by kernel_rfl) hcd2 (by rw [Try.ntmps69]; simp) (by simp) (by decide) ?_; unfold C_impl_EqualMatching_1 K_impl_EqualMatching_1; simp (maxSteps:=2000000) only [go_sem,Nat.reduceBEq,Nat.reduceAdd,Nat.reduceMul,Nat.reduceMod,Nat.reduceLT,Nat.reduceDiv,Nat.reduceSub,Nat.reduceLeDiff,Int.reduceToNat,Int.reduceLT,Int.reduceLE,reduceCtorEq]
 have M:=mk_of h0
 have n5:=M.m.n5
 have c1:=sumF_bd (fun i hi => plM M R (i:=i) hi) (Nat.le_refl _)
 have c2:=sumF_bd (fun i hi => plW M R (i:=i) hi) (Nat.le_refl _)
 refine ⟨_,impl_PlaceSums_ok x y l h0 R hx kx hy ky,?_⟩; simp (maxSteps:=2000000) only [go_sem,Nat.reduceBEq,Nat.reduceAdd,Nat.reduceMul,Nat.reduceMod,Nat.reduceLT,Nat.reduceDiv,Nat.reduceSub,Nat.reduceLeDiff,Int.reduceToNat,Int.reduceLT,Int.reduceLE,reduceCtorEq]
 refine ⟨inR_of (by omega) (by omega),?_⟩
 simp [costF]
theorem impl_EvenMatching1_ok {n1 n2 n3 : Option Bool} (x y : List (List Int)) (l : List Int) (h0 : marketB x y = true) (R : rankB x.length l = true) (hx : x.length ≤ 1048576) (kx : ∀ r ∈ x, r.length ≤ 1048576) (hy : y.length ≤ 1048576) (ky : ∀ r ∈ y, r.length ≤ 1048576) :
  CallOk Try.prog 71 [.s n3 (ii l),.q [.s n1 (rr x),.s n2 (rr y)] 0] [(0,.i (costF x y 2 l))]:=by
 obtain ⟨code0,hcd1,hcd2⟩:=chk_impl_EvenMatching_1; refine callOk_of Try.func71 hcd1 mo Try.call71 (rs:=[3]) (by kernel_rfl) hcd2 (by rw [Try.ntmps71]; simp) (by simp) (by decide) ?_; unfold C_impl_EvenMatching_1 K_impl_EvenMatching_1; simp (maxSteps:=2000000) only [go_sem,Nat.reduceBEq,Nat.reduceAdd,Nat.reduceMul,Nat.reduceMod,Nat.reduceLT,Nat.reduceDiv,Nat.reduceSub,Nat.reduceLeDiff,Int.reduceToNat,Int.reduceLT,Int.reduceLE,reduceCtorEq]
 have M:=mk_of h0
 have n5:=M.m.n5
 have c1:=sumF_bd (fun i hi => plM M R (i:=i) hi) (Nat.le_refl _)
 have c2:=sumF_bd (fun i hi => plW M R (i:=i) hi) (Nat.le_refl _)
 refine ⟨_,impl_PlaceSums_ok x y l h0 R hx kx hy ky,?_⟩; simp (maxSteps:=2000000) only [go_sem,Nat.reduceBEq,Nat.reduceAdd,Nat.reduceMul,Nat.reduceMod,Nat.reduceLT,Nat.reduceDiv,Nat.reduceSub,Nat.reduceLeDiff,Int.reduceToNat,Int.reduceLT,Int.reduceLE,reduceCtorEq]
 refine ⟨inR_of (by omega) (by omega),inR_of (by omega) (by omega),?_⟩
 simp [costF]
def bestL (c : List Int → Int) (S : List (List Int)) : Nat → List Int
 | 0 => []
 | k + 1 => if k = 0 ∨ c (S.getD k []) < c (bestL c S k) then S.getD k [] else bestL c S k
theorem bestL_mem {c : List Int → Int} {S : List (List Int)} : ∀ {k : Nat}, k + 1 ≤ S.length → bestL c S (k + 1) ∈ S
 | 0,h => by simp only [bestL,true_or,if_true]; exact getD_mem (d:=[]) h
 | k + 1, h => by
  rw [bestL]
  split
  ·exact getD_mem (d:=[]) h
  ·exact bestL_mem (by omega)
def nlK (k:Nat):Option Bool:=if k = 0 then some true else none
theorem least_ok {n1 n2 : Option Bool} {f : Nat} {cp : List T} (x y : List (List Int)) (c : List Int → Int) (hc : ∀ l ∈ stabF x y, CallOk Try.prog f (.s none (ii l) :: cp) [(0, .i (c l))]) (hx : x.length ≤ 1048576) (kx : ∀ r ∈ x, r.length ≤ 1048576) (hy : y.length ≤ 1048576) (ky : ∀ r ∈ y, r.length ≤ 1048576) :
  CallOk Try.prog 68 [.a [.s n1 (rr x),.s n2 (rr y)],.c f cp] [(0,.tp 2),(100000,.own 1 none (ii (bestL c (stabF x y) (stabF x y).length))),(101000,.b (decide (0 < (bestL c (stabF x y) (stabF x y).length).length)))]:=by
 obtain ⟨code0,hcd1,hcd2⟩:=chk_impl_Market_leastMatching; refine callOk_of Try.func68 hcd1 mo Try.call68 (rs:=[4,5]) (by kernel_rfl) hcd2 (by rw [Try.ntmps68]; simp) (by simp) (by decide) ?_; unfold C_impl_Market_leastMatching K_impl_Market_leastMatching; simp (maxSteps:=2000000) only [go_sem,Nat.reduceBEq,Nat.reduceAdd,Nat.reduceMul,Nat.reduceMod,Nat.reduceLT,Nat.reduceDiv,Nat.reduceSub,Nat.reduceLeDiff,Int.reduceToNat,Int.reduceLT,Int.reduceLE,reduceCtorEq]
 refine ⟨_,impl_StableMatchings_ok x y hx kx hy ky,?_⟩; simp (maxSteps:=2000000) only [go_sem,Nat.reduceBEq,Nat.reduceAdd,Nat.reduceMul,Nat.reduceMod,Nat.reduceLT,Nat.reduceDiv,Nat.reduceSub,Nat.reduceLeDiff,Int.reduceToNat,Int.reduceLT,Int.reduceLE,reduceCtorEq]
 have hsl:=stabF_len (x:=x) (y:=y)
 have hst : ∀ l ∈ stabF x y, 0 < l.length := fun l hl => by
  have h:=stab_rank hl
  have:=rank_len h.2.1; have:=(mk_of h.1).m.n1; omega
 revert hc hsl hst
 generalize stabF x y = S
 intro hc hsl hst
 refine loopN S.length (fun k => [(0,.t .arg (.a [.s n1 (rr x),.s n2 (rr y)])),(1,.t .arg (.c f cp)),(2,.t .arg (.q [.s n1 (rr x),.s n2 (rr y)] 0)),(6,.own 1 (nlK k) (ii (bestL c S k))),(10,.own 1 none (hols k S)),(11,.i S.length),(12,.i (k:Nat))]) (fun _ => True) ⟨trivial,by simp (maxSteps:=2000000) only [go_sem,Nat.reduceBEq,Nat.reduceAdd,Nat.reduceMul,Nat.reduceMod,Nat.reduceLT,Nat.reduceDiv,Nat.reduceSub,Nat.reduceLeDiff,Int.reduceToNat,Int.reduceLT,Int.reduceLE,reduceCtorEq]; simp [bestL,nlK]⟩ fun k hk _ => ?_
 rcases k with _ | k
 ·have n0:nlK 0 = some true:=rfl
  rw [n0]
  simp (maxSteps:=2000000) only [go_sem,Nat.reduceBEq,Nat.reduceAdd,Nat.reduceMul,Nat.reduceMod,Nat.reduceLT,Nat.reduceDiv,Nat.reduceSub,Nat.reduceLeDiff,Int.reduceToNat,Int.reduceLT,Int.reduceLE,reduceCtorEq]
  refine ⟨fun hlt => ?_, fun hge => ?_⟩
  ·have hj':0 < S.length:=by omega
   have hg:=hols_get hj'
   refine ⟨by omega,hj',hj',?_⟩
   rw [hg]
   simp (maxSteps:=2000000) only [go_sem,Nat.reduceBEq,Nat.reduceAdd,Nat.reduceMul,Nat.reduceMod,Nat.reduceLT,Nat.reduceDiv,Nat.reduceSub,Nat.reduceLeDiff,Int.reduceToNat,Int.reduceLT,Int.reduceLE,reduceCtorEq]
   have e1:bestL c S 1 = S.getD 0 []:=by simp [bestL]
   have e2:nlK 1 = none:=rfl
   exact ⟨hj',inR_of (by omega) (by omega),hj',⟨e1.symm,Or.inl e2⟩,by simp⟩
  ·have:0 = S.length:=by omega
   rw [← this]
   exact ⟨by omega,rfl,rfl⟩
 ·have n0:nlK (k + 1) = none:=rfl
  rw [n0]
  have hkl:k + 1 ≤ S.length:=hk
  have hbm:=bestL_mem (c:=c) hkl
  have hbl:=hst _ hbm
  have e1:bestL c S (k + 1 + 1) = if c (S.getD (k + 1) []) < c (bestL c S (k + 1)) then S.getD (k + 1) [] else bestL c S (k + 1):=by rw [bestL]; simp
  have e2:nlK (k + 1 + 1) = none:=rfl
  have hne : ¬ii (bestL c S (k + 1)) = [] := by
   intro h; have:(ii (bestL c S (k + 1))).length = 0:=by rw [h]; rfl
   simp [ii] at this; rw [this] at hbl; cases hbl
  simp (maxSteps:=2000000) only [go_sem,Nat.reduceBEq,Nat.reduceAdd,Nat.reduceMul,Nat.reduceMod,Nat.reduceLT,Nat.reduceDiv,Nat.reduceSub,Nat.reduceLeDiff,Int.reduceToNat,Int.reduceLT,Int.reduceLE,reduceCtorEq]
  refine ⟨fun hlt => ?_, fun hge => ?_⟩
  ·have hj':k + 1 < S.length:=by omega
   have hg:=hols_get hj'
   rw [hg]
   refine ⟨by omega,hj',hj',hne,_,hc _ (getD_mem (d:=[]) hj'),?_⟩
   simp (maxSteps:=2000000) only [go_sem,Nat.reduceBEq,Nat.reduceAdd,Nat.reduceMul,Nat.reduceMod,Nat.reduceLT,Nat.reduceDiv,Nat.reduceSub,Nat.reduceLeDiff,Int.reduceToNat,Int.reduceLT,Int.reduceLE,reduceCtorEq,hg]
   refine ⟨_,hc _ hbm,?_⟩
   simp (maxSteps:=2000000) only [go_sem,Nat.reduceBEq,Nat.reduceAdd,Nat.reduceMul,Nat.reduceMod,Nat.reduceLT,Nat.reduceDiv,Nat.reduceSub,Nat.reduceLeDiff,Int.reduceToNat,Int.reduceLT,Int.reduceLE,reduceCtorEq,hg]
   exact ⟨fun h => ⟨hj',inR_of (by omega) (by omega),hj',⟨by rw [e1,if_pos h],Or.inl e2⟩,by simp⟩,fun h => ⟨inR_of (by omega) (by omega),hj',⟨by rw [e1,if_neg h],Or.inl e2⟩,by simp⟩⟩
  ·have:k + 1 = S.length:=by omega
   rw [← this]
   exact ⟨hne,by omega,rfl,(decide_eq_true hbl).symm⟩
def K_impl_CalmMatching:List Nat:=[0,1,2,3,1001,2001]
def C_impl_CalmMatching : C :=
 let ks:=K_impl_CalmMatching
 (.seq
  (.rg 0 [(none,.v 1 .boxS [.s 0]),(none,.mkn 2),(none,.v 3 .mv [.k (.b false)])])
  (.cl ks (.seq
  (.rg 0 [(none,.v 4 (.lds 2) [.s 1]),(none,.v 5 (.clo 70) [.s 1]),(none,.co 6 68 [.s 4,.s 5]),(none,.tk 7 100006),(none,.tk 8 101006),(none,.tk 2 7),(none,.tk 3 8)])
  .ret)))
theorem chk_impl_CalmMatching:∃ b,Try.f26.body = some b ∧ chk Try.prog Try.f26.ntmps true C_impl_CalmMatching b = true:=⟨_,rfl,by kernel_rfl⟩
theorem impl_CalmMatching_ok {n1 n2 : Option Bool} (x y : List (List Int)) (hx : x.length ≤ 1048576) (kx : ∀ r ∈ x, r.length ≤ 1048576) (hy : y.length ≤ 1048576) (ky : ∀ r ∈ y, r.length ≤ 1048576) :
  CallOk Try.prog 26 [.a [.s n1 (rr x),.s n2 (rr y)]] [(0,.tp 2),(100000,.own 1 none (ii (bestL (costF x y 1) (stabF x y) (stabF x y).length))),(101000,.b (decide (0 < (bestL (costF x y 1) (stabF x y) (stabF x y).length).length)))]:=by
 obtain ⟨code0,hcd1,hcd2⟩:=chk_impl_CalmMatching; refine callOk_of Try.func26 hcd1 mo Try.call26 (rs:=[2,3]) (by kernel_rfl) hcd2 (by rw [Try.ntmps26]; simp) (by simp) (by decide) ?_; unfold C_impl_CalmMatching K_impl_CalmMatching; simp (maxSteps:=2000000) only [go_sem,Nat.reduceBEq,Nat.reduceAdd,Nat.reduceMul,Nat.reduceMod,Nat.reduceLT,Nat.reduceDiv,Nat.reduceSub,Nat.reduceLeDiff,Int.reduceToNat,Int.reduceLT,Int.reduceLE,reduceCtorEq]
 refine ⟨_,least_ok x y (costF x y 1) (fun l hl => impl_CalmMatching1_ok x y l (stab_rank hl).1 (stab_rank hl).2.1 hx kx hy ky) hx kx hy ky,?_⟩; simp (maxSteps:=2000000) only [go_sem,Nat.reduceBEq,Nat.reduceAdd,Nat.reduceMul,Nat.reduceMod,Nat.reduceLT,Nat.reduceDiv,Nat.reduceSub,Nat.reduceLeDiff,Int.reduceToNat,Int.reduceLT,Int.reduceLE,reduceCtorEq]
 omega
def K_impl_EqualMatching:List Nat:=[0,1,2,3,1001,2001]
def C_impl_EqualMatching : C :=
 let ks:=K_impl_EqualMatching
 (.seq
  (.rg 0 [(none,.v 1 .boxS [.s 0]),(none,.mkn 2),(none,.v 3 .mv [.k (.b false)])])
  (.cl ks (.seq
  (.rg 0 [(none,.v 4 (.lds 2) [.s 1]),(none,.v 5 (.clo 69) [.s 1]),(none,.co 6 68 [.s 4,.s 5]),(none,.tk 7 100006),(none,.tk 8 101006),(none,.tk 2 7),(none,.tk 3 8)])
  .ret)))
theorem chk_impl_EqualMatching:∃ b,Try.f25.body = some b ∧ chk Try.prog Try.f25.ntmps true C_impl_EqualMatching b = true:=⟨_,rfl,by kernel_rfl⟩
theorem impl_EqualMatching_ok {n1 n2 : Option Bool} (x y : List (List Int)) (hx : x.length ≤ 1048576) (kx : ∀ r ∈ x, r.length ≤ 1048576) (hy : y.length ≤ 1048576) (ky : ∀ r ∈ y, r.length ≤ 1048576) :
  CallOk Try.prog 25 [.a [.s n1 (rr x),.s n2 (rr y)]] [(0,.tp 2),(100000,.own 1 none (ii (bestL (costF x y 0) (stabF x y) (stabF x y).length))),(101000,.b (decide (0 < (bestL (costF x y 0) (stabF x y) (stabF x y).length).length)))]:=by
 obtain ⟨code0,hcd1,hcd2⟩:=chk_impl_EqualMatching; refine callOk_of Try.func25 hcd1 mo Try.call25 (rs:=[2,3]) (by kernel_rfl) hcd2 (by rw [Try.ntmps25]; simp) (by simp) (by decide) ?_; unfold C_impl_EqualMatching K_impl_EqualMatching; simp (maxSteps:=2000000) only [go_sem,Nat.reduceBEq,Nat.reduceAdd,Nat.reduceMul,Nat.reduceMod,Nat.reduceLT,Nat.reduceDiv,Nat.reduceSub,Nat.reduceLeDiff,Int.reduceToNat,Int.reduceLT,Int.reduceLE,reduceCtorEq]
 refine ⟨_,least_ok x y (costF x y 0) (fun l hl => impl_EqualMatching1_ok x y l (stab_rank hl).1 (stab_rank hl).2.1 hx kx hy ky) hx kx hy ky,?_⟩; simp (maxSteps:=2000000) only [go_sem,Nat.reduceBEq,Nat.reduceAdd,Nat.reduceMul,Nat.reduceMod,Nat.reduceLT,Nat.reduceDiv,Nat.reduceSub,Nat.reduceLeDiff,Int.reduceToNat,Int.reduceLT,Int.reduceLE,reduceCtorEq]
 omega
def K_impl_EvenMatching:List Nat:=[0,1,2,3,1001,2001]
def C_impl_EvenMatching : C :=
 let ks:=K_impl_EvenMatching
 (.seq
  (.rg 0 [(none,.v 1 .boxS [.s 0]),(none,.mkn 2),(none,.v 3 .mv [.k (.b false)])])
  (.cl ks (.seq
  (.rg 0 [(none,.v 4 (.lds 2) [.s 1]),(none,.v 5 (.clo 71) [.s 1]),(none,.co 6 68 [.s 4,.s 5]),(none,.tk 7 100006),(none,.tk 8 101006),(none,.tk 2 7),(none,.tk 3 8)])
  .ret)))
theorem chk_impl_EvenMatching:∃ b,Try.f27.body = some b ∧ chk Try.prog Try.f27.ntmps true C_impl_EvenMatching b = true:=⟨_,rfl,by kernel_rfl⟩
theorem impl_EvenMatching_ok {n1 n2 : Option Bool} (x y : List (List Int)) (hx : x.length ≤ 1048576) (kx : ∀ r ∈ x, r.length ≤ 1048576) (hy : y.length ≤ 1048576) (ky : ∀ r ∈ y, r.length ≤ 1048576) :
  CallOk Try.prog 27 [.a [.s n1 (rr x),.s n2 (rr y)]] [(0,.tp 2),(100000,.own 1 none (ii (bestL (costF x y 2) (stabF x y) (stabF x y).length))),(101000,.b (decide (0 < (bestL (costF x y 2) (stabF x y) (stabF x y).length).length)))]:=by
 obtain ⟨code0,hcd1,hcd2⟩:=chk_impl_EvenMatching; refine callOk_of Try.func27 hcd1 mo Try.call27 (rs:=[2,3]) (by kernel_rfl) hcd2 (by rw [Try.ntmps27]; simp) (by simp) (by decide) ?_; unfold C_impl_EvenMatching K_impl_EvenMatching; simp (maxSteps:=2000000) only [go_sem,Nat.reduceBEq,Nat.reduceAdd,Nat.reduceMul,Nat.reduceMod,Nat.reduceLT,Nat.reduceDiv,Nat.reduceSub,Nat.reduceLeDiff,Int.reduceToNat,Int.reduceLT,Int.reduceLE,reduceCtorEq]
 refine ⟨_,least_ok x y (costF x y 2) (fun l hl => impl_EvenMatching1_ok x y l (stab_rank hl).1 (stab_rank hl).2.1 hx kx hy ky) hx kx hy ky,?_⟩; simp (maxSteps:=2000000) only [go_sem,Nat.reduceBEq,Nat.reduceAdd,Nat.reduceMul,Nat.reduceMod,Nat.reduceLT,Nat.reduceDiv,Nat.reduceSub,Nat.reduceLeDiff,Int.reduceToNat,Int.reduceLT,Int.reduceLE,reduceCtorEq]
 omega
end Go.Proofs.Ytllcbempbdibhaa
