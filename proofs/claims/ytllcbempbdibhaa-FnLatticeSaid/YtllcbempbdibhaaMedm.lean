/- Own work: contracts of functions. No condition beyond those that each theorem names. -/
import Derived.Test.YtllcbempbdibhaaProg
import Derived.Test.YtllcbempbdibhaaMkt
import Derived.Test.YtllcbempbdibhaaSrt
namespace Go.Proofs.Ytllcbempbdibhaa
open Go Go.Vc
set_option maxRecDepth 100000
set_option linter.unusedSimpArgs false
set_option linter.unusedVariables false
def K_impl_MedianMatching_1:List Nat:=[0,1,2,5]
def C_impl_MedianMatching_1 : C :=
 let ks:=K_impl_MedianMatching_1
 (.seq
  (.rg 0 [(none,.v 5 .mv [.k (.i 0)])])
  (.cl ks (.seq
  (.rg 5 [(none,.v 6 .ld [.s 2]),(none,.v 7 .mv [.s 0]),(none,.v 8 (.call 50) [.s 6,.s 7]),(none,.v 9 .ld [.s 2]),(none,.v 10 .mv [.s 1]),(none,.co 11 50 [.s 9,.s 10]),(none,.v 12 (.bin .sub) [.s 8,.s 11]),(none,.tk 5 12)])
  .ret)))
theorem chk_impl_MedianMatching_1:∃ b,Try.f49.body = some b ∧ chk Try.prog Try.f49.ntmps true C_impl_MedianMatching_1 b = true:=⟨_,rfl,by kernel_rfl⟩
def K_impl_MedianMatching:List Nat:=[0,1,2,4,5,6,7,8,9,10,12,22,23,24,29,30,31,1002,2002,1009]
def C_impl_MedianMatching : C :=
 let ks:=K_impl_MedianMatching
 (.seq
  (.rg 0 [(none,.v 2 .boxS [.s 0]),(none,.mkn 4),(none,.v 5 .mv [.k (.b false)])])
  (.cl ks (.seq
  (.rg 0 [(none,.v 13 (.lds 2) [.s 2]),(none,.co 14 16 [.s 13]),(none,.tk 6 14)])
  (.cl ks (.seq
  (.seq
  (.rg 0 [(none,.v 15 .mv [.s 1]),(none,.v 16 .mv [.s 6]),(none,.v 17 .len [.s 16]),(none,.v 18 (.bin .sub) [.s 17,.k (.i 1)]),(none,.co 19 47 [.s 15,.k (.i 0),.s 18]),(none,.v 20 .not [.s 19])])
  (.cond (.s 20)
  (.seq
  (.rg 0 [(none,.mkn 4),(none,.v 5 .mv [.k (.b false)])])
  .ret)
  .skip))
  (.cl ks (.seq
  (.rg 0 [(none,.mkn 7)])
  (.cl ks (.seq
  (.seq
  (.rg 0 [(none,.v 21 (.fa 0) [.s 2]),(none,.v 22 .ld [.s 21]),(none,.v 23 .len [.s 22]),(none,.v 24 .mv [.k (.i 0)])])
  (.cl ks (.block 0
  (.loop
  (.seq
  (.rg 0 [(none,.v 25 (.bin .lss) [.s 24,.s 23])])
  (.seq
  (.cond (.s 25)
  .skip
  (.exit 0))
  (.cl ks (.seq
  (.block 1
  (.seq
  (.rg 0 [(none,.v 26 .mv [.s 24]),(none,.v 27 .idx [.s 22,.s 24]),(none,.v 28 .ld [.s 27]),(none,.new 9 [.s (some true) []]),(none,.tk 8 26),(none,.st (.s 9) (.s 28))])
  (.cl ks (.seq
  (.rg 0 [(none,.mkn 10)])
  (.cl ks (.seq
  (.seq
  (.rg 0 [(none,.v 29 .mv [.s 6]),(none,.v 30 .len [.s 29]),(none,.v 31 .mv [.k (.i 0)])])
  (.cl ks (.block 2
  (.loop
  (.seq
  (.rg 0 [(none,.v 32 (.bin .lss) [.s 31,.s 30])])
  (.seq
  (.cond (.s 32)
  .skip
  (.exit 2))
  (.cl ks (.seq
  (.block 3
  (.seq
  (.rg 0 [(none,.v 33 .idx [.s 29,.s 31]),(none,.v 34 .ld [.s 33]),(none,.tk 12 34)])
  (.cl ks (.rg 0 [(none,.v 35 .mv [.s 10]),(none,.v 36 .mv [.s 12]),(none,.v 37 .mv [.s 8]),(none,.v 38 .idx [.s 36,.s 37]),(none,.v 39 .ld [.s 38]),(none,.lit 40 [.s 39] 0),(none,.app 41 (.s 35) (.s 40) 0),(none,.tk 10 41)]))))
  (.cl ks (.rg 0 [(none,.v 42 (.bin .add) [.s 31,.k (.i 1)]),(none,.v 31 .mv [.s 42])]))))))))))
  (.cl ks (.seq
  (.rg 0 [(none,.v 43 .mv [.s 10]),(none,.v 44 (.clo 49) [.s 9]),(none,.cox (some 45) 48 [.s 43,.s 44] 0)])
  (.cl ks (.rg 0 [(none,.v 46 .mv [.s 7]),(none,.v 47 .mv [.s 10]),(none,.v 48 .mv [.s 1]),(none,.v 49 .idx [.s 47,.s 48]),(none,.v 50 .ld [.s 49]),(none,.lit 51 [.s 50] 0),(none,.app 52 (.s 46) (.s 51) 0),(none,.tk 7 52)]))))))))))
  (.cl ks (.rg 0 [(none,.v 53 (.bin .add) [.s 24,.k (.i 1)]),(none,.v 24 .mv [.s 53])]))))))))))
  (.cl ks (.seq
  (.rg 0 [(none,.v 54 .mv [.s 7]),(none,.tk 4 54),(none,.v 5 .mv [.k (.b true)])])
  .ret)))))))))))
theorem chk_impl_MedianMatching:∃ b,Try.f9.body = some b ∧ chk Try.prog Try.f9.ntmps true C_impl_MedianMatching b = true:=⟨_,rfl,by kernel_rfl⟩
def cntM (p:Int → Int) (S:List Int) (j:Int):Nat:=S.countP fun s => decide (p s < j)
theorem cntM_mono {p : Int → Int} {S : List Int} {i j : Int} (h : i ≤ j) : cntM p S i ≤ cntM p S j :=
 List.countP_mono_left fun s _ hs => by simp only [decide_eq_true_eq] at hs ⊢; omega
theorem cntM_all {p : Int → Int} {S : List Int} {j : Int} (h : ∀ s ∈ S, p s < j) : cntM p S j = S.length :=
 List.countP_eq_length.2 fun s hs => by simpa using h s hs
theorem cntM_zero {p : Int → Int} {S : List Int} {j : Int} (h : ∀ s ∈ S, j ≤ p s) : cntM p S j = 0 :=
 List.countP_eq_zero.2 fun s hs => by have:=h s hs; simp; omega
theorem cntM_le {p:Int → Int} {S:List Int} {j:Int}:cntM p S j ≤ S.length:=List.countP_le_length
theorem sorted_at {p : Int → Int} {S ys : List Int} (hp : ys.Perm S) (hs : ∀ i j, i < j → j < ys.length → p (ys.getD i 0) ≤ p (ys.getD j 0)) {k : Nat} (hk : k < ys.length) :
  cntM p S (p (ys.getD k 0)) ≤ k ∧ k < cntM p S (p (ys.getD k 0) + 1):=by
 have e:∀ j,cntM p S j = cntM p ys j:=fun j => (hp.countP_eq _).symm
 rw [e,e]
 have hsp : ∀ j, cntM p ys j = cntM p (ys.take k) j + cntM p (ys.drop k) j := fun j => by
  simp only [cntM]; rw [← List.countP_append,List.take_append_drop]
 have hsp2 : ∀ j, cntM p ys j = cntM p (ys.take (k + 1)) j + cntM p (ys.drop (k + 1)) j := fun j => by
  simp only [cntM]; rw [← List.countP_append,List.take_append_drop]
 constructor
 ·rw [hsp, cntM_zero (S := ys.drop k)]
  ·have:=cntM_le (p:=p) (S:=ys.take k) (j:=p (ys.getD k 0)); rw [List.length_take] at this; omega
  ·intro s hs'
   obtain ⟨i,hi,rfl⟩:=List.mem_iff_getElem.1 hs'
   rw [List.getElem_drop]
   rw [List.length_drop] at hi
   have:ys[k + i] = ys.getD (k + i) 0:=by rw [List.getD_eq_getElem?_getD,List.getElem?_eq_getElem (by omega)]; rfl
   rw [this]
   by_cases h0 : i = 0
   ·subst h0; exact Int.le_refl _
   ·exact hs k (k + i) (by omega) (by omega)
 ·rw [hsp2, cntM_all (S := ys.take (k + 1))]
  ·rw [List.length_take]; omega
  ·intro s hs'
   obtain ⟨i,hi,rfl⟩:=List.mem_iff_getElem.1 hs'
   rw [List.getElem_take]
   rw [List.length_take] at hi
   have:ys[i] = ys.getD i 0:=by rw [List.getD_eq_getElem?_getD,List.getElem?_eq_getElem (by omega)]; rfl
   rw [this]
   by_cases h0 : i = k
   ·subst h0; omega
   ·have:=hs i k (by omega) hk; omega
def medJ (p : Int → Int) (S : List Int) (k : Nat) : Nat → Nat
 | 0 => 0
 | j + 1 => if cntM p S j ≤ k ∧ k < cntM p S (j + 1) then j else medJ p S k j
theorem medJ_of {p : Int → Int} {S : List Int} {k j : Nat} (h1 : cntM p S j ≤ k) (h2 : k < cntM p S (j + 1)) : ∀ {n : Nat}, j < n → medJ p S k n = j
 | 0,h => by omega
 | n + 1, h => by
  simp only [medJ]
  by_cases e : j = n
  ·subst e; rw [if_pos ⟨h1,h2⟩]
  ·have:=cntM_mono (p:=p) (S:=S) (i:=(j:Int) + 1) (j:=n) (by omega)
   rw [if_neg (by omega)]
   exact medJ_of h1 h2 (by omega)
def medC (x y:List (List Int)) (i:Nat):List Int:=(stabF x y).map fun l => l.getD i 0
def medB (x y:List (List Int)) (k:Int):Bool:=inI k 0 ((stabF x y).length - 1)
def medV (x y:List (List Int)) (k:Int) (i:Nat):Int:=(x.getD i []).getD (medJ (placeI (x.getD i [])) (medC x y i) k.toNat x.length) 0
def medK (x y:List (List Int)) (k:Int) (m:Nat):List Int:=(List.range m).map (medV x y k)
def medF (x y:List (List Int)) (k:Int):List Int:=if medB x y k = true then medK x y k x.length else []
theorem medC_s {x y : List (List Int)} {i j : Nat} (h : j < (stabF x y).length) : (medC x y i).take (j + 1) = (medC x y i).take j ++ [((stabF x y).getD j []).getD i 0] := by
 rw [take_getD 0 (by simpa [medC] using h)]
 congr 2
 simp [medC,List.getD,h]
theorem medK_len {x y:List (List Int)} {k:Int} {m:Nat}:(medK x y k m).length = m:=by simp [medK]
theorem medK_s {x y:List (List Int)} {k:Int} {m:Nat}:medK x y k (m + 1) = medK x y k m ++ [medV x y k m]:=by simp [medK,List.range_succ]
theorem med_val {r S ys : List Int} {k n : Nat} (hp : ys.Perm S) (hs : ∀ i j, i < j → j < ys.length → placeI r (ys.getD i 0) ≤ placeI r (ys.getD j 0)) (hk : k < ys.length) (hm : ∀ v ∈ S, v ∈ r) (hn : r.length ≤ n) :
  r.getD (medJ (placeI r) S k n) 0 = ys.getD k 0:=by
 obtain ⟨g1,g2⟩:=sorted_at (p:=placeI r) hp hs hk
 obtain ⟨j,j1,j2,j3⟩:=placeI_mem (hm _ (hp.subset (getD_mem (d:=0) hk)))
 rw [j3] at g1 g2
 rw [medJ_of g1 g2 (by omega),j2]
theorem place_bd {l : List Int} {a : Int} : -1 ≤ placeI l a ∧ placeI l a ≤ l.length := by
 rcases idxP_cases 0 (fun y => decide (y = a)) l with ⟨j, hj, _, _, e⟩ | ⟨_, e⟩
 ·unfold placeI; rw [e]; omega
 ·unfold placeI; rw [e]; omega
theorem impl_Median1_ok {n1 : Option Bool} (r : List Int) (hr : r.length ≤ 1048576) (v w : Int) : CallOk Try.prog 49 [.i v, .i w, .q [.s n1 (ii r)] 0] [(0, .i (placeI r v - placeI r w))] := by
 obtain ⟨code0,hcd1,hcd2⟩:=chk_impl_MedianMatching_1; refine callOk_of Try.func49 hcd1 mo Try.call49 (rs:=[5]) (by kernel_rfl) hcd2 (by rw [Try.ntmps49]; simp) (by simp) (by decide) ?_; unfold C_impl_MedianMatching_1 K_impl_MedianMatching_1; simp (maxSteps:=2000000) only [go_sem,Nat.reduceBEq,Nat.reduceAdd,Nat.reduceMul,Nat.reduceMod,Nat.reduceLT,Nat.reduceDiv,Nat.reduceSub,Nat.reduceLeDiff,Int.reduceToNat,Int.reduceLT,Int.reduceLE,reduceCtorEq]
 refine ⟨_,impl_PlaceOf_ok r v hr,?_⟩; simp (maxSteps:=2000000) only [go_sem,Nat.reduceBEq,Nat.reduceAdd,Nat.reduceMul,Nat.reduceMod,Nat.reduceLT,Nat.reduceDiv,Nat.reduceSub,Nat.reduceLeDiff,Int.reduceToNat,Int.reduceLT,Int.reduceLE,reduceCtorEq]
 refine ⟨_,impl_PlaceOf_ok r w hr,?_⟩; simp (maxSteps:=2000000) only [go_sem,Nat.reduceBEq,Nat.reduceAdd,Nat.reduceMul,Nat.reduceMod,Nat.reduceLT,Nat.reduceDiv,Nat.reduceSub,Nat.reduceLeDiff,Int.reduceToNat,Int.reduceLT,Int.reduceLE,reduceCtorEq]
 have b1:=place_bd (l:=r) (a:=v)
 have b2:=place_bd (l:=r) (a:=w)
 exact inR_of (by omega) (by omega)
theorem impl_MedianMatching_ok {n1 n2 : Option Bool} (x y : List (List Int)) (k : Int) (hx : x.length ≤ 1048576) (kx : ∀ r ∈ x, r.length ≤ 1048576) (hy : y.length ≤ 1048576) (ky : ∀ r ∈ y, r.length ≤ 1048576) :
  CallOk Try.prog 9 [.a [.s n1 (rr x),.s n2 (rr y)],.i k] [(0,.tp 2),(100000,.own 1 none (ii (medF x y k))),(101000,.b (medB x y k))]:=by
 obtain ⟨code0,hcd1,hcd2⟩:=chk_impl_MedianMatching; refine callOk_of Try.func9 hcd1 mo Try.call9 (rs:=[4,5]) (by kernel_rfl) hcd2 (by rw [Try.ntmps9]; simp) (by simp) (by decide) ?_; unfold C_impl_MedianMatching K_impl_MedianMatching; simp (maxSteps:=2000000) only [go_sem,Nat.reduceBEq,Nat.reduceAdd,Nat.reduceMul,Nat.reduceMod,Nat.reduceLT,Nat.reduceDiv,Nat.reduceSub,Nat.reduceLeDiff,Int.reduceToNat,Int.reduceLT,Int.reduceLE,reduceCtorEq]
 refine ⟨_,impl_StableMatchings_ok x y hx kx hy ky,?_⟩; simp (maxSteps:=2000000) only [go_sem,Nat.reduceBEq,Nat.reduceAdd,Nat.reduceMul,Nat.reduceMod,Nat.reduceLT,Nat.reduceDiv,Nat.reduceSub,Nat.reduceLeDiff,Int.reduceToNat,Int.reduceLT,Int.reduceLE,reduceCtorEq]
 have hSl:=stabF_len (x:=x) (y:=y)
 refine ⟨inR_of (by omega) (by omega),?_⟩
 refine ⟨_,within_ok _ _ _,?_⟩; simp (maxSteps:=2000000) only [go_sem,Nat.reduceBEq,Nat.reduceAdd,Nat.reduceMul,Nat.reduceMod,Nat.reduceLT,Nat.reduceDiv,Nat.reduceSub,Nat.reduceLeDiff,Int.reduceToNat,Int.reduceLT,Int.reduceLE,reduceCtorEq]
 refine ⟨fun h0 => ⟨by omega,by simp [medF,medB,h0],by simp [medB,h0]⟩,fun h0 => ?_⟩
 have hk:0 ≤ k ∧ k < (stabF x y).length:=by simp only [inI,Bool.and_eq_true,decide_eq_true_eq] at h0; omega
 have hst:∀ l ∈ stabF x y,(l.length:Int) = x.length:=fun l hl => rank_len (stab_rank hl).2.1
 have M:=mk_of (stab_rank (getD_mem (d:=[]) (show 0 < (stabF x y).length by omega))).1
 have n5:=M.m.n5
 have hB:medB x y k = true:=h0
 have hF:medF x y k = medK x y k x.length:=if_pos hB
 rw [hF,hB]
 refine loopN x.length (fun i => [(0,.t .arg (.a [.s n1 (rr x),.s n2 (rr y)])),(1,.i k),(2,.t .arg (.q [.s n1 (rr x),.s n2 (rr y)] 0)),(4,.own 1 (some true) []),(5,.b false),(6,.own 1 none (rr (stabF x y))),(7,.own 1 none (ii (medK x y k i))),(22,.t .arg (.s n1 (rr x))),(23,.i x.length),(24,.i (i:Nat))]) (fun _ => True) ⟨trivial,by simp (maxSteps:=2000000) only [go_sem,Nat.reduceBEq,Nat.reduceAdd,Nat.reduceMul,Nat.reduceMod,Nat.reduceLT,Nat.reduceDiv,Nat.reduceSub,Nat.reduceLeDiff,Int.reduceToNat,Int.reduceLT,Int.reduceLE,reduceCtorEq]; simp [medK]⟩ fun i hi _ => ?_
 have hml:=medK_len (x:=x) (y:=y) (k:=k) (m:=i)
 simp (maxSteps:=2000000) only [go_sem,Nat.reduceBEq,Nat.reduceAdd,Nat.reduceMul,Nat.reduceMod,Nat.reduceLT,Nat.reduceDiv,Nat.reduceSub,Nat.reduceLeDiff,Int.reduceToNat,Int.reduceLT,Int.reduceLE,reduceCtorEq]
 refine ⟨fun hlt => ?_, fun hge => ?_⟩
 ·have hi':i < x.length:=by omega
  refine ⟨by omega,hi',hi',?_⟩
  have hr:=M.m.rk i hi'
  have rl:=rank_len hr
  have hSr:∀ l ∈ stabF x y,0 ≤ l.getD i 0 ∧ l.getD i 0 < x.length:=fun l hl => rank_bd (stab_rank hl).2.1 (by have:=hst l hl; omega)
  have hmv : ∀ v ∈ medC x y i, v ∈ x.getD i [] := fun v hv => by
   obtain ⟨l,hl,rfl⟩:=List.mem_map.1 hv
   have:=hSr l hl
   exact rank_all hr this.1 this.2
  have hcl:(medC x y i).length = (stabF x y).length:=by simp [medC]
  obtain ⟨ys, p1, p2, W⟩ := sortKey_ok (nl := none) (xs := medC x y i) (f := 49) (cp := [.q [.s none (ii (x.getD i []))] 0]) (p := placeI (x.getD i [])) (fun h => by rw [h] at hcl; simp at hcl; omega) (by omega) (fun v hv => by
   obtain ⟨l,hl,rfl⟩:=List.mem_map.1 hv
   have:=hSr l hl
   exact inR_of (by omega) (by omega)) (fun v w _ _ => impl_Median1_ok (x.getD i []) (by omega) v w)
  have hyl:ys.length = (stabF x y).length:=by rw [p1.length_eq,hcl]
  have hval:medV x y k i = ys.getD k.toNat 0:=med_val p1 p2 (by omega) hmv (by omega)
  refine loopN (stabF x y).length (fun j => [(0,.t .arg (.a [.s n1 (rr x),.s n2 (rr y)])),(1,.i k),(2,.t .arg (.q [.s n1 (rr x),.s n2 (rr y)] 0)),(4,.own 1 (some true) []),(5,.b false),(6,.own 1 none (rr (stabF x y))),(7,.own 1 none (ii (medK x y k i))),(8,.i i),(9,.bx 1),(10,.own 1 none (ii ((medC x y i).take j))),(22,.t .arg (.s n1 (rr x))),(23,.i x.length),(24,.i (i:Nat)),(29,.al 6),(30,.i (stabF x y).length),(31,.i (j:Nat)),(1009,.t .arg (.s none (ii (x.getD i []))))]) (fun _ => True) ⟨trivial,by simp (maxSteps:=2000000) only [go_sem,Nat.reduceBEq,Nat.reduceAdd,Nat.reduceMul,Nat.reduceMod,Nat.reduceLT,Nat.reduceDiv,Nat.reduceSub,Nat.reduceLeDiff,Int.reduceToNat,Int.reduceLT,Int.reduceLE,reduceCtorEq]; simp⟩ fun j hj _ => ?_
  have htl:((medC x y i).take j).length = j:=by rw [List.length_take]; omega
  simp (maxSteps:=2000000) only [go_sem,Nat.reduceBEq,Nat.reduceAdd,Nat.reduceMul,Nat.reduceMod,Nat.reduceLT,Nat.reduceDiv,Nat.reduceSub,Nat.reduceLeDiff,Int.reduceToNat,Int.reduceLT,Int.reduceLE,reduceCtorEq]
  refine ⟨fun hlt2 => ?_, fun hge2 => ?_⟩
  ·have hj':j < (stabF x y).length:=by omega
   have hlj:=hst _ (getD_mem (d:=[]) hj')
   exact ⟨by omega,hj',hj',by omega,by omega,by omega,by omega,inR_of (by omega) (by omega),hj',(medC_s hj').symm,by simp⟩
  ·have:j = (stabF x y).length:=by omega
   subst this
   have e:(medC x y i).take (stabF x y).length = medC x y i:=by rw [← hcl,List.take_length]
   rw [e]
   refine ⟨_,_,_,W,?_⟩; simp (maxSteps:=2000000) only [go_sem,Nat.reduceBEq,Nat.reduceAdd,Nat.reduceMul,Nat.reduceMod,Nat.reduceLT,Nat.reduceDiv,Nat.reduceSub,Nat.reduceLeDiff,Int.reduceToNat,Int.reduceLT,Int.reduceLE,reduceCtorEq]
   simp (maxSteps:=2000000) only [go_sem,Nat.reduceBEq,Nat.reduceAdd,Nat.reduceMul,Nat.reduceMod,Nat.reduceLT,Nat.reduceDiv,Nat.reduceSub,Nat.reduceLeDiff,Int.reduceToNat,Int.reduceLT,Int.reduceLE,reduceCtorEq,ii_get (show k.toNat < ys.length by omega)]
   exact ⟨by omega,by omega,by omega,by omega,inR_of (by omega) (by omega),hi',by rw [medK_s,hval],by simp⟩
 ·have:i = x.length:=by omega
  subst this
  exact ⟨by omega,rfl⟩
end Go.Proofs.Ytllcbempbdibhaa
