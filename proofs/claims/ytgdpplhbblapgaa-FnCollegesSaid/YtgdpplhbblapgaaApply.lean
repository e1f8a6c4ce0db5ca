/- Own work: contracts of functions. No condition beyond those that each theorem names. -/
import Derived.Test.YtgdpplhbblapgaaProg
import Derived.Test.YtgdpplhbblapgaaOffer
import Derived.Test.YtgdpplhbblapgaaClone
import Derived.Test.YtgdpplhbblapgaaPerm
namespace Go.Proofs.Ytgdpplhbblapgaa
open Go Go.Vc
set_option maxRecDepth 100000
set_option linter.unusedSimpArgs false
set_option linter.unusedVariables false
def K_slices_Reverse_Sint_int:List Nat:=[0,2,3]
def C_slices_Reverse_Sint_int : C :=
 let ks:=K_slices_Reverse_Sint_int
 (.seq
  (.rg 0 [(none,.v 4 .mv [.s 0]),(none,.v 5 .len [.s 4]),(none,.v 6 (.bin .sub) [.s 5,.k (.i 1)]),(none,.v 2 .mv [.k (.i 0)]),(none,.tk 3 6)])
  (.cl ks (.block 0
  (.loop
  (.seq
  (.seq
  (.rg 0 [(none,.v 7 .mv [.s 2]),(none,.v 8 .mv [.s 3]),(none,.v 9 (.bin .lss) [.s 7,.s 8])])
  (.cond (.s 9)
  .skip
  (.exit 0)))
  (.cl ks (.seq
  (.block 1
  (.rgF 13 13 [(2,16,0,none),(3,17,3,none)] [(none,.v 14 .mv [.s 0]),(none,.v 15 .mv [.s 2]),(none,.v 16 .mv [.s 0]),(none,.v 17 .mv [.s 3]),(none,.v 18 .mv [.s 0]),(none,.v 19 .mv [.s 3]),(none,.v 20 .idx [.s 18,.s 19]),(none,.v 21 .ld [.s 20]),(none,.v 22 .mv [.s 0]),(none,.v 23 .mv [.s 2]),(none,.v 24 .idx [.s 22,.s 23]),(none,.v 25 .ld [.s 24]),(none,.v 26 .idx [.s 14,.s 15]),(none,.st (.s 26) (.s 21)),(none,.v 27 .idx [.s 16,.s 17]),(none,.st (.s 27) (.s 25))]))
  (.cl ks (.rg 0 [(none,.v 10 .mv [.s 2]),(none,.v 11 (.bin .add) [.s 10,.k (.i 1)]),(none,.v 12 .mv [.s 3]),(none,.v 13 (.bin .sub) [.s 12,.k (.i 1)]),(none,.tk 2 11),(none,.tk 3 13)])))))))))
theorem chk_slices_Reverse_Sint_int:∃ b,Try.f178.body = some b ∧ chk Try.prog Try.f178.ntmps false C_slices_Reverse_Sint_int b = true:=⟨_,rfl,by kernel_rfl⟩
def K_impl_ReverseRanking:List Nat:=[0,2,3]
def C_impl_ReverseRanking : C :=
 let ks:=K_impl_ReverseRanking
 (.seq
  (.rg 0 [(none,.mkn 2)])
  (.cl ks (.seq
  (.rg 0 [(none,.v 4 .mv [.s 0]),(none,.co 5 114 [.s 4]),(none,.tk 3 5)])
  (.cl ks (.seq
  (.rg 0 [(none,.v 6 .mv [.s 3]),(none,.cox (some 7) 178 [.s 6] 0)])
  (.cl ks (.seq
  (.rg 0 [(none,.v 8 .mv [.s 3]),(none,.tk 2 8)])
  .ret)))))))
theorem chk_impl_ReverseRanking:∃ b,Try.f154.body = some b ∧ chk Try.prog Try.f154.ntmps true C_impl_ReverseRanking b = true:=⟨_,rfl,by kernel_rfl⟩
def K_impl_School_sendAway:List Nat:=[0,1,2,3,7,25,26,27,1003,2003,3003]
def C_impl_School_sendAway : C :=
 let ks:=K_impl_School_sendAway
 (.seq
  (.rg 0 [(none,.v 3 .boxS [.s 0])])
  (.cl ks (.seq
  (.seq
  (.rg 11 [(none,.v 8 (.lds 3) [.s 3]),(none,.v 9 .mv [.s 1]),(none,.v 10 (.call 91) [.s 8,.s 9]),(none,.v 11 .mv [.s 2]),(none,.v 12 .idx [.s 10,.s 11]),(none,.v 13 .ld [.s 12]),(none,.v 14 (.fa 2) [.s 3]),(none,.v 15 .ld [.s 14]),(none,.v 16 .mv [.s 2]),(none,.v 17 .idx [.s 15,.s 16]),(none,.v 18 .ld [.s 17]),(none,.v 19 (.bin .leq) [.s 13,.s 18])])
  (.cond (.s 19)
  .ret
  .skip))
  (.cl ks (.seq
  (.rg 0 [(none,.v 20 (.fa 1) [.s 3]),(none,.v 21 .ld [.s 20]),(none,.v 22 .mv [.s 2]),(none,.v 23 .idx [.s 21,.s 22]),(none,.v 24 .ld [.s 23]),(none,.co 25 154 [.s 24]),(none,.v 26 .len [.s 25]),(none,.v 27 .mv [.k (.i 0)])])
  (.cl ks (.block 0
  (.loop
  (.seq
  (.rg 0 [(none,.v 28 (.bin .lss) [.s 27,.s 26])])
  (.seq
  (.cond (.s 28)
  .skip
  (.exit 0))
  (.cl ks (.seq
  (.block 1
  (.seq
  (.rg 0 [(none,.v 29 .idx [.s 25,.s 27]),(none,.v 30 .ld [.s 29]),(none,.tk 7 30)])
  (.cl ks (.seq
  (.rg 0 [(none,.v 31 .mv [.s 1]),(none,.v 32 .mv [.s 7]),(none,.v 33 .idx [.s 31,.s 32]),(none,.v 34 .ld [.s 33]),(none,.v 35 .mv [.s 2]),(none,.v 36 (.bin .eql) [.s 34,.s 35])])
  (.cond (.s 36)
  (.seq
  (.rg 0 [(none,.v 37 .mv [.s 1]),(none,.v 38 .mv [.s 7]),(none,.v 39 .idx [.s 37,.s 38]),(none,.st (.s 39) (.k (.i (-1))))])
  .ret)
  .skip)))))
  (.cl ks (.rg 0 [(none,.v 40 (.bin .add) [.s 27,.k (.i 1)]),(none,.v 27 .mv [.s 40])]))))))))))))))
theorem chk_impl_School_sendAway:∃ b,Try.f96.body = some b ∧ chk Try.prog Try.f96.ntmps false C_impl_School_sendAway b = true:=⟨_,rfl,by kernel_rfl⟩
def K_impl_Apply_1:List Nat:=[0,1,2,3,5]
def C_impl_Apply_1 : C :=
 let ks:=K_impl_Apply_1
 (.seq
  (.rg 0 [(none,.v 5 .mv [.k (.b false)])])
  (.cl ks (.seq
  (.rg 13 [(none,.v 6 .ld [.s 1]),(none,.v 7 .mv [.s 0]),(none,.v 8 .idx [.s 6,.s 7]),(none,.v 9 .ld [.s 8]),(none,.v 10 (.bin .lss) [.s 9,.k (.i 0)]),(none,.v 11 .mv [.s 10]),(some (11,true),.v 12 .ld [.s 2]),(some (11,true),.v 13 .mv [.s 0]),(some (11,true),.v 14 .idx [.s 12,.s 13]),(some (11,true),.v 15 .ld [.s 14]),(some (11,true),.v 16 (.fa 1) [.s 3]),(some (11,true),.v 17 .ld [.s 16]),(some (11,true),.v 18 .len [.s 17]),(some (11,true),.v 19 (.bin .lss) [.s 15,.s 18]),(none,.v 20 .pick [.s 11,.s 19,.k (.b false)]),(none,.tk 5 20)])
  .ret)))
theorem chk_impl_Apply_1:∃ b,Try.f95.body = some b ∧ chk Try.prog Try.f95.ntmps true C_impl_Apply_1 b = true:=⟨_,rfl,by kernel_rfl⟩
def K_impl_Apply:List Nat:=[0,1,2,3,4,5,1001,2001,3001,1003,1004]
def C_impl_Apply : C :=
 let ks:=K_impl_Apply
 (.seq
  (.rg 0 [(none,.v 1 .boxS [.s 0]),(none,.mkn 2)])
  (.cl ks (.seq
  (.seq
  (.rg 0 [(none,.v 6 (.lds 3) [.s 1]),(none,.co 7 86 [.s 6]),(none,.v 8 .not [.s 7])])
  (.cond (.s 8)
  (.seq
  (.rg 0 [(none,.mkn 2)])
  .ret)
  .skip))
  (.cl ks (.seq
  (.rgC 11 [5,6,7,8] [(none,.v 9 .litF [.k (.i (-1))]),(none,.v 10 (.fa 0) [.s 1]),(none,.v 11 .ld [.s 10]),(none,.v 12 .len [.s 11]),(none,.v 13 (.callO 87 513999) [.s 9,.s 12]),(none,.v 14 (.fa 0) [.s 1]),(none,.v 15 .ld [.s 14]),(none,.v 16 .len [.s 15]),(none,.v 17 (.mkO 517999 (.i 0)) [.s 16,.s 16]),(none,.v 3 (.newO 503999 0) []),(none,.v 4 (.newO 504999 0) [])] [(none,.tkr 3),(none,.tkr 13),(none,.st (.s 3) (.s 13))] [(none,.tkr 4),(none,.tkr 17),(none,.st (.s 4) (.s 17))])
  (.cl ks (.block 0
  (.loop
  (.block 1
  (.seq
  (.rg 0 [(none,.v 18 .ld [.s 3]),(none,.v 19 .len [.s 18]),(none,.co 20 89 [.s 19]),(none,.v 21 (.clo 95) [.s 3,.s 4,.s 1]),(none,.co 22 88 [.s 20,.s 21]),(none,.tk 5 22)])
  (.cl ks (.seq
  (.seq
  (.rg 0 [(none,.v 23 .mv [.s 5]),(none,.v 24 (.bin .lss) [.s 23,.k (.i 0)])])
  (.cond (.s 24)
  (.seq
  (.rg 0 [(none,.v 25 .ld [.s 3]),(none,.tk 2 25)])
  .ret)
  .skip))
  (.cl ks (.seq
  (.rg 13 [(none,.v 26 .ld [.s 3]),(none,.v 27 .mv [.s 5]),(none,.v 28 (.fa 0) [.s 1]),(none,.v 29 .ld [.s 28]),(none,.v 30 .mv [.s 5]),(none,.v 31 .idx [.s 29,.s 30]),(none,.v 32 .ld [.s 31]),(none,.v 33 .ld [.s 4]),(none,.v 34 .mv [.s 5]),(none,.v 35 .idx [.s 33,.s 34]),(none,.v 36 .ld [.s 35]),(none,.v 37 .idx [.s 32,.s 36]),(none,.v 38 .ld [.s 37]),(none,.v 39 .idx [.s 26,.s 27]),(none,.st (.s 39) (.s 38))])
  (.cl ks (.seq
  (.rg 0 [(none,.v 40 .ld [.s 4]),(none,.v 41 .mv [.s 5]),(none,.v 42 .idx [.s 40,.s 41]),(none,.v 43 .ld [.s 42]),(none,.v 44 (.bin .add) [.s 43,.k (.i 1)]),(none,.v 45 .idx [.s 40,.s 41]),(none,.st (.s 45) (.s 44))])
  (.cl ks (.rg 6 [(none,.v 46 (.lds 3) [.s 1]),(none,.v 47 .ld [.s 3]),(none,.v 48 .ld [.s 3]),(none,.v 49 .mv [.s 5]),(none,.v 50 .idx [.s 48,.s 49]),(none,.v 51 .ld [.s 50]),(none,.cox (some 52) 96 [.s 46,.s 47,.s 51] 1)]))))))))))))))))))
theorem chk_impl_Apply:∃ b,Try.f22.body = some b ∧ chk Try.prog Try.f22.ntmps true C_impl_Apply b = true:=⟨_,rfl,by kernel_rfl⟩
def revK (l : List Int) : Nat → List Int
 | 0 => l
 | j + 1 => ((revK l j).set j ((revK l j).getD (l.length - 1 - j) 0)).set (l.length - 1 - j) ((revK l j).getD j 0)
theorem revK_len {l : List Int} : ∀ {j : Nat}, (revK l j).length = l.length
 | 0 => rfl
 | j + 1 => by simp [revK,revK_len (j:=j)]
theorem set_get {xs : List Int} {i p : Nat} {v : Int} (h : i < xs.length) : (xs.set i v).getD p 0 = if p = i then v else xs.getD p 0 := by
 by_cases e : p = i
 ·subst e; simp [List.getD,h]
 ·rw [if_neg e,List.getD,List.getElem?_set_ne (Ne.symm e)]; rfl
theorem revK_get {l : List Int} : ∀ {j p : Nat}, 2 * j ≤ l.length → p < l.length → (revK l j).getD p 0 = if p < j ∨ l.length - 1 - p < j then l.getD (l.length - 1 - p) 0 else l.getD p 0
 | 0,p,_,_ => by simp [revK]
 | j + 1, p, hj, hp => by
  have hl:=revK_len (l:=l) (j:=j)
  have e1:=revK_get (l:=l) (j:=j) (p:=l.length - 1 - j) (by omega) (by omega)
  have e2:=revK_get (l:=l) (j:=j) (p:=j) (by omega) (by omega)
  have e3:=revK_get (l:=l) (j:=j) (p:=p) (by omega) hp
  simp only [revK]
  have b1:l.length - 1 - j < ((revK l j).set j ((revK l j).getD (l.length - 1 - j) 0)).length:=by rw [List.length_set]; omega
  have b2:j < (revK l j).length:=by omega
  rw [set_get b1,set_get b2,e1,e2,e3]
  by_cases c1 : p = l.length - 1 - j
  ·rw [if_pos c1,if_neg (by omega),if_pos (by omega)]
   congr 1; omega
  ·rw [if_neg c1]
   by_cases c2 : p = j
   ·rw [if_pos c2,if_neg (by omega),if_pos (by omega)]
    congr 1; omega
   ·rw [if_neg c2]
    by_cases c3 : p < j ∨ l.length - 1 - p < j
    ·rw [if_pos c3,if_pos (by omega)]
    ·rw [if_neg c3,if_neg (by omega)]
theorem rev_get {l : List Int} {p : Nat} (hp : p < l.length) : l.reverse.getD p 0 = l.getD (l.length - 1 - p) 0 := by
 simp [List.getD,List.getElem?_reverse hp]
theorem revK_end {l : List Int} {j : Nat} (hj : 2 * j ≤ l.length) (h : l.length ≤ 2 * j + 1) : revK l j = l.reverse := by
 apply List.ext_getElem
 ·simp [revK_len]
 ·intro p h1 h2
  rw [revK_len] at h1
  have e:=revK_get (l:=l) hj h1
  have e2:=rev_get (l:=l) h1
  have g1:(revK l j).getD p 0 = (revK l j)[p]'(by rw [revK_len]; exact h1):=by simp [List.getD,revK_len,h1]
  have g2:l.reverse.getD p 0 = l.reverse[p]'(by simpa using h1):=by simp [List.getD,h1]
  rw [← g1,← g2,e,e2]
  by_cases c : p < j ∨ l.length - 1 - p < j
  ·rw [if_pos c]
  ·rw [if_neg c]; congr 1; omega
theorem Reverse_ok (nl : Option Bool) (l : List Int) (h0 : 0 < l.length) (hl : l.length ≤ 1048576) : CallX Try.prog 178 0 [.s nl (ii l)] (.u []) nl (ii l.reverse) := by
 obtain ⟨code0,hcd1,hcd2⟩:=chk_slices_Reverse_Sint_int; refine callX_of Try.func178 hcd1 mo Try.call178 (rs:=[]) (i:=0) (by kernel_rfl) hcd2 (by rw [Try.ntmps178]; simp) (by simp) (by decide) rfl ?_; unfold C_slices_Reverse_Sint_int K_slices_Reverse_Sint_int; simp (maxSteps:=2000000) only [go_sem,Nat.reduceBEq,Nat.reduceAdd,Nat.reduceMul,Nat.reduceMod,Nat.reduceLT,Nat.reduceDiv,Nat.reduceSub,Nat.reduceLeDiff,Int.reduceToNat,Int.reduceLT,Int.reduceLE,reduceCtorEq]
 refine ⟨by unfold inR; omega,?_⟩
 refine loopN (l.length / 2) (fun j => [(0,.own 11 nl (ii (revK l j))),(2,.i (j:Nat)),(3,.i ((l.length:Int) - 1 - j))]) (fun _ => True) ⟨trivial,by simp (maxSteps:=2000000) only [go_sem,Nat.reduceBEq,Nat.reduceAdd,Nat.reduceMul,Nat.reduceMod,Nat.reduceLT,Nat.reduceDiv,Nat.reduceSub,Nat.reduceLeDiff,Int.reduceToNat,Int.reduceLT,Int.reduceLE,reduceCtorEq]; simp [revK]⟩ fun j hj _ => ?_
 simp (maxSteps:=2000000) only [go_sem,Nat.reduceBEq,Nat.reduceAdd,Nat.reduceMul,Nat.reduceMod,Nat.reduceLT,Nat.reduceDiv,Nat.reduceSub,Nat.reduceLeDiff,Int.reduceToNat,Int.reduceLT,Int.reduceLE,reduceCtorEq]
 have hr:=revK_len (l:=l) (j:=j)
 have ej:((l.length:Int) - 1 - j).toNat = l.length - 1 - j:=by omega
 refine ⟨fun hlt => ?_, fun hge => ?_⟩
 ·have hs:((revK l j).set j ((revK l j).getD (l.length - 1 - j) 0)).length = l.length:=by rw [List.length_set]; exact hr
  rw [ej,hs,hr]
  exact ⟨by omega,by omega,by omega,by omega,by omega,by omega,by omega,by omega,by omega,by omega,by omega,by omega,inR_of (by omega) (by omega),inR_of (by omega) (by omega),by omega,rfl,by simp,by omega⟩
 ·have e:=revK_end (l:=l) (j:=j) (by omega) (by omega)
  rw [e]
theorem ReverseRanking_ok {n1 : Option Bool} (l : List Int) (h0 : 0 < l.length) (hl : l.length ≤ 1048576) (hn : n1 ≠ some true := by simp) : CallOk Try.prog 154 [.s n1 (ii l)] [(0, .own 1 none (ii l.reverse))] := by
 obtain ⟨code0,hcd1,hcd2⟩:=chk_impl_ReverseRanking; refine callOk_of Try.func154 hcd1 mo Try.call154 (rs:=[2]) (by kernel_rfl) hcd2 (by rw [Try.ntmps154]; simp) (by simp) (by decide) ?_; unfold C_impl_ReverseRanking K_impl_ReverseRanking; simp (maxSteps:=2000000) only [go_sem,Nat.reduceBEq,Nat.reduceAdd,Nat.reduceMul,Nat.reduceMod,Nat.reduceLT,Nat.reduceDiv,Nat.reduceSub,Nat.reduceLeDiff,Int.reduceToNat,Int.reduceLT,Int.reduceLE,reduceCtorEq]
 refine ⟨_,Clone_ok l h0 hl hn,?_⟩; simp (maxSteps:=2000000) only [go_sem,Nat.reduceBEq,Nat.reduceAdd,Nat.reduceMul,Nat.reduceMod,Nat.reduceLT,Nat.reduceDiv,Nat.reduceSub,Nat.reduceLeDiff,Int.reduceToNat,Int.reduceLT,Int.reduceLE,reduceCtorEq]
 refine ⟨_,_,_,Reverse_ok none l h0 hl,?_⟩; simp (maxSteps:=2000000) only [go_sem,Nat.reduceBEq,Nat.reduceAdd,Nat.reduceMul,Nat.reduceMod,Nat.reduceLT,Nat.reduceDiv,Nat.reduceSub,Nat.reduceLeDiff,Int.reduceToNat,Int.reduceLT,Int.reduceLE,reduceCtorEq]
theorem nd_get {l : List Int} (h : l.Nodup) {i j : Nat} (hi : i < l.length) (hj : j < l.length) (e : l.getD i 0 = l.getD j 0) : i = j := by
 refine Classical.byContradiction fun hne => ?_
 rw [List.Nodup,List.pairwise_iff_getElem] at h
 have a1:l.getD i 0 = l[i]:=by simp [List.getD,hi]
 have a2:l.getD j 0 = l[j]:=by simp [List.getD,hj]
 rw [a1,a2] at e
 rcases Nat.lt_or_gt_of_ne hne with h' | h'
 ·exact h i j hi hj h' e
 ·exact h j i hj hi h' e.symm
theorem placeI_nd {l : List Int} (h : l.Nodup) {j : Nat} (hj : j < l.length) : placeI l (l.getD j 0) = j := by
 obtain ⟨k,hk,e,ek⟩:=placeI_mem (getD_mem (d:=(0:Int)) hj)
 rw [ek,nd_get h hk hj e]
def wsN (r l : List Int) (k : Int) : Nat → Int
 | 0 => -1
 | i + 1 => if l.getD i 0 = k ∧ (wsN r l k i < 0 ∨ prefB r (wsN r l k i) i = true) then (i:Int) else wsN r l k i
theorem ws_at {r l : List Int} {k : Int} {n : Nat} (R : rankB n r = true) : ∀ {m : Nat}, m ≤ n → (wsN r l k m = -1 ∧ ∀ i, i < m → l.getD i 0 ≠ k) ∨ ∃ w : Nat, w < m ∧ wsN r l k m = w ∧ l.getD w 0 = k ∧ ∀ i : Nat, i < m → l.getD i 0 = k → placeI r i ≤ placeI r w
 | 0,_ => .inl ⟨rfl,fun i hi => by omega⟩
 | m + 1, hm => by
  have P : ∀ i : Nat, i < n → 0 ≤ placeI r i := fun i hi => by
   obtain ⟨j,_,_,h3⟩:=placeI_mem (rank_all R (a:=(i:Int)) (by omega) (by omega)); omega
  simp only [wsN]
  rcases ws_at R (m := m) (l := l) (k := k) (by omega) with ⟨h1, h2⟩ | ⟨w, h1, h2, h3, h4⟩
  ·rw [h1]
   by_cases c : l.getD m 0 = k
   ·rw [if_pos ⟨c,.inl (by omega)⟩]
    right
    refine ⟨m,by omega,rfl,c,fun i hi hk => ?_⟩
    by_cases e : i = m
    ·rw [e]; exact Int.le_refl _
    ·exact absurd hk (h2 i (by omega))
   ·rw [if_neg fun h => c h.1]
    left
    refine ⟨rfl,fun i hi => ?_⟩
    by_cases e : i = m
    ·rw [e]; exact c
    ·exact h2 i (by omega)
  ·rw [h2]
   by_cases c : l.getD m 0 = k ∧ ((w : Int) < 0 ∨ prefB r w m = true)
   ·rw [if_pos c]
    right
    have hp:=c.2.resolve_left (by omega)
    simp only [prefB,Bool.and_eq_true,decide_eq_true_eq] at hp
    refine ⟨m,by omega,rfl,c.1,fun i hi hk => ?_⟩
    by_cases e : i = m
    ·rw [e]; exact Int.le_refl _
    ·have:=h4 i (by omega) hk; omega
   ·rw [if_neg c]
    right
    refine ⟨w,by omega,rfl,h3,fun i hi hk => ?_⟩
    by_cases e : i = m
    ·subst e
     have h5:¬ prefB r w i = true:=fun h => c ⟨hk,.inr h⟩
     simp only [prefB,Bool.and_eq_true,decide_eq_true_eq,not_and] at h5
     have:=h5 ⟨P w (by omega),P i (by omega)⟩
     omega
    ·exact h4 i (by omega) hk
def sndF (y:List (List Int)) (z l:List Int) (k:Nat):List Int:=if z.getD k 0 < (filF y.length l).getD k 0 then l.set (wsN (y.getD k []) l k l.length).toNat (-1) else l
theorem snd_len {y:List (List Int)} {z l:List Int} {k:Nat}:(sndF y z l k).length = l.length:=by unfold sndF; split <;> simp
theorem impl_sendAway_ok {n1 n2 n3 n4 : Option Bool} (x y : List (List Int)) (z l : List Int) (k : Nat) (S : Sc x y z x.length y.length) (hk : k < y.length) (ll : l.length = x.length) (hb : ∀ i, i < l.length → l.getD i 0 < y.length) :
  CallX Try.prog 96 1 [.a [.s n1 (rr x),.s n2 (rr y),.s n3 (ii z)],.s n4 (ii l),.i k] (.u []) n4 (ii (sndF y z l k)):=by
 obtain ⟨code0,hcd1,hcd2⟩:=chk_impl_School_sendAway; refine callX_of Try.func96 hcd1 mo Try.call96 (rs:=[]) (i:=1) (by kernel_rfl) hcd2 (by rw [Try.ntmps96]; simp) (by simp) (by decide) rfl ?_; unfold C_impl_School_sendAway K_impl_School_sendAway; simp (maxSteps:=2000000) only [go_sem,Nat.reduceBEq,Nat.reduceAdd,Nat.reduceMul,Nat.reduceMod,Nat.reduceLT,Nat.reduceDiv,Nat.reduceSub,Nat.reduceLeDiff,Int.reduceToNat,Int.reduceLT,Int.reduceLE,reduceCtorEq]
 have h5:=S.n5
 have h3:=S.c3
 have hz:=S.lz
 have hn1:=S.n1
 have hr:=S.ry k hk
 have hrl:=rank_len hr
 have hfl:=filN_len (c:=y.length) (l:=l) (k:=l.length)
 refine ⟨_,impl_School_filled_ok x y z l (by omega) (by omega) hb,?_⟩; simp (maxSteps:=2000000) only [go_sem,Nat.reduceBEq,Nat.reduceAdd,Nat.reduceMul,Nat.reduceMod,Nat.reduceLT,Nat.reduceDiv,Nat.reduceSub,Nat.reduceLeDiff,Int.reduceToNat,Int.reduceLT,Int.reduceLE,reduceCtorEq]
 have ef:filN y.length l l.length = filF y.length l:=rfl
 rw [hfl]
 refine ⟨by omega, hk, hk, by omega, by omega, by omega, fun h => ?_, fun h => ⟨by omega, hk, hk, ?_⟩⟩
 ·have hlt:¬ z.getD k 0 < (filF y.length l).getD k 0:=by rw [← ef]; omega
  exact (if_neg hlt).symm
 ·refine ⟨_,ReverseRanking_ok (y.getD k []) (by omega) (by omega),?_⟩; simp (maxSteps:=2000000) only [go_sem,Nat.reduceBEq,Nat.reduceAdd,Nat.reduceMul,Nat.reduceMod,Nat.reduceLT,Nat.reduceDiv,Nat.reduceSub,Nat.reduceLeDiff,Int.reduceToNat,Int.reduceLT,Int.reduceLE,reduceCtorEq]
  have hsf : sndF y z l k = l.set (wsN (y.getD k []) l k l.length).toNat (-1) := by
   have hlt:z.getD k 0 < (filF y.length l).getD k 0:=by rw [← ef]; omega
   exact if_pos hlt
  have hbz:=S.bz k hk
  have hcnt : 0 < l.count (k : Int) := by
   have:=filF_cnt hb hk
   rw [← ef] at this; omega
  have nd:=rank_nodup hr
  obtain ⟨w, hw, ew, hwk, hmax⟩ : ∃ w : Nat, w < l.length ∧ wsN (y.getD k []) l k l.length = w ∧ l.getD w 0 = k ∧ ∀ i : Nat, i < l.length → l.getD i 0 = k → placeI (y.getD k []) i ≤ placeI (y.getD k []) w := by
   rcases ws_at (r := y.getD k []) (l := l) (k := (k : Int)) (n := x.length) hr (m := l.length) (by omega) with ⟨_, h2⟩ | h2
   ·obtain ⟨i,hi,e⟩:=mem_getD (0:Int) (List.count_pos_iff.1 hcnt)
    exact absurd e (h2 i hi)
   ·exact h2
  obtain ⟨pw,hpw,epw,eplw⟩:=placeI_mem (rank_all hr (a:=(w:Int)) (by omega) (by omega))
  have hrl':(y.getD k []).length = x.length:=by omega
  refine loopN x.length (fun t => [(0,.t .arg (.a [.s n1 (rr x),.s n2 (rr y),.s n3 (ii z)])),(1,.own 11 n4 (ii l)),(2,.i k),(3,.t .arg (.q [.s n1 (rr x),.s n2 (rr y),.s n3 (ii z)] 0)),(25,.own 1 none (ii (y.getD k []).reverse)),(26,.i x.length),(27,.i (t:Nat))]) (fun t => ∀ q,q < t → l.getD ((y.getD k []).getD (x.length - 1 - q) 0).toNat 0 ≠ (k:Int)) ⟨fun q hq => by omega,by simp (maxSteps:=2000000) only [go_sem,Nat.reduceBEq,Nat.reduceAdd,Nat.reduceMul,Nat.reduceMod,Nat.reduceLT,Nat.reduceDiv,Nat.reduceSub,Nat.reduceLeDiff,Int.reduceToNat,Int.reduceLT,Int.reduceLE,reduceCtorEq]; simp only [List.length_reverse,hrl']; simp⟩ fun t ht hI => ?_
  simp (maxSteps:=2000000) only [go_sem,Nat.reduceBEq,Nat.reduceAdd,Nat.reduceMul,Nat.reduceMod,Nat.reduceLT,Nat.reduceDiv,Nat.reduceSub,Nat.reduceLeDiff,Int.reduceToNat,Int.reduceLT,Int.reduceLE,reduceCtorEq]
  refine ⟨fun hlt => ?_, fun hge => ?_⟩
  ·have ht':t < x.length:=by omega
   have eg:=rev_get (l:=y.getD k []) (p:=t) (by omega)
   rw [hrl'] at eg
   have hbd:=rank_bd hr (i:=x.length - 1 - t) (by omega)
   rw [eg,List.length_reverse,hrl']
   generalize hv:(y.getD k []).getD (x.length - 1 - t) 0 = v at hbd eg ⊢
   refine ⟨by omega, ht', ht', by omega, by omega, by omega, fun he => ⟨by omega, by omega, by omega, ?_⟩, fun he => ⟨inR_of (by omega) (by omega), ht', fun q hq => ?_, by simp⟩⟩
   ·have hvw : v = w := by
     have h1:=hmax v.toNat (by omega) he
     have h2:placeI (y.getD k []) v = (x.length - 1 - t:Nat):=by rw [← hv]; exact placeI_nd nd (by omega)
     rw [Int.toNat_of_nonneg hbd.1,h2,eplw] at h1
     have h3 : ¬ x.length - 1 - pw < t := fun h => hI (x.length - 1 - pw) h (by
      rw [show x.length - 1 - (x.length - 1 - pw) = pw by omega,epw]; simpa using hwk)
     have:x.length - 1 - t = pw:=by omega
     rw [this] at hv; omega
    rw [hsf,ew,hvw]
   ·by_cases e : q = t
    ·rw [e,hv]; exact he
    ·exact hI q (by omega)
  ·have:t = x.length:=by omega
   subst this
   exfalso
   refine hI (x.length - 1 - pw) (by omega) ?_
   rw [show x.length - 1 - (x.length - 1 - pw) = pw by omega,epw]; simpa using hwk
def actP (c:Nat) (s:OS) (i:Int):Bool:=decide (s.l.getD i.toNat 0 < 0) && decide (s.a.getD i.toNat 0 < c)
def actN (n c:Nat) (s:OS):Int:=idxP (actP c s) (upto n)
def actK (x:List (List Int)) (s:OS) (i:Nat):Int:=(x.getD i []).getD (s.a.getD i 0).toNat 0
def OS.ap (x y:List (List Int)) (z:List Int) (s:OS) (i:Nat):OS:=⟨sndF y z (s.l.set i (actK x s i)) (actK x s i).toNat,s.a.set i (s.a.getD i 0 + 1)⟩
def appK (x y : List (List Int)) (z : List Int) : Nat → OS
 | 0 => ⟨List.replicate x.length (-1),List.replicate x.length 0⟩
 | j + 1 => if actN x.length y.length (appK x y z j) < 0 then appK x y z j else (appK x y z j).ap x y z (actN x.length y.length (appK x y z j)).toNat
def appF (x y:List (List Int)) (z:List Int):List Int:=if schoolB x y z = true then (appK x y z (x.length * y.length)).l else []
structure AJ (n c : Nat) (s : OS) : Prop where
 ll:s.l.length = n
 la:s.a.length = n
 bl:∀ i,i < n → -1 ≤ s.l.getD i 0 ∧ s.l.getD i 0 < c
 ba:∀ k,k < n → 0 ≤ s.a.getD k 0 ∧ s.a.getD k 0 ≤ c
section
variable {x y:List (List Int)} {z:List Int} {n c:Nat} {s:OS}
theorem aj0 (S : Sc x y z n c) : AJ n c ⟨List.replicate n (-1), List.replicate n 0⟩ := by
 have g:∀ (v:Int) (m i:Nat),i < m → (List.replicate m v).getD i 0 = v:=fun v m i h => by simp [List.getD,h]
 refine ⟨by simp, by simp, fun i hi => ?_, fun k hk => ?_⟩
 ·simp only; rw [g _ _ _ hi]; have:=S.c1; omega
 ·simp only; rw [g _ _ _ hk]; omega
theorem AJ.k (J : AJ n c s) (S : Sc x y z n c) {i : Nat} (hi : i < n) (h : s.a.getD i 0 < c) : 0 ≤ actK x s i ∧ actK x s i < c := by
 have hr:=S.rx i hi
 have:=rank_len hr
 have:=J.ba i hi
 exact rank_bd hr (by omega)
theorem snd_bd {l : List Int} {k c : Nat} (hb : ∀ i, i < l.length → -1 ≤ l.getD i 0 ∧ l.getD i 0 < c) (i : Nat) (hi : i < l.length) : -1 ≤ (sndF y z l k).getD i 0 ∧ (sndF y z l k).getD i 0 < c := by
 unfold sndF
 split
 ·rcases set_or (xs := l) (i := (wsN (y.getD k []) l k l.length).toNat) (q := i) (v := (-1 : Int)) with e | e <;> rw [e]
  ·omega
  ·exact hb i hi
 ·exact hb i hi
theorem AJ.step (J : AJ n c s) (S : Sc x y z n c) {i : Nat} (hi : i < n) (hp : actP c s i = true) : AJ n c (s.ap x y z i) ∧ (s.ap x y z i).a.sum = s.a.sum + 1 := by
 simp only [actP,Bool.and_eq_true,decide_eq_true_eq,Int.toNat_natCast] at hp
 obtain ⟨h1,h2⟩:=hp
 have hk:=J.k S hi h2
 refine ⟨⟨by simp [OS.ap, snd_len, J.ll], by simp [OS.ap, J.la], fun q hq => ?_, fun q hq => ?_⟩, sum_inc (by rw [J.la]; exact hi)⟩
 ·simp only [OS.ap]
  refine snd_bd (fun q hq => ?_) q (by rw [List.length_set,J.ll]; exact hq)
  rw [List.length_set,J.ll] at hq
  rcases set_or (xs := s.l) (i := i) (q := q) (v := actK x s i) with e | e <;> rw [e]
  ·omega
  ·exact J.bl q hq
 ·simp only [OS.ap]
  have hb:=J.ba i hi
  rcases set_or (xs := s.a) (i := i) (q := q) (v := s.a.getD i 0 + 1) with e | e <;> rw [e]
  ·omega
  ·exact J.ba q hq
theorem AJ.sum (J : AJ n c s) : s.a.sum ≤ ((n * c : Nat) : Int) := by
 have := sum_leN (B := c) (xs := s.a) fun v hv => by
  obtain ⟨k,hk,rfl⟩:=mem_getD 0 hv
  exact (J.ba k (by rw [← J.la]; exact hk)).2
 rw [J.la] at this
 rw [Int.natCast_mul]; exact this
end
section
variable {x y:List (List Int)} {z:List Int}
theorem app_on {j:Nat} (h:¬ actN x.length y.length (appK x y z j) < 0):appK x y z (j + 1) = (appK x y z j).ap x y z (actN x.length y.length (appK x y z j)).toNat:=if_neg h
theorem app_stay {j : Nat} (h : actN x.length y.length (appK x y z j) < 0) : ∀ {m : Nat}, j ≤ m → appK x y z m = appK x y z j
 | 0,hm => by rw [show j = 0 by omega]
 | m + 1, hm => by
  by_cases e : j = m + 1
  ·rw [e]
  ·have ih:=app_stay h (m:=m) (by omega)
   have : appK x y z (m + 1) = appK x y z m := by
    simp only [appK]; rw [if_pos (by rw [ih]; exact h)]
   rw [this,ih]
theorem app_go {j i : Nat} (S : Sc x y z x.length y.length) (J : AJ x.length y.length (appK x y z j)) (hs : (appK x y z j).a.sum = j) (hi : i < x.length) (hp : actP y.length (appK x y z j) (i : Nat) = true) (hb : ∀ q, q < i → actP y.length (appK x y z j) (q : Nat) = false) :
  AJ x.length y.length (appK x y z (j + 1)) ∧ (appK x y z (j + 1)).a.sum = ((j + 1 : Nat) : Int) ∧ j < x.length * y.length ∧ 0 ≤ actK x (appK x y z j) i ∧ actK x (appK x y z j) i < y.length ∧ 0 ≤ (appK x y z j).a.getD i 0 ∧ (appK x y z j).a.getD i 0 < y.length ∧
   appK x y z (j + 1) = (appK x y z j).ap x y z i:=by
 have ek : actN x.length y.length (appK x y z j) = i := by
  rcases idx_upto (p := actP y.length (appK x y z j)) (n := x.length) with h | ⟨q, h1, h2, h3, h4⟩
  ·rw [h.2 i hi] at hp; cases hp
  ·have : q = i := by
    rcases Nat.lt_trichotomy q i with h | h | h
    ·rw [hb q h] at h3; cases h3
    ·exact h
    ·rw [h4 i h] at hp; cases hp
   rw [← this]; exact h2
 have hon:=app_on (x:=x) (y:=y) (z:=z) (j:=j) (by rw [ek]; omega)
 rw [ek,Int.toNat_natCast] at hon
 obtain ⟨J',hs'⟩:=J.step (x:=x) (y:=y) S hi hp
 have hsum:=J'.sum
 rw [← hon] at J' hs' hsum
 have hp':=hp
 simp only [actP,Bool.and_eq_true,decide_eq_true_eq,Int.toNat_natCast] at hp'
 have hk:=J.k (x:=x) S hi hp'.2
 have hak:=J.ba i hi
 exact ⟨J',by omega,by omega,hk.1,hk.2,hak.1,hp'.2,hon⟩
theorem app_out {j : Nat} (h0 : schoolB x y z = true) (hj : j ≤ x.length * y.length) (hb : ∀ q, q < x.length → actP y.length (appK x y z j) (q : Nat) = false) : (appK x y z j).l = appF x y z := by
 have hlt : actN x.length y.length (appK x y z j) < 0 := by
  rcases idx_upto (p := actP y.length (appK x y z j)) (n := x.length) with h | ⟨q, h1, h2, h3, h4⟩
  ·exact h.1
  ·rw [hb q h1] at h3; cases h3
 unfold appF
 rw [if_pos h0,app_stay hlt hj]
end
theorem impl_Apply1_ok {n1 n2 n3 n4 n5 : Option Bool} (x y : List (List Int)) (z l a : List Int) (i : Nat) (S : Sc x y z x.length y.length) (hi : i < x.length) (ll : l.length = x.length) (la : a.length = x.length) :
  CallOk Try.prog 95 [.i i,.q [.s n4 (ii l)] 0,.q [.s n5 (ii a)] 0,.q [.s n1 (rr x),.s n2 (rr y),.s n3 (ii z)] 0] [(0,.b (actP y.length ⟨l,a⟩ i))]:=by
 obtain ⟨code0,hcd1,hcd2⟩:=chk_impl_Apply_1; refine callOk_of Try.func95 hcd1 mo Try.call95 (rs:=[5]) (by kernel_rfl) hcd2 (by rw [Try.ntmps95]; simp) (by simp) (by decide) ?_; unfold C_impl_Apply_1 K_impl_Apply_1; simp (maxSteps:=2000000) only [go_sem,Nat.reduceBEq,Nat.reduceAdd,Nat.reduceMul,Nat.reduceMod,Nat.reduceLT,Nat.reduceDiv,Nat.reduceSub,Nat.reduceLeDiff,Int.reduceToNat,Int.reduceLT,Int.reduceLE,reduceCtorEq]
 have h5:=S.n5
 have h3:=S.c3
 have eo:actP y.length ⟨l,a⟩ (i:Nat) = (decide (l.getD i 0 < 0) && decide (a.getD i 0 < y.length)):=rfl
 refine ⟨by omega, by omega, by omega, fun h => ⟨by omega, by omega, by omega, ?_⟩, fun h => ?_⟩
 ·rw [eo,decide_eq_true h,Bool.true_and]
 ·rw [eo,decide_eq_false h,Bool.false_and]
theorem impl_Apply_ok {n1 n2 n3 : Option Bool} (x y : List (List Int)) (z : List Int) (hx : x.length ≤ 1048576) (kx : ∀ r ∈ x, r.length ≤ 1048576) (hy : y.length ≤ 1048576) (ky : ∀ r ∈ y, r.length ≤ 1048576) (hz : z.length ≤ 1048576) :
  CallOk Try.prog 22 [.a [.s n1 (rr x),.s n2 (rr y),.s n3 (ii z)]] [(0,.own 1 none (ii (appF x y z)))]:=by
 obtain ⟨code0,hcd1,hcd2⟩:=chk_impl_Apply; refine callOk_of Try.func22 hcd1 mo Try.call22 (rs:=[2]) (by kernel_rfl) hcd2 (by rw [Try.ntmps22]; simp) (by simp) (by decide) ?_; unfold C_impl_Apply K_impl_Apply; simp (maxSteps:=2000000) only [go_sem,Nat.reduceBEq,Nat.reduceAdd,Nat.reduceMul,Nat.reduceMod,Nat.reduceLT,Nat.reduceDiv,Nat.reduceSub,Nat.reduceLeDiff,Int.reduceToNat,Int.reduceLT,Int.reduceLE,reduceCtorEq]
 refine ⟨_,impl_SchoolOk_ok x y z hx kx hy ky hz,?_⟩; simp (maxSteps:=2000000) only [go_sem,Nat.reduceBEq,Nat.reduceAdd,Nat.reduceMul,Nat.reduceMod,Nat.reduceLT,Nat.reduceDiv,Nat.reduceSub,Nat.reduceLeDiff,Int.reduceToNat,Int.reduceLT,Int.reduceLE,reduceCtorEq]
 refine ⟨fun h0 => by simp [appF,h0],fun h0 => ?_⟩
 have S:=sc_of h0
 have h5:=S.n5
 have h3:=S.c3
 have c1:=S.c1
 have n1':=S.n1
 have hcr:=Repeat_ok (nl:=some false) (-1) x.length (by omega) (by omega)
 refine ⟨_,hcr,?_⟩; simp (maxSteps:=2000000) only [go_sem,Nat.reduceBEq,Nat.reduceAdd,Nat.reduceMul,Nat.reduceMod,Nat.reduceLT,Nat.reduceDiv,Nat.reduceSub,Nat.reduceLeDiff,Int.reduceToNat,Int.reduceLT,Int.reduceLE,reduceCtorEq]
 simp (maxSteps:=2000000) only [go_sem,Nat.reduceBEq,Nat.reduceAdd,Nat.reduceMul,Nat.reduceMod,Nat.reduceLT,Nat.reduceDiv,Nat.reduceSub,Nat.reduceLeDiff,Int.reduceToNat,Int.reduceLT,Int.reduceLE,reduceCtorEq,List.length_replicate]
 have hy0:(0:Int) ≤ x.length:=by omega
 have hy1:(x.length:Int) ≤ 1099511627776:=by omega
 apply cutG
 intro hG
 ·exact ⟨hy0,hy1,⟨hy0,hy1,hG⟩,⟨hy0,hy1,hG⟩,⟨hy0,hy1,hG⟩,⟨hy0,hy1,hG⟩,hG⟩
 refine loopN (x.length * y.length) (fun j => [(0,.t .arg (.a [.s n1 (rr x),.s n2 (rr y),.s n3 (ii z)])),(1,.t .arg (.q [.s n1 (rr x),.s n2 (rr y),.s n3 (ii z)] 0)),(3,.bx 1),(4,.bx 1),(1003,.own 1 none (ii (appK x y z j).l)),(1004,.own 1 none (ii (appK x y z j).a))]) (fun j => AJ x.length y.length (appK x y z j) ∧ (appK x y z j).a.sum = j) ⟨⟨aj0 S,by simp [appK]⟩,by simp (maxSteps:=2000000) only [go_sem,Nat.reduceBEq,Nat.reduceAdd,Nat.reduceMul,Nat.reduceMod,Nat.reduceLT,Nat.reduceDiv,Nat.reduceSub,Nat.reduceLeDiff,Int.reduceToNat,Int.reduceLT,Int.reduceLE,reduceCtorEq]; simp [appK]⟩ fun j hj hI => ?_
 obtain ⟨J,hs⟩:=hI
 have hll:=J.ll
 have hla:=J.la
 simp (maxSteps:=2000000) only [go_sem,Nat.reduceBEq,Nat.reduceAdd,Nat.reduceMul,Nat.reduceMod,Nat.reduceLT,Nat.reduceDiv,Nat.reduceSub,Nat.reduceLeDiff,Int.reduceToNat,Int.reduceLT,Int.reduceLE,reduceCtorEq]
 refine ⟨_,indices_ok (appK x y z j).l.length (by omega) (by omega),?_⟩; simp (maxSteps:=2000000) only [go_sem,Nat.reduceBEq,Nat.reduceAdd,Nat.reduceMul,Nat.reduceMod,Nat.reduceLT,Nat.reduceDiv,Nat.reduceSub,Nat.reduceLeDiff,Int.reduceToNat,Int.reduceLT,Int.reduceLE,reduceCtorEq]
 rw [hll]
 refine ⟨_, IndexFuncI (actP y.length (appK x y z j)) (fun v hv => ?_) (by rw [upto_len]; omega), ?_⟩
 ·obtain ⟨v0,v1⟩:=mem_upto.1 hv
  obtain ⟨k,rfl⟩:∃ k:Nat,v = k:=⟨v.toNat,by omega⟩
  exact impl_Apply1_ok x y z (appK x y z j).l (appK x y z j).a k S (by omega) hll hla
 have hid:=idx_upto (p:=actP y.length (appK x y z j)) (n:=x.length)
 generalize idxP (actP y.length (appK x y z j)) (upto x.length) = e at hid ⊢
 simp (maxSteps:=2000000) only [go_sem,Nat.reduceBEq,Nat.reduceAdd,Nat.reduceMul,Nat.reduceMod,Nat.reduceLT,Nat.reduceDiv,Nat.reduceSub,Nat.reduceLeDiff,Int.reduceToNat,Int.reduceLT,Int.reduceLE,reduceCtorEq]
 refine ⟨fun hlt => ?_, fun hge => ?_⟩
 ·exact app_out h0 hj (hid.resolve_right (fun ⟨q,_,h2,_⟩ => by omega)).2
 ·obtain ⟨i,hi,ek,hp,hb⟩:=hid.resolve_left (fun h => hge h.1)
  subst ek
  simp only [Int.toNat_natCast]
  obtain ⟨J',hs',hjl,hi0,hi1,ha0,ha1,hon⟩:=app_go S J hs hi hp hb
  have hr:=rank_len (S.rx i hi)
  have ei:(x.getD i []).getD ((appK x y z j).a.getD i 0).toNat 0 = actK x (appK x y z j) i:=rfl
  simp only [ei]
  have hnx:appK x y z (j + 1) = ⟨sndF y z ((appK x y z j).l.set i (actK x (appK x y z j) i)) (actK x (appK x y z j) i).toNat,(appK x y z j).a.set i ((appK x y z j).a.getD i 0 + 1)⟩:=hon
  generalize actK x (appK x y z j) i = k at hi0 hi1 hnx ⊢
  obtain ⟨K,rfl⟩:∃ K:Nat,k = K:=⟨k.toNat,by omega⟩
  have hsl:((appK x y z j).l.set i (K:Int)).length = x.length:=by rw [List.length_set]; exact hll
  have hsk:((appK x y z j).l.set i (K:Int)).getD i 0 = K:=by rw [set_get (by omega),if_pos rfl]
  have hsb : ∀ q, q < ((appK x y z j).l.set i (K : Int)).length → ((appK x y z j).l.set i (K : Int)).getD q 0 < y.length := fun q hq => by
   rw [set_get (by omega)]
   split
   ·omega
   ·exact (J.bl q (by omega)).2
  rw [hsk,hsl,hll,hla]
  refine ⟨by omega,hi,hi,by omega,hi,hi,by omega,by omega,by omega,by omega,hi,hi,by omega,hi,hi,inR_of (by omega) (by omega),by omega,hi,hi,by omega,hi,hi,?_⟩
  refine ⟨_,_,_,impl_sendAway_ok x y z ((appK x y z j).l.set i (K:Int)) K S (by omega) hsl hsb,?_⟩
  refine ⟨hjl,⟨J',hs'⟩,?_,by rw [hnx]⟩
  rw [hnx]
  exact Vc.T.leL_refl _
end Go.Proofs.Ytgdpplhbblapgaa
