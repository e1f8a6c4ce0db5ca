/- Own work: contracts of functions. No condition beyond those that each theorem names. -/
import Derived.Test.YtllcbempbdibhaaProg
import Derived.Test.YtllcbempbdibhaaRanks
import Derived.Test.YtllcbempbdibhaaRepeat
import Derived.Test.YtllcbempbdibhaaClone
namespace Go.Proofs.Ytllcbempbdibhaa
open Go Go.Vc
set_option maxRecDepth 100000
set_option linter.unusedSimpArgs false
set_option linter.unusedVariables false
def K_impl_isEven:List Nat:=[0,2]
def C_impl_isEven : C :=
 let ks:=K_impl_isEven
 (.seq
  (.rg 0 [(none,.v 2 .mv [.k (.b false)])])
  (.cl ks (.seq
  (.rg 0 [(none,.v 3 .mv [.s 0]),(none,.v 4 (.bin .eql) [.s 3,.k (.i 2)]),(none,.v 5 .mv [.s 4]),(some (5,false),.v 6 .mv [.s 0]),(some (5,false),.v 7 (.bin .eql) [.s 6,.k (.i 4)]),(none,.v 8 .pick [.s 5,.k (.b true),.s 7]),(none,.v 9 .mv [.s 8]),(some (9,false),.v 10 .mv [.s 0]),(some (9,false),.v 11 (.bin .eql) [.s 10,.k (.i 6)]),(none,.v 12 .pick [.s 9,.k (.b true),.s 11]),(none,.tk 2 12)])
  .ret)))
theorem chk_impl_isEven:∃ b,Try.f78.body = some b ∧ chk Try.prog Try.f78.ntmps true C_impl_isEven b = true:=⟨_,rfl,by kernel_rfl⟩
def K_impl_pairingsOf:List Nat:=[0,2,3,4,5]
def C_impl_pairingsOf : C :=
 let ks:=K_impl_pairingsOf
 (.seq
  (.rg 0 [(none,.mkn 2)])
  (.cl ks (.seq
  (.rg 0 [(none,.v 6 .mv [.s 0]),(none,.co 7 73 [.s 6,.k (.i (-1))]),(none,.tk 3 7)])
  (.cl ks (.seq
  (.seq
  (.rg 0 [(none,.v 8 .mv [.s 3]),(none,.v 9 (.bin .lss) [.s 8,.k (.i 0)])])
  (.cond (.s 9)
  (.seq
  (.rg 0 [(none,.v 10 .mv [.s 0]),(none,.co 11 100 [.s 10]),(none,.lit 12 [.s 11] 1),(none,.tk 2 12)])
  .ret)
  .skip))
  (.cl ks (.seq
  (.rg 0 [(none,.mkn 4)])
  (.cl ks (.seq
  (.seq
  (.rg 0 [(none,.v 13 .mv [.s 3]),(none,.v 14 (.bin .add) [.s 13,.k (.i 1)]),(none,.tk 5 14)])
  (.cl ks (.block 0
  (.loop
  (.seq
  (.seq
  (.rg 0 [(none,.v 15 .mv [.s 5]),(none,.v 16 .mv [.s 0]),(none,.v 17 .len [.s 16]),(none,.v 18 (.bin .lss) [.s 15,.s 17])])
  (.cond (.s 18)
  .skip
  (.exit 0)))
  (.cl ks (.seq
  (.block 1
  (.seq
  (.seq
  (.rg 0 [(none,.v 21 .mv [.s 0]),(none,.v 22 .mv [.s 5]),(none,.v 23 .idx [.s 21,.s 22]),(none,.v 24 .ld [.s 23]),(none,.v 25 (.bin .geq) [.s 24,.k (.i 0)])])
  (.cond (.s 25)
  (.exit 1)
  .skip))
  (.cl ks (.seq
  (.rg 0 [(none,.v 26 .mv [.s 0]),(none,.v 27 .mv [.s 3]),(none,.v 28 .mv [.s 0]),(none,.v 29 .mv [.s 5]),(none,.v 30 .mv [.s 5]),(none,.v 31 .mv [.s 3]),(none,.v 32 .idx [.s 26,.s 27]),(none,.st (.s 32) (.s 30)),(none,.v 33 .idx [.s 28,.s 29]),(none,.st (.s 33) (.s 31))])
  (.cl ks (.seq
  (.rg 0 [(none,.v 34 .mv [.s 4]),(none,.v 35 .mv [.s 0]),(none,.cox (some 36) 79 [.s 35] 0),(none,.app 37 (.s 34) (.s 36) 2),(none,.tk 4 37)])
  (.cl ks (.rg 0 [(none,.v 38 .mv [.s 0]),(none,.v 39 .mv [.s 3]),(none,.v 40 .mv [.s 0]),(none,.v 41 .mv [.s 5]),(none,.v 42 .idx [.s 38,.s 39]),(none,.st (.s 42) (.k (.i (-1)))),(none,.v 43 .idx [.s 40,.s 41]),(none,.st (.s 43) (.k (.i (-1))))]))))))))
  (.cl ks (.rg 0 [(none,.v 19 .mv [.s 5]),(none,.v 20 (.bin .add) [.s 19,.k (.i 1)]),(none,.tk 5 20)])))))))))
  (.cl ks (.seq
  (.rg 0 [(none,.v 44 .mv [.s 4]),(none,.tk 2 44)])
  .ret)))))))))))
theorem chk_impl_pairingsOf:∃ b,Try.f79.body = some b ∧ chk Try.prog Try.f79.ntmps false C_impl_pairingsOf b = true:=⟨_,rfl,by kernel_rfl⟩
def K_impl_AllPairings:List Nat:=[0,2]
def C_impl_AllPairings : C :=
 let ks:=K_impl_AllPairings
 (.seq
  (.rg 0 [(none,.mkn 2)])
  (.cl ks (.seq
  (.seq
  (.rg 0 [(none,.v 3 .mv [.s 0]),(none,.co 4 78 [.s 3]),(none,.v 5 .not [.s 4])])
  (.cond (.s 5)
  (.seq
  (.rg 0 [(none,.mkn 2)])
  .ret)
  .skip))
  (.cl ks (.seq
  (.rg 0 [(none,.lit 6 [.k (.i (-1))] 0),(none,.v 7 .mv [.s 0]),(none,.co 8 72 [.s 6,.s 7]),(none,.cox (some 9) 79 [.s 8] 0),(none,.tk 2 9)])
  .ret)))))
theorem chk_impl_AllPairings:∃ b,Try.f34.body = some b ∧ chk Try.prog Try.f34.ntmps true C_impl_AllPairings b = true:=⟨_,rfl,by kernel_rfl⟩
def evenB (n:Int):Bool:=decide (n = 2) || decide (n = 4) || decide (n = 6)
theorem isEven_ok (n : Int) : CallOk Try.prog 78 [.i n] [(0, .b (evenB n))] := by
 obtain ⟨code0,hcd1,hcd2⟩:=chk_impl_isEven; refine callOk_of Try.func78 hcd1 mo Try.call78 (rs:=[2]) (by kernel_rfl) hcd2 (by rw [Try.ntmps78]; simp) (by simp) (by decide) ?_; unfold C_impl_isEven K_impl_isEven; simp (maxSteps:=2000000) only [go_sem,Nat.reduceBEq,Nat.reduceAdd,Nat.reduceMul,Nat.reduceMod,Nat.reduceLT,Nat.reduceDiv,Nat.reduceSub,Nat.reduceLeDiff,Int.reduceToNat,Int.reduceLT,Int.reduceLE,reduceCtorEq]
 refine ⟨fun h => ⟨fun h4 => by unfold evenB; simp [h,h4],fun h4 => by subst h4; rfl⟩,fun h => by subst h; rfl⟩
theorem IndexQ_ok {nl:Option Bool} (xs:List Int) (v:Int) (hl:xs.length ≤ 1048576):CallOk Try.prog 73 [.s nl (ii xs),.i v] [(0,.i (placeI xs v))]:=by rw [placeI_sym]; exact IndexI xs v hl
def prsR (g : List Int → List (List Int)) (l : List Int) (i : Nat) : Nat → List (List Int)
 | 0 => []
 | k + 1 => prsR g l i k ++ if i < k ∧ l.getD k 0 < 0 then g ((l.set i k).set k i) else []
def prsF : Nat → List Int → List (List Int)
 | 0,l => [l]
 | m + 1,l => if placeI l (-1) < 0 then [l] else prsR (prsF m) l (placeI l (-1)).toNat l.length
theorem prsR_0 {g : List Int → List (List Int)} {l : List Int} {i : Nat} : ∀ {k : Nat}, k ≤ i + 1 → prsR g l i k = []
 | 0,_ => rfl
 | k + 1,h => by rw [prsR,prsR_0 (by omega),if_neg (by omega)]; rfl
theorem prsR_len {g : List Int → List (List Int)} {l : List Int} {i B : Nat} (h : ∀ k : Nat, (g ((l.set i k).set k i)).length ≤ B) : ∀ {k : Nat}, (prsR g l i k).length ≤ k * B
 | 0 => by simp [prsR]
 | k + 1 => by
  have ih:=prsR_len h (k:=k)
  have hk:=h k
  rw [prsR,List.length_append,Nat.succ_mul]
  split
  ·omega
  ·simp; omega
theorem prsF_len : ∀ {m : Nat} {l : List Int}, l.length ≤ 6 → (prsF m l).length ≤ 6 ^ m
 | 0,l,_ => by simp [prsF]
 | m + 1, l, h => by
  rw [prsF]
  split
  ·have:0 < 6 ^ (m + 1):=Nat.pow_pos (by omega)
   simp only [List.length_singleton]; omega
  ·have h1:=prsR_len (g:=prsF m) (l:=l) (i:=(placeI l (-1)).toNat) (B:=6 ^ m) (fun k => prsF_len (by simp only [List.length_set]; exact h)) (k:=l.length)
   have h2:=Nat.mul_le_mul_right (6 ^ m) h
   rw [Nat.pow_succ]; omega
theorem neg_set {l : List Int} {i : Nat} {v : Int} (hi : i < l.length) (hn : l.getD i 0 < 0) (hv : 0 ≤ v) : (l.set i v).countP (fun x => decide (x < 0)) + 1 = l.countP fun x => decide (x < 0) := by
 rw [List.countP_set hi]
 have e:l[i] = l.getD i 0:=by simp [List.getD,hi]
 have hpos:0 < l.countP fun x => decide (x < 0):=List.countP_pos_iff.2 ⟨_,List.getElem_mem hi,by rw [e]; simpa using hn⟩
 rw [e]
 simp only [hn,decide_true,if_true,show ¬ v < 0 by omega,decide_false,Bool.false_eq_true,if_false]
 omega
theorem set_back {l : List Int} {i k : Nat} {a b : Int} (hi : i < l.length) (hk : k < l.length) (ei : l.getD i 0 = -1) (ek : l.getD k 0 = -1) : (((l.set i a).set k b).set i (-1)).set k (-1) = l := by
 refine List.ext_getElem (by simp) fun t h1 h2 => ?_
 have e1:l[i] = -1:=by rw [← ei]; simp [List.getD,hi]
 have e2:l[k] = -1:=by rw [← ek]; simp [List.getD,hk]
 simp only [List.getElem_set]
 by_cases c1 : k = t
 ·subst c1; rw [if_pos rfl,e2]
 ·rw [if_neg c1]
  by_cases c2 : i = t
  ·subst c2; rw [if_pos rfl,e1]
  ·rw [if_neg c2,if_neg c1,if_neg c2]
theorem getD_set' {l : List Int} {i q : Nat} {v : Int} (hi : i < l.length) : (l.set i v).getD q 0 = if i = q then v else l.getD q 0 := by
 simp only [List.getD,List.getElem?_set]
 by_cases c : i = q
 ·subst c; simp [hi]
 ·simp [c]
theorem neg_first {l : List Int} (h : ¬ placeI l (-1) < 0) : ∃ i : Nat, placeI l (-1) = i ∧ i < l.length ∧ l.getD i 0 = -1 := by
 rcases idxP_cases 0 (fun x => decide (x = (-1 : Int))) l with ⟨j, hj, hp, _, e⟩ | ⟨_, e⟩
 ·exact ⟨j,e,hj,by simpa using hp⟩
 ·exact absurd (show placeI l (-1) < 0 by unfold placeI; rw [e]; omega) h
theorem pairingsOf_ok : ∀ (m : Nat) (l : List Int), m ≤ 6 → l.length ≤ 6 → 0 < l.length → (∀ i, i < l.length → l.getD i 0 = -1 ∨ 0 ≤ l.getD i 0) → l.countP (fun x => decide (x < 0)) ≤ m →
  CallX Try.prog 79 0 [.s none (ii l)] (.s none (rr (prsF m l))) none (ii l)
 | 0, l, hm, h6, h0, hv, hc => by
  have hneg : placeI l (-1) < 0 := Classical.byContradiction fun h => by
   obtain ⟨i,_,hi,e⟩:=neg_first h
   have:=(List.countP_pos_iff (p:=fun x:Int => decide (x < 0)) (l:=l)).2 ⟨_,getD_mem (d:=0) hi,by rw [e]; decide⟩
   omega
  obtain ⟨code0,hcd1,hcd2⟩:=chk_impl_pairingsOf; refine callXF_of Try.func79 hcd1 mo Try.call79 (r:=2) (i:=0) (by kernel_rfl) hcd2 (by rw [Try.ntmps79]; simp) (by simp) (by decide) rfl (by simp only [scalL_ii]) ?_; unfold C_impl_pairingsOf K_impl_pairingsOf; simp (maxSteps:=2000000) only [go_sem,Nat.reduceBEq,Nat.reduceAdd,Nat.reduceMul,Nat.reduceMod,Nat.reduceLT,Nat.reduceDiv,Nat.reduceSub,Nat.reduceLeDiff,Int.reduceToNat,Int.reduceLT,Int.reduceLE,reduceCtorEq]
  refine ⟨_,IndexQ_ok l (-1) (by omega),?_⟩; simp (maxSteps:=2000000) only [go_sem,Nat.reduceBEq,Nat.reduceAdd,Nat.reduceMul,Nat.reduceMod,Nat.reduceLT,Nat.reduceDiv,Nat.reduceSub,Nat.reduceLeDiff,Int.reduceToNat,Int.reduceLT,Int.reduceLE,reduceCtorEq]
  refine ⟨fun _ => ?_,fun h => absurd hneg h⟩
  refine ⟨_,Clone_ok l h0 (by omega),?_⟩; simp (maxSteps:=2000000) only [go_sem,Nat.reduceBEq,Nat.reduceAdd,Nat.reduceMul,Nat.reduceMod,Nat.reduceLT,Nat.reduceDiv,Nat.reduceSub,Nat.reduceLeDiff,Int.reduceToNat,Int.reduceLT,Int.reduceLE,reduceCtorEq]
  exact ⟨by simp,by simp [prsF,rr,T.leL,T.le,T.leL_refl]⟩
 | m + 1, l, hm, h6, h0, hv, hc => by
  have IH:=pairingsOf_ok m
  obtain ⟨code0,hcd1,hcd2⟩:=chk_impl_pairingsOf; refine callXF_of Try.func79 hcd1 mo Try.call79 (r:=2) (i:=0) (by kernel_rfl) hcd2 (by rw [Try.ntmps79]; simp) (by simp) (by decide) rfl (by simp only [scalL_ii]) ?_; unfold C_impl_pairingsOf K_impl_pairingsOf; simp (maxSteps:=2000000) only [go_sem,Nat.reduceBEq,Nat.reduceAdd,Nat.reduceMul,Nat.reduceMod,Nat.reduceLT,Nat.reduceDiv,Nat.reduceSub,Nat.reduceLeDiff,Int.reduceToNat,Int.reduceLT,Int.reduceLE,reduceCtorEq]
  refine ⟨_,IndexQ_ok l (-1) (by omega),?_⟩; simp (maxSteps:=2000000) only [go_sem,Nat.reduceBEq,Nat.reduceAdd,Nat.reduceMul,Nat.reduceMod,Nat.reduceLT,Nat.reduceDiv,Nat.reduceSub,Nat.reduceLeDiff,Int.reduceToNat,Int.reduceLT,Int.reduceLE,reduceCtorEq]
  refine ⟨fun hn => ?_, fun hn => ?_⟩
  ·refine ⟨_,Clone_ok l h0 (by omega),?_⟩; simp (maxSteps:=2000000) only [go_sem,Nat.reduceBEq,Nat.reduceAdd,Nat.reduceMul,Nat.reduceMod,Nat.reduceLT,Nat.reduceDiv,Nat.reduceSub,Nat.reduceLeDiff,Int.reduceToNat,Int.reduceLT,Int.reduceLE,reduceCtorEq]
   exact ⟨by simp,by simp [prsF,hn,rr,T.leL,T.le,T.leL_refl]⟩
  obtain ⟨i,ei,hi,hli⟩:=neg_first hn
  have eF:prsF (m + 1) l = prsR (prsF m) l i l.length:=by rw [prsF,if_neg hn,ei]; rfl
  rw [eF,ei]
  refine ⟨inR_of (by omega) (by omega),?_⟩
  refine loopN (l.length - (i + 1)) (fun t => [(0,.own 11 none (ii l)),(2,.own 1 (some true) []),(3,.i i),(4,.own 0 none (rr (prsR (prsF m) l i (i + 1 + t)))),(5,.i ((i + 1 + t:Nat):Int))]) (fun _ => True) ⟨trivial,by simp (maxSteps:=2000000) only [go_sem,Nat.reduceBEq,Nat.reduceAdd,Nat.reduceMul,Nat.reduceMod,Nat.reduceLT,Nat.reduceDiv,Nat.reduceSub,Nat.reduceLeDiff,Int.reduceToNat,Int.reduceLT,Int.reduceLE,reduceCtorEq]; rw [prsR_0 (by omega)]; simp [rr,T.leL]⟩ fun t ht _ => ?_
  simp (maxSteps:=2000000) only [go_sem,Nat.reduceBEq,Nat.reduceAdd,Nat.reduceMul,Nat.reduceMod,Nat.reduceLT,Nat.reduceDiv,Nat.reduceSub,Nat.reduceLeDiff,Int.reduceToNat,Int.reduceLT,Int.reduceLE,reduceCtorEq]
  refine ⟨fun hlt => ?_, fun hge => ?_⟩
  ·have hk:i + 1 + t < l.length:=by omega
   have e1:prsR (prsF m) l i (i + 1 + (t + 1)) = prsR (prsF m) l i (i + 1 + t) ++ if i < i + 1 + t ∧ l.getD (i + 1 + t) 0 < 0 then prsF m ((l.set i ((i + 1 + t:Nat):Int)).set (i + 1 + t) i) else []:=rfl
   generalize hkk:i + 1 + t = k at *
   refine ⟨by omega,hk,hk,fun hp => ⟨inR_of (by omega) (by omega),by omega,by rw [e1,if_neg (by omega),List.append_nil],by omega⟩,fun hp => ?_⟩
   have hlk:l.getD k 0 = -1:=by rcases hv k hk with h | h <;> omega
   have hl1:(l.set i (k:Int)).length = l.length:=List.length_set
   have hl2:((l.set i (k:Int)).set k (i:Int)).length = l.length:=by simp
   have hgk:(l.set i (k:Int)).getD k 0 = -1:=by rw [getD_set' hi,if_neg (by omega),hlk]
   have W := IH ((l.set i (k : Int)).set k (i : Int)) (by omega) (by omega) (by omega) (fun q hq => by
    rw [getD_set' (by omega)]
    by_cases c1 : k = q
    ·rw [if_pos c1]; omega
    ·rw [if_neg c1,getD_set' hi]
     by_cases c2 : i = q
     ·rw [if_pos c2]; omega
     ·rw [if_neg c2]; exact hv q (by omega)) (by
    have q1:=neg_set (l:=l) (i:=i) (v:=(k:Int)) hi (by omega) (by omega)
    have q2:=neg_set (l:=l.set i (k:Int)) (i:=k) (v:=(i:Int)) (by omega) (by omega) (by omega)
    omega)
   refine ⟨by omega,hi,hi,by omega,by omega,by omega,?_⟩
   refine ⟨_,_,_,W,?_⟩; simp (maxSteps:=2000000) only [go_sem,Nat.reduceBEq,Nat.reduceAdd,Nat.reduceMul,Nat.reduceMod,Nat.reduceLT,Nat.reduceDiv,Nat.reduceSub,Nat.reduceLeDiff,Int.reduceToNat,Int.reduceLT,Int.reduceLE,reduceCtorEq]
   have hB1:=prsR_len (g:=prsF m) (l:=l) (i:=i) (B:=6 ^ m) (fun k => prsF_len (by simp only [List.length_set]; exact h6)) (k:=k)
   have hB2:=prsF_len (m:=m) (l:=(l.set i (k:Int)).set k (i:Int)) (by omega)
   have hB3:6 ^ m ≤ 46656:=Nat.le_trans (Nat.pow_le_pow_right (by omega) (show m ≤ 6 by omega)) (by decide)
   have hB4:k * 6 ^ m ≤ 6 * 46656:=Nat.mul_le_mul (by omega) hB3
   have hsb:=set_back (a:=(k:Int)) (b:=(i:Int)) hi hk hli hlk
   have hl3:(((l.set i (k:Int)).set k (i:Int)).set i (-1)).length = l.length:=by simp
   exact ⟨by omega,by omega,by omega,by omega,by omega,by omega,by omega,inR_of (by omega) (by omega),by omega,hsb,by rw [e1,if_pos ⟨by omega,by omega⟩],by omega⟩
  ·have:i + 1 + t = l.length:=by omega
   rw [this]
   exact ⟨by simp,rfl⟩
def PP (n:Nat):List (List Int):=prsF n (List.replicate n (-1))
theorem PP2:PP 2 = [[1,0]]:=by kernel_rfl
theorem PP4:PP 4 = [[1,0,3,2],[2,3,0,1],[3,2,1,0]]:=by kernel_rfl
theorem PP6:PP 6 = [[1,0,3,2,5,4],[1,0,4,5,2,3],[1,0,5,4,3,2],[2,3,0,1,5,4],[2,4,0,5,1,3],[2,5,0,4,3,1],[3,2,1,0,5,4],[3,4,5,0,1,2],[3,5,4,0,2,1],[4,2,1,5,0,3],[4,3,5,1,0,2],[4,5,3,2,0,1],[5,2,1,4,3,0],[5,3,4,1,2,0],[5,4,3,2,1,0]]:=by kernel_rfl
theorem evenB_of {n : Nat} (h : n = 2 ∨ n = 4 ∨ n = 6) : evenB n = true := by
 rcases h with rfl | rfl | rfl <;> rfl
theorem AllPairings_ok (n : Nat) (he : n = 2 ∨ n = 4 ∨ n = 6) : CallOk Try.prog 34 [.i n] [(0, .t .fr (.s none (rr (PP n))))] := by
 obtain ⟨code0,hcd1,hcd2⟩:=chk_impl_AllPairings; refine callOk_of Try.func34 hcd1 mo Try.call34 (rs:=[2]) (by kernel_rfl) hcd2 (by rw [Try.ntmps34]; simp) (by simp) (by decide) ?_; unfold C_impl_AllPairings K_impl_AllPairings; simp (maxSteps:=2000000) only [go_sem,Nat.reduceBEq,Nat.reduceAdd,Nat.reduceMul,Nat.reduceMod,Nat.reduceLT,Nat.reduceDiv,Nat.reduceSub,Nat.reduceLeDiff,Int.reduceToNat,Int.reduceLT,Int.reduceLE,reduceCtorEq]
 refine ⟨_,isEven_ok n,?_⟩; simp (maxSteps:=2000000) only [go_sem,Nat.reduceBEq,Nat.reduceAdd,Nat.reduceMul,Nat.reduceMod,Nat.reduceLT,Nat.reduceDiv,Nat.reduceSub,Nat.reduceLeDiff,Int.reduceToNat,Int.reduceLT,Int.reduceLE,reduceCtorEq]
 rw [evenB_of he]
 simp (maxSteps:=2000000) only [go_sem,Nat.reduceBEq,Nat.reduceAdd,Nat.reduceMul,Nat.reduceMod,Nat.reduceLT,Nat.reduceDiv,Nat.reduceSub,Nat.reduceLeDiff,Int.reduceToNat,Int.reduceLT,Int.reduceLE,reduceCtorEq]
 refine ⟨_,Repeat_ok (nl:=some false) (-1) n (by omega) (by omega),?_⟩; simp (maxSteps:=2000000) only [go_sem,Nat.reduceBEq,Nat.reduceAdd,Nat.reduceMul,Nat.reduceMod,Nat.reduceLT,Nat.reduceDiv,Nat.reduceSub,Nat.reduceLeDiff,Int.reduceToNat,Int.reduceLT,Int.reduceLE,reduceCtorEq]
 have hrl:(List.replicate n (-1:Int)).length = n:=List.length_replicate
 have W:=pairingsOf_ok n (List.replicate n (-1)) (by omega) (by omega) (by omega) (fun i hi => by rw [hrl] at hi; left; simp [List.getD,hi]) (by rw [List.countP_eq_length_filter]; exact Nat.le_trans (List.length_filter_le _ _) (by omega))
 refine ⟨_,_,_,W,?_⟩; simp (maxSteps:=2000000) only [go_sem,Nat.reduceBEq,Nat.reduceAdd,Nat.reduceMul,Nat.reduceMod,Nat.reduceLT,Nat.reduceDiv,Nat.reduceSub,Nat.reduceLeDiff,Int.reduceToNat,Int.reduceLT,Int.reduceLE,reduceCtorEq]
 rfl
end Go.Proofs.Ytllcbempbdibhaa
