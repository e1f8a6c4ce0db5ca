/- Own work: contracts of functions. No condition beyond those that each theorem names. -/
import Derived.Test.YtllcbempbdibhaaProg
import Derived.Test.YtllcbempbdibhaaConcat
import Derived.Test.YtllcbempbdibhaaAllrank
namespace Go.Proofs.Ytllcbempbdibhaa
open Go Go.Vc
set_option maxRecDepth 100000
set_option linter.unusedSimpArgs false
set_option linter.unusedVariables false
def K_impl_orders:List Nat:=[0,2,3,4,5,7,12,13,14,28,29,30]
def C_impl_orders : C :=
 let ks:=K_impl_orders
 (.seq
  (.rg 0 [(none,.mkn 2)])
  (.cl ks (.seq
  (.seq
  (.rg 0 [(none,.v 8 .mv [.s 0]),(none,.v 9 .len [.s 8]),(none,.v 10 (.bin .eql) [.s 9,.k (.i 0)])])
  (.cond (.s 10)
  (.seq
  (.rg 0 [(none,.lit 11 [.k (.s (some true) [])] 2),(none,.tk 2 11)])
  .ret)
  .skip))
  (.cl ks (.seq
  (.rg 0 [(none,.mkn 3)])
  (.cl ks (.seq
  (.seq
  (.rg 0 [(none,.v 12 .mv [.s 0]),(none,.v 13 .len [.s 12]),(none,.v 14 .mv [.k (.i 0)])])
  (.cl ks (.block 0
  (.loop
  (.seq
  (.rg 0 [(none,.v 15 (.bin .lss) [.s 14,.s 13])])
  (.seq
  (.cond (.s 15)
  .skip
  (.exit 0))
  (.cl ks (.seq
  (.block 1
  (.seq
  (.rg 0 [(none,.v 16 .mv [.s 14]),(none,.v 17 .idx [.s 12,.s 14]),(none,.v 18 .ld [.s 17]),(none,.tk 4 16),(none,.tk 5 18)])
  (.cl ks (.seq
  (.rg 12 [(none,.v 19 .mv [.s 0]),(none,.v 20 .mv [.s 4]),(none,.v 21 (.sub false true) [.s 19,.s 20]),(none,.v 22 .mv [.s 0]),(none,.v 23 .mv [.s 4]),(none,.v 24 (.bin .add) [.s 23,.k (.i 1)]),(none,.v 25 (.sub true false) [.s 22,.s 24]),(none,.v 26 .litF [.s 21,.s 25]),(none,.v 27 (.call 83) [.s 26]),(none,.v 28 (.call 98) [.s 27]),(none,.v 29 .len [.s 28]),(none,.v 30 .mv [.k (.i 0)])])
  (.cl ks (.block 2
  (.loop
  (.seq
  (.rg 0 [(none,.v 31 (.bin .lss) [.s 30,.s 29])])
  (.seq
  (.cond (.s 31)
  .skip
  (.exit 2))
  (.cl ks (.seq
  (.block 3
  (.seq
  (.rg 0 [(none,.v 32 .idx [.s 28,.s 30]),(none,.v 33 .ld [.s 32]),(none,.tk 7 33)])
  (.cl ks (.rg 0 [(none,.v 34 .mv [.s 3]),(none,.v 35 .mv [.s 5]),(none,.lit 36 [.s 35] 0),(none,.v 37 .mv [.s 7]),(none,.frz 36),(none,.lit 38 [.s 36,.s 37] 2),(none,.co 39 83 [.s 38]),(none,.lit 40 [.s 39] 1),(none,.app 41 (.s 34) (.s 40) 1),(none,.tk 3 41)]))))
  (.cl ks (.rg 0 [(none,.v 42 (.bin .add) [.s 30,.k (.i 1)]),(none,.v 30 .mv [.s 42])])))))))))))))
  (.cl ks (.rg 0 [(none,.v 43 (.bin .add) [.s 14,.k (.i 1)]),(none,.v 14 .mv [.s 43])]))))))))))
  (.cl ks (.seq
  (.rg 0 [(none,.v 44 .mv [.s 3]),(none,.tk 2 44)])
  .ret)))))))))
theorem chk_impl_orders:∃ b,Try.f98.body = some b ∧ chk Try.prog Try.f98.ntmps true C_impl_orders b = true:=⟨_,rfl,by kernel_rfl⟩
def K_impl_AllRankings:List Nat:=[0,2]
def C_impl_AllRankings : C :=
 let ks:=K_impl_AllRankings
 (.seq
  (.rg 0 [(none,.mkn 2)])
  (.cl ks (.seq
  (.seq
  (.rg 0 [(none,.v 3 .mv [.s 0]),(none,.co 4 47 [.s 3,.k (.i 1),.k (.i 5)]),(none,.v 5 .not [.s 4])])
  (.cond (.s 5)
  (.seq
  (.rg 0 [(none,.mkn 2)])
  .ret)
  .skip))
  (.cl ks (.seq
  (.rg 0 [(none,.v 6 .mv [.s 0]),(none,.co 7 99 [.s 6]),(none,.co 8 98 [.s 7]),(none,.tk 2 8)])
  .ret)))))
theorem chk_impl_AllRankings:∃ b,Try.f56.body = some b ∧ chk Try.prog Try.f56.ntmps true C_impl_AllRankings b = true:=⟨_,rfl,by kernel_rfl⟩
def ordsN : Nat → List Int → List (List Int)
 | 0,_ => [[]]
 | n + 1,xs => (List.range xs.length).flatMap fun (i:Nat) => (ordsN n (xs.take i ++ xs.drop (i + 1))).map (xs.getD i 0 :: ·)
def ordP (n:Nat) (xs:List Int) (k:Nat):List (List Int):=(List.range k).flatMap fun (i:Nat) => (ordsN n (xs.take i ++ xs.drop (i + 1))).map (xs.getD i 0 :: ·)
theorem ordP_s {n : Nat} {xs : List Int} {k : Nat} : ordP n xs (k + 1) = ordP n xs k ++ (ordsN n (xs.take k ++ xs.drop (k + 1))).map (xs.getD k 0 :: ·) := by
 simp [ordP,List.range_succ]
theorem ordsN_len : ∀ {n : Nat} {xs : List Int}, xs.length = n → (ordsN n xs).length ≤ n ^ n
 | 0,xs,_ => by simp [ordsN]
 | n + 1, xs, h => by
  have : ∀ k, k ≤ xs.length → (ordP n xs k).length ≤ k * n ^ n := by
   intro k
   induction k with
   | zero => intro _; simp [ordP]
   | succ k ih =>
    intro hk
    rw [ordP_s,List.length_append,List.length_map,Nat.succ_mul]
    have h1:=ih (by omega)
    have h2:=ordsN_len (n:=n) (xs:=xs.take k ++ xs.drop (k + 1)) (by simp; omega)
    omega
  have h1:=this xs.length (Nat.le_refl _)
  have h2:(ordsN (n + 1) xs) = ordP n xs xs.length:=rfl
  rw [h2,h]
  rw [h] at h1
  refine Nat.le_trans h1 ?_
  rw [Nat.pow_succ,Nat.mul_comm]
  exact Nat.mul_le_mul_right _ (Nat.pow_le_pow_left (by omega) _)
theorem ordsN_mem : ∀ {n : Nat} {xs r : List Int}, xs.length = n → r ∈ ordsN n xs → r.length = n
 | 0,xs,r,_,h => by simp [ordsN] at h; simp [h]
 | n + 1, xs, r, hl, h => by
  simp only [ordsN,List.mem_flatMap,List.mem_map,List.mem_range] at h
  obtain ⟨i,hi,q,hq,e⟩:=h
  have:=ordsN_mem (n:=n) (by simp; omega) hq
  rw [← e]; simp [this]
theorem ordP_len {n : Nat} {xs : List Int} (hl : xs.length = n + 1) : ∀ {k : Nat}, k ≤ xs.length → (ordP n xs k).length ≤ k * n ^ n
 | 0,_ => by simp [ordP]
 | k + 1, hk => by
  rw [ordP_s,List.length_append,List.length_map,Nat.succ_mul]
  have h1:=ordP_len hl (k:=k) (by omega)
  have h2:=ordsN_len (n:=n) (xs:=xs.take k ++ xs.drop (k + 1)) (by simp; omega)
  omega
theorem orders_ok : ∀ (n : Nat) (nl : Option Bool) (xs : List Int), n ≤ 5 → xs.length = n → CallOk Try.prog 98 [.s nl (ii xs)] [(0, .own (if n = 0 then 0 else 1) none (rr (ordsN n xs)))] := by
 intro n
 induction n with
 | zero =>
  intro nl xs hn hl
  obtain ⟨code0,hcd1,hcd2⟩:=chk_impl_orders; refine callOk_of Try.func98 hcd1 mo Try.call98 (rs:=[2]) (by kernel_rfl) hcd2 (by rw [Try.ntmps98]; simp) (by simp) (by decide) ?_; unfold C_impl_orders K_impl_orders; simp (maxSteps:=2000000) only [go_sem,Nat.reduceBEq,Nat.reduceAdd,Nat.reduceMul,Nat.reduceMod,Nat.reduceLT,Nat.reduceDiv,Nat.reduceSub,Nat.reduceLeDiff,Int.reduceToNat,Int.reduceLT,Int.reduceLE,reduceCtorEq]
  refine ⟨fun _ => ⟨by simp,?_,by simp⟩,fun h => by omega⟩
  simp [ordsN,rr,ii,T.leL,T.le]
 | succ n ih =>
  intro nl xs hn hl
  obtain ⟨code0,hcd1,hcd2⟩:=chk_impl_orders; refine callOk_of Try.func98 hcd1 mo Try.call98 (rs:=[2]) (by kernel_rfl) hcd2 (by rw [Try.ntmps98]; simp) (by simp) (by decide) ?_; unfold C_impl_orders K_impl_orders; simp (maxSteps:=2000000) only [go_sem,Nat.reduceBEq,Nat.reduceAdd,Nat.reduceMul,Nat.reduceMod,Nat.reduceLT,Nat.reduceDiv,Nat.reduceSub,Nat.reduceLeDiff,Int.reduceToNat,Int.reduceLT,Int.reduceLE,reduceCtorEq]
  refine ⟨fun _ => by omega,fun h => ?_⟩
  refine loopN xs.length (fun j => [(0,.t .arg (.s nl (ii xs))),(2,.own 1 (some true) []),(3,.own 1 none (rr (ordP n xs j))),(12,.t .arg (.s nl (ii xs))),(13,.i xs.length),(14,.i (j:Nat))]) (fun j => True) ⟨trivial,by simp (maxSteps:=2000000) only [go_sem,Nat.reduceBEq,Nat.reduceAdd,Nat.reduceMul,Nat.reduceMod,Nat.reduceLT,Nat.reduceDiv,Nat.reduceSub,Nat.reduceLeDiff,Int.reduceToNat,Int.reduceLT,Int.reduceLE,reduceCtorEq]; simp [ordP,rr,T.leL]⟩ fun j hj _ => ?_
  simp (maxSteps:=2000000) only [go_sem,Nat.reduceBEq,Nat.reduceAdd,Nat.reduceMul,Nat.reduceMod,Nat.reduceLT,Nat.reduceDiv,Nat.reduceSub,Nat.reduceLeDiff,Int.reduceToNat,Int.reduceLT,Int.reduceLE,reduceCtorEq]
  refine ⟨fun hlt => ?_, fun hge => ?_⟩
  ·have hj':j < xs.length:=by omega
   refine ⟨by omega,hj',hj',by unfold subOk; omega,inR_of (by omega) (by omega),by unfold subOk; omega,?_⟩
   have e1:((j:Int) + 1).toNat = j + 1:=by omega
   rw [List.drop_zero,e1,List.take_length]
   have hys:(xs.take j ++ xs.drop (j + 1)).length = n:=by simp; omega
   refine ⟨_,Concat2_ok (xs.take j) (xs.drop (j + 1)) (by simp; omega),?_⟩; simp (maxSteps:=2000000) only [go_sem,Nat.reduceBEq,Nat.reduceAdd,Nat.reduceMul,Nat.reduceMod,Nat.reduceLT,Nat.reduceDiv,Nat.reduceSub,Nat.reduceLeDiff,Int.reduceToNat,Int.reduceLT,Int.reduceLE,reduceCtorEq]
   refine ⟨_,ih none (xs.take j ++ xs.drop (j + 1)) (by omega) hys,?_⟩; simp (maxSteps:=2000000) only [go_sem,Nat.reduceBEq,Nat.reduceAdd,Nat.reduceMul,Nat.reduceMod,Nat.reduceLT,Nat.reduceDiv,Nat.reduceSub,Nat.reduceLeDiff,Int.reduceToNat,Int.reduceLT,Int.reduceLE,reduceCtorEq]
   have hO:=ordsN_len hys
   have hP:=ordP_len hl hj
   have hnn : n ^ n ≤ 1000 := by
    have:n ≤ 4:=by omega
    exact Nat.le_trans (Nat.pow_le_pow_left this _) (Nat.le_trans (Nat.pow_le_pow_right (by omega) this) (by decide))
   have hjn:j * n ^ n ≤ 5 * 1000:=Nat.mul_le_mul (by omega) hnn
   have hrl:∀ r ∈ ordsN n (xs.take j ++ xs.drop (j + 1)),r.length ≤ 5:=fun r hr => by rw [ordsN_mem hys hr]; omega
   have hs:=ordP_s (n:=n) (xs:=xs) (k:=j)
   generalize ordsN n (xs.take j ++ xs.drop (j + 1)) = R at hO hrl hs
   refine loopN R.length (fun k => [(0,.t .arg (.s nl (ii xs))),(2,.own 1 (some true) []),(3,.own 1 none (rr (ordP n xs j ++ (R.take k).map (xs.getD j 0 :: ·)))),(4,.i (j:Nat)),(5,.i (xs.getD j 0)),(12,.t .arg (.s nl (ii xs))),(13,.i xs.length),(14,.i (j:Nat)),(28,.t .fr (.s none (rr R))),(29,.i R.length),(30,.i (k:Nat))]) (fun k => True) ⟨trivial,by simp (maxSteps:=2000000) only [go_sem,Nat.reduceBEq,Nat.reduceAdd,Nat.reduceMul,Nat.reduceMod,Nat.reduceLT,Nat.reduceDiv,Nat.reduceSub,Nat.reduceLeDiff,Int.reduceToNat,Int.reduceLT,Int.reduceLE,reduceCtorEq]; simp [ordP,rr,T.leL]⟩ fun k hk _ => ?_
   simp (maxSteps:=2000000) only [go_sem,Nat.reduceBEq,Nat.reduceAdd,Nat.reduceMul,Nat.reduceMod,Nat.reduceLT,Nat.reduceDiv,Nat.reduceSub,Nat.reduceLeDiff,Int.reduceToNat,Int.reduceLT,Int.reduceLE,reduceCtorEq]
   refine ⟨fun hlt => ?_, fun hge => ?_⟩
   ·have hk':k < R.length:=by omega
    refine ⟨by omega,hk',hk',?_⟩
    refine ⟨_,Concat2_ok [xs.getD j 0] (R.getD k []) (by have:=hrl _ (getD_mem (d:=[]) hk'); rw [List.length_singleton]; omega),?_⟩; simp (maxSteps:=2000000) only [go_sem,Nat.reduceBEq,Nat.reduceAdd,Nat.reduceMul,Nat.reduceMod,Nat.reduceLT,Nat.reduceDiv,Nat.reduceSub,Nat.reduceLeDiff,Int.reduceToNat,Int.reduceLT,Int.reduceLE,reduceCtorEq]
    exact ⟨by simp,by rw [List.length_append,List.length_map,List.length_take]; omega,inR_of (by omega) (by omega),hk',by rw [take_getD [] hk',List.map_append,List.append_assoc]; rfl,by simp⟩
   ·have:k = R.length:=by omega
    subst this
    exact ⟨inR_of (by omega) (by omega),hj',by rw [List.take_length,hs],by simp⟩
  ·have:j = xs.length:=by omega
   subst this
   exact ⟨by simp,rfl,by simp⟩
theorem flatMap_if {α β : Type} {p : α → Prop} [DecidablePred p] {f : α → List β} : ∀ {xs : List α}, (xs.flatMap fun x => if p x then f x else []) = (xs.filter fun x => decide (p x)).flatMap f
 | [] => rfl
 | x :: xs => by
  rw [List.flatMap_cons,flatMap_if (xs:=xs),List.filter_cons]
  by_cases h:p x <;> simp [h]
theorem flatMap_getD {α β : Type} (d : α) {f : α → List β} {xs : List α} : xs.flatMap f = (List.range xs.length).flatMap fun i => f (xs.getD i d) := by
 have : xs = (List.range xs.length).map fun i => xs.getD i d := by
  apply List.ext_getElem
  ·simp
  ·intro i h1 h2; simp [List.getD,h1]
 conv => lhs; rw [this]
 rw [List.flatMap_map]
def restOf (m:Nat) (l:List Int):List Int:=(upto m).filter fun x => decide (placeI l x < 0)
theorem placeI_neg {l : List Int} {x : Int} : placeI l x < 0 ↔ x ∉ l := by
 rcases idxP_cases 0 (fun y => decide (y = x)) l with ⟨j, hj, h1, _, e⟩ | ⟨h, e⟩
 ·rw [placeI,e]
  constructor
  ·intro h; omega
  ·intro h; exact absurd (by simp only [decide_eq_true_eq] at h1; rw [← h1]; exact getD_mem hj) h
 ·rw [placeI,e]
  constructor
  ·intro _ hx; have:=h x hx; simp at this
  ·intro _; omega
theorem upto_nodup {m : Nat} : (upto m).Nodup := by
 unfold upto
 refine List.pairwise_map.2 ((List.nodup_range (n:=m)).imp ?_)
 intro a b h e; exact h (Int.ofNat.inj e)
theorem filter_ne_nodup {xs : List Int} (h : xs.Nodup) {i : Nat} (hi : i < xs.length) : xs.filter (fun x => decide (x ≠ xs.getD i 0)) = xs.take i ++ xs.drop (i + 1) := by
 have e:=List.take_append_drop i xs
 rw [drop_getD 0 hi] at e
 have hn:(xs.take i ++ xs.getD i 0 :: xs.drop (i + 1)).Nodup:=by rw [e]; exact h
 rw [List.nodup_append] at hn
 obtain ⟨h1,h2,h3⟩:=hn
 rw [List.nodup_cons] at h2
 generalize xs.getD i 0 = a at *
 rw [show xs.filter (fun x => decide (x ≠ a)) = (xs.take i ++ a :: xs.drop (i + 1)).filter (fun x => decide (x ≠ a)) from by rw [e]]
 rw [List.filter_append,List.filter_cons,if_neg (by simp)]
 have f1 : (xs.take i).filter (fun x => decide (x ≠ a)) = xs.take i := List.filter_eq_self.2 fun x hx => by
  simp only [decide_eq_true_eq]; exact h3 x hx _ (by simp)
 have f2 : (xs.drop (i + 1)).filter (fun x => decide (x ≠ a)) = xs.drop (i + 1) := List.filter_eq_self.2 fun x hx => by
  simp only [decide_eq_true_eq]; intro e; rw [e] at hx; exact h2.1 hx
 rw [f1,f2]
theorem restOf_s {m : Nat} {l : List Int} {i : Nat} (hi : i < (restOf m l).length) : restOf m (l ++ [(restOf m l).getD i 0]) = (restOf m l).take i ++ (restOf m l).drop (i + 1) := by
 have hnd:(restOf m l).Nodup:=List.Pairwise.filter _ upto_nodup
 rw [← filter_ne_nodup hnd hi]
 generalize (restOf m l).getD i 0 = a
 unfold restOf
 rw [List.filter_filter]
 refine List.filter_congr fun x _ => ?_
 rw [← Bool.decide_and,decide_eq_decide]
 simp only [placeI_neg,List.mem_append,List.mem_singleton,not_or]
 exact ⟨fun h => ⟨h.2,h.1⟩,fun h => ⟨h.2,h.1⟩⟩
theorem l03_eq {m : Nat} : ∀ {k : Nat} {l : List Int}, (restOf m l).length = k → l03 m k l = (ordsN k (restOf m l)).map (l ++ ·)
 | 0,l,_ => by simp [l03,ordsN]
 | k + 1, l, h => by
  have e1 : l03 m (k + 1) l = (restOf m l).flatMap fun x => l03 m k (l ++ [x]) := by
   simp only [l03,restOf,upto]
   rw [flatMap_if,List.filter_map,List.flatMap_map]
   rfl
  rw [e1,flatMap_getD 0]
  simp only [ordsN,List.map_flatMap]
  have : ∀ (is : List Nat), (∀ i ∈ is, i < (restOf m l).length) → (is.flatMap fun i => l03 m k (l ++ [(restOf m l).getD i 0])) = is.flatMap fun i => ((ordsN k ((restOf m l).take i ++ (restOf m l).drop (i + 1))).map ((restOf m l).getD i 0 :: ·)).map (l ++ ·) := by
   intro is
   induction is with
   | nil => intro _; rfl
   | cons i is ih =>
    intro h'
    have hi:=h' i (by simp)
    rw [List.flatMap_cons,List.flatMap_cons,ih fun i hi => h' i (by simp [hi])]
    congr 1
    have h2:=restOf_s hi
    rw [l03_eq (by rw [h2]; simp; omega),h2,List.map_map]
    exact List.map_congr_left fun r _ => by simp
  exact this _ fun i hi => by simpa using hi
def allOrd (m:Int):List (List Int):=if inI m 1 5 then ordsN m.toNat (upto m.toNat) else []
theorem allRank_eq {m : Int} : allRank m = allOrd m := by
 unfold allRank allOrd
 have:restOf m.toNat [] = upto m.toNat:=List.filter_eq_self.2 fun x _ => by simp [placeI,idxP]
 split
 ·rw [l03_eq (by rw [this,upto_len]),this]; simp
 ·rfl
theorem impl_AllRankings_ok (m : Int) : CallOk Try.prog 56 [.i m] [(0, .own 1 none (rr (allRank m)))] := by
 obtain ⟨code0,hcd1,hcd2⟩:=chk_impl_AllRankings; refine callOk_of Try.func56 hcd1 mo Try.call56 (rs:=[2]) (by kernel_rfl) hcd2 (by rw [Try.ntmps56]; simp) (by simp) (by decide) ?_; unfold C_impl_AllRankings K_impl_AllRankings; simp (maxSteps:=2000000) only [go_sem,Nat.reduceBEq,Nat.reduceAdd,Nat.reduceMul,Nat.reduceMod,Nat.reduceLT,Nat.reduceDiv,Nat.reduceSub,Nat.reduceLeDiff,Int.reduceToNat,Int.reduceLT,Int.reduceLE,reduceCtorEq]
 refine ⟨_,within_ok _ _ _,?_⟩; simp (maxSteps:=2000000) only [go_sem,Nat.reduceBEq,Nat.reduceAdd,Nat.reduceMul,Nat.reduceMod,Nat.reduceLT,Nat.reduceDiv,Nat.reduceSub,Nat.reduceLeDiff,Int.reduceToNat,Int.reduceLT,Int.reduceLE,reduceCtorEq]
 refine ⟨fun h => by simp [allRank,h],fun h => ?_⟩
 have hm:1 ≤ m ∧ m ≤ 5:=by simpa [inI] using h
 refine ⟨_,indices_ok m (by omega) (by omega),?_⟩; simp (maxSteps:=2000000) only [go_sem,Nat.reduceBEq,Nat.reduceAdd,Nat.reduceMul,Nat.reduceMod,Nat.reduceLT,Nat.reduceDiv,Nat.reduceSub,Nat.reduceLeDiff,Int.reduceToNat,Int.reduceLT,Int.reduceLE,reduceCtorEq]
 refine ⟨_,orders_ok m.toNat (some false) (upto m.toNat) (by omega) upto_len,?_⟩; simp (maxSteps:=2000000) only [go_sem,Nat.reduceBEq,Nat.reduceAdd,Nat.reduceMul,Nat.reduceMod,Nat.reduceLT,Nat.reduceDiv,Nat.reduceSub,Nat.reduceLeDiff,Int.reduceToNat,Int.reduceLT,Int.reduceLE,reduceCtorEq]
 rw [allRank_eq]
 simp only [allOrd,h,if_true]
 have hn:¬ m.toNat = 0:=by omega
 simp [hn]
theorem ordsN_perm : ∀ {n : Nat} {xs r : List Int}, xs.length = n → r ∈ ordsN n xs → r.Perm xs
 | 0, xs, r, hl, h => by
  simp [ordsN] at h
  rw [h,List.eq_nil_of_length_eq_zero hl]
 | n + 1, xs, r, hl, h => by
  simp only [ordsN,List.mem_flatMap,List.mem_map,List.mem_range] at h
  obtain ⟨i,hi,q,hq,e⟩:=h
  have h1:=ordsN_perm (n:=n) (by simp; omega) hq
  rw [← e]
  refine (h1.cons _).trans ?_
  have h2:(xs.getD i 0 :: (xs.take i ++ xs.drop (i + 1))).Perm (xs.take i ++ xs.getD i 0 :: xs.drop (i + 1)):=List.perm_middle.symm
  refine h2.trans ?_
  rw [← drop_getD 0 hi,List.take_append_drop]
theorem rank_of_perm {m : Nat} {r : List Int} (h1 : 1 ≤ m) (h5 : m ≤ 5) (h : r.Perm (upto m)) : rankB m r = true := by
 have hl:r.length = m:=by rw [h.length_eq,upto_len]
 have hn:r.Nodup:=h.nodup_iff.2 upto_nodup
 simp only [rankB,Bool.and_eq_true,decide_eq_true_eq,all_range_iff]
 refine ⟨⟨by simp only [inI,Bool.and_eq_true,decide_eq_true_eq]; omega,by omega⟩,fun i hi => ?_⟩
 have hm:=mem_upto.1 (h.mem_iff.1 (getD_mem (d:=0) hi))
 simp only [rankAt,inI,Bool.and_eq_true,decide_eq_true_eq,Bool.not_eq_true',List.any_eq_false]
 refine ⟨by omega,fun x hx e => ?_⟩
 have e2:=List.take_append_drop i r
 rw [drop_getD 0 hi] at e2
 rw [← e2,List.nodup_append] at hn
 generalize r.getD i 0 = a at *
 subst e
 exact hn.2.2 _ hx _ (by simp) rfl
theorem allRank_perm {m : Nat} {r : List Int} (h : r ∈ allRank (m : Int)) : r.Perm (upto m) := by
 rw [allRank_eq] at h
 unfold allOrd at h
 split at h
 ·exact ordsN_perm upto_len (by simpa using h)
 ·simp at h
theorem allRank_rank {m : Nat} {r : List Int} (h : r ∈ allRank (m : Int)) : rankB m r = true := by
 refine rank_of_perm ?_ ?_ (allRank_perm h) <;>
 ·rw [allRank_eq] at h
  unfold allOrd at h
  split at h
  ·rename_i hm; simp only [inI,Bool.and_eq_true,decide_eq_true_eq] at hm; omega
  ·simp at h
theorem allRank_len {m : Int} : (allRank m).length ≤ 3125 := by
 rw [allRank_eq]
 unfold allOrd
 split
 ·rename_i hm
  simp only [inI,Bool.and_eq_true,decide_eq_true_eq] at hm
  have h5:m.toNat ≤ 5:=by omega
  refine Nat.le_trans (ordsN_len upto_len) ?_
  exact Nat.le_trans (Nat.pow_le_pow_left h5 _) (Nat.le_trans (Nat.pow_le_pow_right (by omega) h5) (by decide))
 ·simp
end Go.Proofs.Ytllcbempbdibhaa
