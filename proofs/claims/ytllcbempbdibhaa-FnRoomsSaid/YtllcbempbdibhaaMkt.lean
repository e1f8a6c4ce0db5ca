/- Own work: contracts of functions. No condition beyond those that each theorem names. -/
import Derived.Test.YtllcbempbdibhaaProg
import Derived.Test.YtllcbempbdibhaaPerm
import Derived.Test.YtllcbempbdibhaaMarket
namespace Go.Proofs.Ytllcbempbdibhaa
open Go Go.Vc
set_option maxRecDepth 100000
set_option linter.unusedSimpArgs false
set_option linter.unusedVariables false
def K_impl_MarketOk:List Nat:=[0,1,2,3,1001,2001]
def C_impl_MarketOk : C :=
 let ks:=K_impl_MarketOk
 (.seq
  (.rg 0 [(none,.v 1 .boxS [.s 0]),(none,.v 2 .mv [.k (.b false)])])
  (.cl ks (.seq
  (.rg 0 [(none,.v 4 (.fa 0) [.s 1]),(none,.v 5 .ld [.s 4]),(none,.v 6 .len [.s 5]),(none,.tk 3 6)])
  (.cl ks (.seq
  (.rg 0 [(none,.v 7 .mv [.s 3]),(none,.co 8 47 [.s 7,.k (.i 1),.k (.i 5)]),(none,.v 9 .mv [.s 8]),(some (9,true),.v 10 (.fa 1) [.s 1]),(some (9,true),.v 11 .ld [.s 10]),(some (9,true),.v 12 .len [.s 11]),(some (9,true),.v 13 .mv [.s 3]),(some (9,true),.v 14 (.bin .eql) [.s 12,.s 13]),(none,.v 15 .pick [.s 9,.s 14,.k (.b false)]),(none,.v 16 .mv [.s 15]),(some (16,true),.v 17 .mv [.s 3]),(some (16,true),.v 18 (.fa 0) [.s 1]),(some (16,true),.v 19 .ld [.s 18]),(some (16,true),.co 20 97 [.s 17,.s 19]),(none,.v 21 .pick [.s 16,.s 20,.k (.b false)]),(none,.v 22 .mv [.s 21]),(some (22,true),.v 23 .mv [.s 3]),(some (22,true),.v 24 (.fa 1) [.s 1]),(some (22,true),.v 25 .ld [.s 24]),(some (22,true),.co 26 97 [.s 23,.s 25]),(none,.v 27 .pick [.s 22,.s 26,.k (.b false)]),(none,.tk 2 27)])
  .ret)))))
theorem chk_impl_MarketOk:∃ b,Try.f55.body = some b ∧ chk Try.prog Try.f55.ntmps true C_impl_MarketOk b = true:=⟨_,rfl,by kernel_rfl⟩
def K_spec_MarketOk:List Nat:=[0,1,2,3,1001,2001]
def C_spec_MarketOk : C :=
 let ks:=K_spec_MarketOk
 (.seq
  (.rg 0 [(none,.v 1 .boxS [.s 0]),(none,.v 2 .mv [.k (.b false)])])
  (.cl ks (.seq
  (.rg 0 [(none,.v 4 (.fa 0) [.s 1]),(none,.v 5 .ld [.s 4]),(none,.v 6 .len [.s 5]),(none,.tk 3 6)])
  (.cl ks (.seq
  (.rg 0 [(none,.v 7 .mv [.s 3]),(none,.co 8 45 [.s 7,.k (.i 1),.k (.i 5)]),(none,.v 9 .mv [.s 8]),(some (9,true),.v 10 (.fa 0) [.s 1]),(some (9,true),.v 11 .ld [.s 10]),(some (9,true),.v 12 .mv [.s 3]),(some (9,true),.co 13 108 [.s 11,.s 12]),(none,.v 14 .pick [.s 9,.s 13,.k (.b false)]),(none,.v 15 .mv [.s 14]),(some (15,true),.v 16 (.fa 1) [.s 1]),(some (15,true),.v 17 .ld [.s 16]),(some (15,true),.v 18 .mv [.s 3]),(some (15,true),.co 19 108 [.s 17,.s 18]),(none,.v 20 .pick [.s 15,.s 19,.k (.b false)]),(none,.tk 2 20)])
  .ret)))))
theorem chk_spec_MarketOk:∃ b,Try.f87.body = some b ∧ chk Try.prog Try.f87.ntmps true C_spec_MarketOk b = true:=⟨_,rfl,by kernel_rfl⟩
def marketB (x y:List (List Int)):Bool:=inI x.length 1 5 && decide (y.length = x.length) && ranksB x.length x && ranksB x.length y
structure Mk (x y : List (List Int)) (n : Nat) : Prop where
 m:Hs x n
 w:Hs y n
theorem mk_of {x y : List (List Int)} (h : marketB x y = true) : Mk x y x.length := by
 simp only [marketB,Bool.and_eq_true,inI,decide_eq_true_eq,ranksB,List.all_eq_true] at h
 obtain ⟨⟨⟨h1,h2⟩,h3⟩,h4⟩:=h
 exact ⟨⟨by omega,by omega,rfl,fun i hi => h3 _ (getD_mem hi)⟩,⟨by omega,by omega,h2,fun i hi => h4 _ (getD_mem (by omega))⟩⟩
theorem impl_MarketOk_ok {n1 n2 : Option Bool} (x y : List (List Int)) (hx : x.length ≤ 1048576) (kx : ∀ r ∈ x, r.length ≤ 1048576) (hy : y.length ≤ 1048576) (ky : ∀ r ∈ y, r.length ≤ 1048576) :
  CallOk Try.prog 55 [.a [.s n1 (rr x),.s n2 (rr y)]] [(0,.b (marketB x y))]:=by
 obtain ⟨code0,hcd1,hcd2⟩:=chk_impl_MarketOk; refine callOk_of Try.func55 hcd1 mo Try.call55 (rs:=[2]) (by kernel_rfl) hcd2 (by rw [Try.ntmps55]; simp) (by simp) (by decide) ?_; unfold C_impl_MarketOk K_impl_MarketOk; simp (maxSteps:=2000000) only [go_sem,Nat.reduceBEq,Nat.reduceAdd,Nat.reduceMul,Nat.reduceMod,Nat.reduceLT,Nat.reduceDiv,Nat.reduceSub,Nat.reduceLeDiff,Int.reduceToNat,Int.reduceLT,Int.reduceLE,reduceCtorEq]
 refine ⟨_,within_ok _ _ _,?_⟩; simp (maxSteps:=2000000) only [go_sem,Nat.reduceBEq,Nat.reduceAdd,Nat.reduceMul,Nat.reduceMod,Nat.reduceLT,Nat.reduceDiv,Nat.reduceSub,Nat.reduceLeDiff,Int.reduceToNat,Int.reduceLT,Int.reduceLE,reduceCtorEq]
 refine ⟨fun h => ⟨fun h1 => ?_,fun h1 => by simp [marketB,h,h1]⟩,fun h => by simp [marketB,h]⟩
 refine ⟨_,impl_areRankings_ok x _ hx kx,?_⟩; simp (maxSteps:=2000000) only [go_sem,Nat.reduceBEq,Nat.reduceAdd,Nat.reduceMul,Nat.reduceMod,Nat.reduceLT,Nat.reduceDiv,Nat.reduceSub,Nat.reduceLeDiff,Int.reduceToNat,Int.reduceLT,Int.reduceLE,reduceCtorEq]
 refine ⟨fun h2 => ?_,fun h2 => by simp [marketB,h,h1,h2]⟩
 refine ⟨_,impl_areRankings_ok y _ hy ky,?_⟩; simp (maxSteps:=2000000) only [go_sem,Nat.reduceBEq,Nat.reduceAdd,Nat.reduceMul,Nat.reduceMod,Nat.reduceLT,Nat.reduceDiv,Nat.reduceSub,Nat.reduceLeDiff,Int.reduceToNat,Int.reduceLT,Int.reduceLE,reduceCtorEq]
 simp [marketB,h,h1,h2]
theorem spec_MarketOk_ok {n1 n2 : Option Bool} (x y : List (List Int)) (hx : x.length ≤ 1048576) (kx : ∀ r ∈ x, r.length ≤ 1048576) (hy : y.length ≤ 1048576) (ky : ∀ r ∈ y, r.length ≤ 1048576) :
  CallOk Try.prog 87 [.a [.s n1 (rr x),.s n2 (rr y)]] [(0,.b (marketB x y))]:=by
 obtain ⟨code0,hcd1,hcd2⟩:=chk_spec_MarketOk; refine callOk_of Try.func87 hcd1 mo Try.call87 (rs:=[2]) (by kernel_rfl) hcd2 (by rw [Try.ntmps87]; simp) (by simp) (by decide) ?_; unfold C_spec_MarketOk K_spec_MarketOk; simp (maxSteps:=2000000) only [go_sem,Nat.reduceBEq,Nat.reduceAdd,Nat.reduceMul,Nat.reduceMod,Nat.reduceLT,Nat.reduceDiv,Nat.reduceSub,Nat.reduceLeDiff,Int.reduceToNat,Int.reduceLT,Int.reduceLE,reduceCtorEq]
 refine ⟨_,l01In_ok _ _ _,?_⟩; simp (maxSteps:=2000000) only [go_sem,Nat.reduceBEq,Nat.reduceAdd,Nat.reduceMul,Nat.reduceMod,Nat.reduceLT,Nat.reduceDiv,Nat.reduceSub,Nat.reduceLeDiff,Int.reduceToNat,Int.reduceLT,Int.reduceLE,reduceCtorEq]
 refine ⟨fun h => ?_,fun h => by simp [marketB,h]⟩
 refine ⟨_,spec_l17Lists_ok x _ hx kx,?_⟩; simp (maxSteps:=2000000) only [go_sem,Nat.reduceBEq,Nat.reduceAdd,Nat.reduceMul,Nat.reduceMod,Nat.reduceLT,Nat.reduceDiv,Nat.reduceSub,Nat.reduceLeDiff,Int.reduceToNat,Int.reduceLT,Int.reduceLE,reduceCtorEq]
 have e0:(decide ((x.length:Int) = x.length) && ranksB (x.length:Int) x) = ranksB (x.length:Int) x:=by simp
 try rw [e0]
 refine ⟨fun h2 => ?_,fun h2 => by simp_all [marketB]⟩
 refine ⟨_,spec_l17Lists_ok y _ hy ky,?_⟩; simp (maxSteps:=2000000) only [go_sem,Nat.reduceBEq,Nat.reduceAdd,Nat.reduceMul,Nat.reduceMod,Nat.reduceLT,Nat.reduceDiv,Nat.reduceSub,Nat.reduceLeDiff,Int.reduceToNat,Int.reduceLT,Int.reduceLE,reduceCtorEq]
 have e1:decide ((y.length:Int) = x.length) = decide (y.length = x.length):=decide_eq_decide.2 (by omega)
 try rw [e1]
 simp_all [marketB]
def K_impl_Market_blocks:List Nat:=[0,1,2,4,5,6,7,8,9,10,11,17,18,1002,2002]
def C_impl_Market_blocks : C :=
 let ks:=K_impl_Market_blocks
 (.seq
  (.rg 0 [(none,.v 2 .boxS [.s 0]),(none,.mkn 4)])
  (.cl ks (.seq
  (.rg 0 [(none,.mkn 5)])
  (.cl ks (.seq
  (.seq
  (.rg 0 [(none,.v 9 .mv [.s 1]),(none,.v 10 .len [.s 9]),(none,.v 11 .mv [.k (.i 0)])])
  (.cl ks (.block 0
  (.loop
  (.seq
  (.rg 0 [(none,.v 12 (.bin .lss) [.s 11,.s 10])])
  (.seq
  (.cond (.s 12)
  .skip
  (.exit 0))
  (.cl ks (.seq
  (.block 1
  (.seq
  (.rg 0 [(none,.v 13 .mv [.s 11]),(none,.v 14 .idx [.s 9,.s 11]),(none,.v 15 .ld [.s 14]),(none,.tk 6 13),(none,.tk 7 15)])
  (.cl ks (.seq
  (.rg 0 [(none,.v 16 .mv [.s 1]),(none,.v 17 .len [.s 16]),(none,.v 18 .mv [.k (.i 0)])])
  (.cl ks (.block 2
  (.loop
  (.seq
  (.rg 0 [(none,.v 19 (.bin .lss) [.s 18,.s 17])])
  (.seq
  (.cond (.s 19)
  .skip
  (.exit 2))
  (.cl ks (.seq
  (.block 3
  (.seq
  (.rg 0 [(none,.v 20 .mv [.s 18]),(none,.tk 8 20)])
  (.cl ks (.seq
  (.rg 18 [(none,.v 21 (.fa 0) [.s 2]),(none,.v 22 .ld [.s 21]),(none,.v 23 .mv [.s 6]),(none,.v 24 .idx [.s 22,.s 23]),(none,.v 25 .ld [.s 24]),(none,.v 26 .mv [.s 8]),(none,.v 27 .mv [.s 7]),(none,.v 28 (.call 61) [.s 25,.s 26,.s 27]),(none,.v 29 .mv [.s 28]),(some (29,true),.v 30 (.fa 1) [.s 2]),(some (29,true),.v 31 .ld [.s 30]),(some (29,true),.v 32 .mv [.s 8]),(some (29,true),.v 33 .idx [.s 31,.s 32]),(some (29,true),.v 34 .ld [.s 33]),(some (29,true),.v 35 .mv [.s 6]),(some (29,true),.v 36 .mv [.s 1]),(some (29,true),.v 37 .mv [.s 8]),(some (29,true),.v 38 (.call 73) [.s 36,.s 37]),(some (29,true),.co 39 61 [.s 34,.s 35,.s 38]),(none,.v 40 .pick [.s 29,.s 39,.k (.b false)])])
  (.cond (.s 40)
  (.rg 0 [(none,.v 41 .mv [.s 5]),(none,.v 42 .mv [.s 6]),(none,.v 43 .mv [.s 8]),(none,.lit 44 [.s 42,.s 43] 0),(none,.lit 45 [.s 44] 1),(none,.app 46 (.s 41) (.s 45) 1),(none,.tk 5 46)])
  .skip)))))
  (.cl ks (.rg 0 [(none,.v 47 (.bin .add) [.s 18,.k (.i 1)]),(none,.v 18 .mv [.s 47])])))))))))))))
  (.cl ks (.rg 0 [(none,.v 48 (.bin .add) [.s 11,.k (.i 1)]),(none,.v 11 .mv [.s 48])]))))))))))
  (.cl ks (.seq
  (.rg 0 [(none,.v 49 .mv [.s 5]),(none,.tk 4 49)])
  .ret)))))))
theorem chk_impl_Market_blocks:∃ b,Try.f57.body = some b ∧ chk Try.prog Try.f57.ntmps true C_impl_Market_blocks b = true:=⟨_,rfl,by kernel_rfl⟩
def K_spec_l17Blocks:List Nat:=[0,1,2,4,5,6,7,9,12,13,14,19,20,21,1002,2002]
def C_spec_l17Blocks : C :=
 let ks:=K_spec_l17Blocks
 (.seq
  (.rg 0 [(none,.v 2 .boxS [.s 0]),(none,.mkn 4)])
  (.cl ks (.seq
  (.rg 0 [(none,.lit 10 [] 0),(none,.tk 5 10)])
  (.cl ks (.seq
  (.seq
  (.rg 0 [(none,.v 11 (.fa 0) [.s 2]),(none,.v 12 .ld [.s 11]),(none,.v 13 .len [.s 12]),(none,.v 14 .mv [.k (.i 0)])])
  (.cl ks (.block 0
  (.loop
  (.seq
  (.rg 0 [(none,.v 15 (.bin .lss) [.s 14,.s 13])])
  (.seq
  (.cond (.s 15)
  .skip
  (.exit 0))
  (.cl ks (.seq
  (.block 1
  (.seq
  (.rg 0 [(none,.v 16 .mv [.s 14]),(none,.v 17 .idx [.s 12,.s 14]),(none,.v 18 .ld [.s 17]),(none,.tk 6 16),(none,.tk 7 18)])
  (.cl ks (.seq
  (.rg 0 [(none,.v 19 .mv [.s 7]),(none,.v 20 .len [.s 19]),(none,.v 21 .mv [.k (.i 0)])])
  (.cl ks (.block 2
  (.loop
  (.seq
  (.rg 0 [(none,.v 22 (.bin .lss) [.s 21,.s 20])])
  (.seq
  (.cond (.s 22)
  .skip
  (.exit 2))
  (.cl ks (.seq
  (.block 3
  (.seq
  (.rg 0 [(none,.v 23 .idx [.s 19,.s 21]),(none,.v 24 .ld [.s 23]),(none,.tk 9 24)])
  (.cl ks (.seq
  (.rg 25 [(none,.v 25 .mv [.s 9]),(none,.v 26 .mv [.s 1]),(none,.v 27 .mv [.s 6]),(none,.v 28 .idx [.s 26,.s 27]),(none,.v 29 .ld [.s 28]),(none,.v 30 (.bin .neq) [.s 25,.s 29]),(none,.v 31 .mv [.s 30]),(some (31,true),.v 32 .mv [.s 7]),(some (31,true),.v 33 .mv [.s 9]),(some (31,true),.v 34 .mv [.s 1]),(some (31,true),.v 35 .mv [.s 6]),(some (31,true),.v 36 .idx [.s 34,.s 35]),(some (31,true),.v 37 .ld [.s 36]),(some (31,true),.v 38 (.call 110) [.s 32,.s 33,.s 37]),(none,.v 39 .pick [.s 31,.s 38,.k (.b false)]),(none,.v 40 .mv [.s 39]),(some (40,true),.v 41 (.fa 1) [.s 2]),(some (40,true),.v 42 .ld [.s 41]),(some (40,true),.v 43 .mv [.s 9]),(some (40,true),.v 44 .idx [.s 42,.s 43]),(some (40,true),.v 45 .ld [.s 44]),(some (40,true),.v 46 .mv [.s 6]),(some (40,true),.v 47 .mv [.s 1]),(some (40,true),.v 48 .mv [.s 9]),(some (40,true),.v 49 (.call 111) [.s 47,.s 48]),(some (40,true),.co 50 110 [.s 45,.s 46,.s 49]),(none,.v 51 .pick [.s 40,.s 50,.k (.b false)])])
  (.cond (.s 51)
  (.rg 0 [(none,.v 52 .mv [.s 5]),(none,.v 53 .mv [.s 6]),(none,.v 54 .mv [.s 9]),(none,.lit 55 [.s 53,.s 54] 0),(none,.lit 56 [.s 55] 1),(none,.app 57 (.s 52) (.s 56) 1),(none,.tk 5 57)])
  .skip)))))
  (.cl ks (.rg 0 [(none,.v 58 (.bin .add) [.s 21,.k (.i 1)]),(none,.v 21 .mv [.s 58])])))))))))))))
  (.cl ks (.rg 0 [(none,.v 59 (.bin .add) [.s 14,.k (.i 1)]),(none,.v 14 .mv [.s 59])]))))))))))
  (.cl ks (.seq
  (.rg 0 [(none,.v 60 .mv [.s 5]),(none,.tk 4 60)])
  .ret)))))))
theorem chk_spec_l17Blocks:∃ b,Try.f89.body = some b ∧ chk Try.prog Try.f89.ntmps true C_spec_l17Blocks b = true:=⟨_,rfl,by kernel_rfl⟩
def blkI (x y:List (List Int)) (l:List Int) (i w:Nat):Bool:=prefB (x.getD i []) w (l.getD i 0) && prefB (y.getD w []) i (placeI l w)
def blkR (x y : List (List Int)) (l : List Int) (i : Nat) : Nat → List (List Int)
 | 0 => []
 | w + 1 => blkR x y l i w ++ if blkI x y l i w = true then [[(i:Int),(w:Int)]] else []
def blkL (x y : List (List Int)) (l : List Int) (n : Nat) : Nat → List (List Int)
 | 0 => []
 | i + 1 => blkL x y l n i ++ blkR x y l i n
def blkS (x y:List (List Int)) (l:List Int) (i k:Nat):Bool:=(decide ((x.getD i []).getD k 0 ≠ l.getD i 0) && prefB (x.getD i []) ((x.getD i []).getD k 0) (l.getD i 0)) && prefB (y.getD ((x.getD i []).getD k 0).toNat []) i (placeI l ((x.getD i []).getD k 0))
def blkT (x y : List (List Int)) (l : List Int) (i : Nat) : Nat → List (List Int)
 | 0 => []
 | k + 1 => blkT x y l i k ++ if blkS x y l i k = true then [[(i:Int),(x.getD i []).getD k 0]] else []
def blkU (x y : List (List Int)) (l : List Int) (n : Nat) : Nat → List (List Int)
 | 0 => []
 | i + 1 => blkU x y l n i ++ blkT x y l i n
def stableB (x y:List (List Int)) (n:Nat) (l:List Int):Bool:=(List.range n).all fun i => (List.range n).all fun w => !blkI x y l i w
section
variable {x y:List (List Int)} {l:List Int} {n:Nat}
theorem blkR_len {i w : Nat} : (blkR x y l i w).length ≤ w := by
 induction w with
 | zero => simp [blkR]
 | succ w ih => simp only [blkR,List.length_append]; split <;> simp <;> omega
theorem blkL_len {i : Nat} : (blkL x y l n i).length ≤ i * n := by
 induction i with
 | zero => simp [blkL]
 | succ i ih => simp only [blkL,List.length_append,Nat.succ_mul]; have:=blkR_len (x:=x) (y:=y) (l:=l) (i:=i) (w:=n); omega
theorem blkT_len {i w : Nat} : (blkT x y l i w).length ≤ w := by
 induction w with
 | zero => simp [blkT]
 | succ w ih => simp only [blkT,List.length_append]; split <;> simp <;> omega
theorem blkU_len {i : Nat} : (blkU x y l n i).length ≤ i * n := by
 induction i with
 | zero => simp [blkU]
 | succ i ih => simp only [blkU,List.length_append,Nat.succ_mul]; have:=blkT_len (x:=x) (y:=y) (l:=l) (i:=i) (w:=n); omega
theorem blkR_nil {i : Nat} : ∀ {w : Nat}, blkR x y l i w = [] ↔ ∀ k, k < w → blkI x y l i k = false
 | 0 => by simp [blkR]
 | w + 1 => by
  simp only [blkR,List.append_eq_nil_iff,blkR_nil (w:=w)]
  constructor
  ·rintro ⟨h1,h2⟩ k hk
   by_cases e : k = w
   ·subst e
    cases hb:blkI x y l i k with
    | false => rfl
    | true => rw [if_pos hb] at h2; cases h2
   ·exact h1 k (by omega)
  ·intro h
   exact ⟨fun k hk => h k (by omega),by rw [if_neg (by rw [h w (by omega)]; simp)]⟩
theorem blkL_nil : ∀ {i : Nat}, blkL x y l n i = [] ↔ ∀ j, j < i → ∀ k, k < n → blkI x y l j k = false
 | 0 => by simp [blkL]
 | i + 1 => by
  simp only [blkL,List.append_eq_nil_iff,blkL_nil (i:=i),blkR_nil]
  constructor
  ·rintro ⟨h1,h2⟩ j hj
   by_cases e : j = i
   ·subst e; exact h2
   ·exact h1 j (by omega)
  ·intro h
   exact ⟨fun j hj => h j (by omega),h i (by omega)⟩
theorem blkT_nil {i : Nat} : ∀ {w : Nat}, blkT x y l i w = [] ↔ ∀ k, k < w → blkS x y l i k = false
 | 0 => by simp [blkT]
 | w + 1 => by
  simp only [blkT,List.append_eq_nil_iff,blkT_nil (w:=w)]
  constructor
  ·rintro ⟨h1,h2⟩ k hk
   by_cases e : k = w
   ·subst e
    cases hb:blkS x y l i k with
    | false => rfl
    | true => rw [if_pos hb] at h2; cases h2
   ·exact h1 k (by omega)
  ·intro h
   exact ⟨fun k hk => h k (by omega),by rw [if_neg (by rw [h w (by omega)]; simp)]⟩
theorem blkU_nil : ∀ {i : Nat}, blkU x y l n i = [] ↔ ∀ j, j < i → ∀ k, k < n → blkS x y l j k = false
 | 0 => by simp [blkU]
 | i + 1 => by
  simp only [blkU,List.append_eq_nil_iff,blkU_nil (i:=i),blkT_nil]
  constructor
  ·rintro ⟨h1,h2⟩ j hj
   by_cases e : j = i
   ·subst e; exact h2
   ·exact h1 j (by omega)
  ·intro h
   exact ⟨fun j hj => h j (by omega),h i (by omega)⟩
theorem stable_iff : stableB x y n l = true ↔ ∀ i, i < n → ∀ w, w < n → blkI x y l i w = false := by
 unfold stableB
 rw [all_range_iff]
 constructor
 ·intro h i hi w hw
  have:=all_range_iff.1 (h i hi) w hw; simpa using this
 ·intro h i hi
  rw [all_range_iff]
  intro w hw; rw [h i hi w hw]; rfl
theorem blkS_eq {i k : Nat} {w : Nat} (e : (x.getD i []).getD k 0 = w) : blkS x y l i k = blkI x y l i w := by
 unfold blkS blkI
 rw [e,Int.toNat_natCast]
 by_cases h : (w : Int) = l.getD i 0
 ·rw [h,pref_self]; simp
 ·rw [decide_eq_true h,Bool.true_and]
theorem blkL_st : (((blkL x y l n n).length : Int) = 0) ↔ stableB x y n l = true := by
 rw [stable_iff,← blkL_nil]
 constructor
 ·intro h; exact List.eq_nil_of_length_eq_zero (by omega)
 ·intro h; rw [h]; rfl
theorem blkU_st (M : Mk x y n) : (((blkU x y l n n).length : Int) = 0) ↔ stableB x y n l = true := by
 rw [stable_iff]
 have h0:(((blkU x y l n n).length:Int) = 0) ↔ blkU x y l n n = []:=⟨fun h => List.eq_nil_of_length_eq_zero (by omega),fun h => by rw [h]; rfl⟩
 rw [h0,blkU_nil]
 constructor
 ·intro h i hi w hw
  obtain ⟨k,hk,e⟩:=mem_getD 0 (rank_all (M.m.rk i hi) (a:=(w:Int)) (by omega) (by omega))
  have hl:=rank_len (M.m.rk i hi)
  rw [← blkS_eq e]; exact h i hi k (by omega)
 ·intro h i hi k hk
  have hr:=M.m.rk i hi
  have hl:=rank_len hr
  have hb:=rank_bd hr (i:=k) (by omega)
  rw [blkS_eq (w:=((x.getD i []).getD k 0).toNat) (by omega)]
  exact h i hi _ (by omega)
end
theorem impl_blocks_ok {n1 n2 n3 : Option Bool} (x y : List (List Int)) (l : List Int) (n : Nat) (M : Mk x y n) (hl : rankB n l = true) :
  CallOk Try.prog 57 [.a [.s n1 (rr x),.s n2 (rr y)],.s n3 (ii l)] [(0,.own 1 none (rr (blkL x y l n n)))]:=by
 have n5:=M.m.n5
 have lx:=M.m.len
 have ly:=M.w.len
 have ll:=rank_len hl
 obtain ⟨code0,hcd1,hcd2⟩:=chk_impl_Market_blocks; refine callOk_of Try.func57 hcd1 mo Try.call57 (rs:=[4]) (by kernel_rfl) hcd2 (by rw [Try.ntmps57]; simp) (by simp) (by decide) ?_; unfold C_impl_Market_blocks K_impl_Market_blocks; simp (maxSteps:=2000000) only [go_sem,Nat.reduceBEq,Nat.reduceAdd,Nat.reduceMul,Nat.reduceMod,Nat.reduceLT,Nat.reduceDiv,Nat.reduceSub,Nat.reduceLeDiff,Int.reduceToNat,Int.reduceLT,Int.reduceLE,reduceCtorEq]
 refine loopN n (fun i => [(0,.t .arg (.a [.s n1 (rr x),.s n2 (rr y)])),(1,.t .arg (.s n3 (ii l))),(2,.t .arg (.q [.s n1 (rr x),.s n2 (rr y)] 0)),(5,.own 1 none (rr (blkL x y l n i))),(9,.t .arg (.s n3 (ii l))),(10,.i n),(11,.i (i:Nat))]) (fun _ => True) ⟨trivial,by simp (maxSteps:=2000000) only [go_sem,Nat.reduceBEq,Nat.reduceAdd,Nat.reduceMul,Nat.reduceMod,Nat.reduceLT,Nat.reduceDiv,Nat.reduceSub,Nat.reduceLeDiff,Int.reduceToNat,Int.reduceLT,Int.reduceLE,reduceCtorEq]; simp [blkL]; omega⟩ fun i hi _ => ?_
 have hL:=blkL_len (x:=x) (y:=y) (l:=l) (n:=n) (i:=i)
 have hin:i * n ≤ 5 * 5:=Nat.mul_le_mul (by omega) n5
 simp (maxSteps:=2000000) only [go_sem,Nat.reduceBEq,Nat.reduceAdd,Nat.reduceMul,Nat.reduceMod,Nat.reduceLT,Nat.reduceDiv,Nat.reduceSub,Nat.reduceLeDiff,Int.reduceToNat,Int.reduceLT,Int.reduceLE,reduceCtorEq]
 refine ⟨fun hlt => ?_, fun hge => ?_⟩
 ·refine ⟨by omega,by omega,by omega,?_⟩
  refine loopN n (fun w => [(0,.t .arg (.a [.s n1 (rr x),.s n2 (rr y)])),(1,.t .arg (.s n3 (ii l))),(2,.t .arg (.q [.s n1 (rr x),.s n2 (rr y)] 0)),(5,.own 1 none (rr (blkL x y l n i ++ blkR x y l i w))),(9,.t .arg (.s n3 (ii l))),(10,.i n),(11,.i (i:Nat)),(6,.i (i:Nat)),(7,.i (l.getD i 0)),(17,.i n),(18,.i (w:Nat))]) (fun _ => True) ⟨trivial,by simp (maxSteps:=2000000) only [go_sem,Nat.reduceBEq,Nat.reduceAdd,Nat.reduceMul,Nat.reduceMod,Nat.reduceLT,Nat.reduceDiv,Nat.reduceSub,Nat.reduceLeDiff,Int.reduceToNat,Int.reduceLT,Int.reduceLE,reduceCtorEq]; simp [blkR]; omega⟩ fun w hw _ => ?_
  have hR:=blkR_len (x:=x) (y:=y) (l:=l) (i:=i) (w:=w)
  simp (maxSteps:=2000000) only [go_sem,Nat.reduceBEq,Nat.reduceAdd,Nat.reduceMul,Nat.reduceMod,Nat.reduceLT,Nat.reduceDiv,Nat.reduceSub,Nat.reduceLeDiff,Int.reduceToNat,Int.reduceLT,Int.reduceLE,reduceCtorEq]
  refine ⟨fun hlt2 => ?_, fun hge2 => ?_⟩
  ·have rx:=rank_len (M.m.rk i (by omega))
   have ry:=rank_len (M.w.rk w (by omega))
   refine ⟨by omega,by omega,by omega,?_⟩
   refine ⟨_,impl_Prefers_ok (x.getD i []) _ _ (by omega),?_⟩; simp (maxSteps:=2000000) only [go_sem,Nat.reduceBEq,Nat.reduceAdd,Nat.reduceMul,Nat.reduceMod,Nat.reduceLT,Nat.reduceDiv,Nat.reduceSub,Nat.reduceLeDiff,Int.reduceToNat,Int.reduceLT,Int.reduceLE,reduceCtorEq]
   have hs:blkR x y l i (w + 1) = blkR x y l i w ++ if blkI x y l i w = true then [[(i:Int),(w:Int)]] else []:=rfl
   refine ⟨fun h1 => ⟨by omega, by omega, by omega, ?_⟩, fun h1 => ?_⟩
   ·refine ⟨_,IndexI l w (by omega),?_⟩; simp (maxSteps:=2000000) only [go_sem,Nat.reduceBEq,Nat.reduceAdd,Nat.reduceMul,Nat.reduceMod,Nat.reduceLT,Nat.reduceDiv,Nat.reduceSub,Nat.reduceLeDiff,Int.reduceToNat,Int.reduceLT,Int.reduceLE,reduceCtorEq]
    rw [← placeI_sym]
    refine ⟨_,impl_Prefers_ok (y.getD w []) _ _ (by omega),?_⟩; simp (maxSteps:=2000000) only [go_sem,Nat.reduceBEq,Nat.reduceAdd,Nat.reduceMul,Nat.reduceMod,Nat.reduceLT,Nat.reduceDiv,Nat.reduceSub,Nat.reduceLeDiff,Int.reduceToNat,Int.reduceLT,Int.reduceLE,reduceCtorEq]
    refine ⟨fun h2 => ⟨by simp, by rw [List.length_append]; omega, inR_of (by omega) (by omega), by omega, ?_, by simp⟩, fun h2 => ⟨inR_of (by omega) (by omega), by omega, ?_, by simp⟩⟩
    ·show T.leL (rr _ ++ [.s (some false) (ii [(i:Int),(w:Int)])]) _
     rw [leL_rr_app1,hs,if_pos (by rw [blkI,h1,h2]; rfl),List.append_assoc]
    ·rw [hs,if_neg (by rw [blkI,h1,h2]; simp),List.append_nil]
   ·exact ⟨inR_of (by omega) (by omega),by omega,by rw [hs,if_neg (by rw [blkI,h1]; simp),List.append_nil],by simp⟩
  ·have:w = n:=by omega
   subst this
   exact ⟨inR_of (by omega) (by omega),by omega,rfl,by simp⟩
 ·have:i = n:=by omega
  subst this
  rfl
theorem spec_l17Blocks_ok {n1 n2 n3 : Option Bool} (x y : List (List Int)) (l : List Int) (n : Nat) (M : Mk x y n) (hl : rankB n l = true) :
  CallOk Try.prog 89 [.a [.s n1 (rr x),.s n2 (rr y)],.s n3 (ii l)] [(0,.own 1 none (rr (blkU x y l n n)))]:=by
 have n5:=M.m.n5
 have lx:=M.m.len
 have ly:=M.w.len
 have ll:=rank_len hl
 obtain ⟨code0,hcd1,hcd2⟩:=chk_spec_l17Blocks; refine callOk_of Try.func89 hcd1 mo Try.call89 (rs:=[4]) (by kernel_rfl) hcd2 (by rw [Try.ntmps89]; simp) (by simp) (by decide) ?_; unfold C_spec_l17Blocks K_spec_l17Blocks; simp (maxSteps:=2000000) only [go_sem,Nat.reduceBEq,Nat.reduceAdd,Nat.reduceMul,Nat.reduceMod,Nat.reduceLT,Nat.reduceDiv,Nat.reduceSub,Nat.reduceLeDiff,Int.reduceToNat,Int.reduceLT,Int.reduceLE,reduceCtorEq]
 refine loopN n (fun i => [(0,.t .arg (.a [.s n1 (rr x),.s n2 (rr y)])),(1,.t .arg (.s n3 (ii l))),(2,.t .arg (.q [.s n1 (rr x),.s n2 (rr y)] 0)),(5,.own 1 none (rr (blkU x y l n i))),(12,.t .arg (.s n1 (rr x))),(13,.i n),(14,.i (i:Nat))]) (fun _ => True) ⟨trivial,by simp (maxSteps:=2000000) only [go_sem,Nat.reduceBEq,Nat.reduceAdd,Nat.reduceMul,Nat.reduceMod,Nat.reduceLT,Nat.reduceDiv,Nat.reduceSub,Nat.reduceLeDiff,Int.reduceToNat,Int.reduceLT,Int.reduceLE,reduceCtorEq]; simp [blkU,lx]⟩ fun i hi _ => ?_
 have hL:=blkU_len (x:=x) (y:=y) (l:=l) (n:=n) (i:=i)
 have hin:i * n ≤ 5 * 5:=Nat.mul_le_mul (by omega) n5
 simp (maxSteps:=2000000) only [go_sem,Nat.reduceBEq,Nat.reduceAdd,Nat.reduceMul,Nat.reduceMod,Nat.reduceLT,Nat.reduceDiv,Nat.reduceSub,Nat.reduceLeDiff,Int.reduceToNat,Int.reduceLT,Int.reduceLE,reduceCtorEq]
 refine ⟨fun hlt => ?_, fun hge => ?_⟩
 ·have rx:=M.m.rk i (by omega)
  have rxl:=rank_len rx
  refine ⟨by omega,by omega,by omega,?_⟩
  refine loopN n (fun w => [(0,.t .arg (.a [.s n1 (rr x),.s n2 (rr y)])),(1,.t .arg (.s n3 (ii l))),(2,.t .arg (.q [.s n1 (rr x),.s n2 (rr y)] 0)),(5,.own 1 none (rr (blkU x y l n i ++ blkT x y l i w))),(12,.t .arg (.s n1 (rr x))),(13,.i n),(14,.i (i:Nat)),(6,.i (i:Nat)),(7,.t .arg (.s none (ii (x.getD i [])))),(19,.t .arg (.s none (ii (x.getD i [])))),(20,.i n),(21,.i (w:Nat))]) (fun _ => True) ⟨trivial,by simp (maxSteps:=2000000) only [go_sem,Nat.reduceBEq,Nat.reduceAdd,Nat.reduceMul,Nat.reduceMod,Nat.reduceLT,Nat.reduceDiv,Nat.reduceSub,Nat.reduceLeDiff,Int.reduceToNat,Int.reduceLT,Int.reduceLE,reduceCtorEq]; simp [-List.getD_eq_getElem?_getD,blkT]; omega⟩ fun w hw _ => ?_
  have hR:=blkT_len (x:=x) (y:=y) (l:=l) (i:=i) (w:=w)
  have hs:blkT x y l i (w + 1) = blkT x y l i w ++ if blkS x y l i w = true then [[(i:Int),(x.getD i []).getD w 0]] else []:=rfl
  simp (maxSteps:=2000000) only [go_sem,Nat.reduceBEq,Nat.reduceAdd,Nat.reduceMul,Nat.reduceMod,Nat.reduceLT,Nat.reduceDiv,Nat.reduceSub,Nat.reduceLeDiff,Int.reduceToNat,Int.reduceLT,Int.reduceLE,reduceCtorEq]
  refine ⟨fun hlt2 => ?_, fun hge2 => ?_⟩
  ·have hb:=rank_bd rx (i:=w) (by omega)
   have ry:=rank_len (M.w.rk ((x.getD i []).getD w 0).toNat (by omega))
   have no:blkS x y l i w = false → inR ((w:Int) + 1) ∧ w < n ∧ blkU x y l n i ++ blkT x y l i w = blkU x y l n i ++ blkT x y l i (w + 1) ∧ (w:Int) + 1 = ((w + 1:Nat):Int):=fun h => ⟨inR_of (by omega) (by omega),by omega,by rw [hs,if_neg (by rw [h]; simp),List.append_nil],by simp⟩
   refine ⟨by omega, by omega, by omega, by omega, by omega, by omega, fun h1 => ⟨by omega, by omega, by omega, ?_⟩, fun h1 => ?_⟩
   ·refine ⟨_,spec_Prefers_ok (x.getD i []) _ _ (by omega),?_⟩; simp (maxSteps:=2000000) only [go_sem,Nat.reduceBEq,Nat.reduceAdd,Nat.reduceMul,Nat.reduceMod,Nat.reduceLT,Nat.reduceDiv,Nat.reduceSub,Nat.reduceLeDiff,Int.reduceToNat,Int.reduceLT,Int.reduceLE,reduceCtorEq]
    refine ⟨fun h2 => ⟨by omega, by omega, by omega, ?_⟩, fun h2 => ?_⟩
    ·refine ⟨_,spec_PlaceOf_ok l _ (by omega),?_⟩; simp (maxSteps:=2000000) only [go_sem,Nat.reduceBEq,Nat.reduceAdd,Nat.reduceMul,Nat.reduceMod,Nat.reduceLT,Nat.reduceDiv,Nat.reduceSub,Nat.reduceLeDiff,Int.reduceToNat,Int.reduceLT,Int.reduceLE,reduceCtorEq]
     refine ⟨_,spec_Prefers_ok (y.getD ((x.getD i []).getD w 0).toNat []) _ _ (by omega),?_⟩; simp (maxSteps:=2000000) only [go_sem,Nat.reduceBEq,Nat.reduceAdd,Nat.reduceMul,Nat.reduceMod,Nat.reduceLT,Nat.reduceDiv,Nat.reduceSub,Nat.reduceLeDiff,Int.reduceToNat,Int.reduceLT,Int.reduceLE,reduceCtorEq]
     refine ⟨fun h3 => ⟨by simp, by rw [List.length_append]; omega, inR_of (by omega) (by omega), by omega, ?_, by simp⟩, fun h3 => ?_⟩
     ·show T.leL (rr _ ++ [.s (some false) (ii [(i:Int),(x.getD i []).getD w 0])]) _
      rw [leL_rr_app1,hs,if_pos (by rw [blkS,h2,h3,decide_eq_true h1]; rfl),List.append_assoc]
     ·exact no (by rw [blkS,h3,Bool.and_false])
    ·exact no (by rw [blkS,h2,Bool.and_false,Bool.false_and])
   ·exact no (by rw [blkS,decide_eq_false (by simpa using h1),Bool.false_and,Bool.false_and])
  ·have:w = n:=by omega
   subst this
   exact ⟨inR_of (by omega) (by omega),by omega,rfl,by simp⟩
 ·have:i = n:=by omega
  subst this
  rfl
def K_impl_StableMatchings:List Nat:=[0,1,2,3,5,12,13,14,1001,2001]
def C_impl_StableMatchings : C :=
 let ks:=K_impl_StableMatchings
 (.seq
  (.rg 0 [(none,.v 1 .boxS [.s 0]),(none,.mkn 2)])
  (.cl ks (.seq
  (.seq
  (.rg 0 [(none,.v 6 (.lds 2) [.s 1]),(none,.co 7 55 [.s 6]),(none,.v 8 .not [.s 7])])
  (.cond (.s 8)
  (.seq
  (.rg 0 [(none,.mkn 2)])
  .ret)
  .skip))
  (.cl ks (.seq
  (.rg 0 [(none,.mkn 3)])
  (.cl ks (.seq
  (.seq
  (.rg 0 [(none,.v 9 (.fa 0) [.s 1]),(none,.v 10 .ld [.s 9]),(none,.v 11 .len [.s 10]),(none,.co 12 56 [.s 11]),(none,.v 13 .len [.s 12]),(none,.v 14 .mv [.k (.i 0)])])
  (.cl ks (.block 0
  (.loop
  (.seq
  (.rg 0 [(none,.v 15 (.bin .lss) [.s 14,.s 13])])
  (.seq
  (.cond (.s 15)
  .skip
  (.exit 0))
  (.cl ks (.seq
  (.block 1
  (.seq
  (.rg 0 [(none,.v 16 .idx [.s 12,.s 14]),(none,.v 17 .lde [.s 16]),(none,.tk 5 17)])
  (.cl ks (.seq
  (.rg 0 [(none,.v 18 (.lds 2) [.s 1]),(none,.v 19 .mv [.s 5]),(none,.co 20 57 [.s 18,.s 19]),(none,.v 21 .len [.s 20]),(none,.v 22 (.bin .eql) [.s 21,.k (.i 0)])])
  (.cond (.s 22)
  (.rg 0 [(none,.v 23 .mv [.s 3]),(none,.v 24 .mv [.s 5]),(none,.tkr 24),(none,.lit 25 [.s 24] 1),(none,.app 26 (.s 23) (.s 25) 1),(none,.tk 3 26)])
  .skip)))))
  (.cl ks (.rg 0 [(none,.v 27 (.bin .add) [.s 14,.k (.i 1)]),(none,.v 14 .mv [.s 27])]))))))))))
  (.cl ks (.seq
  (.rg 0 [(none,.v 28 .mv [.s 3]),(none,.tk 2 28)])
  .ret)))))))))
theorem chk_impl_StableMatchings:∃ b,Try.f16.body = some b ∧ chk Try.prog Try.f16.ntmps true C_impl_StableMatchings b = true:=⟨_,rfl,by kernel_rfl⟩
def K_spec_StableMatchings:List Nat:=[0,1,2,3,5,13,14,15,1001,2001]
def C_spec_StableMatchings : C :=
 let ks:=K_spec_StableMatchings
 (.seq
  (.rg 0 [(none,.v 1 .boxS [.s 0]),(none,.mkn 2)])
  (.cl ks (.seq
  (.seq
  (.rg 0 [(none,.v 6 (.lds 2) [.s 1]),(none,.co 7 87 [.s 6]),(none,.v 8 .not [.s 7])])
  (.cond (.s 8)
  (.seq
  (.rg 0 [(none,.mkn 2)])
  .ret)
  .skip))
  (.cl ks (.seq
  (.rg 0 [(none,.lit 9 [] 0),(none,.tk 3 9)])
  (.cl ks (.seq
  (.seq
  (.rg 0 [(none,.v 10 (.fa 0) [.s 1]),(none,.v 11 .ld [.s 10]),(none,.v 12 .len [.s 11]),(none,.co 13 88 [.s 12]),(none,.v 14 .len [.s 13]),(none,.v 15 .mv [.k (.i 0)])])
  (.cl ks (.block 0
  (.loop
  (.seq
  (.rg 0 [(none,.v 16 (.bin .lss) [.s 15,.s 14])])
  (.seq
  (.cond (.s 16)
  .skip
  (.exit 0))
  (.cl ks (.seq
  (.block 1
  (.seq
  (.rg 0 [(none,.v 17 .idx [.s 13,.s 15]),(none,.v 18 .lde [.s 17]),(none,.tk 5 18)])
  (.cl ks (.seq
  (.rg 0 [(none,.v 19 (.lds 2) [.s 1]),(none,.v 20 .mv [.s 5]),(none,.co 21 89 [.s 19,.s 20]),(none,.v 22 .len [.s 21]),(none,.v 23 (.bin .eql) [.s 22,.k (.i 0)])])
  (.cond (.s 23)
  (.rg 0 [(none,.v 24 .mv [.s 3]),(none,.v 25 .mv [.s 5]),(none,.tkr 25),(none,.lit 26 [.s 25] 1),(none,.app 27 (.s 24) (.s 26) 1),(none,.tk 3 27)])
  .skip)))))
  (.cl ks (.rg 0 [(none,.v 28 (.bin .add) [.s 15,.k (.i 1)]),(none,.v 15 .mv [.s 28])]))))))))))
  (.cl ks (.seq
  (.rg 0 [(none,.v 29 .mv [.s 3]),(none,.tk 2 29)])
  .ret)))))))))
theorem chk_spec_StableMatchings:∃ b,Try.f44.body = some b ∧ chk Try.prog Try.f44.ntmps true C_spec_StableMatchings b = true:=⟨_,rfl,by kernel_rfl⟩
def stabK (x y:List (List Int)) (k:Nat):List (List Int):=((allRank (x.length:Int)).take k).filter (stableB x y x.length)
def stabF (x y:List (List Int)):List (List Int):=if marketB x y = true then stabK x y (allRank (x.length:Int)).length else []
theorem stabK_s {x y : List (List Int)} {k : Nat} (hk : k < (allRank (x.length : Int)).length) : stabK x y (k + 1) = stabK x y k ++ if stableB x y x.length ((allRank (x.length : Int)).getD k []) = true then [(allRank (x.length : Int)).getD k []] else [] := by
 unfold stabK
 rw [take_getD [] hk,List.filter_append]
 congr 1
 by_cases h : stableB x y x.length ((allRank (x.length : Int)).getD k []) = true
 ·rw [if_pos h]; simp only [List.filter_cons,h,if_true,List.filter_nil]
 ·rw [if_neg h]; simp only [List.filter_cons,h,Bool.false_eq_true,if_false,List.filter_nil]
theorem stabK_len {x y : List (List Int)} {k : Nat} : (stabK x y k).length ≤ (allRank (x.length : Int)).length :=
 Nat.le_trans (List.length_filter_le _ _) (by rw [List.length_take]; omega)
theorem stab_rank {x y : List (List Int)} {r : List Int} (h : r ∈ stabF x y) : marketB x y = true ∧ rankB (x.length : Int) r = true ∧ stableB x y x.length r = true := by
 unfold stabF at h
 by_cases hm : marketB x y = true
 ·rw [if_pos hm] at h
  obtain ⟨h1,h2⟩:=List.mem_filter.1 h
  exact ⟨hm,allRank_rank (List.mem_of_mem_take h1),h2⟩
 ·rw [if_neg hm] at h; cases h
theorem stabF_len {x y : List (List Int)} : (stabF x y).length ≤ 3125 := by
 unfold stabF
 split
 ·have:=stabK_len (x:=x) (y:=y) (k:=(allRank (x.length:Int)).length); have:=allRank_len (m:=(x.length:Int)); omega
 ·simp
theorem impl_StableMatchings_ok {n1 n2 : Option Bool} (x y : List (List Int)) (hx : x.length ≤ 1048576) (kx : ∀ r ∈ x, r.length ≤ 1048576) (hy : y.length ≤ 1048576) (ky : ∀ r ∈ y, r.length ≤ 1048576) :
  CallOk Try.prog 16 [.a [.s n1 (rr x),.s n2 (rr y)]] [(0,.own 1 none (rr (stabF x y)))]:=by
 obtain ⟨code0,hcd1,hcd2⟩:=chk_impl_StableMatchings; refine callOk_of Try.func16 hcd1 mo Try.call16 (rs:=[2]) (by kernel_rfl) hcd2 (by rw [Try.ntmps16]; simp) (by simp) (by decide) ?_; unfold C_impl_StableMatchings K_impl_StableMatchings; simp (maxSteps:=2000000) only [go_sem,Nat.reduceBEq,Nat.reduceAdd,Nat.reduceMul,Nat.reduceMod,Nat.reduceLT,Nat.reduceDiv,Nat.reduceSub,Nat.reduceLeDiff,Int.reduceToNat,Int.reduceLT,Int.reduceLE,reduceCtorEq]
 refine ⟨_,impl_MarketOk_ok x y hx kx hy ky,?_⟩; simp (maxSteps:=2000000) only [go_sem,Nat.reduceBEq,Nat.reduceAdd,Nat.reduceMul,Nat.reduceMod,Nat.reduceLT,Nat.reduceDiv,Nat.reduceSub,Nat.reduceLeDiff,Int.reduceToNat,Int.reduceLT,Int.reduceLE,reduceCtorEq]
 refine ⟨fun h0 => by simp [stabF,h0],fun h0 => ?_⟩
 have M:=mk_of h0
 have n5:=M.m.n5
 have hF:stabF x y = stabK x y (allRank (x.length:Int)).length:=if_pos h0
 rw [hF]
 refine ⟨_,impl_AllRankings_ok (x.length:Int),?_⟩; simp (maxSteps:=2000000) only [go_sem,Nat.reduceBEq,Nat.reduceAdd,Nat.reduceMul,Nat.reduceMod,Nat.reduceLT,Nat.reduceDiv,Nat.reduceSub,Nat.reduceLeDiff,Int.reduceToNat,Int.reduceLT,Int.reduceLE,reduceCtorEq]
 have hAl:=allRank_len (m:=(x.length:Int))
 have hR:∀ k,k < (allRank (x.length:Int)).length → rankB (x.length:Int) ((allRank (x.length:Int)).getD k []) = true:=fun k hk => allRank_rank (getD_mem (d:=[]) hk)
 refine loopN (allRank (x.length:Int)).length (fun j => [(0,.t .arg (.a [.s n1 (rr x),.s n2 (rr y)])),(1,.t .arg (.q [.s n1 (rr x),.s n2 (rr y)] 0)),(3,.own 1 none (rr (stabK x y j))),(12,.own 1 none (hols j (allRank (x.length:Int)))),(13,.i (allRank (x.length:Int)).length),(14,.i (j:Nat))]) (fun _ => True) ⟨trivial,by simp (maxSteps:=2000000) only [go_sem,Nat.reduceBEq,Nat.reduceAdd,Nat.reduceMul,Nat.reduceMod,Nat.reduceLT,Nat.reduceDiv,Nat.reduceSub,Nat.reduceLeDiff,Int.reduceToNat,Int.reduceLT,Int.reduceLE,reduceCtorEq]; simp [stabK]⟩ fun j hj _ => ?_
 have hs:=@stabK_s x y j
 have hlen:=stabK_len (x:=x) (y:=y) (k:=j)
 simp (maxSteps:=2000000) only [go_sem,Nat.reduceBEq,Nat.reduceAdd,Nat.reduceMul,Nat.reduceMod,Nat.reduceLT,Nat.reduceDiv,Nat.reduceSub,Nat.reduceLeDiff,Int.reduceToNat,Int.reduceLT,Int.reduceLE,reduceCtorEq]
 refine ⟨fun hlt => ?_, fun hge => ?_⟩
 ·have hj':j < (allRank (x.length:Int)).length:=by omega
  have hg:=hols_get hj'
  have hs:=hs hj'
  rw [hg]
  refine ⟨by omega,hj',hj',_,impl_blocks_ok x y ((allRank (x.length:Int)).getD j []) x.length M (hR j hj'),?_⟩
  simp (maxSteps:=2000000) only [go_sem,Nat.reduceBEq,Nat.reduceAdd,Nat.reduceMul,Nat.reduceMod,Nat.reduceLT,Nat.reduceDiv,Nat.reduceSub,Nat.reduceLeDiff,Int.reduceToNat,Int.reduceLT,Int.reduceLE,reduceCtorEq,hg]
  first | rw [blkL_st] | rw [blkU_st M]
  refine ⟨fun hu => ⟨hj', by simp, by omega, inR_of (by omega) (by omega), hj', ?_, by simp⟩, fun hu => ⟨inR_of (by omega) (by omega), hj', ?_, by simp⟩⟩
  ·rw [hs,if_pos hu]
  ·rw [hs,if_neg hu,List.append_nil]
 ·have:j = (allRank (x.length:Int)).length:=by omega
  subst this
  rfl
theorem spec_StableMatchings_ok {n1 n2 : Option Bool} (x y : List (List Int)) (hx : x.length ≤ 1048576) (kx : ∀ r ∈ x, r.length ≤ 1048576) (hy : y.length ≤ 1048576) (ky : ∀ r ∈ y, r.length ≤ 1048576) :
  CallOk Try.prog 44 [.a [.s n1 (rr x),.s n2 (rr y)]] [(0,.own 1 none (rr (stabF x y)))]:=by
 obtain ⟨code0,hcd1,hcd2⟩:=chk_spec_StableMatchings; refine callOk_of Try.func44 hcd1 mo Try.call44 (rs:=[2]) (by kernel_rfl) hcd2 (by rw [Try.ntmps44]; simp) (by simp) (by decide) ?_; unfold C_spec_StableMatchings K_spec_StableMatchings; simp (maxSteps:=2000000) only [go_sem,Nat.reduceBEq,Nat.reduceAdd,Nat.reduceMul,Nat.reduceMod,Nat.reduceLT,Nat.reduceDiv,Nat.reduceSub,Nat.reduceLeDiff,Int.reduceToNat,Int.reduceLT,Int.reduceLE,reduceCtorEq]
 refine ⟨_,spec_MarketOk_ok x y hx kx hy ky,?_⟩; simp (maxSteps:=2000000) only [go_sem,Nat.reduceBEq,Nat.reduceAdd,Nat.reduceMul,Nat.reduceMod,Nat.reduceLT,Nat.reduceDiv,Nat.reduceSub,Nat.reduceLeDiff,Int.reduceToNat,Int.reduceLT,Int.reduceLE,reduceCtorEq]
 refine ⟨fun h0 => by simp [stabF,h0],fun h0 => ?_⟩
 have M:=mk_of h0
 have n5:=M.m.n5
 have hF:stabF x y = stabK x y (allRank (x.length:Int)).length:=if_pos h0
 rw [hF]
 refine ⟨_,spec_AllRankings_ok (x.length:Int),?_⟩; simp (maxSteps:=2000000) only [go_sem,Nat.reduceBEq,Nat.reduceAdd,Nat.reduceMul,Nat.reduceMod,Nat.reduceLT,Nat.reduceDiv,Nat.reduceSub,Nat.reduceLeDiff,Int.reduceToNat,Int.reduceLT,Int.reduceLE,reduceCtorEq]
 have hAl:=allRank_len (m:=(x.length:Int))
 have hR:∀ k,k < (allRank (x.length:Int)).length → rankB (x.length:Int) ((allRank (x.length:Int)).getD k []) = true:=fun k hk => allRank_rank (getD_mem (d:=[]) hk)
 refine loopN (allRank (x.length:Int)).length (fun j => [(0,.t .arg (.a [.s n1 (rr x),.s n2 (rr y)])),(1,.t .arg (.q [.s n1 (rr x),.s n2 (rr y)] 0)),(3,.own 1 none (rr (stabK x y j))),(13,.own 1 none (hols j (allRank (x.length:Int)))),(14,.i (allRank (x.length:Int)).length),(15,.i (j:Nat))]) (fun _ => True) ⟨trivial,by simp (maxSteps:=2000000) only [go_sem,Nat.reduceBEq,Nat.reduceAdd,Nat.reduceMul,Nat.reduceMod,Nat.reduceLT,Nat.reduceDiv,Nat.reduceSub,Nat.reduceLeDiff,Int.reduceToNat,Int.reduceLT,Int.reduceLE,reduceCtorEq]; simp [stabK]⟩ fun j hj _ => ?_
 have hs:=@stabK_s x y j
 have hlen:=stabK_len (x:=x) (y:=y) (k:=j)
 simp (maxSteps:=2000000) only [go_sem,Nat.reduceBEq,Nat.reduceAdd,Nat.reduceMul,Nat.reduceMod,Nat.reduceLT,Nat.reduceDiv,Nat.reduceSub,Nat.reduceLeDiff,Int.reduceToNat,Int.reduceLT,Int.reduceLE,reduceCtorEq]
 refine ⟨fun hlt => ?_, fun hge => ?_⟩
 ·have hj':j < (allRank (x.length:Int)).length:=by omega
  have hg:=hols_get hj'
  have hs:=hs hj'
  rw [hg]
  refine ⟨by omega,hj',hj',_,spec_l17Blocks_ok x y ((allRank (x.length:Int)).getD j []) x.length M (hR j hj'),?_⟩
  simp (maxSteps:=2000000) only [go_sem,Nat.reduceBEq,Nat.reduceAdd,Nat.reduceMul,Nat.reduceMod,Nat.reduceLT,Nat.reduceDiv,Nat.reduceSub,Nat.reduceLeDiff,Int.reduceToNat,Int.reduceLT,Int.reduceLE,reduceCtorEq,hg]
  first | rw [blkL_st] | rw [blkU_st M]
  refine ⟨fun hu => ⟨hj', by simp, by omega, inR_of (by omega) (by omega), hj', ?_, by simp⟩, fun hu => ⟨inR_of (by omega) (by omega), hj', ?_, by simp⟩⟩
  ·rw [hs,if_pos hu]
  ·rw [hs,if_neg hu,List.append_nil]
 ·have:j = (allRank (x.length:Int)).length:=by omega
  subst this
  rfl
end Go.Proofs.Ytllcbempbdibhaa
