/- Own work: contracts of functions. No condition beyond those that each theorem names. -/
import Derived.Test.YtllcbempbdibhaaProg
import Derived.Test.YtllcbempbdibhaaMarrf
import Derived.Test.YtllcbempbdibhaaSame
import Derived.Test.YtllcbempbdibhaaClone
namespace Go.Proofs.Ytllcbempbdibhaa
open Go Go.Vc
set_option maxRecDepth 100000
set_option linter.unusedSimpArgs false
set_option linter.unusedVariables false
section
variable {x y:List (List Int)} {a b l:List Int} {n:Nat}
def choL (p:Nat → Bool) (a b:List Int) (n:Nat):List Int:=(List.range n).map fun i => if p i = true then b.getD i 0 else a.getD i 0
theorem choL_len {p:Nat → Bool}:(choL p a b n).length = n:=by simp [choL]
theorem choL_get {p:Nat → Bool} {i:Nat} (hi:i < n):(choL p a b n).getD i 0 = if p i = true then b.getD i 0 else a.getD i 0:=by simp [choL,List.getD,hi]
def betP (x:List (List Int)) (a b:List Int) (i:Nat):Bool:=prefB (x.getD i []) (b.getD i 0) (a.getD i 0)
def worP (x:List (List Int)) (a b:List Int) (i:Nat):Bool:=prefB (x.getD i []) (a.getD i 0) (b.getD i 0)
def betL (x:List (List Int)) (a b:List Int):List Int:=choL (betP x a b) a b x.length
def worL (x:List (List Int)) (a b:List Int):List Int:=choL (worP x a b) a b x.length
theorem bw_at (ha : stabB x y a = true) (hb : stabB x y b = true) {i : Nat} (hi : i < x.length) :
  (PM x i (fnL a i) (fnL b i) ∧ (betL x a b).getD i 0 = a.getD i 0 ∧ (worL x a b).getD i 0 = b.getD i 0) ∨
  (PM x i (fnL b i) (fnL a i) ∧ (betL x a b).getD i 0 = b.getD i 0 ∧ (worL x a b).getD i 0 = a.getD i 0) ∨
  (a.getD i 0 = b.getD i 0 ∧ (betL x a b).getD i 0 = a.getD i 0 ∧ (worL x a b).getD i 0 = b.getD i 0):=by
 obtain ⟨_,Ra,M⟩:=stab_of ha
 obtain ⟨_,Rb,_⟩:=stab_of hb
 have h1:=fn_at Ra hi
 have h2:=fn_at Rb hi
 have L:=lkP M.m
 unfold betL worL
 rw [choL_get hi,choL_get hi]
 have ep:betP x a b i = true ↔ PM x i (fnL b i) (fnL a i):=by unfold betP PM; rw [h1.1,h2.1]
 have eq:worP x a b i = true ↔ PM x i (fnL a i) (fnL b i):=by unfold worP PM; rw [h1.1,h2.1]
 rcases L.tot i (fnL a i) (fnL b i) hi h1.2 h2.2 with h | h | h
 ·exact .inl ⟨h,by rw [if_neg fun h3 => L.asym h (ep.1 h3)],by rw [if_pos (eq.2 h)]⟩
 ·have e:a.getD i 0 = b.getD i 0:=by omega
  exact .inr (.inr ⟨e,by rw [e,ite_self],by rw [e,ite_self]⟩)
 ·exact .inr (.inl ⟨h,by rw [if_pos (ep.2 h)],by rw [if_neg fun h3 => L.asym h (eq.1 h3)]⟩)
theorem fn_eq {l z:List Int} {k:Nat} (e:l.getD k 0 = z.getD k 0):fnL l k = fnL z k:=by unfold fnL; rw [e]
theorem bet_stab (ha : stabB x y a = true) (hb : stabB x y b = true) : stabB x y (betL x a b) = true := by
 obtain ⟨hm,Ra,M⟩:=stab_of ha
 obtain ⟨_,Rb,_⟩:=stab_of hb
 have L:=lkP M.m
 refine of_sm hm choL_len (fun i hi => ?_) ((join_sm L (lkP M.w) (sm_of hb) (sm_of ha)).congr fun i hi => ?_)
 ·have h1:=fn_at Ra hi
  have h2:=fn_at Rb hi
  rcases bw_at ha hb hi with ⟨_,e,_⟩ | ⟨_,e,_⟩ | ⟨_,e,_⟩ <;> rw [e] <;> omega
 ·unfold joinM
  rcases bw_at ha hb hi with ⟨h, e, _⟩ | ⟨h, e, _⟩ | ⟨h, e, _⟩
  ·rw [if_neg (L.asym h),fn_eq e]
  ·rw [if_pos h,fn_eq e]
  ·rw [fn_eq e,fn_eq h,ite_self]
theorem wor_stab (ha : stabB x y a = true) (hb : stabB x y b = true) : stabB x y (worL x a b) = true := by
 obtain ⟨hm,Ra,M⟩:=stab_of ha
 obtain ⟨_,Rb,_⟩:=stab_of hb
 have L:=lkP M.m
 refine of_sm hm choL_len (fun i hi => ?_) ((meet_sm L (lkP M.w) (sm_of ha) (sm_of hb)).congr fun i hi => ?_)
 ·have h1:=fn_at Ra hi
  have h2:=fn_at Rb hi
  rcases bw_at ha hb hi with ⟨_,_,e⟩ | ⟨_,_,e⟩ | ⟨_,_,e⟩ <;> rw [e] <;> omega
 ·unfold meetM
  rcases bw_at ha hb hi with ⟨h, _, e⟩ | ⟨h, _, e⟩ | ⟨h, _, e⟩
  ·rw [if_pos h,fn_eq e]
  ·rw [if_neg (L.asym h),fn_eq e]
  ·rw [fn_eq e,fn_eq h,ite_self]
theorem bw_inv (ha : stabB x y a = true) (hb : stabB x y b = true) {w : Nat} (hw : w < x.length) :
  ((invL (betL x a b)).getD w 0 = (invL a).getD w 0 ∧ (invL (worL x a b)).getD w 0 = (invL b).getD w 0 ∧ placeM y (invL b) w ≤ placeM y (invL a) w) ∨
  ((invL (betL x a b)).getD w 0 = (invL b).getD w 0 ∧ (invL (worL x a b)).getD w 0 = (invL a).getD w 0):=by
 obtain ⟨hm,Ra,M⟩:=stab_of ha
 obtain ⟨_,Rb,_⟩:=stab_of hb
 have A:=sm_of ha
 have B:=sm_of hb
 have L:=lkP M.m
 obtain ⟨_,Rx,_⟩:=stab_of (bet_stab ha hb)
 obtain ⟨_,Ry,_⟩:=stab_of (wor_stab ha hb)
 obtain ⟨i,hi,ei,ai⟩:=inv_ex Ra hw
 obtain ⟨j,hj,ej,bj⟩:=inv_ex Rb hw
 have iv:∀ {l:List Int} {k:Nat},rankB x.length l = true → k < x.length → fnL l k = w → (invL l).getD w 0 = k:=fun R hk e => by rw [← e]; exact inv_at R hk
 rw [ai,bj]
 rcases bw_at ha hb hi with ⟨h, e1, e2⟩ | ⟨h, e1, e2⟩ | ⟨h, e1, e2⟩
 ·obtain ⟨q,hp⟩:=opp L (lkP M.w) A B hi hj h (by rw [ej,ei])
  rcases bw_at ha hb hj with ⟨h', e1', e2'⟩ | ⟨h', e1', e2'⟩ | ⟨h', e1', e2'⟩
  ·refine .inl ⟨iv Rx hi (by rw [fn_eq e1,ei]),iv Ry hj (by rw [fn_eq e2',ej]),?_⟩
   rw [ei,pm_iff M.w hw hj hi] at q
   unfold placeM; rw [ai,bj]; omega
  ·exact absurd hp (L.asym h')
  ·rw [fn_eq h'] at hp; exact absurd hp (L.irr _ _)
 ·obtain ⟨k,hk,hp,ek⟩:=opp_onto L (lkP M.w) B A hi h
  have:k = j:=B.inj k j hk hj (by rw [ek,ei,ej])
  subst this
  rcases bw_at ha hb hk with ⟨h', e1', e2'⟩ | ⟨h', e1', e2'⟩ | ⟨h', e1', e2'⟩
  ·exact absurd hp (L.asym h')
  ·exact .inr ⟨iv Rx hk (by rw [fn_eq e1',ej]),iv Ry hi (by rw [fn_eq e2,ei])⟩
  ·rw [fn_eq h'] at hp; exact absurd hp (L.irr _ _)
 ·have:i = j:=B.inj i j hi hj (by rw [← fn_eq h,ei,ej])
  subst this
  refine .inl ⟨iv Rx hi (by rw [fn_eq e1,ei]),iv Ry hi (by rw [fn_eq e2,ej]),?_⟩
  unfold placeM; rw [ai,bj]; exact Int.le_refl _
theorem bw_place (ha : stabB x y a = true) (hb : stabB x y b = true) {i : Nat} (hi : i < x.length) :
  (placeM x (betL x a b) i = placeM x a i ∧ placeM x (worL x a b) i = placeM x b i ∧ placeM x a i ≤ placeM x b i) ∨ (placeM x (betL x a b) i = placeM x b i ∧ placeM x (worL x a b) i = placeM x a i ∧ placeM x b i ≤ placeM x a i):=by
 obtain ⟨_,Ra,M⟩:=stab_of ha
 obtain ⟨_,Rb,_⟩:=stab_of hb
 have h1:=fn_at Ra hi
 have h2:=fn_at Rb hi
 unfold placeM
 rcases bw_at ha hb hi with ⟨h, e1, e2⟩ | ⟨h, e1, e2⟩ | ⟨h, e1, e2⟩ <;> rw [e1, e2]
 ·rw [pm_iff M.m hi h1.2 h2.2,h1.1,h2.1] at h
  exact .inl ⟨rfl,rfl,by omega⟩
 ·rw [pm_iff M.m hi h2.2 h1.2,h1.1,h2.1] at h
  exact .inr ⟨rfl,rfl,by omega⟩
 ·rw [h]; exact .inl ⟨rfl,rfl,Int.le_refl _⟩
theorem sumF_add {f g : Nat → Int} : ∀ {k : Nat}, sumF f k + sumF g k = sumF (fun i => f i + g i) k
 | 0 => rfl
 | k + 1 => by simp only [sumF]; have:=sumF_add (f:=f) (g:=g) (k:=k); omega
theorem lat_good (ha : stabB x y a = true) (hb : stabB x y b = true) : goodB x y (betL x a b) a = true ∧ goodB x y b (worL x a b) = true ∧ goodB y x (invL (worL x a b)) (invL a) = true := by
 obtain ⟨hm,Ra,M⟩:=stab_of ha
 have hx:=bet_stab ha hb
 have hw:=wor_stab ha hb
 have el:=M.w.len
 refine ⟨good_of (match_of hx) (match_of ha) fun i hi => ?_, good_of (match_of hb) (match_of hw) fun i hi => ?_, good_of (match_of (stab_inv (x := y) (y := x) hw)) (match_of (stab_inv (x := y) (y := x) ha)) fun w hw' => ?_⟩
 ·rcases bw_place ha hb hi with h | h <;> omega
 ·rcases bw_place ha hb hi with h | h <;> omega
 ·rcases bw_inv ha hb (w := w) (by omega) with ⟨_, e, h⟩ | ⟨_, e⟩
  ·unfold placeM at h ⊢; rw [e]; exact h
  ·unfold placeM; rw [e]; exact Int.le_refl _
theorem lat_sums (ha : stabB x y a = true) (hb : stabB x y b = true) : sumF (placeM x a) x.length + sumF (placeM x b) x.length = sumF (placeM x (betL x a b)) x.length + sumF (placeM x (worL x a b)) x.length ∧
  sumF (placeW y a) x.length + sumF (placeW y b) x.length = sumF (placeW y (betL x a b)) x.length + sumF (placeW y (worL x a b)) x.length:=by
 obtain ⟨hm,Ra,M⟩:=stab_of ha
 obtain ⟨_,Rb,_⟩:=stab_of hb
 obtain ⟨_,Rx,_⟩:=stab_of (bet_stab ha hb)
 obtain ⟨_,Ry,_⟩:=stab_of (wor_stab ha hb)
 constructor
 ·rw [sumF_add,sumF_add]
  refine sumF_congr fun i hi => ?_
  rcases bw_place ha hb hi with h | h <;> omega
 ·have e : ∀ {l : List Int}, rankB x.length l = true → sumF (placeW y l) x.length = sumF (placeM y (invL l)) x.length := fun {l} R => by
   have:=sum_inv (y:=y) (inv_rank R)
   rw [inv_inv R] at this
   exact this
  rw [e Ra,e Rb,e Rx,e Ry,sumF_add,sumF_add]
  refine sumF_congr fun w hw => ?_
  unfold placeM
  rcases bw_inv ha hb hw with ⟨e1,e2,_⟩ | ⟨e1,e2⟩ <;> rw [e1,e2]
  omega
end
def K_impl_BetterOf_1:List Nat:=[0,1,2,3,5]
def C_impl_BetterOf_1 : C :=
 let ks:=K_impl_BetterOf_1
 (.seq
  (.rg 0 [(none,.v 5 .mv [.k (.b false)])])
  (.cl ks (.seq
  (.rg 13 [(none,.v 6 (.fa 0) [.s 1]),(none,.v 7 .ld [.s 6]),(none,.v 8 .mv [.s 0]),(none,.v 9 .idx [.s 7,.s 8]),(none,.v 10 .ld [.s 9]),(none,.v 11 .ld [.s 2]),(none,.v 12 .mv [.s 0]),(none,.v 13 .idx [.s 11,.s 12]),(none,.v 14 .ld [.s 13]),(none,.v 15 .ld [.s 3]),(none,.v 16 .mv [.s 0]),(none,.v 17 .idx [.s 15,.s 16]),(none,.v 18 .ld [.s 17]),(none,.co 19 61 [.s 10,.s 14,.s 18]),(none,.tk 5 19)])
  .ret)))
theorem chk_impl_BetterOf_1:∃ b,Try.f60.body = some b ∧ chk Try.prog Try.f60.ntmps true C_impl_BetterOf_1 b = true:=⟨_,rfl,by kernel_rfl⟩
def K_impl_WorseOf_1:List Nat:=[0,1,2,3,5]
def C_impl_WorseOf_1 : C :=
 let ks:=K_impl_WorseOf_1
 (.seq
  (.rg 0 [(none,.v 5 .mv [.k (.b false)])])
  (.cl ks (.seq
  (.rg 13 [(none,.v 6 (.fa 0) [.s 1]),(none,.v 7 .ld [.s 6]),(none,.v 8 .mv [.s 0]),(none,.v 9 .idx [.s 7,.s 8]),(none,.v 10 .ld [.s 9]),(none,.v 11 .ld [.s 2]),(none,.v 12 .mv [.s 0]),(none,.v 13 .idx [.s 11,.s 12]),(none,.v 14 .ld [.s 13]),(none,.v 15 .ld [.s 3]),(none,.v 16 .mv [.s 0]),(none,.v 17 .idx [.s 15,.s 16]),(none,.v 18 .ld [.s 17]),(none,.co 19 61 [.s 10,.s 14,.s 18]),(none,.tk 5 19)])
  .ret)))
theorem chk_impl_WorseOf_1:∃ b,Try.f62.body = some b ∧ chk Try.prog Try.f62.ntmps true C_impl_WorseOf_1 b = true:=⟨_,rfl,by kernel_rfl⟩
def K_impl_Market_chosen:List Nat:=[0,1,2,3,4,8,9,10,11,25,26,1004,2004]
def C_impl_Market_chosen : C :=
 let ks:=K_impl_Market_chosen
 (.seq
  (.rg 0 [(none,.v 4 .boxS [.s 0]),(none,.mkn 8),(none,.v 9 .mv [.k (.b false)])])
  (.cl ks (.seq
  (.seq
  (.rg 0 [(none,.v 12 (.lds 2) [.s 4]),(none,.v 13 .mv [.s 1]),(none,.co 14 21 [.s 12,.s 13]),(none,.v 15 .not [.s 14]),(none,.v 16 .mv [.s 15]),(some (16,false),.v 17 (.lds 2) [.s 4]),(some (16,false),.v 18 .mv [.s 2]),(some (16,false),.co 19 21 [.s 17,.s 18]),(some (16,false),.v 20 .not [.s 19]),(none,.v 21 .pick [.s 16,.k (.b true),.s 20])])
  (.cond (.s 21)
  (.seq
  (.rg 0 [(none,.mkn 8),(none,.v 9 .mv [.k (.b false)])])
  .ret)
  .skip))
  (.cl ks (.seq
  (.rg 0 [(none,.v 22 .mv [.s 1]),(none,.co 23 100 [.s 22]),(none,.tk 10 23)])
  (.cl ks (.seq
  (.seq
  (.rg 0 [(none,.v 24 .mv [.s 10]),(none,.v 25 .len [.s 24]),(none,.v 26 .mv [.k (.i 0)])])
  (.cl ks (.block 0
  (.loop
  (.seq
  (.rg 0 [(none,.v 27 (.bin .lss) [.s 26,.s 25])])
  (.seq
  (.cond (.s 27)
  .skip
  (.exit 0))
  (.cl ks (.seq
  (.block 1
  (.seq
  (.rg 0 [(none,.v 28 .mv [.s 26]),(none,.tk 11 28)])
  (.cl ks (.seq
  (.rg 0 [(none,.v 29 .mv [.s 3]),(none,.v 30 .mv [.s 11]),(none,.coC 31 [.s 29,.s 30])])
  (.cond (.s 31)
  (.rg 0 [(none,.v 32 .mv [.s 10]),(none,.v 33 .mv [.s 11]),(none,.v 34 .mv [.s 2]),(none,.v 35 .mv [.s 11]),(none,.v 36 .idx [.s 34,.s 35]),(none,.v 37 .ld [.s 36]),(none,.v 38 .idx [.s 32,.s 33]),(none,.st (.s 38) (.s 37))])
  .skip)))))
  (.cl ks (.rg 0 [(none,.v 39 (.bin .add) [.s 26,.k (.i 1)]),(none,.v 26 .mv [.s 39])]))))))))))
  (.cl ks (.seq
  (.rg 0 [(none,.v 40 .mv [.s 10]),(none,.tk 8 40),(none,.v 9 .mv [.k (.b true)])])
  .ret)))))))))
theorem chk_impl_Market_chosen:∃ b,Try.f59.body = some b ∧ chk Try.prog Try.f59.ntmps true C_impl_Market_chosen b = true:=⟨_,rfl,by kernel_rfl⟩
def K_impl_BetterOf:List Nat:=[0,1,2,3,4,5,6,7,1003,2003,1004,1005]
def C_impl_BetterOf : C :=
 let ks:=K_impl_BetterOf
 (.seq
  (.rg 0 [(none,.v 3 .boxS [.s 0]),(none,.box 4 (.s 1)),(none,.box 5 (.s 2)),(none,.mkn 6),(none,.v 7 .mv [.k (.b false)])])
  (.cl ks (.seq
  (.rg 0 [(none,.v 8 (.lds 2) [.s 3]),(none,.v 9 .ld [.s 4]),(none,.v 10 .ld [.s 5]),(none,.v 11 (.clo 60) [.s 3,.s 5,.s 4]),(none,.co 12 59 [.s 8,.s 9,.s 10,.s 11]),(none,.tk 13 100012),(none,.tk 14 101012),(none,.tk 6 13),(none,.tk 7 14)])
  .ret)))
theorem chk_impl_BetterOf:∃ b,Try.f18.body = some b ∧ chk Try.prog Try.f18.ntmps true C_impl_BetterOf b = true:=⟨_,rfl,by kernel_rfl⟩
def K_impl_WorseOf:List Nat:=[0,1,2,3,4,5,6,7,1003,2003,1004,1005]
def C_impl_WorseOf : C :=
 let ks:=K_impl_WorseOf
 (.seq
  (.rg 0 [(none,.v 3 .boxS [.s 0]),(none,.box 4 (.s 1)),(none,.box 5 (.s 2)),(none,.mkn 6),(none,.v 7 .mv [.k (.b false)])])
  (.cl ks (.seq
  (.rg 0 [(none,.v 8 (.lds 2) [.s 3]),(none,.v 9 .ld [.s 4]),(none,.v 10 .ld [.s 5]),(none,.v 11 (.clo 62) [.s 3,.s 4,.s 5]),(none,.co 12 59 [.s 8,.s 9,.s 10,.s 11]),(none,.tk 13 100012),(none,.tk 14 101012),(none,.tk 6 13),(none,.tk 7 14)])
  .ret)))
theorem chk_impl_WorseOf:∃ b,Try.f19.body = some b ∧ chk Try.prog Try.f19.ntmps true C_impl_WorseOf b = true:=⟨_,rfl,by kernel_rfl⟩
def K_impl_IsUniqueStable:List Nat:=[0,1,2,1001,2001]
def C_impl_IsUniqueStable : C :=
 let ks:=K_impl_IsUniqueStable
 (.seq
  (.rg 0 [(none,.v 1 .boxS [.s 0]),(none,.v 2 .mv [.k (.b false)])])
  (.cl ks (.seq
  (.rg 0 [(none,.v 3 (.lds 2) [.s 1]),(none,.co 4 16 [.s 3]),(none,.v 5 .len [.s 4]),(none,.v 6 (.bin .eql) [.s 5,.k (.i 1)]),(none,.tk 2 6)])
  .ret)))
theorem chk_impl_IsUniqueStable:∃ b,Try.f32.body = some b ∧ chk Try.prog Try.f32.ntmps true C_impl_IsUniqueStable b = true:=⟨_,rfl,by kernel_rfl⟩
def choQ (p:Nat → Bool) (j i:Nat):Bool:=decide (i < j) && p i
section
variable {a b:List Int} {p:Nat → Bool} {n:Nat}
theorem cho_ext {p q : Nat → Bool} (h : ∀ i, i < n → p i = q i) : choL p a b n = choL q a b n := by
 unfold choL
 exact List.map_congr_left fun i hi => by rw [h i (List.mem_range.1 hi)]
theorem cho_0 : choL (choQ p 0) a b a.length = a := by
 refine List.ext_getElem (by simp [choL]) fun i h1 h2 => ?_
 simp [choL,choQ,List.getD,h2]
theorem cho_n:choL (choQ p n) a b n = choL p a b n:=cho_ext fun i hi => by simp [choQ,hi]
theorem cho_no {j : Nat} (h : p j = false) : choL (choQ p (j + 1)) a b n = choL (choQ p j) a b n := cho_ext fun i hi => by
 unfold choQ
 by_cases e : i = j
 ·subst e; simp [h]
 ·have:(i < j + 1) ↔ i < j:=by omega
  simp [this]
theorem cho_yes {j : Nat} (h : p j = true) (hj : j < n) : choL (choQ p (j + 1)) a b n = (choL (choQ p j) a b n).set j (b.getD j 0) := by
 refine List.ext_getElem (by simp [choL]) fun i h1 h2 => ?_
 rw [List.getElem_set]
 simp only [choL,List.getElem_map,List.getElem_range,choQ]
 by_cases e : j = i
 ·subst e; simp [h]
 ·have:(i < j + 1) ↔ i < j:=by omega
  rw [if_neg e]; simp [this]
end
theorem impl_BetterOf1_ok {n1 n2 n3 n4 : Option Bool} (x y : List (List Int)) (a b : List Int) (i : Nat) (hi : i < x.length) (ha : a.length = x.length) (hb : b.length = x.length) (hr : (x.getD i []).length ≤ 1048576) :
  CallOk Try.prog 60 [.i i,.q [.s n1 (rr x),.s n2 (rr y)] 0,.q [.s n4 (ii b)] 0,.q [.s n3 (ii a)] 0] [(0,.b (betP x a b i))]:=by
 obtain ⟨code0,hcd1,hcd2⟩:=chk_impl_BetterOf_1; refine callOk_of Try.func60 hcd1 mo Try.call60 (rs:=[5]) (by kernel_rfl) hcd2 (by rw [Try.ntmps60]; simp) (by simp) (by decide) ?_; unfold C_impl_BetterOf_1 K_impl_BetterOf_1; simp (maxSteps:=2000000) only [go_sem,Nat.reduceBEq,Nat.reduceAdd,Nat.reduceMul,Nat.reduceMod,Nat.reduceLT,Nat.reduceDiv,Nat.reduceSub,Nat.reduceLeDiff,Int.reduceToNat,Int.reduceLT,Int.reduceLE,reduceCtorEq]
 refine ⟨by omega,by omega,by omega,by omega,by omega,by omega,by omega,by omega,by omega,?_⟩
 refine ⟨_,impl_Prefers_ok (x.getD i []) (b.getD i 0) (a.getD i 0) hr,?_⟩; simp (maxSteps:=2000000) only [go_sem,Nat.reduceBEq,Nat.reduceAdd,Nat.reduceMul,Nat.reduceMod,Nat.reduceLT,Nat.reduceDiv,Nat.reduceSub,Nat.reduceLeDiff,Int.reduceToNat,Int.reduceLT,Int.reduceLE,reduceCtorEq]
 rfl
theorem impl_WorseOf1_ok {n1 n2 n3 n4 : Option Bool} (x y : List (List Int)) (a b : List Int) (i : Nat) (hi : i < x.length) (ha : a.length = x.length) (hb : b.length = x.length) (hr : (x.getD i []).length ≤ 1048576) :
  CallOk Try.prog 62 [.i i,.q [.s n1 (rr x),.s n2 (rr y)] 0,.q [.s n3 (ii a)] 0,.q [.s n4 (ii b)] 0] [(0,.b (worP x a b i))]:=by
 obtain ⟨code0,hcd1,hcd2⟩:=chk_impl_WorseOf_1; refine callOk_of Try.func62 hcd1 mo Try.call62 (rs:=[5]) (by kernel_rfl) hcd2 (by rw [Try.ntmps62]; simp) (by simp) (by decide) ?_; unfold C_impl_WorseOf_1 K_impl_WorseOf_1; simp (maxSteps:=2000000) only [go_sem,Nat.reduceBEq,Nat.reduceAdd,Nat.reduceMul,Nat.reduceMod,Nat.reduceLT,Nat.reduceDiv,Nat.reduceSub,Nat.reduceLeDiff,Int.reduceToNat,Int.reduceLT,Int.reduceLE,reduceCtorEq]
 refine ⟨by omega,by omega,by omega,by omega,by omega,by omega,by omega,by omega,by omega,?_⟩
 refine ⟨_,impl_Prefers_ok (x.getD i []) (a.getD i 0) (b.getD i 0) hr,?_⟩; simp (maxSteps:=2000000) only [go_sem,Nat.reduceBEq,Nat.reduceAdd,Nat.reduceMul,Nat.reduceMod,Nat.reduceLT,Nat.reduceDiv,Nat.reduceSub,Nat.reduceLeDiff,Int.reduceToNat,Int.reduceLT,Int.reduceLE,reduceCtorEq]
 rfl
theorem chosen_ok {n1 n2 n3 n4 : Option Bool} {f : Nat} {cp : List T} (x y : List (List Int)) (a b : List Int) (p : Nat → Bool) (hc : ∀ i : Nat, i < x.length → CallOk Try.prog f (.i i :: cp) [(0, .b (p i))]) (h3 : n3 ≠ some true) (ha : stabB x y a = true) (hb : stabB x y b = true) (hx : x.length ≤ 1048576) (kx : ∀ r ∈ x, r.length ≤ 1048576) (hy : y.length ≤ 1048576) (ky : ∀ r ∈ y, r.length ≤ 1048576) :
  CallOk Try.prog 59 [.a [.s n1 (rr x),.s n2 (rr y)],.s n3 (ii a),.s n4 (ii b),.c f cp] [(0,.tp 2),(100000,.own 1 none (ii (choL p a b x.length))),(101000,.b true)]:=by
 obtain ⟨code0,hcd1,hcd2⟩:=chk_impl_Market_chosen; refine callOk_of Try.func59 hcd1 mo Try.call59 (rs:=[8,9]) (by kernel_rfl) hcd2 (by rw [Try.ntmps59]; simp) (by simp) (by decide) ?_; unfold C_impl_Market_chosen K_impl_Market_chosen; simp (maxSteps:=2000000) only [go_sem,Nat.reduceBEq,Nat.reduceAdd,Nat.reduceMul,Nat.reduceMod,Nat.reduceLT,Nat.reduceDiv,Nat.reduceSub,Nat.reduceLeDiff,Int.reduceToNat,Int.reduceLT,Int.reduceLE,reduceCtorEq]
 obtain ⟨_,Ra,M⟩:=stab_of ha
 obtain ⟨_,Rb,_⟩:=stab_of hb
 have la:=rank_len Ra
 have lb:=rank_len Rb
 have n1':=M.m.n1
 have n5:=M.m.n5
 have cIs : ∀ z, stabB x y z = true → ∀ n3, CallOk Try.prog 21 [.a [.s n1 (rr x), .s n2 (rr y)], .s n3 (ii z)] [(0, .b true)] := fun z hz n3 => by
  obtain ⟨_,R,_⟩:=stab_of hz
  have:=rank_len R
  have:=impl_IsStable_ok (n1:=n1) (n2:=n2) (n3:=n3) x y z hx kx hy ky (by omega)
  rwa [hz] at this
 refine ⟨_,cIs a ha _,?_⟩; simp (maxSteps:=2000000) only [go_sem,Nat.reduceBEq,Nat.reduceAdd,Nat.reduceMul,Nat.reduceMod,Nat.reduceLT,Nat.reduceDiv,Nat.reduceSub,Nat.reduceLeDiff,Int.reduceToNat,Int.reduceLT,Int.reduceLE,reduceCtorEq]
 refine ⟨_,cIs b hb _,?_⟩; simp (maxSteps:=2000000) only [go_sem,Nat.reduceBEq,Nat.reduceAdd,Nat.reduceMul,Nat.reduceMod,Nat.reduceLT,Nat.reduceDiv,Nat.reduceSub,Nat.reduceLeDiff,Int.reduceToNat,Int.reduceLT,Int.reduceLE,reduceCtorEq]
 refine ⟨_,Clone_ok a (by omega) (by omega) h3,?_⟩; simp (maxSteps:=2000000) only [go_sem,Nat.reduceBEq,Nat.reduceAdd,Nat.reduceMul,Nat.reduceMod,Nat.reduceLT,Nat.reduceDiv,Nat.reduceSub,Nat.reduceLeDiff,Int.reduceToNat,Int.reduceLT,Int.reduceLE,reduceCtorEq]
 have e0:x.length = a.length:=by omega
 rw [e0]
 refine loopN a.length (fun j => [(0,.t .arg (.a [.s n1 (rr x),.s n2 (rr y)])),(1,.t .arg (.s n3 (ii a))),(2,.t .arg (.s n4 (ii b))),(3,.t .arg (.c f cp)),(4,.t .arg (.q [.s n1 (rr x),.s n2 (rr y)] 0)),(8,.own 1 (some true) []),(9,.b false),(10,.own 1 none (ii (choL (choQ p j) a b a.length))),(25,.i a.length),(26,.i (j:Nat))]) (fun _ => True) ⟨trivial,by simp (maxSteps:=2000000) only [go_sem,Nat.reduceBEq,Nat.reduceAdd,Nat.reduceMul,Nat.reduceMod,Nat.reduceLT,Nat.reduceDiv,Nat.reduceSub,Nat.reduceLeDiff,Int.reduceToNat,Int.reduceLT,Int.reduceLE,reduceCtorEq]; simp [cho_0]⟩ fun j hj _ => ?_
 have hcl:=choL_len (p:=choQ p j) (a:=a) (b:=b) (n:=a.length)
 simp (maxSteps:=2000000) only [go_sem,Nat.reduceBEq,Nat.reduceAdd,Nat.reduceMul,Nat.reduceMod,Nat.reduceLT,Nat.reduceDiv,Nat.reduceSub,Nat.reduceLeDiff,Int.reduceToNat,Int.reduceLT,Int.reduceLE,reduceCtorEq]
 refine ⟨fun hlt => ?_, fun hge => ?_⟩
 ·have hj':j < a.length:=by omega
  refine ⟨_,hc j (by omega),?_⟩
  simp (maxSteps:=2000000) only [go_sem,Nat.reduceBEq,Nat.reduceAdd,Nat.reduceMul,Nat.reduceMod,Nat.reduceLT,Nat.reduceDiv,Nat.reduceSub,Nat.reduceLeDiff,Int.reduceToNat,Int.reduceLT,Int.reduceLE,reduceCtorEq]
  exact ⟨fun hp => ⟨by omega,by omega,by omega,by omega,by omega,by omega,inR_of (by omega) (by omega),hj',(cho_yes hp hj').symm,by simp⟩,fun hp => ⟨inR_of (by omega) (by omega),hj',(cho_no hp).symm,by simp⟩⟩
 ·have:j = a.length:=by omega
  subst this
  rw [cho_n]
  exact ⟨by omega,rfl⟩
theorem impl_BetterOf_ok {n1 n2 n3 n4 : Option Bool} (x y : List (List Int)) (a b : List Int) (h3 : n3 ≠ some true) (ha : stabB x y a = true) (hb : stabB x y b = true) (hx : x.length ≤ 1048576) (kx : ∀ r ∈ x, r.length ≤ 1048576) (hy : y.length ≤ 1048576) (ky : ∀ r ∈ y, r.length ≤ 1048576) :
  CallOk Try.prog 18 [.a [.s n1 (rr x),.s n2 (rr y)],.s n3 (ii a),.s n4 (ii b)] [(0,.tp 2),(100000,.own 1 none (ii (betL x a b))),(101000,.b true)]:=by
 obtain ⟨code0,hcd1,hcd2⟩:=chk_impl_BetterOf; refine callOk_of Try.func18 hcd1 mo Try.call18 (rs:=[6,7]) (by kernel_rfl) hcd2 (by rw [Try.ntmps18]; simp) (by simp) (by decide) ?_; unfold C_impl_BetterOf K_impl_BetterOf; simp (maxSteps:=2000000) only [go_sem,Nat.reduceBEq,Nat.reduceAdd,Nat.reduceMul,Nat.reduceMod,Nat.reduceLT,Nat.reduceDiv,Nat.reduceSub,Nat.reduceLeDiff,Int.reduceToNat,Int.reduceLT,Int.reduceLE,reduceCtorEq]
 have la:=rank_len (stab_of ha).2.1
 have lb:=rank_len (stab_of hb).2.1
 refine ⟨_,chosen_ok x y a b (betP x a b) (fun i hi => impl_BetterOf1_ok x y a b i hi (by omega) (by omega) (kx _ (getD_mem hi))) h3 ha hb hx kx hy ky,?_⟩
 simp (maxSteps:=2000000) only [go_sem,Nat.reduceBEq,Nat.reduceAdd,Nat.reduceMul,Nat.reduceMod,Nat.reduceLT,Nat.reduceDiv,Nat.reduceSub,Nat.reduceLeDiff,Int.reduceToNat,Int.reduceLT,Int.reduceLE,reduceCtorEq]
 exact ⟨by omega,rfl⟩
theorem impl_WorseOf_ok {n1 n2 n3 n4 : Option Bool} (x y : List (List Int)) (a b : List Int) (h3 : n3 ≠ some true) (ha : stabB x y a = true) (hb : stabB x y b = true) (hx : x.length ≤ 1048576) (kx : ∀ r ∈ x, r.length ≤ 1048576) (hy : y.length ≤ 1048576) (ky : ∀ r ∈ y, r.length ≤ 1048576) :
  CallOk Try.prog 19 [.a [.s n1 (rr x),.s n2 (rr y)],.s n3 (ii a),.s n4 (ii b)] [(0,.tp 2),(100000,.own 1 none (ii (worL x a b))),(101000,.b true)]:=by
 obtain ⟨code0,hcd1,hcd2⟩:=chk_impl_WorseOf; refine callOk_of Try.func19 hcd1 mo Try.call19 (rs:=[6,7]) (by kernel_rfl) hcd2 (by rw [Try.ntmps19]; simp) (by simp) (by decide) ?_; unfold C_impl_WorseOf K_impl_WorseOf; simp (maxSteps:=2000000) only [go_sem,Nat.reduceBEq,Nat.reduceAdd,Nat.reduceMul,Nat.reduceMod,Nat.reduceLT,Nat.reduceDiv,Nat.reduceSub,Nat.reduceLeDiff,Int.reduceToNat,Int.reduceLT,Int.reduceLE,reduceCtorEq]
 have la:=rank_len (stab_of ha).2.1
 have lb:=rank_len (stab_of hb).2.1
 refine ⟨_,chosen_ok x y a b (worP x a b) (fun i hi => impl_WorseOf1_ok x y a b i hi (by omega) (by omega) (kx _ (getD_mem hi))) h3 ha hb hx kx hy ky,?_⟩
 simp (maxSteps:=2000000) only [go_sem,Nat.reduceBEq,Nat.reduceAdd,Nat.reduceMul,Nat.reduceMod,Nat.reduceLT,Nat.reduceDiv,Nat.reduceSub,Nat.reduceLeDiff,Int.reduceToNat,Int.reduceLT,Int.reduceLE,reduceCtorEq]
 exact ⟨by omega,rfl⟩
theorem impl_IsUniqueStable_ok {n1 n2 : Option Bool} (x y : List (List Int)) (hx : x.length ≤ 1048576) (kx : ∀ r ∈ x, r.length ≤ 1048576) (hy : y.length ≤ 1048576) (ky : ∀ r ∈ y, r.length ≤ 1048576) :
  CallOk Try.prog 32 [.a [.s n1 (rr x),.s n2 (rr y)]] [(0,.b (decide (((stabF x y).length:Int) = 1)))]:=by
 obtain ⟨code0,hcd1,hcd2⟩:=chk_impl_IsUniqueStable; refine callOk_of Try.func32 hcd1 mo Try.call32 (rs:=[2]) (by kernel_rfl) hcd2 (by rw [Try.ntmps32]; simp) (by simp) (by decide) ?_; unfold C_impl_IsUniqueStable K_impl_IsUniqueStable; simp (maxSteps:=2000000) only [go_sem,Nat.reduceBEq,Nat.reduceAdd,Nat.reduceMul,Nat.reduceMod,Nat.reduceLT,Nat.reduceDiv,Nat.reduceSub,Nat.reduceLeDiff,Int.reduceToNat,Int.reduceLT,Int.reduceLE,reduceCtorEq]
 refine ⟨_,impl_StableMatchings_ok x y hx kx hy ky,?_⟩; simp (maxSteps:=2000000) only [go_sem,Nat.reduceBEq,Nat.reduceAdd,Nat.reduceMul,Nat.reduceMod,Nat.reduceLT,Nat.reduceDiv,Nat.reduceSub,Nat.reduceLeDiff,Int.reduceToNat,Int.reduceLT,Int.reduceLE,reduceCtorEq]
end Go.Proofs.Ytllcbempbdibhaa
