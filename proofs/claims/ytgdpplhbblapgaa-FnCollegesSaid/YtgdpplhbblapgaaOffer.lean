/- Own work: contracts of functions. No condition beyond those that each theorem names. -/
import Derived.Test.YtgdpplhbblapgaaProg
import Derived.Test.YtgdpplhbblapgaaCollege
import Derived.Test.YtgdpplhbblapgaaIdx
import Derived.Test.YtgdpplhbblapgaaRepeat
namespace Go.Proofs.Ytgdpplhbblapgaa
open Go Go.Vc
set_option maxRecDepth 100000
set_option linter.unusedSimpArgs false
set_option linter.unusedVariables false
def K_impl_Offer_1:List Nat:=[0,1,2,3,5]
def C_impl_Offer_1 : C :=
 let ks:=K_impl_Offer_1
 (.seq
  (.rg 0 [(none,.v 5 .mv [.k (.b false)])])
  (.cl ks (.seq
  (.rg 19 [(none,.v 6 (.lds 3) [.s 1]),(none,.v 7 .ld [.s 2]),(none,.v 8 (.call 91) [.s 6,.s 7]),(none,.v 9 .mv [.s 0]),(none,.v 10 .idx [.s 8,.s 9]),(none,.v 11 .ld [.s 10]),(none,.v 12 (.fa 2) [.s 1]),(none,.v 13 .ld [.s 12]),(none,.v 14 .mv [.s 0]),(none,.v 15 .idx [.s 13,.s 14]),(none,.v 16 .ld [.s 15]),(none,.v 17 (.bin .lss) [.s 11,.s 16]),(none,.v 18 .mv [.s 17]),(some (18,true),.v 19 .ld [.s 3]),(some (18,true),.v 20 .mv [.s 0]),(some (18,true),.v 21 .idx [.s 19,.s 20]),(some (18,true),.v 22 .ld [.s 21]),(some (18,true),.v 23 .ld [.s 2]),(some (18,true),.v 24 .len [.s 23]),(some (18,true),.v 25 (.bin .lss) [.s 22,.s 24]),(none,.v 26 .pick [.s 18,.s 25,.k (.b false)]),(none,.tk 5 26)])
  .ret)))
theorem chk_impl_Offer_1:∃ b,Try.f90.body = some b ∧ chk Try.prog Try.f90.ntmps true C_impl_Offer_1 b = true:=⟨_,rfl,by kernel_rfl⟩
def K_impl_Offer:List Nat:=[0,1,2,3,4,5,6,1001,2001,3001,1003,1004]
def C_impl_Offer : C :=
 let ks:=K_impl_Offer
 (.seq
  (.rg 0 [(none,.v 1 .boxS [.s 0]),(none,.mkn 2)])
  (.cl ks (.seq
  (.seq
  (.rg 0 [(none,.v 7 (.lds 3) [.s 1]),(none,.co 8 86 [.s 7]),(none,.v 9 .not [.s 8])])
  (.cond (.s 9)
  (.seq
  (.rg 0 [(none,.mkn 2)])
  .ret)
  .skip))
  (.cl ks (.seq
  (.rgC 11 [5,6,7,8] [(none,.v 10 .litF [.k (.i (-1))]),(none,.v 11 (.fa 0) [.s 1]),(none,.v 12 .ld [.s 11]),(none,.v 13 .len [.s 12]),(none,.v 14 (.callO 87 514999) [.s 10,.s 13]),(none,.v 15 (.fa 1) [.s 1]),(none,.v 16 .ld [.s 15]),(none,.v 17 .len [.s 16]),(none,.v 18 (.mkO 518999 (.i 0)) [.s 17,.s 17]),(none,.v 3 (.newO 503999 0) []),(none,.v 4 (.newO 504999 0) [])] [(none,.tkr 3),(none,.tkr 14),(none,.st (.s 3) (.s 14))] [(none,.tkr 4),(none,.tkr 18),(none,.st (.s 4) (.s 18))])
  (.cl ks (.block 0
  (.loop
  (.block 1
  (.seq
  (.rg 0 [(none,.v 19 .ld [.s 4]),(none,.v 20 .len [.s 19]),(none,.co 21 89 [.s 20]),(none,.v 22 (.clo 90) [.s 1,.s 3,.s 4]),(none,.co 23 88 [.s 21,.s 22]),(none,.tk 5 23)])
  (.cl ks (.seq
  (.seq
  (.rg 0 [(none,.v 24 .mv [.s 5]),(none,.v 25 (.bin .lss) [.s 24,.k (.i 0)])])
  (.cond (.s 25)
  (.seq
  (.rg 0 [(none,.v 26 .ld [.s 3]),(none,.tk 2 26)])
  .ret)
  .skip))
  (.cl ks (.seq
  (.rg 9 [(none,.v 27 (.fa 1) [.s 1]),(none,.v 28 .ld [.s 27]),(none,.v 29 .mv [.s 5]),(none,.v 30 .idx [.s 28,.s 29]),(none,.v 31 .ld [.s 30]),(none,.v 32 .ld [.s 4]),(none,.v 33 .mv [.s 5]),(none,.v 34 .idx [.s 32,.s 33]),(none,.v 35 .ld [.s 34]),(none,.v 36 .idx [.s 31,.s 35]),(none,.v 37 .ld [.s 36]),(none,.tk 6 37)])
  (.cl ks (.seq
  (.rg 0 [(none,.v 38 .ld [.s 4]),(none,.v 39 .mv [.s 5]),(none,.v 40 .idx [.s 38,.s 39]),(none,.v 41 .ld [.s 40]),(none,.v 42 (.bin .add) [.s 41,.k (.i 1)]),(none,.v 43 .idx [.s 38,.s 39]),(none,.st (.s 43) (.s 42))])
  (.cl ks (.seq
  (.rg 16 [(none,.v 44 .ld [.s 3]),(none,.v 45 .mv [.s 6]),(none,.v 46 .idx [.s 44,.s 45]),(none,.v 47 .ld [.s 46]),(none,.v 48 (.bin .lss) [.s 47,.k (.i 0)]),(none,.v 49 .mv [.s 48]),(some (49,false),.v 50 (.fa 0) [.s 1]),(some (49,false),.v 51 .ld [.s 50]),(some (49,false),.v 52 .mv [.s 6]),(some (49,false),.v 53 .idx [.s 51,.s 52]),(some (49,false),.v 54 .ld [.s 53]),(some (49,false),.v 55 .mv [.s 5]),(some (49,false),.v 56 .ld [.s 3]),(some (49,false),.v 57 .mv [.s 6]),(some (49,false),.v 58 .idx [.s 56,.s 57]),(some (49,false),.v 59 .ld [.s 58]),(some (49,false),.co 60 39 [.s 54,.s 55,.s 59]),(none,.v 61 .pick [.s 49,.k (.b true),.s 60])])
  (.cond (.s 61)
  (.rg 0 [(none,.v 62 .ld [.s 3]),(none,.v 63 .mv [.s 6]),(none,.v 64 .mv [.s 5]),(none,.v 65 .idx [.s 62,.s 63]),(none,.st (.s 65) (.s 64))])
  .skip)))))))))))))))))))
theorem chk_impl_Offer:∃ b,Try.f15.body = some b ∧ chk Try.prog Try.f15.ntmps true C_impl_Offer b = true:=⟨_,rfl,by kernel_rfl⟩
theorem filN_cnt {c : Nat} {l : List Int} (hb : ∀ i, i < l.length → l.getD i 0 < c) {q : Nat} (hq : q < c) : ∀ {k : Nat}, k ≤ l.length → (filN c l k).getD q 0 = ((l.take k).count (q : Int) : Nat)
 | 0,_ => by simp [filN,List.getD,hq]
 | k + 1, hk => by
  have ih:=filN_cnt hb hq (k:=k) (by omega)
  have hl:=filN_len (c:=c) (l:=l) (k:=k)
  have hbk:=hb k (by omega)
  rw [take_getD 0 (show k < l.length by omega),List.count_append]
  simp only [filN]
  by_cases h : 0 ≤ l.getD k 0
  ·rw [if_pos h]
   by_cases e : (l.getD k 0).toNat = q
   ·have e2:l.getD k 0 = (q:Int):=by omega
    rw [List.getD,e,List.getElem?_set_self (by omega)]
    simp only [Option.getD_some]
    rw [ih,e2]; simp
   ·have e2:l.getD k 0 ≠ (q:Int):=by omega
    rw [List.getD,List.getElem?_set_ne e]
    have:[l.getD k 0].count (q:Int) = 0:=List.count_eq_zero.2 (by simp only [List.mem_singleton]; exact fun h => e2 h.symm)
    rw [this]; simpa using ih
  ·rw [if_neg h]
   have e2:l.getD k 0 ≠ (q:Int):=by omega
   have:[l.getD k 0].count (q:Int) = 0:=List.count_eq_zero.2 (by simp only [List.mem_singleton]; exact fun h => e2 h.symm)
   rw [this]; simpa using ih
theorem filF_cnt {c : Nat} {l : List Int} (hb : ∀ i, i < l.length → l.getD i 0 < c) {q : Nat} (hq : q < c) : (filF c l).getD q 0 = (l.count (q : Int) : Nat) := by
 have:=filN_cnt hb hq (k:=l.length) (Nat.le_refl _)
 rwa [List.take_length] at this
theorem cnt_set {l : List Int} {i : Nat} {v q : Int} (hi : i < l.length) : (l.set i v).count q + (if l.getD i 0 = q then 1 else 0) = l.count q + (if v = q then 1 else 0) := by
 have e:l.getD i 0 = l[i]:=by simp [List.getD,hi]
 rw [List.count_set hi,e]
 have : l[i] = q → 1 ≤ l.count q := fun h => by
  rw [← h]; exact List.count_pos_iff.2 (List.getElem_mem hi)
 by_cases h1:l[i] = q <;> by_cases h2:v = q <;> simp [h1,h2]
 all_goals (try have:=this h1)
 all_goals omega
theorem upto_getD {n j:Nat} (h:j < n):(upto n).getD j 0 = j:=by simp [upto,List.getD,h]
theorem idx_upto {p : Int → Bool} {n : Nat} : (idxP p (upto n) < 0 ∧ ∀ i, i < n → p (i : Nat) = false) ∨ ∃ j, j < n ∧ idxP p (upto n) = (j : Nat) ∧ p (j : Nat) = true ∧ ∀ i, i < j → p (i : Nat) = false := by
 rcases idxP_cases 0 p (upto n) with ⟨j, h1, h2, h3, h4⟩ | ⟨h1, h2⟩
 ·rw [upto_len] at h1
  rw [upto_getD h1] at h2
  exact .inr ⟨j,h1,h4,h2,fun i hi => by have:=h3 i hi; rwa [upto_getD (by omega)] at this⟩
 ·exact .inl ⟨by rw [h2]; omega,fun i hi => h1 _ (mem_upto.2 ⟨by omega,by omega⟩)⟩
theorem sum_inc : ∀ {xs : List Int} {i : Nat}, i < xs.length → (xs.set i (xs.getD i 0 + 1)).sum = xs.sum + 1
 | [],i,h => by simp at h
 | v :: xs,0,_ => by simp <;> omega
 | v :: xs, i + 1, h => by
  have:=sum_inc (xs:=xs) (i:=i) (by simpa using h)
  simp only [List.set_cons_succ,List.sum_cons,List.getD_cons_succ]; rw [this]; omega
theorem sum_leN {B : Int} : ∀ {xs : List Int}, (∀ v ∈ xs, v ≤ B) → xs.sum ≤ xs.length * B
 | [],_ => by simp
 | v :: xs, h => by
  have h1:=h v (by simp)
  have h2:=sum_leN (xs:=xs) fun w hw => h w (by simp [hw])
  simp only [List.sum_cons,List.length_cons]
  have:((xs.length + 1:Nat):Int) * B = xs.length * B + B:=by grind
  omega
structure OS where
 l:List Int
 a:List Int
def offP (c n:Nat) (z:List Int) (s:OS) (k:Int):Bool:=decide ((filF c s.l).getD k.toNat 0 < z.getD k.toNat 0) && decide (s.a.getD k.toNat 0 < n)
def offN (c n:Nat) (z:List Int) (s:OS):Int:=idxP (offP c n z s) (upto c)
def offI (y:List (List Int)) (s:OS) (k:Nat):Int:=(y.getD k []).getD (s.a.getD k 0).toNat 0
def offB (x y:List (List Int)) (s:OS) (k:Nat):Bool:=decide (s.l.getD (offI y s k).toNat 0 < 0) || prefB (x.getD (offI y s k).toNat []) k (s.l.getD (offI y s k).toNat 0)
def OS.nx (x y:List (List Int)) (s:OS) (k:Nat):OS:=⟨if offB x y s k = true then s.l.set (offI y s k).toNat k else s.l,s.a.set k (s.a.getD k 0 + 1)⟩
def offK (x y : List (List Int)) (z : List Int) : Nat → OS
 | 0 => ⟨List.replicate x.length (-1),List.replicate y.length 0⟩
 | j + 1 => if offN y.length x.length z (offK x y z j) < 0 then offK x y z j else (offK x y z j).nx x y (offN y.length x.length z (offK x y z j)).toNat
def offF (x y:List (List Int)) (z:List Int):List Int:=if schoolB x y z = true then (offK x y z (y.length * x.length)).l else []
structure OJ (z : List Int) (n c : Nat) (s : OS) : Prop where
 ll:s.l.length = n
 la:s.a.length = c
 bl:∀ i,i < n → -1 ≤ s.l.getD i 0 ∧ s.l.getD i 0 < c
 ba:∀ k,k < c → 0 ≤ s.a.getD k 0 ∧ s.a.getD k 0 ≤ n
 fz:∀ k,k < c → (filF c s.l).getD k 0 ≤ z.getD k 0
section
variable {x y:List (List Int)} {z:List Int} {n c:Nat} {s:OS}
theorem oj0 (S : Sc x y z n c) : OJ z n c ⟨List.replicate n (-1), List.replicate c 0⟩ := by
 have g:∀ (v:Int) (m i:Nat),i < m → (List.replicate m v).getD i 0 = v:=fun v m i h => by simp [List.getD,h]
 refine ⟨by simp, by simp, fun i hi => ?_, fun k hk => ?_, fun k hk => ?_⟩
 ·simp only; rw [g _ _ _ hi]; have:=S.c1; omega
 ·simp only; rw [g _ _ _ hk]; omega
 ·simp only
  rw [filF_cnt (fun i hi => by rw [List.length_replicate] at hi; rw [g _ _ _ hi]; have:=S.c1; omega) hk]
  have : (List.replicate n (-1 : Int)).count (k : Int) = 0 := by
   rw [List.count_replicate]; simp
  rw [this]; exact (S.bz k hk).1
theorem OJ.i (J : OJ z n c s) (S : Sc x y z n c) {k : Nat} (hk : k < c) (h : s.a.getD k 0 < n) : 0 ≤ offI y s k ∧ offI y s k < n := by
 have hr:=S.ry k hk
 have:=rank_len hr
 have:=J.ba k hk
 exact rank_bd hr (by omega)
theorem OJ.step (J : OJ z n c s) (S : Sc x y z n c) {k : Nat} (hk : k < c) (hp : offP c n z s k = true) : OJ z n c (s.nx x y k) ∧ (s.nx x y k).a.sum = s.a.sum + 1 := by
 simp only [offP,Bool.and_eq_true,decide_eq_true_eq,Int.toNat_natCast] at hp
 obtain ⟨h1,h2⟩:=hp
 have hi:=J.i S hk h2
 have hil:(offI y s k).toNat < s.l.length:=by rw [J.ll]; omega
 refine ⟨⟨?_, by simp [OS.nx, J.la], fun i hi' => ?_, fun q hq => ?_, fun q hq => ?_⟩, ?_⟩
 ·simp only [OS.nx]; split
  ·simp [J.ll]
  ·exact J.ll
 ·simp only [OS.nx]
  split
  ·rcases set_or (xs := s.l) (i := (offI y s k).toNat) (q := i) (v := (k : Int)) with e | e <;> rw [e]
   ·omega
   ·exact J.bl i hi'
  ·exact J.bl i hi'
 ·simp only [OS.nx]
  have hb:=J.ba k hk
  rcases set_or (xs := s.a) (i := k) (q := q) (v := s.a.getD k 0 + 1) with e | e <;> rw [e]
  ·omega
  ·exact J.ba q hq
 ·simp only [OS.nx]
  split
  ·have hb' : ∀ i, i < (s.l.set (offI y s k).toNat k).length → (s.l.set (offI y s k).toNat k).getD i 0 < c := fun i hi' => by
    rcases set_or (xs := s.l) (i := (offI y s k).toNat) (q := i) (v := (k : Int)) with e | e <;> rw [e]
    ·omega
    ·exact (J.bl i (by rw [List.length_set,J.ll] at hi'; exact hi')).2
   have hb:∀ i,i < s.l.length → s.l.getD i 0 < c:=fun i hi' => (J.bl i (by rw [← J.ll]; exact hi')).2
   rw [filF_cnt hb' hq]
   have h3:=cnt_set (l:=s.l) (i:=(offI y s k).toNat) (v:=(k:Int)) (q:=(q:Int)) hil
   have h4:=J.fz q hq
   rw [filF_cnt hb hq] at h4
   rw [filF_cnt hb hk] at h1
   by_cases e : k = q
   ·subst e
    have:=J.fz k hk
    split at h3 <;> simp at h3 <;> omega
   ·have:¬ (k:Int) = q:=by omega
    rw [if_neg this] at h3
    split at h3 <;> omega
  ·exact J.fz q hq
 ·exact sum_inc (by rw [J.la]; exact hk)
theorem OJ.sum (J : OJ z n c s) : s.a.sum ≤ ((c * n : Nat) : Int) := by
 have := sum_leN (B := n) (xs := s.a) fun v hv => by
  obtain ⟨k,hk,rfl⟩:=mem_getD 0 hv
  exact (J.ba k (by rw [← J.la]; exact hk)).2
 rw [J.la] at this
 rw [Int.natCast_mul]; exact this
end
section
variable {x y:List (List Int)} {z:List Int}
theorem off_on {j:Nat} (h:¬ offN y.length x.length z (offK x y z j) < 0):offK x y z (j + 1) = (offK x y z j).nx x y (offN y.length x.length z (offK x y z j)).toNat:=if_neg h
theorem off_stay {j : Nat} (h : offN y.length x.length z (offK x y z j) < 0) : ∀ {m : Nat}, j ≤ m → offK x y z m = offK x y z j
 | 0,hm => by rw [show j = 0 by omega]
 | m + 1, hm => by
  by_cases e : j = m + 1
  ·rw [e]
  ·have ih:=off_stay h (m:=m) (by omega)
   have : offK x y z (m + 1) = offK x y z m := by
    simp only [offK]; rw [if_pos (by rw [ih]; exact h)]
   rw [this,ih]
end
theorem impl_Offer1_ok {n1 n2 n3 n4 n5 : Option Bool} (x y : List (List Int)) (z l a : List Int) (k : Nat) (S : Sc x y z x.length y.length) (hk : k < y.length) (ll : l.length = x.length) (la : a.length = y.length) (hb : ∀ i, i < l.length → l.getD i 0 < y.length) :
  CallOk Try.prog 90 [.i k,.q [.s n1 (rr x),.s n2 (rr y),.s n3 (ii z)] 0,.q [.s n4 (ii l)] 0,.q [.s n5 (ii a)] 0] [(0,.b (offP y.length x.length z ⟨l,a⟩ k))]:=by
 obtain ⟨code0,hcd1,hcd2⟩:=chk_impl_Offer_1; refine callOk_of Try.func90 hcd1 mo Try.call90 (rs:=[5]) (by kernel_rfl) hcd2 (by rw [Try.ntmps90]; simp) (by simp) (by decide) ?_; unfold C_impl_Offer_1 K_impl_Offer_1; simp (maxSteps:=2000000) only [go_sem,Nat.reduceBEq,Nat.reduceAdd,Nat.reduceMul,Nat.reduceMod,Nat.reduceLT,Nat.reduceDiv,Nat.reduceSub,Nat.reduceLeDiff,Int.reduceToNat,Int.reduceLT,Int.reduceLE,reduceCtorEq]
 have h5:=S.n5
 have h3:=S.c3
 have hz:=S.lz
 refine ⟨_,impl_School_filled_ok x y z l (by omega) (by omega) hb,?_⟩; simp (maxSteps:=2000000) only [go_sem,Nat.reduceBEq,Nat.reduceAdd,Nat.reduceMul,Nat.reduceMod,Nat.reduceLT,Nat.reduceDiv,Nat.reduceSub,Nat.reduceLeDiff,Int.reduceToNat,Int.reduceLT,Int.reduceLE,reduceCtorEq]
 have hfl:=filN_len (c:=y.length) (l:=l) (k:=l.length)
 rw [hfl]
 have eo:offP y.length x.length z ⟨l,a⟩ (k:Nat) = (decide ((filN y.length l l.length).getD k 0 < z.getD k 0) && decide (a.getD k 0 < x.length)):=rfl
 refine ⟨by omega, hk, hk, by omega, by omega, by omega, fun h => ⟨by omega, by omega, by omega, ?_⟩, fun h => ?_⟩
 ·rw [eo,decide_eq_true h,Bool.true_and,ll]
 ·rw [eo,decide_eq_false h,Bool.false_and]
theorem cutG {G H:Prop} (f:G → H) (g:G):H:=f g
theorem impl_Offer_ok {n1 n2 n3 : Option Bool} (x y : List (List Int)) (z : List Int) (hx : x.length ≤ 1048576) (kx : ∀ r ∈ x, r.length ≤ 1048576) (hy : y.length ≤ 1048576) (ky : ∀ r ∈ y, r.length ≤ 1048576) (hz : z.length ≤ 1048576) :
  CallOk Try.prog 15 [.a [.s n1 (rr x),.s n2 (rr y),.s n3 (ii z)]] [(0,.own 1 none (ii (offF x y z)))]:=by
 obtain ⟨code0,hcd1,hcd2⟩:=chk_impl_Offer; refine callOk_of Try.func15 hcd1 mo Try.call15 (rs:=[2]) (by kernel_rfl) hcd2 (by rw [Try.ntmps15]; simp) (by simp) (by decide) ?_; unfold C_impl_Offer K_impl_Offer; simp (maxSteps:=2000000) only [go_sem,Nat.reduceBEq,Nat.reduceAdd,Nat.reduceMul,Nat.reduceMod,Nat.reduceLT,Nat.reduceDiv,Nat.reduceSub,Nat.reduceLeDiff,Int.reduceToNat,Int.reduceLT,Int.reduceLE,reduceCtorEq]
 refine ⟨_,impl_SchoolOk_ok x y z hx kx hy ky hz,?_⟩; simp (maxSteps:=2000000) only [go_sem,Nat.reduceBEq,Nat.reduceAdd,Nat.reduceMul,Nat.reduceMod,Nat.reduceLT,Nat.reduceDiv,Nat.reduceSub,Nat.reduceLeDiff,Int.reduceToNat,Int.reduceLT,Int.reduceLE,reduceCtorEq]
 refine ⟨fun h0 => by simp [offF,h0],fun h0 => ?_⟩
 have S:=sc_of h0
 have h5:=S.n5
 have h3:=S.c3
 have c1:=S.c1
 have n1':=S.n1
 have hcr:=Repeat_ok (nl:=some false) (-1) x.length (by omega) (by omega)
 refine ⟨_,hcr,?_⟩; simp (maxSteps:=2000000) only [go_sem,Nat.reduceBEq,Nat.reduceAdd,Nat.reduceMul,Nat.reduceMod,Nat.reduceLT,Nat.reduceDiv,Nat.reduceSub,Nat.reduceLeDiff,Int.reduceToNat,Int.reduceLT,Int.reduceLE,reduceCtorEq]
 simp (maxSteps:=2000000) only [go_sem,Nat.reduceBEq,Nat.reduceAdd,Nat.reduceMul,Nat.reduceMod,Nat.reduceLT,Nat.reduceDiv,Nat.reduceSub,Nat.reduceLeDiff,Int.reduceToNat,Int.reduceLT,Int.reduceLE,reduceCtorEq,List.length_replicate]
 have hy0:(0:Int) ≤ y.length:=by omega
 have hy1:(y.length:Int) ≤ 1099511627776:=by omega
 apply cutG
 intro hG
 ·exact ⟨hy0,hy1,⟨hy0,hy1,hG⟩,⟨hy0,hy1,hG⟩,⟨hy0,hy1,hG⟩,⟨hy0,hy1,hG⟩,hG⟩
 refine loopN (y.length * x.length) (fun j => [(0,.t .arg (.a [.s n1 (rr x),.s n2 (rr y),.s n3 (ii z)])),(1,.t .arg (.q [.s n1 (rr x),.s n2 (rr y),.s n3 (ii z)] 0)),(3,.bx 1),(4,.bx 1),(1003,.own 1 none (ii (offK x y z j).l)),(1004,.own 1 none (ii (offK x y z j).a))]) (fun j => OJ z x.length y.length (offK x y z j) ∧ (offK x y z j).a.sum = j) ⟨⟨oj0 S,by simp [offK]⟩,by simp (maxSteps:=2000000) only [go_sem,Nat.reduceBEq,Nat.reduceAdd,Nat.reduceMul,Nat.reduceMod,Nat.reduceLT,Nat.reduceDiv,Nat.reduceSub,Nat.reduceLeDiff,Int.reduceToNat,Int.reduceLT,Int.reduceLE,reduceCtorEq]; simp [offK]⟩ fun j hj hI => ?_
 obtain ⟨J,hs⟩:=hI
 have hll:=J.ll
 have hla:=J.la
 have hbl:∀ i,i < (offK x y z j).l.length → (offK x y z j).l.getD i 0 < y.length:=fun i hi => (J.bl i (by omega)).2
 simp (maxSteps:=2000000) only [go_sem,Nat.reduceBEq,Nat.reduceAdd,Nat.reduceMul,Nat.reduceMod,Nat.reduceLT,Nat.reduceDiv,Nat.reduceSub,Nat.reduceLeDiff,Int.reduceToNat,Int.reduceLT,Int.reduceLE,reduceCtorEq]
 refine ⟨_,indices_ok (offK x y z j).a.length (by omega) (by omega),?_⟩; simp (maxSteps:=2000000) only [go_sem,Nat.reduceBEq,Nat.reduceAdd,Nat.reduceMul,Nat.reduceMod,Nat.reduceLT,Nat.reduceDiv,Nat.reduceSub,Nat.reduceLeDiff,Int.reduceToNat,Int.reduceLT,Int.reduceLE,reduceCtorEq]
 rw [hla]
 refine ⟨_, IndexFuncI (offP y.length x.length z (offK x y z j)) (fun v hv => ?_) (by rw [upto_len]; omega), ?_⟩
 ·obtain ⟨v0,v1⟩:=mem_upto.1 hv
  obtain ⟨k,rfl⟩:∃ k:Nat,v = k:=⟨v.toNat,by omega⟩
  exact impl_Offer1_ok x y z (offK x y z j).l (offK x y z j).a k S (by omega) hll hla hbl
 have hon:=off_on (x:=x) (y:=y) (z:=z) (j:=j)
 have hst:=off_stay (x:=x) (y:=y) (z:=z) (j:=j)
 have hof:idxP (offP y.length x.length z (offK x y z j)) (upto y.length) = offN y.length x.length z (offK x y z j):=rfl
 have hid:=idx_upto (p:=offP y.length x.length z (offK x y z j)) (n:=y.length)
 simp (maxSteps:=2000000) only [go_sem,Nat.reduceBEq,Nat.reduceAdd,Nat.reduceMul,Nat.reduceMod,Nat.reduceLT,Nat.reduceDiv,Nat.reduceSub,Nat.reduceLeDiff,Int.reduceToNat,Int.reduceLT,Int.reduceLE,reduceCtorEq,hof]
 rw [hof] at hid
 refine ⟨fun hlt => ?_, fun hge => ?_⟩
 ·unfold offF
  rw [if_pos h0,hst hlt hj]
 ·obtain ⟨k,hk,ek,hp,_⟩:=hid.resolve_left (fun h => hge h.1)
  have hon:=hon hge
  obtain ⟨J',hs'⟩:=J.step (x:=x) (y:=y) S hk hp
  have hsum:=J'.sum
  rw [ek,Int.toNat_natCast] at hon
  rw [ek]
  simp only [Int.toNat_natCast]
  rw [← hon] at J' hs' hsum
  have hp':=hp
  simp only [offP,Bool.and_eq_true,decide_eq_true_eq,Int.toNat_natCast] at hp'
  have hi:=J.i (y:=y) S hk hp'.2
  have hak:=J.ba k hk
  have hr:=rank_len (S.ry k hk)
  have ei:(y.getD k []).getD ((offK x y z j).a.getD k 0).toNat 0 = offI y (offK x y z j) k:=rfl
  simp only [ei]
  have hrx:=rank_len (S.rx (offI y (offK x y z j) k).toNat (by omega))
  have hlen:∀ v:Int,((offK x y z j).a.set k v).length = y.length:=fun v => by rw [List.length_set]; exact hla
  generalize hii:offI y (offK x y z j) k = i at hi hrx ⊢
  refine ⟨by omega,hk,hk,by omega,by omega,by omega,by omega,by omega,by omega,by omega,by omega,by omega,inR_of (by omega) (by omega),by omega,by omega,by omega,by omega,by omega,by omega,?_⟩
  have hnx:offK x y z (j + 1) = ⟨if offB x y (offK x y z j) k = true then (offK x y z j).l.set i.toNat k else (offK x y z j).l,(offK x y z j).a.set k ((offK x y z j).a.getD k 0 + 1)⟩:=by rw [hon,OS.nx,hii]
  have hob:offB x y (offK x y z j) k = (decide ((offK x y z j).l.getD i.toNat 0 < 0) || prefB (x.getD i.toNat []) k ((offK x y z j).l.getD i.toNat 0)):=by rw [offB,hii]
  refine ⟨fun hneg => ?_, fun hneg => ?_⟩
  ·refine ⟨by omega,by omega,by omega,by omega,by omega,by omega,?_⟩
   refine ⟨_,impl_Prefers_ok (x.getD i.toNat []) k ((offK x y z j).l.getD i.toNat 0) (by omega),?_⟩; simp (maxSteps:=2000000) only [go_sem,Nat.reduceBEq,Nat.reduceAdd,Nat.reduceMul,Nat.reduceMod,Nat.reduceLT,Nat.reduceDiv,Nat.reduceSub,Nat.reduceLeDiff,Int.reduceToNat,Int.reduceLT,Int.reduceLE,reduceCtorEq]
   have hd:decide ((offK x y z j).l.getD i.toNat 0 < 0) = false:=decide_eq_false hneg
   refine ⟨fun h1 => ?_, fun h1 => ?_⟩
   ·rw [hob,hd,h1] at hnx
    exact ⟨by omega,by omega,by omega,by omega,⟨J',by omega⟩,by rw [hnx]; rfl,by rw [hnx]⟩
   ·rw [hob,hd,h1] at hnx
    exact ⟨by omega,⟨J',by omega⟩,by rw [hnx]; rfl,by rw [hnx]⟩
  ·rw [hob,decide_eq_true hneg] at hnx
   exact ⟨by omega,by omega,by omega,by omega,⟨J',by omega⟩,by rw [hnx]; rfl,by rw [hnx]⟩
theorem off_go {x y : List (List Int)} {z : List Int} {j k : Nat} (S : Sc x y z x.length y.length) (J : OJ z x.length y.length (offK x y z j)) (hs : (offK x y z j).a.sum = j) (hk : k < y.length) (hp : offP y.length x.length z (offK x y z j) (k : Nat) = true) (hb : ∀ q, q < k → offP y.length x.length z (offK x y z j) (q : Nat) = false) :
  OJ z x.length y.length (offK x y z (j + 1)) ∧ (offK x y z (j + 1)).a.sum = ((j + 1 : Nat) : Int) ∧ j < y.length * x.length ∧ 0 ≤ offI y (offK x y z j) k ∧ offI y (offK x y z j) k < x.length ∧ 0 ≤ (offK x y z j).a.getD k 0 ∧ (offK x y z j).a.getD k 0 < x.length ∧
   offK x y z (j + 1) = (offK x y z j).nx x y k:=by
 have ek : offN y.length x.length z (offK x y z j) = k := by
  rcases idx_upto (p := offP y.length x.length z (offK x y z j)) (n := y.length) with h | ⟨q, h1, h2, h3, h4⟩
  ·rw [h.2 k hk] at hp; cases hp
  ·have : q = k := by
    rcases Nat.lt_trichotomy q k with h | h | h
    ·rw [hb q h] at h3; cases h3
    ·exact h
    ·rw [h4 k h] at hp; cases hp
   rw [← this]; exact h2
 have hon:=off_on (x:=x) (y:=y) (z:=z) (j:=j) (by rw [ek]; omega)
 rw [ek,Int.toNat_natCast] at hon
 obtain ⟨J',hs'⟩:=J.step (x:=x) (y:=y) S hk hp
 have hsum:=J'.sum
 rw [← hon] at J' hs' hsum
 have hp':=hp
 simp only [offP,Bool.and_eq_true,decide_eq_true_eq,Int.toNat_natCast] at hp'
 have hi:=J.i (y:=y) S hk hp'.2
 have hak:=J.ba k hk
 exact ⟨J',by omega,by omega,hi.1,hi.2,hak.1,hp'.2,hon⟩
end Go.Proofs.Ytgdpplhbblapgaa
