/- Own work: contracts of functions. No condition beyond those that each theorem names. -/
import Derived.Test.YtgdpplhbblapgaaProg
import Derived.Test.YtgdpplhbblapgaaRepeat
import Derived.Test.YtgdpplhbblapgaaRanks
import Derived.Test.YtgdpplhbblapgaaV6
namespace Go.Proofs.Ytgdpplhbblapgaa
open Go Go.Vc
set_option maxRecDepth 100000
set_option linter.unusedSimpArgs false
set_option linter.unusedVariables false
def sn (low : Int) (b : Nat) : Nat → Nat → List Int
 | 0,_ => []
 | k + 1,j => sn low b k (j / b) ++ [low + (j % b:Nat)]
section
variable {low:Int} {b:Nat}
theorem sn_len : ∀ {k j : Nat}, (sn low b k j).length = k
 | 0,_ => rfl
 | k + 1,j => by simp only [sn,List.length_append,List.length_singleton]; rw [sn_len]
theorem sn_z (hb : 0 < b) : ∀ {k : Nat}, sn low b k 0 = List.replicate k low
 | 0 => rfl
 | k + 1 => by simp only [sn,Nat.zero_div,Nat.zero_mod]; rw [sn_z hb,List.replicate_succ']; simp
theorem sn_pad (hb : 0 < b) {k j : Nat} : ∀ {q : Nat}, sn low b (k + q) (j * b ^ q) = sn low b k j ++ List.replicate q low
 | 0 => by simp
 | q + 1 => by
  have e1:j * b ^ (q + 1) = (j * b ^ q) * b:=by rw [Nat.pow_succ,Nat.mul_assoc]
  show sn low b (k + q + 1) _ = _
  simp only [sn]
  rw [e1,Nat.mul_div_cancel _ hb,Nat.mul_mod_left,sn_pad hb,List.replicate_succ',List.append_assoc]; simp
theorem sn_last (hb : 0 < b) {k j : Nat} (hj : j % b + 1 < b) : sn low b (k + 1) (j + 1) = sn low b k (j / b) ++ [low + (j % b : Nat) + 1] := by
 have h1:=Nat.div_add_mod j b
 have e1 : (j + 1) / b = j / b := by
  conv => lhs; rw [← h1,show b * (j / b) + j % b + 1 = j % b + 1 + b * (j / b) by omega,Nat.add_mul_div_left _ _ hb,Nat.div_eq_of_lt hj,Nat.zero_add]
 have e2 : (j + 1) % b = j % b + 1 := by
  conv => lhs; rw [← h1,show b * (j / b) + j % b + 1 = j % b + 1 + b * (j / b) by omega,Nat.add_mul_mod_self_left,Nat.mod_eq_of_lt hj]
 simp only [sn]
 rw [e1,e2]
 congr 2
 omega
theorem carry (hb : 0 < b) {j : Nat} (h : j % b + 1 = b) : (j / b + 1) * b = j + 1 := by
 have h1:=Nat.div_add_mod j b
 rw [Nat.add_mul,Nat.one_mul,Nat.mul_comm]; omega
end
def capT (low len high:Int):List T:=[.q [.i low] 0,.q [.i len] 0,.q [.i high] 0]
theorem mid_get {a r:List Int} {x:Int}:(a ++ [x] ++ r).getD a.length 0 = x:=by simp [List.getD]
theorem mid_set {a r:List Int} {x v:Int}:(a ++ [x] ++ r).set a.length v = a ++ [v] ++ r:=by simp
def K_impl_lists:List Nat:=[0,1,2,3,4,5,6,1003,1004,1005]
def C_impl_lists : C :=
 let ks:=K_impl_lists
 (.seq
  (.rg 0 [(none,.v 3 .boxF [.s 0]),(none,.v 4 .boxF [.s 1]),(none,.v 5 .boxF [.s 2]),(none,.v 6 .mv [.k .any])])
  (.cl ks (.seq
  (.rg 0 [(none,.v 7 (.cloF 166) [.s 4,.s 3,.s 5]),(none,.tk 6 7)])
  .ret)))
theorem chk_impl_lists:∃ b,Try.f113.body = some b ∧ chk Try.prog Try.f113.ntmps true C_impl_lists b = true:=⟨_,rfl,by kernel_rfl⟩
theorem impl_lists_ok (len low high : Int) : CallOk Try.prog 113 [.i len, .i low, .i high] [(0, .t .fr (.c 166 (capT low len high)))] := by
 obtain ⟨code0,hcd1,hcd2⟩:=chk_impl_lists; refine callOk_of Try.func113 hcd1 mo Try.call113 (rs:=[6]) (by kernel_rfl) hcd2 (by rw [Try.ntmps113]; simp) (by simp) (by decide) ?_; unfold C_impl_lists K_impl_lists; simp (maxSteps:=2000000) only [go_sem,Nat.reduceBEq,Nat.reduceAdd,Nat.reduceMul,Nat.reduceMod,Nat.reduceLT,Nat.reduceDiv,Nat.reduceSub,Nat.reduceLeDiff,Int.reduceToNat,Int.reduceLT,Int.reduceLE,reduceCtorEq]
 exact T.leL_refl _
def K_impl_lists_1:List Nat:=[0,1,2,3,5,6]
def C_impl_lists_1_A : C :=
 let ks:=K_impl_lists_1
 (.cl ks (.rg 0 [(none,.v 7 .ld [.s 1]),(none,.v 8 .litF [.s 7]),(none,.v 9 .ld [.s 2]),(none,.co 10 87 [.s 8,.s 9]),(none,.tk 5 10)]))
def C_impl_lists_1_B : C :=
 let ks:=K_impl_lists_1
 (.cl ks (.block 1
  (.seq
  (.rg 0 [(none,.v 14 .ld [.s 2]),(none,.v 15 (.bin .sub) [.s 14,.k (.i 1)]),(none,.tk 6 15)])
  (.cl ks (.seq
  (.block 2
  (.loop
  (.seq
  (.seq
  (.rg 8 [(none,.v 16 .mv [.s 6]),(none,.v 17 (.bin .geq) [.s 16,.k (.i 0)]),(none,.v 18 .mv [.s 17]),(some (18,true),.v 19 .mv [.s 5]),(some (18,true),.v 20 .mv [.s 6]),(some (18,true),.v 21 .idx [.s 19,.s 20]),(some (18,true),.v 22 .ld [.s 21]),(some (18,true),.v 23 .ld [.s 3]),(some (18,true),.v 24 (.bin .eql) [.s 22,.s 23]),(none,.v 25 .pick [.s 18,.s 24,.k (.b false)])])
  (.cond (.s 25)
  .skip
  (.exit 2)))
  (.cl ks (.block 3
  (.seq
  (.rg 0 [(none,.v 26 .mv [.s 5]),(none,.v 27 .mv [.s 6]),(none,.v 28 .ld [.s 1]),(none,.v 29 .idx [.s 26,.s 27]),(none,.st (.s 29) (.s 28))])
  (.cl ks (.rg 0 [(none,.v 30 .mv [.s 6]),(none,.v 31 (.bin .sub) [.s 30,.k (.i 1)]),(none,.tk 6 31)]))))))))
  (.cl ks (.seq
  (.seq
  (.rg 0 [(none,.v 32 .mv [.s 6]),(none,.v 33 (.bin .lss) [.s 32,.k (.i 0)])])
  (.cond (.s 33)
  .ret
  .skip))
  (.cl ks (.rg 0 [(none,.v 34 .mv [.s 5]),(none,.v 35 .mv [.s 6]),(none,.v 36 .idx [.s 34,.s 35]),(none,.v 37 .ld [.s 36]),(none,.v 38 (.bin .add) [.s 37,.k (.i 1)]),(none,.v 39 .idx [.s 34,.s 35]),(none,.st (.s 39) (.s 38))])))))))))
theorem chkIt_impl_lists_1:∃ b,Try.f166.body = some b ∧ chkIt Try.prog Try.f166.ntmps (1 + 3) 5 C_impl_lists_1_A C_impl_lists_1_B b = true:=⟨_,rfl,by kernel_rfl⟩
theorem itA {low high : Int} {b k : Nat} (hb : 0 < b) (hk : k < 1048576) : wpC Try.prog C_impl_lists_1_A (fun e s => e = .n ∧ s.le (Sit 5 (capT low k high) (ii (sn low b k 0)))) (argSt 0 (.any :: capT low k high)) := by
 unfold C_impl_lists_1_A K_impl_lists_1 capT; simp (maxSteps:=2000000) only [go_sem,Nat.reduceBEq,Nat.reduceAdd,Nat.reduceMul,Nat.reduceMod,Nat.reduceLT,Nat.reduceDiv,Nat.reduceSub,Nat.reduceLeDiff,Int.reduceToNat,Int.reduceLT,Int.reduceLE,reduceCtorEq]
 refine ⟨_,Repeat_ok low k (by omega) (by omega),?_⟩; simp (maxSteps:=2000000) only [go_sem,Nat.reduceBEq,Nat.reduceAdd,Nat.reduceMul,Nat.reduceMod,Nat.reduceLT,Nat.reduceDiv,Nat.reduceSub,Nat.reduceLeDiff,Int.reduceToNat,Int.reduceLT,Int.reduceLE,reduceCtorEq]
 rw [sn_z hb]
 unfold Sit; simp (maxSteps:=2000000) only [go_sem,Nat.reduceBEq,Nat.reduceAdd,Nat.reduceMul,Nat.reduceMod,Nat.reduceLT,Nat.reduceDiv,Nat.reduceSub,Nat.reduceLeDiff,Int.reduceToNat,Int.reduceLT,Int.reduceLE,reduceCtorEq]
theorem itB {low high : Int} {b k j n : Nat} (hb : 0 < b) (hh : high = low + b - 1) (hk : k < 1048576) (hn : n = b ^ k) (hj : j < n) (hl : -1000000 ≤ low ∧ low ≤ 1000000) (hb2 : b ≤ 1000000) : wpC Try.prog C_impl_lists_1_B
  (fun e s => (e = .n ∧ j + 1 < n ∧ s.le (Sit 5 (capT low k high) (ii (sn low b k (j + 1))))) ∨ (e = .r ∧ j + 1 = n ∧ s.le (Sit 5 (capT low k high) (ii (sn low b k 0))))) (Sit 5 (capT low k high) (ii (sn low b k j))):=by
 unfold C_impl_lists_1_B K_impl_lists_1 capT Sit; simp (maxSteps:=2000000) only [go_sem,Nat.reduceBEq,Nat.reduceAdd,Nat.reduceMul,Nat.reduceMod,Nat.reduceLT,Nat.reduceDiv,Nat.reduceSub,Nat.reduceLeDiff,Int.reduceToNat,Int.reduceLT,Int.reduceLE,reduceCtorEq]
 refine ⟨inR_of (by omega) (by omega),?_⟩
 refine loopN k (fun q => [(1, .t .arg (.q [.i low] 0)), (2, .t .arg (.q [.i k] 0)), (3, .t .arg (.q [.i high] 0)), (5, .own 1 none (ii (sn low b (k - q) (j / b ^ q) ++ List.replicate q low))), (6, .i ((k : Int) - 1 - q))])
  (fun q => j + 1 = (j / b ^ q + 1) * b ^ q) ⟨by simp,by simp (maxSteps:=2000000) only [go_sem,Nat.reduceBEq,Nat.reduceAdd,Nat.reduceMul,Nat.reduceMod,Nat.reduceLT,Nat.reduceDiv,Nat.reduceSub,Nat.reduceLeDiff,Int.reduceToNat,Int.reduceLT,Int.reduceLE,reduceCtorEq]; simp⟩ fun q hq hI => ?_
 have hsl:(sn low b (k - q) (j / b ^ q) ++ List.replicate q low).length = k:=by rw [List.length_append,sn_len,List.length_replicate]; omega
 simp (maxSteps:=2000000) only [go_sem,Nat.reduceBEq,Nat.reduceAdd,Nat.reduceMul,Nat.reduceMod,Nat.reduceLT,Nat.reduceDiv,Nat.reduceSub,Nat.reduceLeDiff,Int.reduceToNat,Int.reduceLT,Int.reduceLE,reduceCtorEq]
 have hbq:0 < b ^ q:=Nat.pow_pos hb
 by_cases hqk : q < k
 ·obtain ⟨p,hp⟩:∃ p,k - q = p + 1:=⟨k - q - 1,by omega⟩
  rw [hp] at hsl ⊢
  have ei:((k:Int) - 1 - q).toNat = p:=by omega
  have eJ:j / b ^ (q + 1) = j / b ^ q / b:=by rw [Nat.pow_succ,Nat.div_div_eq_div_mul]
  have hJ:j / b ^ q < b ^ (p + 1):=Nat.div_lt_of_lt_mul (by rw [← Nat.pow_add,show q + (p + 1) = k by omega,← hn]; exact hj)
  rw [ei,show k - (q + 1) = p by omega,eJ]
  revert hI hsl hJ
  generalize j / b ^ q = J
  intro hI hsl hJ
  have hmod:=Nat.mod_lt J hb
  obtain ⟨d,hd⟩:∃ d,J % b = d:=⟨_,rfl⟩
  have hg : (sn low b (p + 1) J ++ List.replicate q low).getD p 0 = low + (J % b : Nat) := by
   have:=mid_get (a:=sn low b p (J / b)) (r:=List.replicate q low) (x:=low + (J % b:Nat))
   rw [sn_len] at this; exact this
  have hset : ∀ v, (sn low b (p + 1) J ++ List.replicate q low).set p v = sn low b p (J / b) ++ [v] ++ List.replicate q low := fun v => by
   have:=mid_set (a:=sn low b p (J / b)) (r:=List.replicate q low) (x:=low + (J % b:Nat)) (v:=v)
   rw [sn_len] at this; exact this
  rw [hd] at hg hmod
  rw [hg,hset,hset]
  refine ⟨fun _ => ⟨by omega, by omega, by omega, fun he => ⟨by omega, by omega, by omega, inR_of (by omega) (by omega), hqk, ?_, ?_, by omega⟩, fun he => ⟨fun h => by omega, fun _ => ⟨by omega, by omega, by omega, inR_of (by omega) (by omega), by omega, by omega, by omega, .inl ⟨?_, ?_⟩⟩⟩⟩, fun h => by omega⟩
  ·rw [Nat.pow_succ,Nat.mul_comm (b ^ q),← Nat.mul_assoc,carry hb (by rw [hd]; omega)]; exact hI
  ·rw [List.replicate_succ,List.append_assoc]; rfl
  ·have h1:=Nat.div_add_mod J b
   have h2:J / b < b ^ p:=Nat.div_lt_of_lt_mul (by rw [Nat.mul_comm,← Nat.pow_succ]; assumption)
   have h3:b * (J / b + 1) ≤ b * b ^ p:=Nat.mul_le_mul_left b h2
   rw [Nat.mul_add,Nat.mul_one,Nat.mul_comm b (b ^ p),← Nat.pow_succ] at h3
   have h3:b * (J / b) + b ≤ b ^ (p + 1):=h3
   rw [hd] at h1
   have h4:J + 1 < b ^ (p + 1):=by omega
   rw [hI,hn,show k = (p + 1) + q by omega,Nat.pow_add]
   exact Nat.mul_lt_mul_of_pos_right h4 hbq
  ·rw [hI,show k = (p + 1) + q by omega,sn_pad hb,sn_last hb (by rw [hd]; omega),hd]
 ·have:q = k:=by omega
  subst this
  have h0:j / b ^ q = 0:=Nat.div_eq_of_lt (by omega)
  rw [h0] at hI ⊢
  have e:sn low b (q - q) 0 ++ List.replicate q low = sn low b q 0:=by rw [Nat.sub_self,sn_z hb,sn_z hb]; rfl
  exact ⟨fun h => by omega,fun _ => ⟨fun _ => .inr ⟨by omega,e⟩,fun h => by omega⟩⟩
theorem ii_ne {l:List Int} (h:0 < l.length):ii l ≠ []:=fun e => by rw [List.map_eq_nil_iff.1 e] at h; simp at h
end Go.Proofs.Ytgdpplhbblapgaa
