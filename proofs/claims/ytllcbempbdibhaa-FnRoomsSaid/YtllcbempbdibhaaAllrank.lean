/- Own work: contracts of functions. No condition beyond those that each theorem names. -/
import Derived.Test.YtllcbempbdibhaaProg
import Derived.Test.YtllcbempbdibhaaRanks
import Derived.Test.YtllcbempbdibhaaSmall
namespace Go.Proofs.Ytllcbempbdibhaa
open Go Go.Vc
set_option maxRecDepth 100000
set_option linter.unusedSimpArgs false
set_option linter.unusedVariables false
def K_spec_l03All:List Nat:=[0,1,2,6,7]
def C_spec_l03All : C :=
 let ks:=K_spec_l03All
 (.seq
  (.rg 0 [(none,.mkn 6)])
  (.cl ks (.seq
  (.seq
  (.rg 0 [(none,.v 8 .mv [.s 1]),(none,.v 9 .len [.s 8]),(none,.v 10 .mv [.s 2]),(none,.v 11 (.bin .eql) [.s 9,.s 10])])
  (.cond (.s 11)
  (.seq
  (.rg 0 [(none,.v 12 .mv [.s 0]),(none,.v 13 .mv [.s 1]),(none,.lit 14 [.s 13] 1),(none,.app 15 (.s 12) (.s 14) 1),(none,.tk 6 15)])
  .ret)
  .skip))
  (.cl ks (.seq
  (.seq
  (.rg 0 [(none,.v 7 .mv [.k (.i 0)])])
  (.cl ks (.block 0
  (.loop
  (.seq
  (.seq
  (.rg 0 [(none,.v 16 .mv [.s 7]),(none,.v 17 .mv [.s 2]),(none,.v 18 (.bin .lss) [.s 16,.s 17])])
  (.cond (.s 18)
  .skip
  (.exit 0)))
  (.cl ks (.seq
  (.block 1
  (.seq
  (.rg 0 [(none,.v 21 .mv [.s 1]),(none,.v 22 .mv [.s 7]),(none,.co 23 111 [.s 21,.s 22]),(none,.v 24 (.bin .lss) [.s 23,.k (.i 0)])])
  (.cond (.s 24)
  (.rg 0 [(none,.v 25 .mv [.s 0]),(none,.lit 26 [] 0),(none,.v 27 .mv [.s 1]),(none,.app 28 (.s 26) (.s 27) 0),(none,.v 29 .mv [.s 7]),(none,.lit 30 [.s 29] 0),(none,.app 31 (.s 28) (.s 30) 0),(none,.v 32 .mv [.s 2]),(none,.coc 33 109 [.s 25,.s 31,.s 32] [0,1]),(none,.tk 0 33)])
  .skip)))
  (.cl ks (.rg 0 [(none,.v 19 .mv [.s 7]),(none,.v 20 (.bin .add) [.s 19,.k (.i 1)]),(none,.tk 7 20)])))))))))
  (.cl ks (.seq
  (.rg 0 [(none,.v 34 .mv [.s 0]),(none,.tk 6 34)])
  .ret)))))))
theorem chk_spec_l03All:∃ b,Try.f109.body = some b ∧ chk Try.prog Try.f109.ntmps false C_spec_l03All b = true:=⟨_,rfl,by kernel_rfl⟩
def K_spec_AllRankings:List Nat:=[0,2]
def C_spec_AllRankings : C :=
 let ks:=K_spec_AllRankings
 (.seq
  (.rg 0 [(none,.mkn 2)])
  (.cl ks (.seq
  (.seq
  (.rg 0 [(none,.v 3 .mv [.s 0]),(none,.co 4 45 [.s 3,.k (.i 1),.k (.i 5)]),(none,.v 5 .not [.s 4])])
  (.cond (.s 5)
  (.seq
  (.rg 0 [(none,.mkn 2)])
  .ret)
  .skip))
  (.cl ks (.seq
  (.rg 0 [(none,.lit 6 [] 0),(none,.lit 7 [] 0),(none,.v 8 .mv [.s 0]),(none,.coc 9 109 [.s 6,.s 7,.s 8] [0,1]),(none,.tk 2 9)])
  .ret)))))
theorem chk_spec_AllRankings:∃ b,Try.f88.body = some b ∧ chk Try.prog Try.f88.ntmps true C_spec_AllRankings b = true:=⟨_,rfl,by kernel_rfl⟩
def l03 (m : Nat) : Nat → List Int → List (List Int)
 | 0,l => [l]
 | k + 1,l => (List.range m).flatMap fun (x:Nat) => if placeI l (x:Int) < 0 then l03 m k (l ++ [(x:Int)]) else []
def l03P (m k:Nat) (l:List Int) (n:Nat):List (List Int):=(List.range n).flatMap fun (x:Nat) => if placeI l (x:Int) < 0 then l03 m k (l ++ [(x:Int)]) else []
theorem l03P_s {m k : Nat} {l : List Int} {n : Nat} : l03P m k l (n + 1) = l03P m k l n ++ if placeI l (n : Int) < 0 then l03 m k (l ++ [(n : Int)]) else [] := by
 simp [l03P,List.range_succ]
theorem l03_len {m : Nat} : ∀ {k : Nat} {l : List Int}, (l03 m k l).length ≤ m ^ k
 | 0,l => by simp [l03]
 | k + 1, l => by
  have : ∀ n, (l03P m k l n).length ≤ n * m ^ k := by
   intro n
   induction n with
   | zero => simp [l03P]
   | succ n ih =>
    rw [l03P_s,List.length_append]
    have h1 : (if placeI l (n : Int) < 0 then l03 m k (l ++ [(n : Int)]) else []).length ≤ m ^ k := by
     split
     ·exact l03_len
     ·simp
    rw [Nat.succ_mul]; omega
  have:=this m
  rw [Nat.pow_succ,Nat.mul_comm]; exact this
theorem l03P_len {m k : Nat} {l : List Int} : ∀ {n : Nat}, (l03P m k l n).length ≤ n * m ^ k
 | 0 => by simp [l03P]
 | n + 1 => by
  have h0:=l03P_len (m:=m) (k:=k) (l:=l) (n:=n)
  rw [l03P_s,List.length_append]
  have h1 : (if placeI l (n : Int) < 0 then l03 m k (l ++ [(n : Int)]) else []).length ≤ m ^ k := by
   split
   ·exact l03_len
   ·simp
  rw [Nat.succ_mul]; omega
theorem spec_l03All_ok (m : Nat) (hm : m ≤ 5) : ∀ (k : Nat) (n1 n2 : Option Bool) (out : List (List Int)) (l : List Int), l.length + k = m → out.length + m ^ k ≤ 1000000 →
  CallC Try.prog 109 [0,1] [.s n1 (rr out),.s n2 (ii l),.i m] [(0,.own 1 none (rr (out ++ l03 m k l)))]:=by
 intro k
 induction k with
 | zero =>
  intro n1 n2 out l hl ho
  obtain ⟨code0,hcd1,hcd2⟩:=chk_spec_l03All; refine callC_of Try.func109 hcd1 mo Try.call109 (r:=6) (is:=[0,1]) (by kernel_rfl) hcd2 (by rw [Try.ntmps109]; simp) (by simp) (by decide) ?_; unfold C_spec_l03All K_spec_l03All; simp (maxSteps:=2000000) only [go_sem,Nat.reduceBEq,Nat.reduceAdd,Nat.reduceMul,Nat.reduceMod,Nat.reduceLT,Nat.reduceDiv,Nat.reduceSub,Nat.reduceLeDiff,Int.reduceToNat,Int.reduceLT,Int.reduceLE,reduceCtorEq]
  refine ⟨fun h => ⟨by simp,by omega,by simp [l03]⟩,fun h => absurd (by omega) h⟩
 | succ k ih =>
  intro n1 n2 out l hl ho
  obtain ⟨code0,hcd1,hcd2⟩:=chk_spec_l03All; refine callC_of Try.func109 hcd1 mo Try.call109 (r:=6) (is:=[0,1]) (by kernel_rfl) hcd2 (by rw [Try.ntmps109]; simp) (by simp) (by decide) ?_; unfold C_spec_l03All K_spec_l03All; simp (maxSteps:=2000000) only [go_sem,Nat.reduceBEq,Nat.reduceAdd,Nat.reduceMul,Nat.reduceMod,Nat.reduceLT,Nat.reduceDiv,Nat.reduceSub,Nat.reduceLeDiff,Int.reduceToNat,Int.reduceLT,Int.reduceLE,reduceCtorEq]
  refine ⟨fun h => absurd h (by omega),fun _ => ?_⟩
  refine loopN m (fun x => [(0,.own 1 none (rr (out ++ l03P m k l x))),(1,.own 1 n2 (ii l)),(2,.i m),(7,.i (x:Nat))]) (fun _ => True) ⟨trivial,by simp (maxSteps:=2000000) only [go_sem,Nat.reduceBEq,Nat.reduceAdd,Nat.reduceMul,Nat.reduceMod,Nat.reduceLT,Nat.reduceDiv,Nat.reduceSub,Nat.reduceLeDiff,Int.reduceToNat,Int.reduceLT,Int.reduceLE,reduceCtorEq]; simp [l03P]⟩ fun x hx _ => ?_
  simp (maxSteps:=2000000) only [go_sem,Nat.reduceBEq,Nat.reduceAdd,Nat.reduceMul,Nat.reduceMod,Nat.reduceLT,Nat.reduceDiv,Nat.reduceSub,Nat.reduceLeDiff,Int.reduceToNat,Int.reduceLT,Int.reduceLE,reduceCtorEq]
  refine ⟨fun hlt => ?_, fun hge => ?_⟩
  ·refine ⟨_,spec_PlaceOf_ok l _ (by omega),?_⟩; simp (maxSteps:=2000000) only [go_sem,Nat.reduceBEq,Nat.reduceAdd,Nat.reduceMul,Nat.reduceMod,Nat.reduceLT,Nat.reduceDiv,Nat.reduceSub,Nat.reduceLeDiff,Int.reduceToNat,Int.reduceLT,Int.reduceLE,reduceCtorEq]
   refine ⟨fun hp => ⟨by omega, by omega, ?_⟩, fun hp => ⟨inR_of (by omega) (by omega), by omega, ?_, by simp⟩⟩
   ·have h1:=l03P_len (m:=m) (k:=k) (l:=l) (n:=x)
    have h2:(x + 1) * m ^ k ≤ m ^ (k + 1):=by rw [Nat.pow_succ,Nat.mul_comm (m ^ k)]; exact Nat.mul_le_mul_right _ (by omega)
    rw [Nat.succ_mul] at h2
    refine ⟨_,ih none (some false) (out ++ l03P m k l x) (l ++ [(x:Int)]) (by simp; omega) (by rw [List.length_append]; omega),?_⟩; simp (maxSteps:=2000000) only [go_sem,Nat.reduceBEq,Nat.reduceAdd,Nat.reduceMul,Nat.reduceMod,Nat.reduceLT,Nat.reduceDiv,Nat.reduceSub,Nat.reduceLeDiff,Int.reduceToNat,Int.reduceLT,Int.reduceLE,reduceCtorEq]
    refine ⟨inR_of (by omega) (by omega),by omega,?_,by simp⟩
    rw [l03P_s,if_pos hp,List.append_assoc]
   ·rw [l03P_s,if_neg hp,List.append_nil]
  ·have:x = m:=by omega
   subst this
   rfl
def allRank (m:Int):List (List Int):=if inI m 1 5 then l03 m.toNat m.toNat [] else []
theorem spec_AllRankings_ok (m : Int) : CallOk Try.prog 88 [.i m] [(0, .own 1 none (rr (allRank m)))] := by
 obtain ⟨code0,hcd1,hcd2⟩:=chk_spec_AllRankings; refine callOk_of Try.func88 hcd1 mo Try.call88 (rs:=[2]) (by kernel_rfl) hcd2 (by rw [Try.ntmps88]; simp) (by simp) (by decide) ?_; unfold C_spec_AllRankings K_spec_AllRankings; simp (maxSteps:=2000000) only [go_sem,Nat.reduceBEq,Nat.reduceAdd,Nat.reduceMul,Nat.reduceMod,Nat.reduceLT,Nat.reduceDiv,Nat.reduceSub,Nat.reduceLeDiff,Int.reduceToNat,Int.reduceLT,Int.reduceLE,reduceCtorEq]
 refine ⟨_,l01In_ok _ _ _,?_⟩; simp (maxSteps:=2000000) only [go_sem,Nat.reduceBEq,Nat.reduceAdd,Nat.reduceMul,Nat.reduceMod,Nat.reduceLT,Nat.reduceDiv,Nat.reduceSub,Nat.reduceLeDiff,Int.reduceToNat,Int.reduceLT,Int.reduceLE,reduceCtorEq]
 refine ⟨fun h => by simp [allRank,h],fun h => ?_⟩
 have hb:1 ≤ m ∧ m ≤ 5:=by simp only [inI,Bool.and_eq_true,decide_eq_true_eq] at h; exact h
 have hm:((m.toNat:Nat):Int) = m:=by omega
 have h5:m.toNat ≤ 5:=by omega
 have hp:m.toNat ^ m.toNat ≤ 1000000:=Nat.le_trans (Nat.pow_le_pow_left h5 _) (Nat.le_trans (Nat.pow_le_pow_right (by omega) h5) (by decide))
 have key:=spec_l03All_ok m.toNat h5 m.toNat (some false) (some false) [] [] (by simp) (by simpa using hp)
 rw [hm] at key
 refine ⟨_,key,?_⟩; simp (maxSteps:=2000000) only [go_sem,Nat.reduceBEq,Nat.reduceAdd,Nat.reduceMul,Nat.reduceMod,Nat.reduceLT,Nat.reduceDiv,Nat.reduceSub,Nat.reduceLeDiff,Int.reduceToNat,Int.reduceLT,Int.reduceLE,reduceCtorEq]
 simp [allRank,h]
end Go.Proofs.Ytllcbempbdibhaa
