/- Own work: contracts of functions. No condition beyond those that each theorem names. -/
import Derived.Test.YtllcbempbdibhaaProg
import Derived.Test.YtllcbempbdibhaaDraw
import Derived.Test.YtllcbempbdibhaaRms
namespace Go.Proofs.Ytllcbempbdibhaa
open Go Go.Vc
set_option maxRecDepth 100000
set_option linter.unusedSimpArgs false
set_option linter.unusedVariables false
def K_spec_l20Draw:List Nat:=[0,2,3,4,5,6,7,8,9,10,1000,2000,3000]
def C_spec_l20Draw : C :=
 let ks:=K_spec_l20Draw
 (.seq
  (.rg 0 [(none,.mkn 2)])
  (.cl ks (.seq
  (.rg 0 [(none,.v 11 .mv [.s 0]),(none,.cop 12 93 [.s 11,.k (.i 3)] 0),(none,.v 13 (.bin .mul) [.k (.i 2),.s 12]),(none,.v 14 (.bin .add) [.k (.i 2),.s 13]),(none,.tk 3 14)])
  (.cl ks (.seq
  (.rg 0 [(none,.lit 15 [] 0),(none,.tk 4 15)])
  (.cl ks (.seq
  (.seq
  (.rg 0 [(none,.v 5 .mv [.k (.i 0)])])
  (.cl ks (.block 0
  (.loop
  (.seq
  (.seq
  (.rg 0 [(none,.v 16 .mv [.s 5]),(none,.v 17 .mv [.s 3]),(none,.v 18 (.bin .lss) [.s 16,.s 17])])
  (.cond (.s 18)
  .skip
  (.exit 0)))
  (.cl ks (.seq
  (.block 1
  (.seq
  (.rg 0 [(none,.lit 21 [] 0),(none,.tk 6 21)])
  (.cl ks (.seq
  (.seq
  (.rg 0 [(none,.v 7 .mv [.k (.i 0)])])
  (.cl ks (.block 2
  (.loop
  (.seq
  (.seq
  (.rg 0 [(none,.v 22 .mv [.s 7]),(none,.v 23 .mv [.s 3]),(none,.v 24 (.bin .lss) [.s 22,.s 23])])
  (.cond (.s 24)
  .skip
  (.exit 2)))
  (.cl ks (.seq
  (.block 3
  (.seq
  (.rg 0 [(none,.v 27 .mv [.s 7]),(none,.v 28 .mv [.s 5]),(none,.v 29 (.bin .neq) [.s 27,.s 28])])
  (.cond (.s 29)
  (.rg 0 [(none,.v 30 .mv [.s 6]),(none,.v 31 .mv [.s 7]),(none,.lit 32 [.s 31] 0),(none,.app 33 (.s 30) (.s 32) 0),(none,.tk 6 33)])
  .skip)))
  (.cl ks (.rg 0 [(none,.v 25 .mv [.s 7]),(none,.v 26 (.bin .add) [.s 25,.k (.i 1)]),(none,.tk 7 26)])))))))))
  (.cl ks (.seq
  (.seq
  (.rg 0 [(none,.v 34 .mv [.s 3]),(none,.v 35 (.bin .sub) [.s 34,.k (.i 2)]),(none,.tk 8 35)])
  (.cl ks (.block 4
  (.loop
  (.seq
  (.seq
  (.rg 0 [(none,.v 36 .mv [.s 8]),(none,.v 37 (.bin .gtr) [.s 36,.k (.i 0)])])
  (.cond (.s 37)
  .skip
  (.exit 4)))
  (.cl ks (.seq
  (.block 5
  (.seq
  (.rg 0 [(none,.v 40 .mv [.s 0]),(none,.v 41 .mv [.s 8]),(none,.v 42 (.bin .add) [.s 41,.k (.i 1)]),(none,.cop 43 93 [.s 40,.s 42] 0),(none,.tk 9 43)])
  (.cl ks (.seq
  (.rg 0 [(none,.v 44 .mv [.s 6]),(none,.v 45 .mv [.s 8]),(none,.v 46 .idx [.s 44,.s 45]),(none,.v 47 .ld [.s 46]),(none,.tk 10 47)])
  (.cl ks (.seq
  (.rg 0 [(none,.v 48 .mv [.s 6]),(none,.v 49 .mv [.s 8]),(none,.v 50 .mv [.s 6]),(none,.v 51 .mv [.s 9]),(none,.v 52 .idx [.s 50,.s 51]),(none,.v 53 .ld [.s 52]),(none,.v 54 .idx [.s 48,.s 49]),(none,.st (.s 54) (.s 53))])
  (.cl ks (.rg 0 [(none,.v 55 .mv [.s 6]),(none,.v 56 .mv [.s 9]),(none,.v 57 .mv [.s 10]),(none,.v 58 .idx [.s 55,.s 56]),(none,.st (.s 58) (.s 57))]))))))))
  (.cl ks (.rg 0 [(none,.v 38 .mv [.s 8]),(none,.v 39 (.bin .sub) [.s 38,.k (.i 1)]),(none,.tk 8 39)])))))))))
  (.cl ks (.rg 0 [(none,.v 59 .mv [.s 4]),(none,.v 60 .mv [.s 6]),(none,.lit 61 [.s 60] 1),(none,.app 62 (.s 59) (.s 61) 1),(none,.tk 4 62)]))))))))
  (.cl ks (.rg 0 [(none,.v 19 .mv [.s 5]),(none,.v 20 (.bin .add) [.s 19,.k (.i 1)]),(none,.tk 5 20)])))))))))
  (.cl ks (.seq
  (.rg 0 [(none,.v 63 .mv [.s 4]),(none,.tk 2 63)])
  .ret)))))))))
theorem chk_spec_l20Draw:∃ b,Try.f77.body = some b ∧ chk Try.prog Try.f77.ntmps false C_spec_l20Draw b = true ∧ dstB (fun k => k == 0) b = true:=⟨_,rfl,by kernel_rfl,by kernel_rfl⟩
def K_spec_MakeRooms:List Nat:=[0,1,4]
def C_spec_MakeRooms : C :=
 let ks:=K_spec_MakeRooms
 (.seq
  (.rg 0 [(none,.mkn 4)])
  (.cl ks (.seq
  (.rg 0 [(none,.v 5 .mv [.s 0]),(none,.v 6 .mv [.s 1]),(none,.con 7 54 [.s 5,.s 6]),(none,.cop 8 77 [.s 7] 0),(none,.tk 4 8)])
  .ret)))
theorem chk_spec_MakeRooms:∃ b,Try.f33.body = some b ∧ chk Try.prog Try.f33.ntmps true C_spec_MakeRooms b = true:=⟨_,rfl,by kernel_rfl⟩
def butL (i k:Nat):List Int:=(upto k).filter fun v => decide (v ≠ (i:Int))
theorem butL_s {i k : Nat} : butL i (k + 1) = butL i k ++ if k = i then [] else [(k : Int)] := by
 unfold butL
 rw [show upto (k + 1) = upto k ++ [(k:Int)] from upto_s,List.filter_append]
 congr 1
 by_cases c : k = i
 ·subst c; simp
 ·rw [if_neg c]
  have:(k:Int) ≠ (i:Int):=by omega
  simp [this]
theorem butL_len {i k : Nat} : (butL i k).length = if i < k then k - 1 else k := by
 induction k with
 | zero => simp [butL,upto]
 | succ k ih =>
  rw [butL_s,List.length_append,ih]
  by_cases c : k = i
  ·subst c; simp
  ·rw [if_neg c]
   simp only [List.length_singleton]
   by_cases c2 : i < k
   ·rw [if_pos c2,if_pos (by omega)]; omega
   ·rw [if_neg c2,if_neg (by omega)]
theorem butL_nodup {i k : Nat} : (butL i k).Nodup := List.Pairwise.filter _ (by
 unfold upto
 exact List.pairwise_map.2 (List.Pairwise.imp (fun {a b} h e => h (by omega)) List.nodup_range))
theorem mem_but {i k : Nat} {v : Int} : v ∈ butL i k ↔ 0 ≤ v ∧ v < k ∧ v ≠ i := by
 unfold butL
 rw [List.mem_filter,mem_upto]; simp; omega
theorem swp_perm {r : List Int} {i x : Nat} (hi : i < r.length) (hx : x < r.length) : (swp r i x).Perm r := by
 have h:=List.set_set_perm hi hx
 unfold swp
 have e1:r.getD x 0 = r[x]:=by simp [List.getD,hx]
 have e2:r.getD i 0 = r[i]:=by simp [List.getD,hi]
 rw [e1,e2]; exact h
theorem rooms_of {x : List (List Int)} {n : Nat} (hn : n = 2 ∨ n = 4 ∨ n = 6) (hl : x.length = n) (hp : ∀ i, i < n → (x.getD i []).Perm (butL i n)) : Rm x := by
 refine ⟨by rw [hl]; exact hn, fun i hi => ?_, fun i hi v hv => ?_, fun i hi hv => ?_, fun i hi => ?_⟩
 ·rw [(hp i (by omega)).length_eq,butL_len,if_pos (by omega)]; omega
 ·have:=mem_but.1 ((hp i (by omega)).subset hv); omega
 ·have:=mem_but.1 ((hp i (by omega)).subset hv); omega
 ·exact (hp i (by omega)).nodup_iff.2 butL_nodup
theorem row_ex (u : Value) (nl : Option Bool) {l : List Int} (C : CodeL l) {n : Nat} (hn : 2 ≤ n ∧ n ≤ 6) (i : Nat) (hi : i < n) {p : Int × Int} (h : Cur l p) :
  ∃ G : Nat → List Int × (Int × Int), G 0 = (butL i n, p) ∧ (∀ t, (G t).1.Perm (butL i n) ∧ Cur l (G t).2) ∧ ∀ t, t + 2 < n → ∃ x : Nat, x ≤ n - 2 - t ∧ (G (t + 1)).1 = swp (G t).1 (n - 2 - t) x ∧
   CallQ Try.prog 93 0 [.q (cur u nl l (G t).2) 0,.i ((n:Int) - 2 - t + 1)] (cur u nl l (G (t + 1)).2) [(0,.i x)]:=by
 obtain ⟨F, F0, FltS⟩ := iter_exN (α := {a : List Int × (Int × Int) // a.1.Perm (butL i n) ∧ Cur l a.2}) (R := fun t a b => t + 2 < n → ∃ x : Nat, x ≤ n - 2 - t ∧ b.1.1 = swp a.1.1 (n - 2 - t) x ∧ CallQ Try.prog 93 0 [.q (cur u nl l a.1.2) 0, .i ((n : Int) - 2 - t + 1)] (cur u nl l b.1.2) [(0, .i x)]) (fun t a => by
  by_cases hk : t + 2 < n
  ·obtain ⟨q,x,hq,x0,x1,W⟩:=spec_l01Below_ok u nl C a.2.2 (n:=(n:Int) - 2 - t + 1) (by omega) (by omega)
   obtain ⟨X,rfl⟩:∃ X:Nat,x = X:=⟨x.toNat,by omega⟩
   have hlen:a.1.1.length = n - 1:=by rw [a.2.1.length_eq,butL_len,if_pos hi]
   exact ⟨⟨(swp a.1.1 (n - 2 - t) X,q),(swp_perm (by omega) (by omega)).trans a.2.1,hq⟩,fun _ => ⟨X,by omega,rfl,W⟩⟩
  ·exact ⟨a,fun h => absurd h hk⟩) ⟨(butL i n,p),List.Perm.refl _,h⟩
 exact ⟨fun t => (F t).1,(by show (F 0).1 = _; rw [F0]),fun t => (F t).2,fun t ht => FltS t ht⟩
theorem spec_l20Draw_ok (u : Value) (nl : Option Bool) {l : List Int} (C : CodeL l) {p : Int × Int} (h : Cur l p) : ∃ (q : Int × Int) (x : List (List Int)), Cur l q ∧ Rm x ∧ CallQ Try.prog 77 0 [.q (cur u nl l p) 0] (cur u nl l q) [(0, .own 1 none (rr x))] := by
 obtain ⟨p1,m,hp1,m0,m3,W1⟩:=spec_l01Below_ok u nl C h (n:=3) (by omega) (by omega)
 obtain ⟨M,rfl⟩:∃ M:Nat,m = M:=⟨m.toNat,by omega⟩
 obtain ⟨n,hn⟩:∃ n:Nat,n = 2 + 2 * M:=⟨_,rfl⟩
 obtain ⟨F, F0, FltS⟩ := iter_exN (α := {a : List Int × (Int × Int) // Cur l a.2}) (R := fun i a b => i < n → b.1.1.Perm (butL i n) ∧ ∃ G : Nat → List Int × (Int × Int), G 0 = (butL i n, a.1.2) ∧ G (n - 2) = b.1 ∧ (∀ t, (G t).1.Perm (butL i n)) ∧ ∀ t, t + 2 < n → ∃ x : Nat, x ≤ n - 2 - t ∧ (G (t + 1)).1 = swp (G t).1 (n - 2 - t) x ∧
   CallQ Try.prog 93 0 [.q (cur u nl l (G t).2) 0,.i ((n:Int) - 2 - t + 1)] (cur u nl l (G (t + 1)).2) [(0,.i x)]) (fun i a => by
  by_cases hi : i < n
  ·obtain ⟨G,G0,GP,GS⟩:=row_ex u nl C (n:=n) (by omega) i hi a.2
   exact ⟨⟨G (n - 2),(GP _).2⟩,fun _ => ⟨(GP _).1,G,G0,rfl,fun t => (GP t).1,GS⟩⟩
  ·exact ⟨a,fun h => absurd h hi⟩) ⟨([],p1),hp1⟩
 obtain ⟨R,hR⟩:∃ R:Nat → List (List Int),R = fun k => (List.range k).map fun t => (F (t + 1)).1.1:=⟨_,rfl⟩
 have Rs:∀ k,R (k + 1) = R k ++ [(F (k + 1)).1.1]:=fun k => by rw [hR]; simp [List.range_succ]
 have Rl:∀ k,(R k).length = k:=fun k => by rw [hR]; simp
 refine ⟨(F n).1.2, R n, (F n).2, rooms_of (n := n) (by omega) (Rl n) (fun i hi => ?_), ?_⟩
 ·rw [hR]
  have:=(FltS i hi).1
  simpa [List.getD,hi] using this
 unfold cur at W1 FltS ⊢
 obtain ⟨code0,hcd1,hcd2,hcd3⟩:=chk_spec_l20Draw; refine callQ_of Try.func77 hcd1 mo Try.call77 (r:=2) (i:=0) (by kernel_rfl) hcd2 hcd3 (by rw [Try.ntmps77]; simp) (by simp) (by decide) rfl rfl (by simp) ?_; unfold C_spec_l20Draw K_spec_l20Draw; simp (maxSteps:=2000000) only [go_sem,Nat.reduceBEq,Nat.reduceAdd,Nat.reduceMul,Nat.reduceMod,Nat.reduceLT,Nat.reduceDiv,Nat.reduceSub,Nat.reduceLeDiff,Int.reduceToNat,Int.reduceLT,Int.reduceLE,reduceCtorEq]
 refine ⟨_,_,W1,?_⟩
 simp (maxSteps:=2000000) only [go_sem,Nat.reduceBEq,Nat.reduceAdd,Nat.reduceMul,Nat.reduceMod,Nat.reduceLT,Nat.reduceDiv,Nat.reduceSub,Nat.reduceLeDiff,Int.reduceToNat,Int.reduceLT,Int.reduceLE,reduceCtorEq,le_self]
 have en:2 + 2 * (M:Int) = n:=by omega
 rw [en]
 have hn6:n = 2 ∨ n = 4 ∨ n = 6:=by omega
 refine ⟨inR_of (by omega) (by omega),inR_of (by omega) (by omega),?_⟩
 refine loopN n (fun i => [(0,.bx 3),(3,.i n),(4,.own 1 (some false) (rr (R i))),(5,.i (i:Nat)),(1000,.t .arg (.xv u (.s nl (byt l)))),(2000,.i (F i).1.2.1),(3000,.i (F i).1.2.2)]) (fun _ => True) ⟨trivial,by simp (maxSteps:=2000000) only [go_sem,Nat.reduceBEq,Nat.reduceAdd,Nat.reduceMul,Nat.reduceMod,Nat.reduceLT,Nat.reduceDiv,Nat.reduceSub,Nat.reduceLeDiff,Int.reduceToNat,Int.reduceLT,Int.reduceLE,reduceCtorEq,le_self]; simp [hR,F0,rr,T.leL]⟩ fun i hi _ => ?_
 have hRi:=Rl i
 simp (maxSteps:=2000000) only [go_sem,Nat.reduceBEq,Nat.reduceAdd,Nat.reduceMul,Nat.reduceMod,Nat.reduceLT,Nat.reduceDiv,Nat.reduceSub,Nat.reduceLeDiff,Int.reduceToNat,Int.reduceLT,Int.reduceLE,reduceCtorEq,le_self]
 refine ⟨fun hlt => ?_, fun hge => ?_⟩
 ·have hi':i < n:=by omega
  obtain ⟨hP,G,G0,Ge,GP,GS⟩:=FltS i hi'
  refine loopN n (fun k => [(0,.bx 3),(3,.i n),(4,.own 1 (some false) (rr (R i))),(5,.i i),(6,.own 1 (some false) (ii (butL i k))),(7,.i (k:Nat)),(1000,.t .arg (.xv u (.s nl (byt l)))),(2000,.i (F i).1.2.1),(3000,.i (F i).1.2.2)]) (fun _ => True) ⟨trivial,by simp (maxSteps:=2000000) only [go_sem,Nat.reduceBEq,Nat.reduceAdd,Nat.reduceMul,Nat.reduceMod,Nat.reduceLT,Nat.reduceDiv,Nat.reduceSub,Nat.reduceLeDiff,Int.reduceToNat,Int.reduceLT,Int.reduceLE,reduceCtorEq,le_self]; simp [butL,upto,ii,T.leL]⟩ fun k hk _ => ?_
  have hbl:(butL i k).length ≤ k:=by rw [butL_len]; split <;> omega
  simp (maxSteps:=2000000) only [go_sem,Nat.reduceBEq,Nat.reduceAdd,Nat.reduceMul,Nat.reduceMod,Nat.reduceLT,Nat.reduceDiv,Nat.reduceSub,Nat.reduceLeDiff,Int.reduceToNat,Int.reduceLT,Int.reduceLE,reduceCtorEq,le_self]
  refine ⟨fun hlt2 => ?_, fun hge2 => ?_⟩
  ·have hk':k < n:=by omega
   exact ⟨fun hne => ⟨by omega,inR_of (by omega) (by omega),hk',by rw [butL_s,if_neg hne],by simp⟩,fun he => ⟨inR_of (by omega) (by omega),hk',by rw [butL_s,if_pos he,List.append_nil],by simp⟩⟩
  ·have ek:k = n:=by omega
   subst ek
   refine ⟨inR_of (by omega) (by omega),?_⟩
   refine loopN (k - 2) (fun t => [(0,.bx 3),(3,.i k),(4,.own 1 (some false) (rr (R i))),(5,.i i),(6,.own 1 (some false) (ii (G t).1)),(8,.i ((k:Int) - 2 - t)),(1000,.t .arg (.xv u (.s nl (byt l)))),(2000,.i (G t).2.1),(3000,.i (G t).2.2)]) (fun _ => True) ⟨trivial,by simp (maxSteps:=2000000) only [go_sem,Nat.reduceBEq,Nat.reduceAdd,Nat.reduceMul,Nat.reduceMod,Nat.reduceLT,Nat.reduceDiv,Nat.reduceSub,Nat.reduceLeDiff,Int.reduceToNat,Int.reduceLT,Int.reduceLE,reduceCtorEq,le_self]; simp [G0]⟩ fun t ht _ => ?_
   have hgl:(G t).1.length = k - 1:=by rw [(GP t).length_eq,butL_len,if_pos hi']
   simp (maxSteps:=2000000) only [go_sem,Nat.reduceBEq,Nat.reduceAdd,Nat.reduceMul,Nat.reduceMod,Nat.reduceLT,Nat.reduceDiv,Nat.reduceSub,Nat.reduceLeDiff,Int.reduceToNat,Int.reduceLT,Int.reduceLE,reduceCtorEq,le_self]
   refine ⟨fun hlt3 => ?_, fun hge3 => ?_⟩
   ·obtain ⟨x,x1,e,W⟩:=GS t (by omega)
    refine ⟨inR_of (by omega) (by omega),?_⟩
    refine ⟨_,_,W,?_⟩
    simp (maxSteps:=2000000) only [go_sem,Nat.reduceBEq,Nat.reduceAdd,Nat.reduceMul,Nat.reduceMod,Nat.reduceLT,Nat.reduceDiv,Nat.reduceSub,Nat.reduceLeDiff,Int.reduceToNat,Int.reduceLT,Int.reduceLE,reduceCtorEq,le_self]
    have ei:((k:Int) - 2 - t).toNat = k - 2 - t:=by omega
    rw [ei]
    exact ⟨by omega,by omega,by omega,by omega,by omega,by omega,by omega,by omega,by omega,by omega,by rw [List.length_set]; omega,by rw [List.length_set]; omega,inR_of (by omega) (by omega),by omega,by rw [e]; rfl,by omega⟩
   ·have:t = k - 2:=by omega
    subst this
    rw [Ge]
    exact ⟨by simp,by omega,inR_of (by omega) (by omega),by omega,(Rs i).symm,by simp,rfl,rfl⟩
 ·have:i = n:=by omega
  subst this
  exact ⟨rfl,Vc.T.le_refl _,rfl,rfl⟩
theorem spec_MakeRooms_ok (u : Value) (nl : Option Bool) {l : List Int} (C : CodeL l) {n : Int} (h0 : 0 ≤ n) (h1000 : n ≤ 1000) : ∃ x : List (List Int), Rm x ∧ CallOk Try.prog 33 [.xv u (.s nl (byt l)), .i n] [(0, .own 1 none (rr x))] := by
 obtain ⟨p,hp,W⟩:=spec_l32New_ok u nl C h0 h1000
 obtain ⟨q,x,hq,hx,W1⟩:=spec_l20Draw_ok u nl C hp
 refine ⟨x,hx,?_⟩
 unfold cur at W W1
 obtain ⟨code0,hcd1,hcd2⟩:=chk_spec_MakeRooms; refine callOk_of Try.func33 hcd1 mo Try.call33 (rs:=[4]) (by kernel_rfl) hcd2 (by rw [Try.ntmps33]; simp) (by simp) (by decide) ?_; unfold C_spec_MakeRooms K_spec_MakeRooms; simp (maxSteps:=2000000) only [go_sem,Nat.reduceBEq,Nat.reduceAdd,Nat.reduceMul,Nat.reduceMod,Nat.reduceLT,Nat.reduceDiv,Nat.reduceSub,Nat.reduceLeDiff,Int.reduceToNat,Int.reduceLT,Int.reduceLE,reduceCtorEq]
 refine ⟨_,W,?_⟩
 simp (maxSteps:=2000000) only [go_sem,Nat.reduceBEq,Nat.reduceAdd,Nat.reduceMul,Nat.reduceMod,Nat.reduceLT,Nat.reduceDiv,Nat.reduceSub,Nat.reduceLeDiff,Int.reduceToNat,Int.reduceLT,Int.reduceLE,reduceCtorEq,le_self]
 refine ⟨_,_,W1,?_⟩
 simp (maxSteps:=2000000) only [go_sem,Nat.reduceBEq,Nat.reduceAdd,Nat.reduceMul,Nat.reduceMod,Nat.reduceLT,Nat.reduceDiv,Nat.reduceSub,Nat.reduceLeDiff,Int.reduceToNat,Int.reduceLT,Int.reduceLE,reduceCtorEq,le_self]
end Go.Proofs.Ytllcbempbdibhaa
