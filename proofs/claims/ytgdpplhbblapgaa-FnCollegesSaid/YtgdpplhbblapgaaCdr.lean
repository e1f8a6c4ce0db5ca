/- Own work: contracts of functions. No condition beyond those that each theorem names. -/
import Derived.Test.YtgdpplhbblapgaaProg
import Derived.Test.YtgdpplhbblapgaaRowsx
import Derived.Test.YtgdpplhbblapgaaStable
namespace Go.Proofs.Ytgdpplhbblapgaa
open Go Go.Vc
set_option maxRecDepth 100000
set_option linter.unusedSimpArgs false
set_option linter.unusedVariables false
def K_spec_l21Draw:List Nat:=[0,2,3,4,5,6,7,1000,2000,3000,1002,2002,3002,1005,2005,3005]
def C_spec_l21Draw : C :=
 let ks:=K_spec_l21Draw
 (.seq
  (.rg 0 [(none,.new 2 [.s (some true) [],.s (some true) [],.s (some true) []])])
  (.cl ks (.seq
  (.rg 0 [(none,.v 8 .mv [.s 0]),(none,.cop 9 164 [.s 8,.k (.i 4)] 0),(none,.v 10 (.bin .add) [.k (.i 1),.s 9]),(none,.tk 3 10)])
  (.cl ks (.seq
  (.rg 0 [(none,.v 11 .mv [.s 0]),(none,.cop 12 164 [.s 11,.k (.i 3)] 0),(none,.v 13 (.bin .add) [.k (.i 1),.s 12]),(none,.tk 4 13)])
  (.cl ks (.seq
  (.rg 0 [(none,.v 14 .bld [.k (.s (some true) []),.k (.s (some true) []),.k (.s (some true) [])]),(none,.new 5 [.s (some true) [],.s (some true) [],.s (some true) []]),(none,.sts (.s 5) (.s 14) 3)])
  (.cl ks (.seq
  (.seq
  (.rg 0 [(none,.onl 1005),(none,.onl 2005),(none,.onl 3005),(none,.v 6 .mv [.k (.i 0)])])
  (.cl ks (.block 0
  (.loop
  (.seq
  (.seq
  (.rg 0 [(none,.v 15 .mv [.s 6]),(none,.v 16 .mv [.s 3]),(none,.v 17 (.bin .lss) [.s 15,.s 16])])
  (.cond (.s 17)
  .skip
  (.exit 0)))
  (.cl ks (.seq
  (.block 1
  (.rgH [0,1,2,3] [4,5,6,7,8] [(none,.v 20 (.fa 0) [.s 5]),(none,.v 21 .ld [.s 20]),(none,.v 22 .mv [.s 0]),(none,.v 23 .mv [.s 4])] [([(none,.cop 24 125 [.s 22,.s 23] 0)],[21]),([(none,.lit 25 [.s 24] 1)],[21]),([(none,.app 26 (.s 21) (.s 25) 1)],[]),([(none,.v 27 (.fa 0) [.s 5])],[]),([(none,.st (.s 27) (.s 26))],[])]))
  (.cl ks (.rg 0 [(none,.v 18 .mv [.s 6]),(none,.v 19 (.bin .add) [.s 18,.k (.i 1)]),(none,.tk 6 19)])))))))))
  (.cl ks (.seq
  (.seq
  (.rg 0 [(none,.v 7 .mv [.k (.i 0)])])
  (.cl ks (.block 2
  (.loop
  (.seq
  (.seq
  (.rg 0 [(none,.v 28 .mv [.s 7]),(none,.v 29 .mv [.s 4]),(none,.v 30 (.bin .lss) [.s 28,.s 29])])
  (.cond (.s 30)
  .skip
  (.exit 2)))
  (.cl ks (.seq
  (.block 3
  (.seq
  (.rgH [0,1,2,3] [4,5,6,7,8] [(none,.v 33 (.fa 1) [.s 5]),(none,.v 34 .ld [.s 33]),(none,.v 35 .mv [.s 0]),(none,.v 36 .mv [.s 3])] [([(none,.cop 37 125 [.s 35,.s 36] 0)],[34]),([(none,.lit 38 [.s 37] 1)],[34]),([(none,.app 39 (.s 34) (.s 38) 1)],[]),([(none,.v 40 (.fa 1) [.s 5])],[]),([(none,.st (.s 40) (.s 39))],[])])
  (.cl ks (.rgH [0,1,2] [3,4,5,6,7] [(none,.v 41 (.fa 2) [.s 5]),(none,.v 42 .ld [.s 41]),(none,.v 43 .mv [.s 0])] [([(none,.cop 44 164 [.s 43,.k (.i 3)] 0)],[42]),([(none,.lit 45 [.s 44] 0)],[42]),([(none,.app 46 (.s 42) (.s 45) 0)],[]),([(none,.v 47 (.fa 2) [.s 5])],[]),([(none,.st (.s 47) (.s 46))],[])]))))
  (.cl ks (.rg 0 [(none,.v 31 .mv [.s 7]),(none,.v 32 (.bin .add) [.s 31,.k (.i 1)]),(none,.tk 7 32)])))))))))
  (.cl ks (.seq
  (.rg 0 [(none,.v 48 (.lds 3) [.s 5]),(none,.sts (.s 2) (.s 48) 3)])
  .ret)))))))))))))
theorem chk_spec_l21Draw:∃ b,Try.f111.body = some b ∧ chk Try.prog Try.f111.ntmps false C_spec_l21Draw b = true ∧ dstB (fun k => k == 0) b = true:=⟨_,rfl,by kernel_rfl,by kernel_rfl⟩
def K_spec_MakeSchool:List Nat:=[0,1,4,1004,2004,3004]
def C_spec_MakeSchool : C :=
 let ks:=K_spec_MakeSchool
 (.seq
  (.rg 0 [(none,.new 4 [.s (some true) [],.s (some true) [],.s (some true) []])])
  (.cl ks (.seq
  (.rg 0 [(none,.v 5 .mv [.s 0]),(none,.v 6 .mv [.s 1]),(none,.con 7 112 [.s 5,.s 6]),(none,.cop 8 111 [.s 7] 0),(none,.sts (.s 4) (.s 8) 3)])
  .ret)))
theorem chk_spec_MakeSchool:∃ b,Try.f32.body = some b ∧ chk Try.prog Try.f32.ntmps true C_spec_MakeSchool b = true:=⟨_,rfl,by kernel_rfl⟩
def K_impl_FilledPlaces:List Nat:=[0,1,2,4,1002,2002,3002]
def C_impl_FilledPlaces : C :=
 let ks:=K_impl_FilledPlaces
 (.seq
  (.rg 0 [(none,.v 2 .boxS [.s 0]),(none,.mkn 4)])
  (.cl ks (.seq
  (.seq
  (.rg 0 [(none,.v 5 (.lds 3) [.s 2]),(none,.v 6 .mv [.s 1]),(none,.co 7 42 [.s 5,.s 6]),(none,.v 8 .not [.s 7])])
  (.cond (.s 8)
  (.seq
  (.rg 0 [(none,.mkn 4)])
  .ret)
  .skip))
  (.cl ks (.seq
  (.rg 0 [(none,.v 9 (.lds 3) [.s 2]),(none,.v 10 .mv [.s 1]),(none,.co 11 91 [.s 9,.s 10]),(none,.tk 4 11)])
  .ret)))))
theorem chk_impl_FilledPlaces:∃ b,Try.f36.body = some b ∧ chk Try.prog Try.f36.ntmps true C_impl_FilledPlaces b = true:=⟨_,rfl,by kernel_rfl⟩
def K_laws_sum:List Nat:=[0,2,3,5,6,7,8]
def C_laws_sum : C :=
 let ks:=K_laws_sum
 (.seq
  (.rg 0 [(none,.v 2 .mv [.k (.i 0)])])
  (.cl ks (.seq
  (.rg 0 [(none,.v 3 .mv [.k (.i 0)])])
  (.cl ks (.seq
  (.seq
  (.rg 0 [(none,.v 6 .mv [.s 0]),(none,.v 7 .len [.s 6]),(none,.v 8 .mv [.k (.i 0)])])
  (.cl ks (.block 0
  (.loop
  (.seq
  (.rg 0 [(none,.v 9 (.bin .lss) [.s 8,.s 7])])
  (.seq
  (.cond (.s 9)
  .skip
  (.exit 0))
  (.cl ks (.seq
  (.block 1
  (.seq
  (.rg 0 [(none,.v 10 .idx [.s 6,.s 8]),(none,.v 11 .ld [.s 10]),(none,.tk 5 11)])
  (.cl ks (.rg 0 [(none,.v 12 .mv [.s 3]),(none,.v 13 .mv [.s 5]),(none,.v 14 (.bin .add) [.s 12,.s 13]),(none,.tk 3 14)]))))
  (.cl ks (.rg 0 [(none,.v 15 (.bin .add) [.s 8,.k (.i 1)]),(none,.v 8 .mv [.s 15])]))))))))))
  (.cl ks (.seq
  (.rg 0 [(none,.v 16 .mv [.s 3]),(none,.tk 2 16)])
  .ret)))))))
theorem chk_laws_sum:∃ b,Try.f41.body = some b ∧ chk Try.prog Try.f41.ntmps true C_laws_sum b = true:=⟨_,rfl,by kernel_rfl⟩
theorem spec_l21Draw_ok (u : Value) (nl : Option Bool) {l : List Int} (C : CodeL l) {p : Int × Int} (h : Cur l p) : ∃ (q : Int × Int) (x y : List (List Int)) (z : List Int), Cur l q ∧ schoolB x y z = true ∧ x.length ≤ 4 ∧ (∀ v ∈ z, 0 ≤ v ∧ v ≤ 2) ∧
  CallQ Try.prog 111 0 [.q (cur u nl l p) 0] (cur u nl l q) [(0,.ag 3),(200000,.own 1 none (rr x)),(201000,.own 1 none (rr y)),(202000,.own 1 none (ii z))]:=by
 obtain ⟨p1,n,hp1,n0,n3,W1⟩:=spec_l01Below_ok u nl C h (n:=4) (by omega) (by omega)
 obtain ⟨N,rfl⟩:∃ N:Nat,n = N:=⟨n.toNat,by omega⟩
 obtain ⟨p2,k,hp2,k0,k3,W2⟩:=spec_l01Below_ok u nl C hp1 (n:=3) (by omega) (by omega)
 obtain ⟨K,rfl⟩:∃ K:Nat,k = K:=⟨k.toNat,by omega⟩
 obtain ⟨F,R,F0,R0,FC,RL,RR,FltS⟩:=rows_ex u nl C hp2 (m:=K + 1) (by omega) (by omega)
 obtain ⟨G, G0, GS⟩ := iter_ex (α := {a : (Int × Int) × (List Int × Int) // Cur l a.1 ∧ rankB ((N + 1 : Nat) : Int) a.2.1 = true ∧ 0 ≤ a.2.2 ∧ a.2.2 ≤ 2}) (R := fun a b => ∃ q, CallQ Try.prog 125 0 [.q (cur u nl l a.1.1) 0, .i ((N + 1 : Nat) : Int)] (cur u nl l q) [(0, .own 1 none (ii b.1.2.1))] ∧ CallQ Try.prog 164 0 [.q (cur u nl l q) 0, .i 3] (cur u nl l b.1.1) [(0, .i b.1.2.2)]) (fun a => by
  obtain ⟨q,r,hq,hr,W⟩:=spec_l03Draw_ok u nl C a.2.1 (m:=N + 1) (by omega) (by omega)
  obtain ⟨q',v,hq',v0,v1,W'⟩:=spec_l01Below_ok u nl C hq (n:=3) (by omega) (by omega)
  exact ⟨⟨(q',r,v),hq',hr,v0,(show v ≤ 2 by omega)⟩,q,W,W'⟩) ⟨(F (N + 1),upto (N + 1),0),FC _,upto_rank (by omega) (by omega),(show (0:Int) ≤ 0 by omega),(show (0:Int) ≤ 2 by omega)⟩
 obtain ⟨Y,hY⟩:∃ Y:Nat → List (List Int),Y = fun k => (List.range k).map fun t => (G (t + 1)).1.2.1:=⟨_,rfl⟩
 obtain ⟨Z,hZ⟩:∃ Z:Nat → List Int,Z = fun k => (List.range k).map fun t => (G (t + 1)).1.2.2:=⟨_,rfl⟩
 have Ys:∀ k,Y (k + 1) = Y k ++ [(G (k + 1)).1.2.1]:=fun k => by rw [hY]; simp [List.range_succ]
 have Zs:∀ k,Z (k + 1) = Z k ++ [(G (k + 1)).1.2.2]:=fun k => by rw [hZ]; simp [List.range_succ]
 have Yl:∀ k,(Y k).length = k:=fun k => by rw [hY]; simp
 have Zl:∀ k,(Z k).length = k:=fun k => by rw [hZ]; simp
 have Yr : ∀ k, ∀ r ∈ Y k, rankB ((N + 1 : Nat) : Int) r = true := fun k r hr => by
  rw [hY] at hr
  obtain ⟨t,_,rfl⟩:=List.mem_map.1 hr
  exact (G (t + 1)).2.2.1
 have Zr : ∀ k, ∀ v ∈ Z k, 0 ≤ v ∧ v ≤ 2 := fun k v hv => by
  rw [hZ] at hv
  obtain ⟨t,_,rfl⟩:=List.mem_map.1 hv
  exact (G (t + 1)).2.2.2
 refine ⟨(G (K + 1)).1.1, R (N + 1), Y (K + 1), Z (K + 1), (G (K + 1)).2.1, ?_, by rw [RL]; omega, Zr _, ?_⟩
 ·simp only [schoolB,Bool.and_eq_true,inI,decide_eq_true_eq,ranksB,List.all_eq_true,RL,Yl,Zl]
  exact ⟨⟨⟨⟨⟨⟨by omega,by omega⟩,by omega,by omega⟩,RR _⟩,Yr _⟩,trivial⟩,fun v hv => by have:=Zr _ v hv; omega⟩
 have Y0:Y 0 = []:=by rw [hY]; rfl
 have Z0:Z 0 = []:=by rw [hZ]; rfl
 unfold cur at W1 W2 FltS GS ⊢
 obtain ⟨code0,hcd1,hcd2,hcd3⟩:=chk_spec_l21Draw; refine callQB_of Try.func111 hcd1 mo Try.call111 (z:=2) (ty:=28) (n:=3) (i:=0) (by kernel_rfl) (by kernel_rfl) hcd2 hcd3 (by rw [Try.ntmps111]; simp) (by simp) (by decide) rfl rfl (by simp) ?_; unfold C_spec_l21Draw K_spec_l21Draw; simp (maxSteps:=2000000) only [go_sem,Nat.reduceBEq,Nat.reduceAdd,Nat.reduceMul,Nat.reduceMod,Nat.reduceLT,Nat.reduceDiv,Nat.reduceSub,Nat.reduceLeDiff,Int.reduceToNat,Int.reduceLT,Int.reduceLE,reduceCtorEq]
 refine ⟨_,_,W1,?_⟩
 simp (maxSteps:=2000000) only [go_sem,Nat.reduceBEq,Nat.reduceAdd,Nat.reduceMul,Nat.reduceMod,Nat.reduceLT,Nat.reduceDiv,Nat.reduceSub,Nat.reduceLeDiff,Int.reduceToNat,Int.reduceLT,Int.reduceLE,reduceCtorEq,le_self]
 refine ⟨inR_of (by omega) (by omega),?_⟩
 refine ⟨_,_,W2,?_⟩
 simp (maxSteps:=2000000) only [go_sem,Nat.reduceBEq,Nat.reduceAdd,Nat.reduceMul,Nat.reduceMod,Nat.reduceLT,Nat.reduceDiv,Nat.reduceSub,Nat.reduceLeDiff,Int.reduceToNat,Int.reduceLT,Int.reduceLE,reduceCtorEq,le_self]
 refine ⟨inR_of (by omega) (by omega),?_⟩
 refine loopN (N + 1) (fun i => [(0,.bx 3),(2,.bx 3),(3,.i (N + 1:Nat)),(4,.i (K + 1:Nat)),(5,.bx 3),(6,.i (i:Nat)),(1000,.t .arg (.xv u (.s nl (byt l)))),(2000,.i (F i).1),(3000,.i (F i).2),(1002,.t .fr (.s (some true) [])),(2002,.t .fr (.s (some true) [])),(3002,.t .fr (.s (some true) [])),(1005,.own 1 none (rr (R i))),(2005,.own 1 none []),(3005,.own 1 none [])]) (fun _ => True) ⟨trivial,by simp (maxSteps:=2000000) only [go_sem,Nat.reduceBEq,Nat.reduceAdd,Nat.reduceMul,Nat.reduceMod,Nat.reduceLT,Nat.reduceDiv,Nat.reduceSub,Nat.reduceLeDiff,Int.reduceToNat,Int.reduceLT,Int.reduceLE,reduceCtorEq,le_self]; simp [R0,F0]; omega⟩ fun i hi _ => ?_
 simp (maxSteps:=2000000) only [go_sem,Nat.reduceBEq,Nat.reduceAdd,Nat.reduceMul,Nat.reduceMod,Nat.reduceLT,Nat.reduceDiv,Nat.reduceSub,Nat.reduceLeDiff,Int.reduceToNat,Int.reduceLT,Int.reduceLE,reduceCtorEq,le_self]
 refine ⟨fun hlt => ?_, fun hge => ?_⟩
 ·obtain ⟨r,e,W⟩:=FltS i
  refine ⟨_,_,W,?_⟩
  simp (maxSteps:=2000000) only [go_sem,Nat.reduceBEq,Nat.reduceAdd,Nat.reduceMul,Nat.reduceMod,Nat.reduceLT,Nat.reduceDiv,Nat.reduceSub,Nat.reduceLeDiff,Int.reduceToNat,Int.reduceLT,Int.reduceLE,reduceCtorEq,le_self]
  exact ⟨by simp,by rw [RL]; omega,inR_of (by omega) (by omega),by omega,by simp,e.symm⟩
 ·have:i = N + 1:=by omega
  subst this
  refine loopN (K + 1) (fun i => [(0,.bx 3),(2,.bx 3),(3,.i (N + 1:Nat)),(4,.i (K + 1:Nat)),(5,.bx 3),(7,.i (i:Nat)),(1000,.t .arg (.xv u (.s nl (byt l)))),(2000,.i (G i).1.1.1),(3000,.i (G i).1.1.2),(1002,.t .fr (.s (some true) [])),(2002,.t .fr (.s (some true) [])),(3002,.t .fr (.s (some true) [])),(1005,.own 1 none (rr (R (N + 1)))),(2005,.own 1 none (rr (Y i))),(3005,.own 1 none (ii (Z i)))]) (fun _ => True) ⟨trivial,by simp (maxSteps:=2000000) only [go_sem,Nat.reduceBEq,Nat.reduceAdd,Nat.reduceMul,Nat.reduceMod,Nat.reduceLT,Nat.reduceDiv,Nat.reduceSub,Nat.reduceLeDiff,Int.reduceToNat,Int.reduceLT,Int.reduceLE,reduceCtorEq,le_self]; simp [Y0,Z0,G0]; try omega⟩ fun i hi _ => ?_
  simp (maxSteps:=2000000) only [go_sem,Nat.reduceBEq,Nat.reduceAdd,Nat.reduceMul,Nat.reduceMod,Nat.reduceLT,Nat.reduceDiv,Nat.reduceSub,Nat.reduceLeDiff,Int.reduceToNat,Int.reduceLT,Int.reduceLE,reduceCtorEq,le_self]
  refine ⟨fun hlt => ?_, fun hge => ?_⟩
  ·obtain ⟨q,Wa,Wb⟩:=GS i
   refine ⟨_,_,Wa,?_⟩
   simp (maxSteps:=2000000) only [go_sem,Nat.reduceBEq,Nat.reduceAdd,Nat.reduceMul,Nat.reduceMod,Nat.reduceLT,Nat.reduceDiv,Nat.reduceSub,Nat.reduceLeDiff,Int.reduceToNat,Int.reduceLT,Int.reduceLE,reduceCtorEq,le_self]
   refine ⟨by simp,by rw [Yl]; omega,?_⟩
   refine ⟨_,_,Wb,?_⟩
   simp (maxSteps:=2000000) only [go_sem,Nat.reduceBEq,Nat.reduceAdd,Nat.reduceMul,Nat.reduceMod,Nat.reduceLT,Nat.reduceDiv,Nat.reduceSub,Nat.reduceLeDiff,Int.reduceToNat,Int.reduceLT,Int.reduceLE,reduceCtorEq,le_self]
   exact ⟨by rw [Zl]; omega,inR_of (by omega) (by omega),by omega,by simp,(Ys i).symm,(Zs i).symm⟩
  ·have:i = K + 1:=by omega
   subst this
   exact ⟨by omega,⟨rfl,rfl⟩,Vc.T.le_refl _,rfl,rfl⟩
theorem spec_MakeSchool_ok (u : Value) (nl : Option Bool) {l : List Int} (C : CodeL l) {n : Int} (h0 : 0 ≤ n) (h1000 : n ≤ 1000) : ∃ (x y : List (List Int)) (z : List Int), schoolB x y z = true ∧ x.length ≤ 4 ∧ (∀ v ∈ z, 0 ≤ v ∧ v ≤ 2) ∧ CallOk Try.prog 32 [.xv u (.s nl (byt l)), .i n] [(0, .ag 3), (200000, .own 1 none (rr x)), (201000, .own 1 none (rr y)), (202000, .own 1 none (ii z))] := by
 obtain ⟨p,hp,W⟩:=spec_l32New_ok u nl C h0 h1000
 obtain ⟨q,x,y,z,hq,hs,hx,hz,W1⟩:=spec_l21Draw_ok u nl C hp
 refine ⟨x,y,z,hs,hx,hz,?_⟩
 unfold cur at W W1
 obtain ⟨code0,hcd1,hcd2⟩:=chk_spec_MakeSchool; refine callB_of Try.func32 hcd1 mo Try.call32 (z:=4) (ty:=28) (n:=3) (by kernel_rfl) (by kernel_rfl) hcd2 (by rw [Try.ntmps32]; simp) (by simp) (by decide) ?_; unfold C_spec_MakeSchool K_spec_MakeSchool; simp (maxSteps:=2000000) only [go_sem,Nat.reduceBEq,Nat.reduceAdd,Nat.reduceMul,Nat.reduceMod,Nat.reduceLT,Nat.reduceDiv,Nat.reduceSub,Nat.reduceLeDiff,Int.reduceToNat,Int.reduceLT,Int.reduceLE,reduceCtorEq]
 refine ⟨_,W,?_⟩
 simp (maxSteps:=2000000) only [go_sem,Nat.reduceBEq,Nat.reduceAdd,Nat.reduceMul,Nat.reduceMod,Nat.reduceLT,Nat.reduceDiv,Nat.reduceSub,Nat.reduceLeDiff,Int.reduceToNat,Int.reduceLT,Int.reduceLE,reduceCtorEq,le_self]
 refine ⟨_,_,W1,?_⟩
 simp (maxSteps:=2000000) only [go_sem,Nat.reduceBEq,Nat.reduceAdd,Nat.reduceMul,Nat.reduceMod,Nat.reduceLT,Nat.reduceDiv,Nat.reduceSub,Nat.reduceLeDiff,Int.reduceToNat,Int.reduceLT,Int.reduceLE,reduceCtorEq,le_self]
theorem impl_FilledPlaces_ok {n1 n2 n3 n4 : Option Bool} (x y : List (List Int)) (z l : List Int) (h : entryB x y z l = true) (hx : x.length ≤ 1048576) (kx : ∀ r ∈ x, r.length ≤ 1048576) (hy : y.length ≤ 1048576) (ky : ∀ r ∈ y, r.length ≤ 1048576) (hz : z.length ≤ 1048576) (hl : l.length ≤ 1048576) :
  CallOk Try.prog 36 [.a [.s n1 (rr x),.s n2 (rr y),.s n3 (ii z)],.s n4 (ii l)] [(0,.own 1 none (ii (filF y.length l)))]:=by
 obtain ⟨code0,hcd1,hcd2⟩:=chk_impl_FilledPlaces; refine callOk_of Try.func36 hcd1 mo Try.call36 (rs:=[4]) (by kernel_rfl) hcd2 (by rw [Try.ntmps36]; simp) (by simp) (by decide) ?_; unfold C_impl_FilledPlaces K_impl_FilledPlaces; simp (maxSteps:=2000000) only [go_sem,Nat.reduceBEq,Nat.reduceAdd,Nat.reduceMul,Nat.reduceMod,Nat.reduceLT,Nat.reduceDiv,Nat.reduceSub,Nat.reduceLeDiff,Int.reduceToNat,Int.reduceLT,Int.reduceLE,reduceCtorEq]
 obtain ⟨_,_,hb⟩:=entry_in h
 refine ⟨_,impl_EntryOk_ok x y z l hx kx hy ky hz hl,?_⟩; simp (maxSteps:=2000000) only [go_sem,Nat.reduceBEq,Nat.reduceAdd,Nat.reduceMul,Nat.reduceMod,Nat.reduceLT,Nat.reduceDiv,Nat.reduceSub,Nat.reduceLeDiff,Int.reduceToNat,Int.reduceLT,Int.reduceLE,reduceCtorEq]
 refine ⟨fun h1 => absurd (h.symm.trans h1) (by simp),fun _ => ?_⟩
 refine ⟨_,impl_School_filled_ok x y z l hy hl (fun i hi => (hb i hi).2),?_⟩; simp (maxSteps:=2000000) only [go_sem,Nat.reduceBEq,Nat.reduceAdd,Nat.reduceMul,Nat.reduceMod,Nat.reduceLT,Nat.reduceDiv,Nat.reduceSub,Nat.reduceLeDiff,Int.reduceToNat,Int.reduceLT,Int.reduceLE,reduceCtorEq]
 rfl
theorem sum_take {l : List Int} (hb : ∀ v ∈ l, 0 ≤ v ∧ v ≤ 1000) : ∀ {j : Nat}, j ≤ l.length → 0 ≤ (l.take j).sum ∧ (l.take j).sum ≤ 1000 * j
 | 0,_ => by simp
 | j + 1, hj => by
  have ih:=sum_take hb (j:=j) (by omega)
  have:=hb _ (getD_mem (d:=0) (show j < l.length by omega))
  rw [take_getD 0 (show j < l.length by omega),List.sum_append]
  simp only [List.sum_cons,List.sum_nil]
  omega
theorem laws_sum_ok {n1 : Option Bool} (l : List Int) (hl : l.length ≤ 1048576) (hb : ∀ v ∈ l, 0 ≤ v ∧ v ≤ 1000) : CallOk Try.prog 41 [.s n1 (ii l)] [(0, .i l.sum)] := by
 obtain ⟨code0,hcd1,hcd2⟩:=chk_laws_sum; refine callOk_of Try.func41 hcd1 mo Try.call41 (rs:=[2]) (by kernel_rfl) hcd2 (by rw [Try.ntmps41]; simp) (by simp) (by decide) ?_; unfold C_laws_sum K_laws_sum; simp (maxSteps:=2000000) only [go_sem,Nat.reduceBEq,Nat.reduceAdd,Nat.reduceMul,Nat.reduceMod,Nat.reduceLT,Nat.reduceDiv,Nat.reduceSub,Nat.reduceLeDiff,Int.reduceToNat,Int.reduceLT,Int.reduceLE,reduceCtorEq]
 refine loopN l.length (fun j => [(0,.t .arg (.s n1 (ii l))),(3,.i (l.take j).sum),(6,.t .arg (.s n1 (ii l))),(7,.i l.length),(8,.i (j:Nat))]) (fun _ => True) ⟨trivial,by simp (maxSteps:=2000000) only [go_sem,Nat.reduceBEq,Nat.reduceAdd,Nat.reduceMul,Nat.reduceMod,Nat.reduceLT,Nat.reduceDiv,Nat.reduceSub,Nat.reduceLeDiff,Int.reduceToNat,Int.reduceLT,Int.reduceLE,reduceCtorEq]; simp⟩ fun j hj _ => ?_
 simp (maxSteps:=2000000) only [go_sem,Nat.reduceBEq,Nat.reduceAdd,Nat.reduceMul,Nat.reduceMod,Nat.reduceLT,Nat.reduceDiv,Nat.reduceSub,Nat.reduceLeDiff,Int.reduceToNat,Int.reduceLT,Int.reduceLE,reduceCtorEq]
 refine ⟨fun hlt => ?_, fun hge => ?_⟩
 ·have hj':j < l.length:=by omega
  have h1:=sum_take hb (j:=j) hj
  have h2:=sum_take hb (j:=j + 1) hj'
  have e:(l.take (j + 1)).sum = (l.take j).sum + l.getD j 0:=by rw [take_getD 0 hj',List.sum_append]; simp
  rw [e] at h2 ⊢
  exact ⟨by omega,hj',hj',inR_of (by omega) (by omega),inR_of (by omega) (by omega),hj',rfl,by simp⟩
 ·have:j = l.length:=by omega
  subst this
  rw [List.take_length]
end Go.Proofs.Ytgdpplhbblapgaa
