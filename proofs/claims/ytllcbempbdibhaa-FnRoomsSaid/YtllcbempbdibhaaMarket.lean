/- Own work: contracts of functions. No condition beyond those that each theorem names. -/
import Derived.Test.YtllcbempbdibhaaProg
import Derived.Test.YtllcbempbdibhaaMarks
namespace Go.Proofs.Ytllcbempbdibhaa
open Go Go.Vc
set_option maxRecDepth 100000
set_option linter.unusedSimpArgs false
set_option linter.unusedVariables false
def K_laws_toMarket:List Nat:=[0,1,2,3,1001,2001,1002,2002,1003,2003]
def C_laws_toMarket : C :=
 let ks:=K_laws_toMarket
 (.seq
  (.rg 0 [(none,.v 1 .boxS [.s 0]),(none,.new 2 [.s (some true) [],.s (some true) []])])
  (.cl ks (.seq
  (.rg 0 [(none,.new 3 [.s (some true) [],.s (some true) []])])
  (.cl ks (.seq
  (.rg 0 [(none,.v 4 (.fa 0) [.s 1]),(none,.v 5 .ld [.s 4]),(none,.co 6 46 [.s 5]),(none,.v 7 (.fa 0) [.s 3]),(none,.st (.s 7) (.s 6))])
  (.cl ks (.seq
  (.rg 0 [(none,.v 8 (.fa 1) [.s 1]),(none,.v 9 .ld [.s 8]),(none,.co 10 46 [.s 9]),(none,.v 11 (.fa 1) [.s 3]),(none,.st (.s 11) (.s 10))])
  (.cl ks (.seq
  (.rg 0 [(none,.v 12 (.lds 2) [.s 3]),(none,.sts (.s 2) (.s 12) 2)])
  .ret)))))))))
theorem chk_laws_toMarket:∃ b,Try.f8.body = some b ∧ chk Try.prog Try.f8.ntmps true C_laws_toMarket b = true:=⟨_,rfl,by kernel_rfl⟩
def K_laws_szMarket:List Nat:=[0,1,2,4,1002,2002]
def C_laws_szMarket : C :=
 let ks:=K_laws_szMarket
 (.seq
  (.rg 0 [(none,.v 2 .boxS [.s 0]),(none,.v 4 .mv [.k (.i 0)])])
  (.cl ks (.seq
  (.rg 0 [(none,.v 5 (.fa 0) [.s 2]),(none,.v 6 .ld [.s 5]),(none,.v 7 .mv [.s 1]),(none,.co 8 43 [.s 6,.s 7]),(none,.tk 1 8)])
  (.cl ks (.seq
  (.seq
  (.rg 0 [(none,.v 9 .mv [.s 1]),(none,.v 10 (.bin .lss) [.s 9,.k (.i 0)])])
  (.cond (.s 10)
  (.seq
  (.rg 0 [(none,.v 4 .mv [.k (.i (-1))])])
  .ret)
  .skip))
  (.cl ks (.seq
  (.rg 0 [(none,.v 11 (.fa 1) [.s 2]),(none,.v 12 .ld [.s 11]),(none,.v 13 .mv [.s 1]),(none,.co 14 43 [.s 12,.s 13]),(none,.tk 1 14)])
  (.cl ks (.seq
  (.seq
  (.rg 0 [(none,.v 15 .mv [.s 1]),(none,.v 16 (.bin .lss) [.s 15,.k (.i 0)])])
  (.cond (.s 16)
  (.seq
  (.rg 0 [(none,.v 4 .mv [.k (.i (-1))])])
  .ret)
  .skip))
  (.cl ks (.seq
  (.rg 0 [(none,.v 17 .mv [.s 1]),(none,.tk 4 17)])
  .ret)))))))))))
theorem chk_laws_szMarket:∃ b,Try.f6.body = some b ∧ chk Try.prog Try.f6.ntmps true C_laws_szMarket b = true:=⟨_,rfl,by kernel_rfl⟩
def K_laws_eqMarket:List Nat:=[0,1,2,3,4,1002,2002,1003,2003]
def C_laws_eqMarket : C :=
 let ks:=K_laws_eqMarket
 (.seq
  (.rg 0 [(none,.v 2 .boxS [.s 0]),(none,.v 3 .boxS [.s 1]),(none,.v 4 .mv [.k (.b false)])])
  (.cl ks (.seq
  (.seq
  (.rg 0 [(none,.v 5 (.fa 0) [.s 2]),(none,.v 6 .ld [.s 5]),(none,.v 7 (.fa 0) [.s 3]),(none,.v 8 .ld [.s 7]),(none,.co 9 51 [.s 6,.s 8]),(none,.v 10 .not [.s 9])])
  (.cond (.s 10)
  (.seq
  (.rg 0 [(none,.v 4 .mv [.k (.b false)])])
  .ret)
  .skip))
  (.cl ks (.seq
  (.seq
  (.rg 0 [(none,.v 11 (.fa 1) [.s 2]),(none,.v 12 .ld [.s 11]),(none,.v 13 (.fa 1) [.s 3]),(none,.v 14 .ld [.s 13]),(none,.co 15 51 [.s 12,.s 14]),(none,.v 16 .not [.s 15])])
  (.cond (.s 16)
  (.seq
  (.rg 0 [(none,.v 4 .mv [.k (.b false)])])
  .ret)
  .skip))
  (.cl ks (.seq
  (.rg 0 [(none,.v 4 .mv [.k (.b true)])])
  .ret)))))))
theorem chk_laws_eqMarket:∃ b,Try.f11.body = some b ∧ chk Try.prog Try.f11.ntmps true C_laws_eqMarket b = true:=⟨_,rfl,by kernel_rfl⟩
def K_laws_markMarket:List Nat:=[0,1,2,4,1002,2002]
def C_laws_markMarket : C :=
 let ks:=K_laws_markMarket
 (.seq
  (.rg 0 [(none,.box 2 (.s 0)),(none,.v 4 .mv [.k (.i 0)])])
  (.cl ks (.seq
  (.rg 0 [(none,.v 5 (.fa 0) [.s 2]),(none,.v 6 .ld [.s 5]),(none,.v 7 .mv [.s 1]),(none,.cox (some 8) 52 [.s 6,.s 7] 0),(none,.tk 1 8)])
  (.cl ks (.seq
  (.rg 0 [(none,.v 9 (.fa 1) [.s 2]),(none,.v 10 .ld [.s 9]),(none,.v 11 .mv [.s 1]),(none,.cox (some 12) 52 [.s 10,.s 11] 0),(none,.tk 1 12)])
  (.cl ks (.seq
  (.rg 0 [(none,.v 13 .mv [.s 1]),(none,.tk 4 13)])
  .ret)))))))
theorem chk_laws_markMarket:∃ b,Try.f12.body = some b ∧ chk Try.prog Try.f12.ntmps false C_laws_markMarket b = true:=⟨_,rfl,by kernel_rfl⟩
theorem toMarket_ok (x y : List (List Int)) (hx : x.length ≤ 1048576) (kx : ∀ r ∈ x, r.length ≤ 1048576) (hy : y.length ≤ 1048576) (ky : ∀ r ∈ y, r.length ≤ 1048576) :
  CallOk Try.prog 8 [.a [.s none (rr x),.s none (rr y)]] [(0,.ag 2),(200000,.own 1 none (rr x)),(201000,.own 1 none (rr y))]:=by
 obtain ⟨code0,hcd1,hcd2⟩:=chk_laws_toMarket; refine callB_of Try.func8 hcd1 mo Try.call8 (z:=2) (ty:=29) (n:=2) (by kernel_rfl) (by kernel_rfl) hcd2 (by rw [Try.ntmps8]; simp) (by simp) (by decide) ?_; unfold C_laws_toMarket K_laws_toMarket; simp (maxSteps:=2000000) only [go_sem,Nat.reduceBEq,Nat.reduceAdd,Nat.reduceMul,Nat.reduceMod,Nat.reduceLT,Nat.reduceDiv,Nat.reduceSub,Nat.reduceLeDiff,Int.reduceToNat,Int.reduceLT,Int.reduceLE,reduceCtorEq]
 refine ⟨_,toIntSS_ok none x hx kx,?_⟩; simp (maxSteps:=2000000) only [go_sem,Nat.reduceBEq,Nat.reduceAdd,Nat.reduceMul,Nat.reduceMod,Nat.reduceLT,Nat.reduceDiv,Nat.reduceSub,Nat.reduceLeDiff,Int.reduceToNat,Int.reduceLT,Int.reduceLE,reduceCtorEq]
 refine ⟨_,toIntSS_ok none y hy ky,?_⟩; simp (maxSteps:=2000000) only [go_sem,Nat.reduceBEq,Nat.reduceAdd,Nat.reduceMul,Nat.reduceMod,Nat.reduceLT,Nat.reduceDiv,Nat.reduceSub,Nat.reduceLeDiff,Int.reduceToNat,Int.reduceLT,Int.reduceLE,reduceCtorEq]
 decide
def szM (x y:List (List Int)) (left:Int):Int:=if szII x left < 0 then -1 else if szII y (szII x left) < 0 then -1 else szII y (szII x left)
theorem szII_bd {a : List (List Int)} {left : Int} (h1 : left ≤ 1048576) : szII a left ≤ 1048576 := by
 have key : ∀ (a : List (List Int)) (left : Int), left ≤ 1048576 → szIL a left ≤ 1048576 := by
  intro a
  induction a with
  | nil => intro left h; simpa [szIL] using h
  | cons r a ih =>
   intro left h
   simp only [szIL]
   have h2:=szI_bd (a:=r) h
   split
   ·omega
   ·exact ih _ h2
 unfold szII; split
 ·omega
 ·exact key _ _ (by omega)
theorem szMarket_ok (x y : List (List Int)) (left : Int) (h0 : 0 ≤ left) (h1 : left ≤ 1048576) (ax : x.length ≤ 9223372036854775807) (bx : ∀ r ∈ x, r.length ≤ 9223372036854775807) (ay : y.length ≤ 9223372036854775807) (bY : ∀ r ∈ y, r.length ≤ 9223372036854775807) :
  CallOk Try.prog 6 [.a [.s none (rr x),.s none (rr y)],.i left] [(0,.i (szM x y left))]:=by
 obtain ⟨code0,hcd1,hcd2⟩:=chk_laws_szMarket; refine callOk_of Try.func6 hcd1 mo Try.call6 (rs:=[4]) (by kernel_rfl) hcd2 (by rw [Try.ntmps6]; simp) (by simp) (by decide) ?_; unfold C_laws_szMarket K_laws_szMarket; simp (maxSteps:=2000000) only [go_sem,Nat.reduceBEq,Nat.reduceAdd,Nat.reduceMul,Nat.reduceMod,Nat.reduceLT,Nat.reduceDiv,Nat.reduceSub,Nat.reduceLeDiff,Int.reduceToNat,Int.reduceLT,Int.reduceLE,reduceCtorEq]
 refine ⟨_,szIntSS_ok none x left h0 h1 ax bx,?_⟩; simp (maxSteps:=2000000) only [go_sem,Nat.reduceBEq,Nat.reduceAdd,Nat.reduceMul,Nat.reduceMod,Nat.reduceLT,Nat.reduceDiv,Nat.reduceSub,Nat.reduceLeDiff,Int.reduceToNat,Int.reduceLT,Int.reduceLE,reduceCtorEq]
 have h2:=szII_bd (a:=x) h1
 refine ⟨fun h => by simp [szM,h],fun h => ?_⟩
 refine ⟨_,szIntSS_ok none y (szII x left) (by omega) h2 ay bY,?_⟩; simp (maxSteps:=2000000) only [go_sem,Nat.reduceBEq,Nat.reduceAdd,Nat.reduceMul,Nat.reduceMod,Nat.reduceLT,Nat.reduceDiv,Nat.reduceSub,Nat.reduceLeDiff,Int.reduceToNat,Int.reduceLT,Int.reduceLE,reduceCtorEq]
 refine ⟨fun h3 => by simp [szM,h,h3],fun h3 => by simp [szM,h,h3]⟩
theorem szM_ok {x y : List (List Int)} {left : Int} (h1 : left ≤ 1048576) (h : ¬ szM x y left < 0) : ¬ szII x left < 0 ∧ ¬ szII y (szII x left) < 0 ∧ szII x left ≤ 1048576 := by
 unfold szM at h
 by_cases h2 : szII x left < 0
 ·rw [if_pos h2] at h; omega
 ·rw [if_neg h2] at h
  by_cases h3 : szII y (szII x left) < 0
  ·rw [if_pos h3] at h; omega
  ·exact ⟨h2,h3,szII_bd h1⟩
theorem eqMarket_ok {n1 n2 n3 n4 : Option Bool} (x y : List (List Int)) (hx : x.length ≤ 1048576) (kx : ∀ r ∈ x, r.length ≤ 1048576) (hy : y.length ≤ 1048576) (ky : ∀ r ∈ y, r.length ≤ 1048576) :
  CallOk Try.prog 11 [.a [.s n1 (rr x),.s n2 (rr y)],.a [.s n3 (rr x),.s n4 (rr y)]] [(0,.b true)]:=by
 obtain ⟨code0,hcd1,hcd2⟩:=chk_laws_eqMarket; refine callOk_of Try.func11 hcd1 mo Try.call11 (rs:=[4]) (by kernel_rfl) hcd2 (by rw [Try.ntmps11]; simp) (by simp) (by decide) ?_; unfold C_laws_eqMarket K_laws_eqMarket; simp (maxSteps:=2000000) only [go_sem,Nat.reduceBEq,Nat.reduceAdd,Nat.reduceMul,Nat.reduceMod,Nat.reduceLT,Nat.reduceDiv,Nat.reduceSub,Nat.reduceLeDiff,Int.reduceToNat,Int.reduceLT,Int.reduceLE,reduceCtorEq]
 refine ⟨_,eqIntSS_ok _ _ x x hx kx,?_⟩; simp (maxSteps:=2000000) only [go_sem,Nat.reduceBEq,Nat.reduceAdd,Nat.reduceMul,Nat.reduceMod,Nat.reduceLT,Nat.reduceDiv,Nat.reduceSub,Nat.reduceLeDiff,Int.reduceToNat,Int.reduceLT,Int.reduceLE,reduceCtorEq]
 refine ⟨_,eqIntSS_ok _ _ y y hy ky,?_⟩; simp (maxSteps:=2000000) only [go_sem,Nat.reduceBEq,Nat.reduceAdd,Nat.reduceMul,Nat.reduceMod,Nat.reduceLT,Nat.reduceDiv,Nat.reduceSub,Nat.reduceLeDiff,Int.reduceToNat,Int.reduceLT,Int.reduceLE,reduceCtorEq]
 done
theorem markMarket_ok {n1 n2 : Option Bool} (x y : List (List Int)) (k : Int) (h0 : 0 ≤ k) (h1 : k + tot x + tot y ≤ 1000000000000000000) (hx : x.length ≤ 1048576) (kx : ∀ r ∈ x, r.length ≤ 1048576) (hy : y.length ≤ 1048576) (ky : ∀ r ∈ y, r.length ≤ 1048576) :
  CallA Try.prog 12 0 [.a [.s n1 (rr x),.s n2 (rr y)],.i k] (.i (k + tot x + tot y)):=by
 obtain ⟨code0,hcd1,hcd2⟩:=chk_laws_markMarket; refine callA_of Try.func12 hcd1 mo Try.call12 (rs:=[4]) (i:=0) (by kernel_rfl) hcd2 (by rw [Try.ntmps12]; simp) (by simp) (by decide) rfl ?_; unfold C_laws_markMarket K_laws_markMarket; simp (maxSteps:=2000000) only [go_sem,Nat.reduceBEq,Nat.reduceAdd,Nat.reduceMul,Nat.reduceMod,Nat.reduceLT,Nat.reduceDiv,Nat.reduceSub,Nat.reduceLeDiff,Int.reduceToNat,Int.reduceLT,Int.reduceLE,reduceCtorEq]
 refine ⟨_,_,_,markIntSS_ok _ x k h0 (by omega) hx kx,?_⟩; simp (maxSteps:=2000000) only [go_sem,Nat.reduceBEq,Nat.reduceAdd,Nat.reduceMul,Nat.reduceMod,Nat.reduceLT,Nat.reduceDiv,Nat.reduceSub,Nat.reduceLeDiff,Int.reduceToNat,Int.reduceLT,Int.reduceLE,reduceCtorEq]
 refine ⟨_,_,_,markIntSS_ok _ y _ (by omega) (by omega) hy ky,?_⟩; simp (maxSteps:=2000000) only [go_sem,Nat.reduceBEq,Nat.reduceAdd,Nat.reduceMul,Nat.reduceMod,Nat.reduceLT,Nat.reduceDiv,Nat.reduceSub,Nat.reduceLeDiff,Int.reduceToNat,Int.reduceLT,Int.reduceLE,reduceCtorEq]
 done
end Go.Proofs.Ytllcbempbdibhaa
