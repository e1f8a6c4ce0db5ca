/- Own work: contracts of functions. No condition beyond those that each theorem names. -/
import Derived.Test.YtgdpplhbblapgaaProg
import Derived.Test.YtgdpplhbblapgaaCollege
import Derived.Test.YtgdpplhbblapgaaEnum0
import Derived.Test.YtgdpplhbblapgaaClone
namespace Go.Proofs.Ytgdpplhbblapgaa
open Go Go.Vc
set_option maxRecDepth 100000
set_option linter.unusedSimpArgs false
set_option linter.unusedVariables false
def K_impl_IsStableEntry:List Nat:=[0,1,2,4,1002,2002,3002]
def C_impl_IsStableEntry : C :=
 let ks:=K_impl_IsStableEntry
 (.seq
  (.rg 0 [(none,.v 2 .boxS [.s 0]),(none,.v 4 .mv [.k (.b false)])])
  (.cl ks (.seq
  (.rg 0 [(none,.v 5 (.lds 3) [.s 2]),(none,.v 6 .mv [.s 1]),(none,.co 7 42 [.s 5,.s 6]),(none,.v 8 .mv [.s 7]),(some (8,true),.v 9 (.lds 3) [.s 2]),(some (8,true),.v 10 .mv [.s 1]),(some (8,true),.co 11 115 [.s 9,.s 10]),(some (8,true),.v 12 .len [.s 11]),(some (8,true),.v 13 (.bin .eql) [.s 12,.k (.i 0)]),(none,.v 14 .pick [.s 8,.s 13,.k (.b false)]),(none,.tk 4 14)])
  .ret)))
theorem chk_impl_IsStableEntry:∃ b,Try.f35.body = some b ∧ chk Try.prog Try.f35.ntmps true C_impl_IsStableEntry b = true:=⟨_,rfl,by kernel_rfl⟩
def stEB (x y:List (List Int)) (z l:List Int):Bool:=entryB x y z l && decide ((prI (blkB x y z l) y.length x.length).length = 0)
theorem impl_IsStableEntry_ok {n1 n2 n3 n4 : Option Bool} (x y : List (List Int)) (z l : List Int) (hx : x.length ≤ 1048576) (kx : ∀ r ∈ x, r.length ≤ 1048576) (hy : y.length ≤ 1048576) (ky : ∀ r ∈ y, r.length ≤ 1048576) (hz : z.length ≤ 1048576) (hl : l.length ≤ 1048576) :
  CallOk Try.prog 35 [.a [.s n1 (rr x),.s n2 (rr y),.s n3 (ii z)],.s n4 (ii l)] [(0,.b (stEB x y z l))]:=by
 obtain ⟨code0,hcd1,hcd2⟩:=chk_impl_IsStableEntry; refine callOk_of Try.func35 hcd1 mo Try.call35 (rs:=[4]) (by kernel_rfl) hcd2 (by rw [Try.ntmps35]; simp) (by simp) (by decide) ?_; unfold C_impl_IsStableEntry K_impl_IsStableEntry; simp (maxSteps:=2000000) only [go_sem,Nat.reduceBEq,Nat.reduceAdd,Nat.reduceMul,Nat.reduceMod,Nat.reduceLT,Nat.reduceDiv,Nat.reduceSub,Nat.reduceLeDiff,Int.reduceToNat,Int.reduceLT,Int.reduceLE,reduceCtorEq]
 refine ⟨_,impl_EntryOk_ok x y z l hx kx hy ky hz hl,?_⟩; simp (maxSteps:=2000000) only [go_sem,Nat.reduceBEq,Nat.reduceAdd,Nat.reduceMul,Nat.reduceMod,Nat.reduceLT,Nat.reduceDiv,Nat.reduceSub,Nat.reduceLeDiff,Int.reduceToNat,Int.reduceLT,Int.reduceLE,reduceCtorEq]
 refine ⟨fun h0 => ?_,fun h0 => by simp [stEB,h0]⟩
 refine ⟨_,impl_blocks_ok x y z l h0,?_⟩; simp (maxSteps:=2000000) only [go_sem,Nat.reduceBEq,Nat.reduceAdd,Nat.reduceMul,Nat.reduceMod,Nat.reduceLT,Nat.reduceDiv,Nat.reduceSub,Nat.reduceLeDiff,Int.reduceToNat,Int.reduceLT,Int.reduceLE,reduceCtorEq]
 simp [stEB,h0]
def selG (p : List Int → Bool) (f : Nat → List Int) : Nat → List (List Int)
 | 0 => []
 | n + 1 => selG p f n ++ if p (f n) = true then [f n] else []
theorem selG_len {p : List Int → Bool} {f : Nat → List Int} : ∀ {n : Nat}, (selG p f n).length ≤ n
 | 0 => by simp [selG]
 | n + 1 => by
  have:=selG_len (p:=p) (f:=f) (n:=n)
  simp only [selG,List.length_append]; split <;> simp <;> omega
def steF (x y:List (List Int)) (z:List Int):List (List Int):=if schoolB x y z = true then selG (stEB x y z) (fun j => sn (-1) (y.length + 1) x.length j) ((y.length + 1) ^ x.length) else []
theorem pow_ste {x y : List (List Int)} {z : List Int} (S : Sc x y z x.length y.length) : (y.length + 1) ^ x.length ≤ 1024 := by
 have h1:=S.n5
 have h2:=S.c3
 exact Nat.le_trans (Nat.pow_le_pow_left (m:=4) (by omega) _) (Nat.pow_le_pow_right (n:=4) (by omega) h1)
def K_impl_StableEntries:List Nat:=[0,1,2,3,4,15,16,1001,2001,3001,1003]
def C_impl_StableEntries_p0 : C :=
 let ks:=K_impl_StableEntries
 (.cl ks (.rg 0 [(none,.v 1 .boxS [.s 0]),(none,.mkn 2)]))
def C_impl_StableEntries_p1 : C :=
 let ks:=K_impl_StableEntries
 (.cl ks (.seq
  (.rg 0 [(none,.v 5 (.lds 3) [.s 1]),(none,.co 6 86 [.s 5]),(none,.v 7 .not [.s 6])])
  (.cond (.s 7)
  (.seq
  (.rg 0 [(none,.mkn 2)])
  .ret)
  .skip)))
def C_impl_StableEntries_p2 : C :=
 let ks:=K_impl_StableEntries
 (.cl ks (.rg 0 [(none,.new 3 [.s (some true) []])]))
def C_impl_StableEntries_c4 : C :=
 let ks:=K_impl_StableEntries
 (.cl ks (.rg 0 [(none,.onl 1003),(none,.v 8 (.fa 0) [.s 1]),(none,.v 9 .ld [.s 8]),(none,.v 10 .len [.s 9]),(none,.v 11 (.fa 1) [.s 1]),(none,.v 12 .ld [.s 11]),(none,.v 13 .len [.s 12]),(none,.v 14 (.bin .sub) [.s 13,.k (.i 1)]),(none,.co 15 113 [.s 10,.k (.i (-1)),.s 14])]))
def C_impl_StableEntries_ca : C :=
 let ks:=K_impl_StableEntries
 (.cl ks (.rg 0 [(none,.v 4 .mv [.s 16])]))
def C_impl_StableEntries_cb : C :=
 let ks:=K_impl_StableEntries
 (.cl ks (.block 1
  (.seq
  (.rg 0 [(none,.v 17 (.lds 3) [.s 1]),(none,.v 18 .mv [.s 4]),(none,.co 19 35 [.s 17,.s 18])])
  (.cond (.s 19)
  (.rgE 3 1 [(none,.v 20 .ld [.s 3]),(none,.v 21 .mv [.s 4]),(none,.v 22 (.callO 114 522999) [.s 21])] [(none,.tkr 22),(none,.lit 23 [.s 22] 1)] [(none,.app 24 (.s 20) (.s 23) 1),(none,.st (.s 3) (.s 24))])
  .skip))))
def C_impl_StableEntries_cp : C :=
 let ks:=K_impl_StableEntries
 (.cl ks (.seq
  (.rg 0 [(none,.v 25 .ld [.s 3]),(none,.tk 2 25)])
  .ret))
def D_impl_StableEntries:Nat → Bool:=fun d => d == 0 || d == 1 || d == 2 || d == 3 || d == 15 || d == 16
theorem chkS_impl_StableEntries:∃ b,Try.f33.body = some b ∧ chkS Try.prog Try.f33.ntmps 15 16 D_impl_StableEntries C_impl_StableEntries_c4 C_impl_StableEntries_ca C_impl_StableEntries_cb C_impl_StableEntries_cp [C_impl_StableEntries_p0,C_impl_StableEntries_p1,C_impl_StableEntries_p2] b = true:=⟨_,rfl,by kernel_rfl⟩
theorem impl_StableEntries_ok {n1 n2 n3 : Option Bool} (x y : List (List Int)) (z : List Int) (hx : x.length ≤ 1048576) (kx : ∀ r ∈ x, r.length ≤ 1048576) (hy : y.length ≤ 1048576) (ky : ∀ r ∈ y, r.length ≤ 1048576) (hz : z.length ≤ 1048576) :
  CallOk Try.prog 33 [.a [.s n1 (rr x),.s n2 (rr y),.s n3 (ii z)]] [(0,.own 1 none (rr (steF x y z)))]:=by
 obtain ⟨code0,hcd1,hcd2⟩:=chkS_impl_StableEntries; obtain ⟨codeI,hci1,hci2⟩:=chkIt_impl_lists_1; refine callOk_rf (m:=3) (y:=5) (t:=16) (g:=15) Try.func33 hcd1 mo Try.call33 (rs:=[2]) (by kernel_rfl) hcd2 (by rw [Try.ntmps33]; simp) (by simp) (by decide) Try.func166 hci1 Try.call166 (by kernel_rfl) hci2 (by decide) (by decide) (by rw [Try.ntmps166]; decide) (by decide) (by rw [Try.ntmps33]; decide) (by decide) (by decide) (by kernel_rfl) ?_; unfold C_impl_StableEntries_p0 C_impl_StableEntries_p1 C_impl_StableEntries_p2 C_impl_StableEntries_c4 K_impl_StableEntries; simp (maxSteps:=2000000) only [go_sem,Nat.reduceBEq,Nat.reduceAdd,Nat.reduceMul,Nat.reduceMod,Nat.reduceLT,Nat.reduceDiv,Nat.reduceSub,Nat.reduceLeDiff,Int.reduceToNat,Int.reduceLT,Int.reduceLE,reduceCtorEq]
 refine ⟨_,impl_SchoolOk_ok x y z hx kx hy ky hz,?_⟩; simp (maxSteps:=2000000) only [go_sem,Nat.reduceBEq,Nat.reduceAdd,Nat.reduceMul,Nat.reduceMod,Nat.reduceLT,Nat.reduceDiv,Nat.reduceSub,Nat.reduceLeDiff,Int.reduceToNat,Int.reduceLT,Int.reduceLE,reduceCtorEq]
 refine ⟨fun h0 => by simp [steF,h0,rr],fun h0 => ?_⟩
 have S:=sc_of h0
 have hb:=pow_ste S
 have hF:steF x y z = selG (stEB x y z) (fun j => sn (-1) (y.length + 1) x.length j) ((y.length + 1) ^ x.length):=if_pos h0
 rw [hF]
 have n5':=S.n5
 have n1':=S.n1
 have c3':=S.c3
 refine ⟨inR_of (by omega) (by omega),?_⟩
 refine ⟨_,impl_lists_ok x.length (-1) (y.length - 1),?_⟩; simp (maxSteps:=2000000) only [go_sem,Nat.reduceBEq,Nat.reduceAdd,Nat.reduceMul,Nat.reduceMod,Nat.reduceLT,Nat.reduceDiv,Nat.reduceSub,Nat.reduceLeDiff,Int.reduceToNat,Int.reduceLT,Int.reduceLE,reduceCtorEq]
 refine ⟨(y.length + 1) ^ x.length, x.length, fun j => ii (sn (-1) (y.length + 1) x.length j), fun j => [(0, .t .arg (.a [.s n1 (rr x), .s n2 (rr y), .s n3 (ii z)])), (1, .t .arg (.q [.s n1 (rr x), .s n2 (rr y), .s n3 (ii z)] 0)), (3, .bx 1), (15, .t .arg (.c 166 (capT (-1) x.length (y.length - 1)))), (1003, .own 1 none (rr (selG (stEB x y z) (fun j => sn (-1) (y.length + 1) x.length j) j)))], capT (-1) x.length (y.length - 1), Nat.pow_pos (by omega), rfl, ?_, fun j hj => ⟨by kernel_rfl, rfl⟩, fun j hj => ⟨by rw [scalL_ii]; trivial, ii_ne (by rw [sn_len]; omega), by simp [ii, sn_len]⟩, itA (by omega) (by omega), fun j hj => itB (by omega) (by omega) (by omega) rfl hj (by omega) (by omega), fun j hj => ?_, ?_⟩
 ·simp (maxSteps:=2000000) only [go_sem,Nat.reduceBEq,Nat.reduceAdd,Nat.reduceMul,Nat.reduceMod,Nat.reduceLT,Nat.reduceDiv,Nat.reduceSub,Nat.reduceLeDiff,Int.reduceToNat,Int.reduceLT,Int.reduceLE,reduceCtorEq]
  rfl
 ·unfold C_impl_StableEntries_ca C_impl_StableEntries_cb K_impl_StableEntries; simp (maxSteps:=2000000) only [go_sem,Nat.reduceBEq,Nat.reduceAdd,Nat.reduceMul,Nat.reduceMod,Nat.reduceLT,Nat.reduceDiv,Nat.reduceSub,Nat.reduceLeDiff,Int.reduceToNat,Int.reduceLT,Int.reduceLE,reduceCtorEq]
  refine ⟨by kernel_rfl,?_⟩
  refine ⟨_,impl_IsStableEntry_ok x y z (sn (-1) (y.length + 1) x.length j) hx kx hy ky hz (by rw [sn_len]; omega),?_⟩; simp (maxSteps:=2000000) only [go_sem,Nat.reduceBEq,Nat.reduceAdd,Nat.reduceMul,Nat.reduceMod,Nat.reduceLT,Nat.reduceDiv,Nat.reduceSub,Nat.reduceLeDiff,Int.reduceToNat,Int.reduceLT,Int.reduceLE,reduceCtorEq]
  refine ⟨fun h => ?_, fun h => ?_⟩
  ·refine ⟨_,Clone_ok (sn (-1) (y.length + 1) x.length j) (by rw [sn_len]; omega) (by rw [sn_len]; omega),?_⟩; simp (maxSteps:=2000000) only [go_sem,Nat.reduceBEq,Nat.reduceAdd,Nat.reduceMul,Nat.reduceMod,Nat.reduceLT,Nat.reduceDiv,Nat.reduceSub,Nat.reduceLeDiff,Int.reduceToNat,Int.reduceLT,Int.reduceLE,reduceCtorEq]
   have e:selG (stEB x y z) (fun j => sn (-1) (y.length + 1) x.length j) (j + 1) = selG (stEB x y z) (fun j => sn (-1) (y.length + 1) x.length j) j ++ [sn (-1) (y.length + 1) x.length j]:=by simp [selG,h]
   have hle:=selG_len (p:=stEB x y z) (f:=fun j => sn (-1) (y.length + 1) x.length j) (n:=j)
   exact ⟨⟨by simp,by omega,e.symm⟩,by simp,by omega,e.symm⟩
  ·simp [selG,h]
 ·unfold C_impl_StableEntries_cp K_impl_StableEntries; simp (maxSteps:=2000000) only [go_sem,Nat.reduceBEq,Nat.reduceAdd,Nat.reduceMul,Nat.reduceMod,Nat.reduceLT,Nat.reduceDiv,Nat.reduceSub,Nat.reduceLeDiff,Int.reduceToNat,Int.reduceLT,Int.reduceLE,reduceCtorEq]
end Go.Proofs.Ytgdpplhbblapgaa
