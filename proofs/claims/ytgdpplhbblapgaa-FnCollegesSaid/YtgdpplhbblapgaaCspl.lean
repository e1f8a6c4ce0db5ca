/- Own work: contracts of functions. No condition beyond those that each theorem names. -/
import Derived.Test.YtgdpplhbblapgaaProg
import Derived.Test.YtgdpplhbblapgaaColf
import Derived.Test.YtgdpplhbblapgaaClone
namespace Go.Proofs.Ytgdpplhbblapgaa
open Go Go.Vc
set_option maxRecDepth 100000
set_option linter.unusedSimpArgs false
set_option linter.unusedVariables false
def K_impl_sumOf:List Nat:=[0,2,3,5,6,7,8]
def C_impl_sumOf : C :=
 let ks:=K_impl_sumOf
 (.seq
  (.rg 0 [(none,.v 2 .mv [.k (.i 0)])])
  (.cl ks (.seq
  (.rg 0 [(none,.v 3 .mv [.k (.i 0)])])
  (.cl ks (.seq
  (.seq
  (.rg 0 [(none,.v 6 .mv [.s 0]),(none,.v 7 .len [.s 6]),(none,.v 8 .mv [.k (.i 0)])])
  (.cl ks (.block 0
  (.loop
  (.seq
  (.rg 0 [(none,.v 9 (.bin .lss) [.s 8,.s 7])])
  (.seq
  (.cond (.s 9)
  .skip
  (.exit 0))
  (.cl ks (.seq
  (.block 1
  (.seq
  (.rg 0 [(none,.v 10 .idx [.s 6,.s 8]),(none,.v 11 .ld [.s 10]),(none,.tk 5 11)])
  (.cl ks (.rg 0 [(none,.v 12 .mv [.s 3]),(none,.v 13 .mv [.s 5]),(none,.v 14 (.bin .add) [.s 12,.s 13]),(none,.tk 3 14)]))))
  (.cl ks (.rg 0 [(none,.v 15 (.bin .add) [.s 8,.k (.i 1)]),(none,.v 8 .mv [.s 15])]))))))))))
  (.cl ks (.seq
  (.rg 0 [(none,.v 16 .mv [.s 3]),(none,.tk 2 16)])
  .ret)))))))
theorem chk_impl_sumOf:∃ b,Try.f116.body = some b ∧ chk Try.prog Try.f116.ntmps true C_impl_sumOf b = true:=⟨_,rfl,by kernel_rfl⟩
def K_impl_SplitSchool:List Nat:=[0,1,2,3,4,5,6,7,9,10,12,29,30,31,40,41,70,71,72,76,77,78,1001,2001,3001,1002,2002,3002,1004,2004,3004]
def C_impl_SplitSchool : C :=
 let ks:=K_impl_SplitSchool
 (.seq
  (.rg 0 [(none,.v 1 .boxS [.s 0]),(none,.new 2 [.s (some true) [],.s (some true) [],.s (some true) []]),(none,.v 3 .mv [.k (.b false)])])
  (.cl ks (.seq
  (.seq
  (.rg 0 [(none,.v 13 (.lds 3) [.s 1]),(none,.co 14 86 [.s 13]),(none,.v 15 .not [.s 14]),(none,.v 16 .mv [.s 15]),(some (16,false),.v 17 (.fa 2) [.s 1]),(some (16,false),.v 18 .ld [.s 17]),(some (16,false),.co 19 116 [.s 18]),(some (16,false),.co 20 107 [.s 19,.k (.i 1),.k (.i 3)]),(some (16,false),.v 21 .not [.s 20]),(none,.v 22 .pick [.s 16,.k (.b true),.s 21])])
  (.cond (.s 22)
  (.seq
  (.rg 0 [(none,.v 23 .bld [.k (.s (some true) []),.k (.s (some true) []),.k (.s (some true) [])]),(none,.sts (.s 2) (.s 23) 3),(none,.v 3 .mv [.k (.b false)])])
  .ret)
  .skip))
  (.cl ks (.seq
  (.rg 0 [(none,.new 4 [.s (some true) [],.s (some true) [],.s (some true) []])])
  (.cl ks (.seq
  (.rg 0 [(none,.v 24 (.fa 1) [.s 1]),(none,.v 25 .ld [.s 24]),(none,.v 26 .len [.s 25]),(none,.mk 27 (.s (some true) []) (.s 26) (.s 26)),(none,.tk 5 27)])
  (.cl ks (.seq
  (.seq
  (.rg 0 [(none,.onl 1004),(none,.onl 2004),(none,.onl 3004),(none,.v 28 (.fa 1) [.s 1]),(none,.v 29 .ld [.s 28]),(none,.v 30 .len [.s 29]),(none,.v 31 .mv [.k (.i 0)])])
  (.cl ks (.block 0
  (.loop
  (.seq
  (.rg 0 [(none,.v 32 (.bin .lss) [.s 31,.s 30])])
  (.seq
  (.cond (.s 32)
  .skip
  (.exit 0))
  (.cl ks (.seq
  (.block 1
  (.seq
  (.rg 0 [(none,.v 33 .mv [.s 31]),(none,.v 34 .idx [.s 29,.s 31]),(none,.v 35 .ld [.s 34]),(none,.tk 6 33),(none,.tk 7 35)])
  (.cl ks (.seq
  (.rg 0 [(none,.v 36 (.fa 2) [.s 1]),(none,.v 37 .ld [.s 36]),(none,.v 38 .mv [.s 6]),(none,.v 39 .idx [.s 37,.s 38]),(none,.v 40 .ld [.s 39]),(none,.v 41 .mv [.k (.i 0)])])
  (.cl ks (.block 2
  (.loop
  (.seq
  (.rg 0 [(none,.v 42 (.bin .lss) [.s 41,.s 40])])
  (.seq
  (.cond (.s 42)
  .skip
  (.exit 2))
  (.cl ks (.seq
  (.block 3
  (.seq
  (.rgE 10 2 [(none,.v 43 .mv [.s 5]),(none,.v 44 .mv [.s 6]),(none,.v 45 .mv [.s 5]),(none,.v 46 .mv [.s 6]),(none,.v 47 .idx [.s 45,.s 46]),(none,.v 48 .lde [.s 47]),(none,.v 49 (.fa 1) [.s 4]),(none,.v 50 .ld [.s 49]),(none,.v 51 .len [.s 50]),(none,.v 52 .litF [.s 51])] [(none,.tkr 48),(none,.app 53 (.s 48) (.s 52) 0)] [(none,.v 54 .idx [.s 43,.s 44]),(none,.st (.s 54) (.s 53))])
  (.cl ks (.seq
  (.rgH [0,1,2] [3,4,5,6,7] [(none,.v 55 (.fa 1) [.s 4]),(none,.v 56 .ld [.s 55]),(none,.v 57 .mv [.s 7])] [([(none,.co 58 114 [.s 57])],[56]),([(none,.lit 59 [.s 58] 1)],[56]),([(none,.app 60 (.s 56) (.s 59) 1)],[]),([(none,.v 61 (.fa 1) [.s 4])],[]),([(none,.st (.s 61) (.s 60))],[])])
  (.cl ks (.rg 0 [(none,.v 62 (.fa 2) [.s 4]),(none,.v 63 .ld [.s 62]),(none,.lit 64 [.k (.i 1)] 0),(none,.app 65 (.s 63) (.s 64) 0),(none,.v 66 (.fa 2) [.s 4]),(none,.st (.s 66) (.s 65))]))))))
  (.cl ks (.rg 0 [(none,.v 67 (.bin .add) [.s 41,.k (.i 1)]),(none,.v 41 .mv [.s 67])])))))))))))))
  (.cl ks (.rg 0 [(none,.v 68 (.bin .add) [.s 31,.k (.i 1)]),(none,.v 31 .mv [.s 68])]))))))))))
  (.cl ks (.seq
  (.seq
  (.rg 0 [(none,.v 69 (.fa 0) [.s 1]),(none,.v 70 .ld [.s 69]),(none,.v 71 .len [.s 70]),(none,.v 72 .mv [.k (.i 0)])])
  (.cl ks (.block 4
  (.loop
  (.seq
  (.rg 0 [(none,.v 73 (.bin .lss) [.s 72,.s 71])])
  (.seq
  (.cond (.s 73)
  .skip
  (.exit 4))
  (.cl ks (.seq
  (.block 5
  (.seq
  (.rg 0 [(none,.v 74 .idx [.s 70,.s 72]),(none,.v 75 .ld [.s 74]),(none,.tk 9 75)])
  (.cl ks (.seq
  (.rg 0 [(none,.mkn 10)])
  (.cl ks (.seq
  (.seq
  (.rg 0 [(none,.v 76 .mv [.s 9]),(none,.v 77 .len [.s 76]),(none,.v 78 .mv [.k (.i 0)])])
  (.cl ks (.block 6
  (.loop
  (.seq
  (.rg 0 [(none,.v 79 (.bin .lss) [.s 78,.s 77])])
  (.seq
  (.cond (.s 79)
  .skip
  (.exit 6))
  (.cl ks (.seq
  (.block 7
  (.seq
  (.rg 0 [(none,.v 80 .idx [.s 76,.s 78]),(none,.v 81 .ld [.s 80]),(none,.tk 12 81)])
  (.cl ks (.rg 0 [(none,.v 82 .mv [.s 10]),(none,.v 83 .mv [.s 5]),(none,.v 84 .mv [.s 12]),(none,.v 85 .idx [.s 83,.s 84]),(none,.v 86 .ld [.s 85]),(none,.app 87 (.s 82) (.s 86) 0),(none,.tk 10 87)]))))
  (.cl ks (.rg 0 [(none,.v 88 (.bin .add) [.s 78,.k (.i 1)]),(none,.v 78 .mv [.s 88])]))))))))))
  (.cl ks (.rg 0 [(none,.v 89 (.fa 0) [.s 4]),(none,.v 90 .ld [.s 89]),(none,.v 91 .mv [.s 10]),(none,.lit 92 [.s 91] 1),(none,.app 93 (.s 90) (.s 92) 1),(none,.v 94 (.fa 0) [.s 4]),(none,.st (.s 94) (.s 93))]))))))))
  (.cl ks (.rg 0 [(none,.v 95 (.bin .add) [.s 72,.k (.i 1)]),(none,.v 72 .mv [.s 95])]))))))))))
  (.cl ks (.seq
  (.rg 0 [(none,.v 96 (.lds 3) [.s 4]),(none,.sts (.s 2) (.s 96) 3),(none,.v 3 .mv [.k (.b true)])])
  .ret)))))))))))))
theorem chk_impl_SplitSchool:∃ b,Try.f40.body = some b ∧ chk Try.prog Try.f40.ntmps true C_impl_SplitSchool b = true:=⟨_,rfl,by kernel_rfl⟩
theorem sumOf_ok {n1 : Option Bool} (l : List Int) (hl : l.length ≤ 1048576) (hb : ∀ v ∈ l, 0 ≤ v ∧ v ≤ 5) : CallOk Try.prog 116 [.s n1 (ii l)] [(0, .i l.sum)] := by
 obtain ⟨code0,hcd1,hcd2⟩:=chk_impl_sumOf; refine callOk_of Try.func116 hcd1 mo Try.call116 (rs:=[2]) (by kernel_rfl) hcd2 (by rw [Try.ntmps116]; simp) (by simp) (by decide) ?_; unfold C_impl_sumOf K_impl_sumOf; simp (maxSteps:=2000000) only [go_sem,Nat.reduceBEq,Nat.reduceAdd,Nat.reduceMul,Nat.reduceMod,Nat.reduceLT,Nat.reduceDiv,Nat.reduceSub,Nat.reduceLeDiff,Int.reduceToNat,Int.reduceLT,Int.reduceLE,reduceCtorEq]
 have hs : ∀ {j : Nat}, j ≤ l.length → 0 ≤ (l.take j).sum ∧ (l.take j).sum ≤ 5 * j := fun {j} => by
  induction j with
  | zero => intro _; simp
  | succ j ih =>
   intro hj
   have:=hb _ (getD_mem (d:=0) (show j < l.length by omega))
   have:=ih (by omega)
   rw [take_getD 0 (show j < l.length by omega),List.sum_append]
   simp only [List.sum_cons,List.sum_nil]
   omega
 refine loopN l.length (fun j => [(0,.t .arg (.s n1 (ii l))),(3,.i (l.take j).sum),(6,.t .arg (.s n1 (ii l))),(7,.i l.length),(8,.i (j:Nat))]) (fun _ => True) ⟨trivial,by simp (maxSteps:=2000000) only [go_sem,Nat.reduceBEq,Nat.reduceAdd,Nat.reduceMul,Nat.reduceMod,Nat.reduceLT,Nat.reduceDiv,Nat.reduceSub,Nat.reduceLeDiff,Int.reduceToNat,Int.reduceLT,Int.reduceLE,reduceCtorEq]; simp⟩ fun j hj _ => ?_
 simp (maxSteps:=2000000) only [go_sem,Nat.reduceBEq,Nat.reduceAdd,Nat.reduceMul,Nat.reduceMod,Nat.reduceLT,Nat.reduceDiv,Nat.reduceSub,Nat.reduceLeDiff,Int.reduceToNat,Int.reduceLT,Int.reduceLE,reduceCtorEq]
 refine ⟨fun hlt => ?_, fun hge => ?_⟩
 ·have hj':j < l.length:=by omega
  have h1:=hs (j:=j) hj
  have h2:=hs (j:=j + 1) hj'
  have e:(l.take (j + 1)).sum = (l.take j).sum + l.getD j 0:=by rw [take_getD 0 hj',List.sum_append]; simp
  rw [e] at h2 ⊢
  exact ⟨by omega,hj',hj',inR_of (by omega) (by omega),inR_of (by omega) (by omega),hj',rfl,by simp⟩
 ·have:j = l.length:=by omega
  subst this
  rw [List.take_length]
def preZ (z : List Int) : Nat → Nat
 | 0 => 0
 | k + 1 => preZ z k + (z.getD k 0).toNat
def rowP (z:List Int) (k t:Nat):List Int:=(List.range t).map fun s => ((preZ z k + s:Nat):Int)
theorem rowP_s {z:List Int} {k t:Nat}:rowP z k (t + 1) = rowP z k t ++ [((preZ z k + t:Nat):Int)]:=by simp [rowP,List.range_succ]
theorem rowP_len {z:List Int} {k t:Nat}:(rowP z k t).length = t:=by simp [rowP]
def parK (z:List Int) (c k t:Nat):List (List Int):=(List.range c).map fun q => if q < k then rowP z q (z.getD q 0).toNat else if q = k then rowP z q t else []
theorem parK_len {z:List Int} {c k t:Nat}:(parK z c k t).length = c:=by simp [parK]
theorem parK_at {z:List Int} {c k t:Nat} (hk:k < c):(parK z c k t).getD k [] = rowP z k t:=by simp [parK,List.getD,hk]
theorem parK_s {z : List Int} {c k t : Nat} (hk : k < c) : (parK z c k t).set k (rowP z k (t + 1)) = parK z c k (t + 1) := by
 apply List.ext_getElem
 ·simp [parK_len]
 ·intro q h1 h2
  simp only [parK,List.getElem_set,List.getElem_map,List.getElem_range]
  by_cases e : k = q
  ·subst e; simp
  ·rw [if_neg e,if_neg (show ¬ q = k by omega),if_neg (show ¬ q = k by omega)]
theorem parK_n {z : List Int} {c k : Nat} : parK z c k (z.getD k 0).toNat = parK z c (k + 1) 0 := by
 unfold parK
 refine List.map_congr_left fun q _ => ?_
 by_cases e : q < k
 ·rw [if_pos e,if_pos (by omega)]
 ·rw [if_neg e]
  by_cases e2 : q = k
  ·subst e2; rw [if_pos rfl,if_pos (by omega)]
  ·rw [if_neg e2,if_neg (by omega)]
   split
   ·rename_i e3; simp [rowP]
   ·rfl
theorem parK_0 {z : List Int} {c : Nat} : parK z c 0 0 = List.replicate c [] := by
 unfold parK
 rw [List.map_eq_replicate_iff.2]
 ·rw [List.length_range]
 ·intro q _
  rw [if_neg (by omega)]; split
  ·simp [rowP]
  ·rfl
theorem parK_end {z:List Int} {c k:Nat} (hk:k < c):(parK z c c 0).getD k [] = rowP z k (z.getD k 0).toNat:=by simp [parK,List.getD,hk]
def colK (y : List (List Int)) (z : List Int) : Nat → List (List Int)
 | 0 => []
 | k + 1 => colK y z k ++ List.replicate (z.getD k 0).toNat (y.getD k [])
theorem colK_len {y : List (List Int)} {z : List Int} : ∀ {k : Nat}, (colK y z k).length = preZ z k
 | 0 => rfl
 | k + 1 => by simp [colK,preZ,colK_len (k:=k)]
theorem rep_s {α:Type} {t:Nat} {a:α}:List.replicate (t + 1) a = List.replicate t a ++ [a]:=by rw [List.replicate_succ']
def ownK (z:List Int) (c:Nat) (r:List Int) (p:Nat):List Int:=(r.take p).flatMap fun k => (parK z c c 0).getD k.toNat []
theorem ownK_s {z r : List Int} {c p : Nat} (hp : p < r.length) : ownK z c r (p + 1) = ownK z c r p ++ (parK z c c 0).getD (r.getD p 0).toNat [] := by
 unfold ownK
 rw [take_getD 0 hp,List.flatMap_append]; simp
def stuK (x:List (List Int)) (z:List Int) (c i:Nat):List (List Int):=(List.range i).map fun j => ownK z c (x.getD j []) (x.getD j []).length
theorem stuK_s {x:List (List Int)} {z:List Int} {c i:Nat}:stuK x z c (i + 1) = stuK x z c i ++ [ownK z c (x.getD i []) (x.getD i []).length]:=by simp [stuK,List.range_succ]
theorem stuK_len {x:List (List Int)} {z:List Int} {c i:Nat}:(stuK x z c i).length = i:=by simp [stuK]
theorem preZ_le {z : List Int} (hb : ∀ v ∈ z, 0 ≤ v ∧ v ≤ 5) : ∀ {k : Nat}, k ≤ z.length → (preZ z k : Int) = (z.take k).sum
 | 0,_ => by simp [preZ]
 | k + 1, hk => by
  have:=hb _ (getD_mem (d:=0) (show k < z.length by omega))
  rw [take_getD 0 (show k < z.length by omega),List.sum_append,← preZ_le hb (k:=k) (by omega)]
  simp only [preZ,List.sum_cons,List.sum_nil]; omega
theorem preZ_mono {z : List Int} : ∀ {m k : Nat}, k ≤ m → preZ z k ≤ preZ z m
 | 0,k,h => by rw [show k = 0 by omega]; omega
 | m + 1, k, h => by
  by_cases e : k = m + 1
  ·rw [e]; omega
  ·have:=preZ_mono (z:=z) (m:=m) (k:=k) (by omega)
   simp only [preZ]; omega
theorem impl_SplitSchool_no {n1 n2 n3 : Option Bool} (x y : List (List Int)) (z : List Int) (h0 : schoolB x y z = true) (hn : ¬ (1 ≤ z.sum ∧ z.sum ≤ 3)) (hx : x.length ≤ 1048576) (kx : ∀ r ∈ x, r.length ≤ 1048576) (hy : y.length ≤ 1048576) (ky : ∀ r ∈ y, r.length ≤ 1048576) (hz : z.length ≤ 1048576) :
  CallOk Try.prog 40 [.a [.s n1 (rr x),.s n2 (rr y),.s n3 (ii z)]] [(0,.tp 2),(100000,.t .fr (.a [.s none [],.s none [],.s none []])),(101000,.b false)]:=by
 obtain ⟨code0,hcd1,hcd2⟩:=chk_impl_SplitSchool; refine callT_of Try.func40 hcd1 mo Try.call40 (z:=2) (ty:=28) (r:=3) (by kernel_rfl) (by kernel_rfl) hcd2 (by rw [Try.ntmps40]; simp) (by simp) (by decide) (by decide) ?_; unfold C_impl_SplitSchool K_impl_SplitSchool; simp (maxSteps:=2000000) only [go_sem,Nat.reduceBEq,Nat.reduceAdd,Nat.reduceMul,Nat.reduceMod,Nat.reduceLT,Nat.reduceDiv,Nat.reduceSub,Nat.reduceLeDiff,Int.reduceToNat,Int.reduceLT,Int.reduceLE,reduceCtorEq]
 have S:=sc_of h0
 have hzb : ∀ v ∈ z, 0 ≤ v ∧ v ≤ 5 := fun v hv => by
  obtain ⟨k,hk,rfl⟩:=mem_getD 0 hv
  exact S.bz k (by rw [← S.lz]; exact hk)
 refine ⟨_,impl_SchoolOk_ok x y z hx kx hy ky hz,?_⟩; simp (maxSteps:=2000000) only [go_sem,Nat.reduceBEq,Nat.reduceAdd,Nat.reduceMul,Nat.reduceMod,Nat.reduceLT,Nat.reduceDiv,Nat.reduceSub,Nat.reduceLeDiff,Int.reduceToNat,Int.reduceLT,Int.reduceLE,reduceCtorEq]
 refine ⟨fun _ => ?_,fun h => by rw [h0] at h; cases h⟩
 refine ⟨_,sumOf_ok z hz hzb,?_⟩; simp (maxSteps:=2000000) only [go_sem,Nat.reduceBEq,Nat.reduceAdd,Nat.reduceMul,Nat.reduceMod,Nat.reduceLT,Nat.reduceDiv,Nat.reduceSub,Nat.reduceLeDiff,Int.reduceToNat,Int.reduceLT,Int.reduceLE,reduceCtorEq]
 refine ⟨_,within_ok _ _ _,?_⟩; simp (maxSteps:=2000000) only [go_sem,Nat.reduceBEq,Nat.reduceAdd,Nat.reduceMul,Nat.reduceMod,Nat.reduceLT,Nat.reduceDiv,Nat.reduceSub,Nat.reduceLeDiff,Int.reduceToNat,Int.reduceLT,Int.reduceLE,reduceCtorEq]
 have hin : inI z.sum 1 3 = false := by
  cases h:inI z.sum 1 3 with
  | false => rfl
  | true => simp only [inI,Bool.and_eq_true,decide_eq_true_eq] at h; exact absurd h hn
 exact ⟨fun _ => trivial,fun h => by rw [hin] at h; cases h⟩
theorem impl_SplitSchool_ok {n1 n2 n3 : Option Bool} (x y : List (List Int)) (z : List Int) (h0 : schoolB x y z = true) (hn : 1 ≤ z.sum ∧ z.sum ≤ 3) (hx : x.length ≤ 1048576) (kx : ∀ r ∈ x, r.length ≤ 1048576) (hy : y.length ≤ 1048576) (ky : ∀ r ∈ y, r.length ≤ 1048576) (hz : z.length ≤ 1048576) :
  CallOk Try.prog 40 [.a [.s n1 (rr x),.s n2 (rr y),.s n3 (ii z)]] [(0,.tp 2),(100000,.t .fr (.a [.s none (rr (stuK x z y.length x.length)),.s none (rr (colK y z y.length)),.s none (ii (List.replicate (preZ z y.length) 1))])),(101000,.b true)]:=by
 obtain ⟨code0,hcd1,hcd2⟩:=chk_impl_SplitSchool; refine callT_of Try.func40 hcd1 mo Try.call40 (z:=2) (ty:=28) (r:=3) (by kernel_rfl) (by kernel_rfl) hcd2 (by rw [Try.ntmps40]; simp) (by simp) (by decide) (by decide) ?_; unfold C_impl_SplitSchool K_impl_SplitSchool; simp (maxSteps:=2000000) only [go_sem,Nat.reduceBEq,Nat.reduceAdd,Nat.reduceMul,Nat.reduceMod,Nat.reduceLT,Nat.reduceDiv,Nat.reduceSub,Nat.reduceLeDiff,Int.reduceToNat,Int.reduceLT,Int.reduceLE,reduceCtorEq]
 have S:=sc_of h0
 have h5:=S.n5
 have h3:=S.c3
 have c1:=S.c1
 have n1':=S.n1
 have lz:=S.lz
 have hzb : ∀ v ∈ z, 0 ≤ v ∧ v ≤ 5 := fun v hv => by
  obtain ⟨k,hk,rfl⟩:=mem_getD 0 hv
  exact S.bz k (by rw [← S.lz]; exact hk)
 have hpz : (preZ z y.length : Int) = z.sum := by
  rw [preZ_le hzb (k:=y.length) (by omega),← lz,List.take_length]
 have hin:inI z.sum 1 3 = true:=by simp only [inI,Bool.and_eq_true,decide_eq_true_eq]; exact hn
 refine ⟨_,impl_SchoolOk_ok x y z hx kx hy ky hz,?_⟩; simp (maxSteps:=2000000) only [go_sem,Nat.reduceBEq,Nat.reduceAdd,Nat.reduceMul,Nat.reduceMod,Nat.reduceLT,Nat.reduceDiv,Nat.reduceSub,Nat.reduceLeDiff,Int.reduceToNat,Int.reduceLT,Int.reduceLE,reduceCtorEq]
 refine ⟨fun _ => ?_,fun h => by rw [h0] at h; cases h⟩
 refine ⟨_,sumOf_ok z hz hzb,?_⟩; simp (maxSteps:=2000000) only [go_sem,Nat.reduceBEq,Nat.reduceAdd,Nat.reduceMul,Nat.reduceMod,Nat.reduceLT,Nat.reduceDiv,Nat.reduceSub,Nat.reduceLeDiff,Int.reduceToNat,Int.reduceLT,Int.reduceLE,reduceCtorEq]
 refine ⟨_,within_ok _ _ _,?_⟩; simp (maxSteps:=2000000) only [go_sem,Nat.reduceBEq,Nat.reduceAdd,Nat.reduceMul,Nat.reduceMod,Nat.reduceLT,Nat.reduceDiv,Nat.reduceSub,Nat.reduceLeDiff,Int.reduceToNat,Int.reduceLT,Int.reduceLE,reduceCtorEq]
 refine ⟨fun h => (by rw [hin] at h; cases h),fun _ => ?_⟩
 refine ⟨by omega,by omega,?_⟩
 refine loopN y.length (fun k => [(0,.t .arg (.a [.s n1 (rr x),.s n2 (rr y),.s n3 (ii z)])),(1,.t .arg (.q [.s n1 (rr x),.s n2 (rr y),.s n3 (ii z)] 0)),(2,.bx 3),(3,.b false),(4,.bx 3),(5,.own 1 none (rr (parK z y.length k 0))),(29,.t .arg (.s n2 (rr y))),(30,.i y.length),(31,.i (k:Nat)),(1002,.t .fr (.s (some true) [])),(2002,.t .fr (.s (some true) [])),(3002,.t .fr (.s (some true) [])),(1004,.own 1 none []),(2004,.own 1 none (rr (colK y z k))),(3004,.own 1 none (ii (List.replicate (preZ z k) 1)))]) (fun _ => True) ⟨trivial,by simp (maxSteps:=2000000) only [go_sem,Nat.reduceBEq,Nat.reduceAdd,Nat.reduceMul,Nat.reduceMod,Nat.reduceLT,Nat.reduceDiv,Nat.reduceSub,Nat.reduceLeDiff,Int.reduceToNat,Int.reduceLT,Int.reduceLE,reduceCtorEq]; simp [colK,preZ,parK_0]⟩ fun k hk _ => ?_
 simp (maxSteps:=2000000) only [go_sem,Nat.reduceBEq,Nat.reduceAdd,Nat.reduceMul,Nat.reduceMod,Nat.reduceLT,Nat.reduceDiv,Nat.reduceSub,Nat.reduceLeDiff,Int.reduceToNat,Int.reduceLT,Int.reduceLE,reduceCtorEq]
 refine ⟨fun hlt => ?_, fun hge => ?_⟩
 ·have hk':k < y.length:=by omega
  have hzk:=S.bz k hk'
  have hyr:=rank_len (S.ry k hk')
  refine ⟨by omega,hk',hk',by omega,by omega,by omega,?_⟩
  refine loopN (z.getD k 0).toNat (fun t => [(0,.t .arg (.a [.s n1 (rr x),.s n2 (rr y),.s n3 (ii z)])),(1,.t .arg (.q [.s n1 (rr x),.s n2 (rr y),.s n3 (ii z)] 0)),(2,.bx 3),(3,.b false),(4,.bx 3),(5,.own 1 none (rr (parK z y.length k t))),(6,.i (k:Nat)),(7,.t .arg (.s none (ii (y.getD k [])))),(29,.t .arg (.s n2 (rr y))),(30,.i y.length),(31,.i (k:Nat)),(40,.i (z.getD k 0)),(41,.i (t:Nat)),(1002,.t .fr (.s (some true) [])),(2002,.t .fr (.s (some true) [])),(3002,.t .fr (.s (some true) [])),(1004,.own 1 none []),(2004,.own 1 none (rr (colK y z k ++ List.replicate t (y.getD k [])))),(3004,.own 1 none (ii (List.replicate (preZ z k + t) 1)))]) (fun _ => True) ⟨trivial,by simp (maxSteps:=2000000) only [go_sem,Nat.reduceBEq,Nat.reduceAdd,Nat.reduceMul,Nat.reduceMod,Nat.reduceLT,Nat.reduceDiv,Nat.reduceSub,Nat.reduceLeDiff,Int.reduceToNat,Int.reduceLT,Int.reduceLE,reduceCtorEq]; simp⟩ fun t ht _ => ?_
  simp (maxSteps:=2000000) only [go_sem,Nat.reduceBEq,Nat.reduceAdd,Nat.reduceMul,Nat.reduceMod,Nat.reduceLT,Nat.reduceDiv,Nat.reduceSub,Nat.reduceLeDiff,Int.reduceToNat,Int.reduceLT,Int.reduceLE,reduceCtorEq]
  refine ⟨fun hlt2 => ?_, fun hge2 => ?_⟩
  ·have ht':t < (z.getD k 0).toNat:=by omega
   have eR : (rr (parK z y.length k t)).getD k T.any = .s none (ii (rowP z k t)) := by
    rw [rr_get (by rw [parK_len]; exact hk'),parK_at hk']
   have hpl:=parK_len (z:=z) (c:=y.length) (k:=k) (t:=t)
   simp (maxSteps:=2000000) only [go_sem,Nat.reduceBEq,Nat.reduceAdd,Nat.reduceMul,Nat.reduceMod,Nat.reduceLT,Nat.reduceDiv,Nat.reduceSub,Nat.reduceLeDiff,Int.reduceToNat,Int.reduceLT,Int.reduceLE,reduceCtorEq,eR,List.set_set,List.length_set]
   rw [hpl]
   have hrl:(rowP z k t).length ≤ 1099511627775:=by rw [rowP_len]; omega
   have h0k:(0:Int) ≤ (k:Nat):=by omega
   apply cutG
   intro hG
   ·repeat' (first | exact hk' | exact hrl | exact h0k | apply And.intro)
    all_goals exact hG
   refine ⟨_,Clone_ok (y.getD k []) (by omega) (by omega),?_⟩; simp (maxSteps:=2000000) only [go_sem,Nat.reduceBEq,Nat.reduceAdd,Nat.reduceMul,Nat.reduceMod,Nat.reduceLT,Nat.reduceDiv,Nat.reduceSub,Nat.reduceLeDiff,Int.reduceToNat,Int.reduceLT,Int.reduceLE,reduceCtorEq]
   have hm1:=preZ_mono (z:=z) (m:=y.length) (k:=k + 1) hk'
   have hm2:preZ z (k + 1) = preZ z k + (z.getD k 0).toNat:=rfl
   have hcl:(colK y z k ++ List.replicate t (y.getD k [])).length = preZ z k + t:=by rw [List.length_append,colK_len,List.length_replicate]
   refine ⟨by simp, by rw [hcl]; omega, by rw [List.length_replicate]; omega, inR_of (by omega) (by omega), ht', ?_, by simp, ?_, ?_⟩
   ·rw [hcl,← rowP_s,parK_s hk']
   ·rw [rep_s,List.append_assoc]
   ·rw [← Nat.add_assoc,rep_s]
  ·have:t = (z.getD k 0).toNat:=by omega
   subst this
   exact ⟨inR_of (by omega) (by omega),hk',parK_n,by simp,rfl,rfl⟩
 ·have:k = y.length:=by omega
  subst this
  refine loopN x.length (fun i => [(0,.t .arg (.a [.s n1 (rr x),.s n2 (rr y),.s n3 (ii z)])),(1,.t .arg (.q [.s n1 (rr x),.s n2 (rr y),.s n3 (ii z)] 0)),(2,.bx 3),(3,.b false),(4,.bx 3),(5,.own 1 none (rr (parK z y.length y.length 0))),(70,.t .arg (.s n1 (rr x))),(71,.i x.length),(72,.i (i:Nat)),(1002,.t .fr (.s (some true) [])),(2002,.t .fr (.s (some true) [])),(3002,.t .fr (.s (some true) [])),(1004,.own 1 none (rr (stuK x z y.length i))),(2004,.own 1 none (rr (colK y z y.length))),(3004,.own 1 none (ii (List.replicate (preZ z y.length) 1)))]) (fun _ => True) ⟨trivial,by simp (maxSteps:=2000000) only [go_sem,Nat.reduceBEq,Nat.reduceAdd,Nat.reduceMul,Nat.reduceMod,Nat.reduceLT,Nat.reduceDiv,Nat.reduceSub,Nat.reduceLeDiff,Int.reduceToNat,Int.reduceLT,Int.reduceLE,reduceCtorEq]; simp [stuK]⟩ fun i hi _ => ?_
  simp (maxSteps:=2000000) only [go_sem,Nat.reduceBEq,Nat.reduceAdd,Nat.reduceMul,Nat.reduceMod,Nat.reduceLT,Nat.reduceDiv,Nat.reduceSub,Nat.reduceLeDiff,Int.reduceToNat,Int.reduceLT,Int.reduceLE,reduceCtorEq]
  refine ⟨fun hlt => ?_, fun hge => ?_⟩
  ·have hi':i < x.length:=by omega
   have hr:=S.rx i hi'
   have hrl:=rank_len hr
   refine ⟨by omega,hi',hi',?_⟩
   refine loopN (x.getD i []).length (fun p => [(0,.t .arg (.a [.s n1 (rr x),.s n2 (rr y),.s n3 (ii z)])),(1,.t .arg (.q [.s n1 (rr x),.s n2 (rr y),.s n3 (ii z)] 0)),(2,.bx 3),(3,.b false),(4,.bx 3),(5,.own 1 none (rr (parK z y.length y.length 0))),(10,.own 1 none (ii (ownK z y.length (x.getD i []) p))),(70,.t .arg (.s n1 (rr x))),(71,.i x.length),(72,.i (i:Nat)),(76,.t .arg (.s none (ii (x.getD i [])))),(77,.i (x.getD i []).length),(78,.i (p:Nat)),(1002,.t .fr (.s (some true) [])),(2002,.t .fr (.s (some true) [])),(3002,.t .fr (.s (some true) [])),(1004,.own 1 none (rr (stuK x z y.length i))),(2004,.own 1 none (rr (colK y z y.length))),(3004,.own 1 none (ii (List.replicate (preZ z y.length) 1)))]) (fun p => (ownK z y.length (x.getD i []) p).length ≤ 15 * p) ⟨by simp [ownK],by simp (maxSteps:=2000000) only [go_sem,Nat.reduceBEq,Nat.reduceAdd,Nat.reduceMul,Nat.reduceMod,Nat.reduceLT,Nat.reduceDiv,Nat.reduceSub,Nat.reduceLeDiff,Int.reduceToNat,Int.reduceLT,Int.reduceLE,reduceCtorEq]; simp [ownK]⟩ fun p hp hP => ?_
   simp (maxSteps:=2000000) only [go_sem,Nat.reduceBEq,Nat.reduceAdd,Nat.reduceMul,Nat.reduceMod,Nat.reduceLT,Nat.reduceDiv,Nat.reduceSub,Nat.reduceLeDiff,Int.reduceToNat,Int.reduceLT,Int.reduceLE,reduceCtorEq]
   refine ⟨fun hlt2 => ?_, fun hge2 => ?_⟩
   ·have hp':p < (x.getD i []).length:=by omega
    have hb:=rank_bd hr hp'
    have hd : ((parK z y.length y.length 0).getD ((x.getD i []).getD p 0).toNat []).length ≤ 5 := by
     rw [parK_end (by omega),rowP_len]
     have:=S.bz ((x.getD i []).getD p 0).toNat (by omega)
     omega
    have hs:=ownK_s (z:=z) (c:=y.length) hp'
    rw [parK_len]
    exact ⟨by omega,hp',hp',hb.1,by omega,by omega,by omega,inR_of (by omega) (by omega),hp',by rw [hs,List.length_append]; omega,hs.symm,by simp⟩
   ·have:p = (x.getD i []).length:=by omega
    subst this
    exact ⟨by simp,by rw [stuK_len]; omega,inR_of (by omega) (by omega),hi',by simp,stuK_s.symm⟩
  ·have:i = x.length:=by omega
   subst this
   exact ⟨by omega,rfl,rfl,rfl,rfl⟩
end Go.Proofs.Ytgdpplhbblapgaa
