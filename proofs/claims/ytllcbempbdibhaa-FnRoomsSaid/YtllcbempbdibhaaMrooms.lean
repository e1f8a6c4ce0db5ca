/- Own work: contracts of functions. No condition beyond those that each theorem names. -/
import Derived.Test.YtllcbempbdibhaaProg
import Derived.Test.YtllcbempbdibhaaRms
import Derived.Test.YtllcbempbdibhaaDel
import Derived.Test.YtllcbempbdibhaaConcat
import Derived.Test.YtllcbempbdibhaaMkt
namespace Go.Proofs.Ytllcbempbdibhaa
open Go Go.Vc
set_option maxRecDepth 100000
set_option linter.unusedSimpArgs false
set_option linter.unusedVariables false
def K_impl_shifted:List Nat:=[0,1,4,5,7,8,9,10]
def C_impl_shifted : C :=
 let ks:=K_impl_shifted
 (.seq
  (.rg 0 [(none,.mkn 4)])
  (.cl ks (.seq
  (.rg 0 [(none,.mkn 5)])
  (.cl ks (.seq
  (.seq
  (.rg 0 [(none,.v 8 .mv [.s 0]),(none,.v 9 .len [.s 8]),(none,.v 10 .mv [.k (.i 0)])])
  (.cl ks (.block 0
  (.loop
  (.seq
  (.rg 0 [(none,.v 11 (.bin .lss) [.s 10,.s 9])])
  (.seq
  (.cond (.s 11)
  .skip
  (.exit 0))
  (.cl ks (.seq
  (.block 1
  (.seq
  (.rg 0 [(none,.v 12 .idx [.s 8,.s 10]),(none,.v 13 .ld [.s 12]),(none,.tk 7 13)])
  (.cl ks (.rg 0 [(none,.v 14 .mv [.s 5]),(none,.v 15 .mv [.s 7]),(none,.v 16 .mv [.s 1]),(none,.v 17 (.bin .add) [.s 15,.s 16]),(none,.lit 18 [.s 17] 0),(none,.app 19 (.s 14) (.s 18) 0),(none,.tk 5 19)]))))
  (.cl ks (.rg 0 [(none,.v 20 (.bin .add) [.s 10,.k (.i 1)]),(none,.v 10 .mv [.s 20])]))))))))))
  (.cl ks (.seq
  (.rg 0 [(none,.v 21 .mv [.s 5]),(none,.tk 4 21)])
  .ret)))))))
theorem chk_impl_shifted:∃ b,Try.f84.body = some b ∧ chk Try.prog Try.f84.ntmps true C_impl_shifted b = true:=⟨_,rfl,by kernel_rfl⟩
def K_impl_others:List Nat:=[0,1,2,6]
def C_impl_others : C :=
 let ks:=K_impl_others
 (.seq
  (.rg 0 [(none,.mkn 6)])
  (.cl ks (.seq
  (.rg 0 [(none,.v 7 .mv [.s 0]),(none,.co 8 99 [.s 7]),(none,.v 9 .mv [.s 1]),(none,.v 10 .mv [.s 1]),(none,.v 11 (.bin .add) [.s 10,.k (.i 1)]),(none,.coc 12 107 [.s 8,.s 9,.s 11] [0]),(none,.v 13 .mv [.s 2]),(none,.co 14 84 [.s 12,.s 13]),(none,.tk 6 14)])
  .ret)))
theorem chk_impl_others:∃ b,Try.f85.body = some b ∧ chk Try.prog Try.f85.ntmps true C_impl_others b = true:=⟨_,rfl,by kernel_rfl⟩
def K_impl_MarketAsRooms:List Nat:=[0,1,2,3,4,5,6,7,8,9,21,22,23,41,42,43,1001,2001]
def C_impl_MarketAsRooms : C :=
 let ks:=K_impl_MarketAsRooms
 (.seq
  (.rg 0 [(none,.v 1 .boxS [.s 0]),(none,.mkn 2),(none,.v 3 .mv [.k (.b false)])])
  (.cl ks (.seq
  (.rg 0 [(none,.v 10 (.fa 0) [.s 1]),(none,.v 11 .ld [.s 10]),(none,.v 12 .len [.s 11]),(none,.tk 4 12)])
  (.cl ks (.seq
  (.seq
  (.rg 0 [(none,.v 13 (.lds 2) [.s 1]),(none,.co 14 55 [.s 13]),(none,.v 15 .not [.s 14]),(none,.v 16 .mv [.s 15]),(some (16,false),.v 17 .mv [.s 4]),(some (16,false),.v 18 (.bin .gtr) [.s 17,.k (.i 3)]),(none,.v 19 .pick [.s 16,.k (.b true),.s 18])])
  (.cond (.s 19)
  (.seq
  (.rg 0 [(none,.mkn 2),(none,.v 3 .mv [.k (.b false)])])
  .ret)
  .skip))
  (.cl ks (.seq
  (.rg 0 [(none,.mkn 5)])
  (.cl ks (.seq
  (.seq
  (.rg 0 [(none,.v 20 (.fa 0) [.s 1]),(none,.v 21 .ld [.s 20]),(none,.v 22 .len [.s 21]),(none,.v 23 .mv [.k (.i 0)])])
  (.cl ks (.block 0
  (.loop
  (.seq
  (.rg 0 [(none,.v 24 (.bin .lss) [.s 23,.s 22])])
  (.seq
  (.cond (.s 24)
  .skip
  (.exit 0))
  (.cl ks (.seq
  (.block 1
  (.seq
  (.rg 0 [(none,.v 25 .mv [.s 23]),(none,.v 26 .idx [.s 21,.s 23]),(none,.v 27 .ld [.s 26]),(none,.tk 6 25),(none,.tk 7 27)])
  (.cl ks (.rg 0 [(none,.v 28 .mv [.s 5]),(none,.v 29 .mv [.s 7]),(none,.v 30 .mv [.s 4]),(none,.co 31 84 [.s 29,.s 30]),(none,.v 32 .mv [.s 4]),(none,.v 33 .mv [.s 6]),(none,.co 34 85 [.s 32,.s 33,.k (.i 0)]),(none,.frz 31),(none,.frz 34),(none,.lit 35 [.s 31,.s 34] 2),(none,.co 36 83 [.s 35]),(none,.lit 37 [.s 36] 1),(none,.app 38 (.s 28) (.s 37) 1),(none,.tk 5 38)]))))
  (.cl ks (.rg 0 [(none,.v 39 (.bin .add) [.s 23,.k (.i 1)]),(none,.v 23 .mv [.s 39])]))))))))))
  (.cl ks (.seq
  (.seq
  (.rg 0 [(none,.v 40 (.fa 1) [.s 1]),(none,.v 41 .ld [.s 40]),(none,.v 42 .len [.s 41]),(none,.v 43 .mv [.k (.i 0)])])
  (.cl ks (.block 2
  (.loop
  (.seq
  (.rg 0 [(none,.v 44 (.bin .lss) [.s 43,.s 42])])
  (.seq
  (.cond (.s 44)
  .skip
  (.exit 2))
  (.cl ks (.seq
  (.block 3
  (.seq
  (.rg 0 [(none,.v 45 .mv [.s 43]),(none,.v 46 .idx [.s 41,.s 43]),(none,.v 47 .ld [.s 46]),(none,.tk 8 45),(none,.tk 9 47)])
  (.cl ks (.rg 0 [(none,.v 48 .mv [.s 5]),(none,.v 49 .mv [.s 9]),(none,.v 50 .mv [.s 4]),(none,.v 51 .mv [.s 8]),(none,.v 52 .mv [.s 4]),(none,.v 53 (.call 85) [.s 50,.s 51,.s 52]),(none,.v 54 .litF [.s 49,.s 53]),(none,.co 55 83 [.s 54]),(none,.lit 56 [.s 55] 1),(none,.app 57 (.s 48) (.s 56) 1),(none,.tk 5 57)]))))
  (.cl ks (.rg 0 [(none,.v 58 (.bin .add) [.s 43,.k (.i 1)]),(none,.v 43 .mv [.s 58])]))))))))))
  (.cl ks (.seq
  (.rg 0 [(none,.v 59 .mv [.s 5]),(none,.tk 2 59),(none,.v 3 .mv [.k (.b true)])])
  .ret)))))))))))))
theorem chk_impl_MarketAsRooms:∃ b,Try.f42.body = some b ∧ chk Try.prog Try.f42.ntmps true C_impl_MarketAsRooms b = true:=⟨_,rfl,by kernel_rfl⟩
theorem shifted_ok {n1 : Option Bool} (l : List Int) (b : Int) (hl : l.length ≤ 1000) (hv : ∀ v ∈ l, -1000 ≤ v ∧ v ≤ 1000) (hb : -1000 ≤ b ∧ b ≤ 1000) : CallOk Try.prog 84 [.s n1 (ii l), .i b] [(0, .own 1 none (ii (l.map (· + b))))] := by
 obtain ⟨code0,hcd1,hcd2⟩:=chk_impl_shifted; refine callOk_of Try.func84 hcd1 mo Try.call84 (rs:=[4]) (by kernel_rfl) hcd2 (by rw [Try.ntmps84]; simp) (by simp) (by decide) ?_; unfold C_impl_shifted K_impl_shifted; simp (maxSteps:=2000000) only [go_sem,Nat.reduceBEq,Nat.reduceAdd,Nat.reduceMul,Nat.reduceMod,Nat.reduceLT,Nat.reduceDiv,Nat.reduceSub,Nat.reduceLeDiff,Int.reduceToNat,Int.reduceLT,Int.reduceLE,reduceCtorEq]
 refine loopN l.length (fun k => [(0,.t .arg (.s n1 (ii l))),(1,.i b),(5,.own 1 none (ii ((l.take k).map (· + b)))),(8,.t .arg (.s n1 (ii l))),(9,.i l.length),(10,.i (k:Nat))]) (fun _ => True) ⟨trivial,by simp (maxSteps:=2000000) only [go_sem,Nat.reduceBEq,Nat.reduceAdd,Nat.reduceMul,Nat.reduceMod,Nat.reduceLT,Nat.reduceDiv,Nat.reduceSub,Nat.reduceLeDiff,Int.reduceToNat,Int.reduceLT,Int.reduceLE,reduceCtorEq]; simp⟩ fun k hk _ => ?_
 have htl:((l.take k).map (· + b)).length ≤ k:=by rw [List.length_map,List.length_take]; omega
 simp (maxSteps:=2000000) only [go_sem,Nat.reduceBEq,Nat.reduceAdd,Nat.reduceMul,Nat.reduceMod,Nat.reduceLT,Nat.reduceDiv,Nat.reduceSub,Nat.reduceLeDiff,Int.reduceToNat,Int.reduceLT,Int.reduceLE,reduceCtorEq]
 refine ⟨fun hlt => ?_, fun hge => ?_⟩
 ·have hk':k < l.length:=by omega
  have:=hv _ (getD_mem (d:=0) hk')
  exact ⟨by omega,hk',hk',inR_of (by omega) (by omega),by omega,inR_of (by omega) (by omega),hk',by rw [take_getD 0 hk',List.map_append]; rfl,by simp⟩
 ·have:k = l.length:=by omega
  subst this
  rw [List.take_length]
def othL (n b:Nat) (c:Int):List Int:=((upto n).take b ++ (upto n).drop (b + 1)).map (· + c)
theorem others_ok (n b : Nat) (c : Int) (hn : n ≤ 6) (hb : b < n) (hc : 0 ≤ c ∧ c ≤ 100) : CallOk Try.prog 85 [.i n, .i b, .i c] [(0, .own 1 none (ii (othL n b c)))] := by
 obtain ⟨code0,hcd1,hcd2⟩:=chk_impl_others; refine callOk_of Try.func85 hcd1 mo Try.call85 (rs:=[6]) (by kernel_rfl) hcd2 (by rw [Try.ntmps85]; simp) (by simp) (by decide) ?_; unfold C_impl_others K_impl_others; simp (maxSteps:=2000000) only [go_sem,Nat.reduceBEq,Nat.reduceAdd,Nat.reduceMul,Nat.reduceMod,Nat.reduceLT,Nat.reduceDiv,Nat.reduceSub,Nat.reduceLeDiff,Int.reduceToNat,Int.reduceLT,Int.reduceLE,reduceCtorEq]
 refine ⟨_,indices_ok n (by omega) (by omega),?_⟩; simp (maxSteps:=2000000) only [go_sem,Nat.reduceBEq,Nat.reduceAdd,Nat.reduceMul,Nat.reduceMod,Nat.reduceLT,Nat.reduceDiv,Nat.reduceSub,Nat.reduceLeDiff,Int.reduceToNat,Int.reduceLT,Int.reduceLE,reduceCtorEq]
 have hu:=upto_len (n:=n)
 have W:=Delete_ok (nl:=some false) (xs:=upto n) (i:=b) (j:=b + 1) (fun h => by rw [h] at hu; simp at hu; omega) (by omega) (by omega)
 rw [show ((b + 1:Nat):Int) = (b:Int) + 1 by omega] at W
 refine ⟨inR_of (by omega) (by omega),?_⟩
 refine ⟨_,W,?_⟩; simp (maxSteps:=2000000) only [go_sem,Nat.reduceBEq,Nat.reduceAdd,Nat.reduceMul,Nat.reduceMod,Nat.reduceLT,Nat.reduceDiv,Nat.reduceSub,Nat.reduceLeDiff,Int.reduceToNat,Int.reduceLT,Int.reduceLE,reduceCtorEq]
 have hvs : ∀ v ∈ (upto n).take b ++ (upto n).drop (b + 1), -1000 ≤ v ∧ v ≤ 1000 := fun v hv => by
  have hm : v ∈ upto n := by
   rcases List.mem_append.1 hv with h | h
   ·exact List.mem_of_mem_take h
   ·exact List.mem_of_mem_drop h
  have:=mem_upto.1 hm; omega
 refine ⟨_,shifted_ok ((upto n).take b ++ (upto n).drop (b + 1)) c (by simp [hu]; omega) hvs (by omega),?_⟩; simp (maxSteps:=2000000) only [go_sem,Nat.reduceBEq,Nat.reduceAdd,Nat.reduceMul,Nat.reduceMod,Nat.reduceLT,Nat.reduceDiv,Nat.reduceSub,Nat.reduceLeDiff,Int.reduceToNat,Int.reduceLT,Int.reduceLE,reduceCtorEq]
 rfl
theorem Concat_two {nl n1 n2 : Option Bool} (a b : List Int) (h : a.length + b.length ≤ 1048576) : CallOk Try.prog 83 [.s nl [.s n1 (ii a), .s n2 (ii b)]] [(0, .own 1 none (ii (a ++ b)))] := by
 have:=Concat_ok (nl:=nl) [(n1,a),(n2,b)] (by simp) (by simpa using h)
 simpa [nrows] using this
theorem oth_len {n b : Nat} {c : Int} : (othL n b c).length ≤ n + n := by
 have:=upto_len (n:=n)
 simp only [othL,List.length_map,List.length_append,List.length_take,List.length_drop]; omega
def mrM (x:List (List Int)) (n i:Nat):List Int:=(x.getD i []).map (· + (n:Int)) ++ othL n i 0
def mrW (y:List (List Int)) (n w:Nat):List Int:=y.getD w [] ++ othL n w n
def mrK (x:List (List Int)) (n k:Nat):List (List Int):=(List.range k).map (mrM x n)
def mrV (y:List (List Int)) (n k:Nat):List (List Int):=(List.range k).map (mrW y n)
def mrL (x y:List (List Int)):List (List Int):=mrK x x.length x.length ++ mrV y x.length x.length
theorem MarketAsRooms_ok {n1 n2 : Option Bool} (x y : List (List Int)) (hm : marketB x y = true) (h3 : x.length ≤ 3) (hx : x.length ≤ 1048576) (kx : ∀ r ∈ x, r.length ≤ 1048576) (hy : y.length ≤ 1048576) (ky : ∀ r ∈ y, r.length ≤ 1048576) :
  CallOk Try.prog 42 [.a [.s n1 (rr x),.s n2 (rr y)]] [(0,.tp 2),(100000,.own 1 none (rr (mrL x y))),(101000,.b true)]:=by
 have M:=mk_of hm
 have hyl:=M.w.len
 obtain ⟨code0,hcd1,hcd2⟩:=chk_impl_MarketAsRooms; refine callOk_of Try.func42 hcd1 mo Try.call42 (rs:=[2,3]) (by kernel_rfl) hcd2 (by rw [Try.ntmps42]; simp) (by simp) (by decide) ?_; unfold C_impl_MarketAsRooms K_impl_MarketAsRooms; simp (maxSteps:=2000000) only [go_sem,Nat.reduceBEq,Nat.reduceAdd,Nat.reduceMul,Nat.reduceMod,Nat.reduceLT,Nat.reduceDiv,Nat.reduceSub,Nat.reduceLeDiff,Int.reduceToNat,Int.reduceLT,Int.reduceLE,reduceCtorEq]
 refine ⟨_,impl_MarketOk_ok x y hx kx hy ky,?_⟩; simp (maxSteps:=2000000) only [go_sem,Nat.reduceBEq,Nat.reduceAdd,Nat.reduceMul,Nat.reduceMod,Nat.reduceLT,Nat.reduceDiv,Nat.reduceSub,Nat.reduceLeDiff,Int.reduceToNat,Int.reduceLT,Int.reduceLE,reduceCtorEq]
 rw [hm]
 simp (maxSteps:=2000000) only [go_sem,Nat.reduceBEq,Nat.reduceAdd,Nat.reduceMul,Nat.reduceMod,Nat.reduceLT,Nat.reduceDiv,Nat.reduceSub,Nat.reduceLeDiff,Int.reduceToNat,Int.reduceLT,Int.reduceLE,reduceCtorEq]
 refine ⟨fun h => by omega,fun _ => ?_⟩
 have hK:=fun k => (show (mrK x x.length k).length = k by simp [mrK])
 have hV:=fun k => (show (mrV y x.length k).length = k by simp [mrV])
 have hKs:∀ k,mrK x x.length (k + 1) = mrK x x.length k ++ [mrM x x.length k]:=fun k => by simp [mrK,List.range_succ]
 have hVs:∀ k,mrV y x.length (k + 1) = mrV y x.length k ++ [mrW y x.length k]:=fun k => by simp [mrV,List.range_succ]
 refine loopN x.length (fun i => [(0,.t .arg (.a [.s n1 (rr x),.s n2 (rr y)])),(1,.t .arg (.q [.s n1 (rr x),.s n2 (rr y)] 0)),(4,.i x.length),(5,.own 1 none (rr (mrK x x.length i))),(21,.t .arg (.s n1 (rr x))),(22,.i x.length),(23,.i (i:Nat))]) (fun _ => True) ⟨trivial,by simp (maxSteps:=2000000) only [go_sem,Nat.reduceBEq,Nat.reduceAdd,Nat.reduceMul,Nat.reduceMod,Nat.reduceLT,Nat.reduceDiv,Nat.reduceSub,Nat.reduceLeDiff,Int.reduceToNat,Int.reduceLT,Int.reduceLE,reduceCtorEq]; simp [mrK,rr,T.leL]⟩ fun i hi _ => ?_
 have hKi:=hK i
 simp (maxSteps:=2000000) only [go_sem,Nat.reduceBEq,Nat.reduceAdd,Nat.reduceMul,Nat.reduceMod,Nat.reduceLT,Nat.reduceDiv,Nat.reduceSub,Nat.reduceLeDiff,Int.reduceToNat,Int.reduceLT,Int.reduceLE,reduceCtorEq]
 refine ⟨fun hlt => ?_, fun hge => ?_⟩
 ·have hi':i < x.length:=by omega
  have hr:=M.m.rk i hi'
  have rl:=rank_len hr
  refine ⟨by omega,hi',hi',?_⟩
  have hvs : ∀ v ∈ x.getD i [], -1000 ≤ v ∧ v ≤ 1000 := fun v hv => by
   obtain ⟨j,hj,rfl⟩:=mem_getD 0 hv
   have:=rank_bd hr hj; omega
  refine ⟨_,shifted_ok (x.getD i []) x.length (by omega) hvs (by omega),?_⟩; simp (maxSteps:=2000000) only [go_sem,Nat.reduceBEq,Nat.reduceAdd,Nat.reduceMul,Nat.reduceMod,Nat.reduceLT,Nat.reduceDiv,Nat.reduceSub,Nat.reduceLeDiff,Int.reduceToNat,Int.reduceLT,Int.reduceLE,reduceCtorEq]
  refine ⟨_,others_ok x.length i 0 (by omega) hi' (by omega),?_⟩; simp (maxSteps:=2000000) only [go_sem,Nat.reduceBEq,Nat.reduceAdd,Nat.reduceMul,Nat.reduceMod,Nat.reduceLT,Nat.reduceDiv,Nat.reduceSub,Nat.reduceLeDiff,Int.reduceToNat,Int.reduceLT,Int.reduceLE,reduceCtorEq]
  refine ⟨_,Concat_two ((x.getD i []).map (· + (x.length:Int))) (othL x.length i 0) (by have:=oth_len (n:=x.length) (b:=i) (c:=0); rw [List.length_map]; omega),?_⟩; simp (maxSteps:=2000000) only [go_sem,Nat.reduceBEq,Nat.reduceAdd,Nat.reduceMul,Nat.reduceMod,Nat.reduceLT,Nat.reduceDiv,Nat.reduceSub,Nat.reduceLeDiff,Int.reduceToNat,Int.reduceLT,Int.reduceLE,reduceCtorEq]
  exact ⟨by simp,by omega,inR_of (by omega) (by omega),hi',(hKs i).symm,by simp⟩
 ·have:i = x.length:=by omega
  subst this
  refine loopN x.length (fun i => [(0,.t .arg (.a [.s n1 (rr x),.s n2 (rr y)])),(1,.t .arg (.q [.s n1 (rr x),.s n2 (rr y)] 0)),(4,.i x.length),(5,.own 1 none (rr (mrK x x.length x.length ++ mrV y x.length i))),(41,.t .arg (.s n2 (rr y))),(42,.i x.length),(43,.i (i:Nat))]) (fun _ => True) ⟨trivial,by simp (maxSteps:=2000000) only [go_sem,Nat.reduceBEq,Nat.reduceAdd,Nat.reduceMul,Nat.reduceMod,Nat.reduceLT,Nat.reduceDiv,Nat.reduceSub,Nat.reduceLeDiff,Int.reduceToNat,Int.reduceLT,Int.reduceLE,reduceCtorEq]; simp [mrV,rr,T.leL,hyl]⟩ fun i hi _ => ?_
  have hVi:=hV i
  simp (maxSteps:=2000000) only [go_sem,Nat.reduceBEq,Nat.reduceAdd,Nat.reduceMul,Nat.reduceMod,Nat.reduceLT,Nat.reduceDiv,Nat.reduceSub,Nat.reduceLeDiff,Int.reduceToNat,Int.reduceLT,Int.reduceLE,reduceCtorEq]
  refine ⟨fun hlt => ?_, fun hge => ?_⟩
  ·have hi':i < y.length:=by omega
   have hr:=M.w.rk i (by omega)
   have rl:=rank_len hr
   refine ⟨by omega,hi',hi',?_⟩
   refine ⟨_,others_ok x.length i x.length (by omega) (by omega) (by omega),?_⟩; simp (maxSteps:=2000000) only [go_sem,Nat.reduceBEq,Nat.reduceAdd,Nat.reduceMul,Nat.reduceMod,Nat.reduceLT,Nat.reduceDiv,Nat.reduceSub,Nat.reduceLeDiff,Int.reduceToNat,Int.reduceLT,Int.reduceLE,reduceCtorEq]
   refine ⟨_,Concat_two (y.getD i []) (othL x.length i x.length) (by have:=oth_len (n:=x.length) (b:=i) (c:=x.length); omega),?_⟩; simp (maxSteps:=2000000) only [go_sem,Nat.reduceBEq,Nat.reduceAdd,Nat.reduceMul,Nat.reduceMod,Nat.reduceLT,Nat.reduceDiv,Nat.reduceSub,Nat.reduceLeDiff,Int.reduceToNat,Int.reduceLT,Int.reduceLE,reduceCtorEq]
   have hKx:=hK x.length
   exact ⟨by simp,by rw [List.length_append]; omega,inR_of (by omega) (by omega),by omega,by rw [hVs,List.append_assoc]; rfl,by simp⟩
  ·have:i = x.length:=by omega
   subst this
   exact ⟨by omega,rfl⟩
end Go.Proofs.Ytllcbempbdibhaa
