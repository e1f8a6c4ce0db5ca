/- At every input the law below returns true and leaves its argument alone: pairings of roommates are stable exactly if no two block them, and marriages are roommates of a kind. No condition. -/
import Derived.Test.YtllcbempbdibhaaRows
import Derived.Test.YtllcbempbdibhaaRmm
import Derived.Test.YtllcbempbdibhaaRdraw
import Derived.Test.YtllcbempbdibhaaL17
import Derived.Test.YtllcbempbdibhaaFacts
import Derived.Test.YtllcbempbdibhaaMarks
namespace Go.Proofs.Ytllcbempbdibhaa
open Go Go.Vc
set_option maxRecDepth 100000
set_option linter.unusedSimpArgs false
set_option linter.unusedVariables false
open Go.ChangeShapes Go.WideShapes Go.RowKit
def K_laws_FnRooms:List Nat:=[0,2,3,4,5,6,7,8,9,10,11,12,13,14,15,16,17,18,135,136,137,1010,2010]
def C_laws_FnRooms : C :=
 let ks:=K_laws_FnRooms
 (.seq
  (.rg 0 [(none,.v 2 .mv [.k (.b false)])])
  (.cl ks (.seq
  (.seq
  (.rg 0 [(none,.v 19 .mv [.s 0]),(none,.v 20 .len [.s 19]),(none,.v 21 (.bin .gtr) [.s 20,.k (.i 1048576)])])
  (.cond (.s 21)
  (.seq
  (.rg 0 [(none,.v 2 .mv [.k (.b true)])])
  .ret)
  .skip))
  (.cl ks (.seq
  (.rg 0 [(none,.v 22 .mv [.s 0]),(none,.co 23 33 [.s 22,.k (.i 0)]),(none,.tk 3 23)])
  (.cl ks (.seq
  (.rg 0 [(none,.v 24 .mv [.s 3]),(none,.v 25 .len [.s 24]),(none,.co 26 34 [.s 25]),(none,.tk 4 26)])
  (.cl ks (.seq
  (.rg 0 [(none,.v 27 .mv [.s 3]),(none,.co 28 35 [.s 27]),(none,.tk 5 28)])
  (.cl ks (.seq
  (.rg 0 [(none,.v 30 .mv [.s 3]),(none,.co 31 36 [.s 30]),(none,.tk 29 31),(none,.tk 32 100029),(none,.tk 33 101029),(none,.tk 6 32),(none,.tk 7 33)])
  (.cl ks (.seq
  (.seq
  (.rg 0 [(none,.v 34 .mv [.s 3]),(none,.co 35 37 [.s 34]),(none,.v 36 .not [.s 35]),(none,.v 37 .mv [.s 36]),(some (37,false),.v 38 .mv [.s 4]),(some (37,false),.v 39 .len [.s 38]),(some (37,false),.v 40 (.bin .eql) [.s 39,.k (.i 0)]),(none,.v 41 .pick [.s 37,.k (.b true),.s 40]),(none,.v 42 .mv [.s 41]),(some (42,false),.v 43 .mv [.s 7]),(some (42,false),.v 44 .mv [.s 5]),(some (42,false),.v 45 .len [.s 44]),(some (42,false),.v 46 (.bin .gtr) [.s 45,.k (.i 0)]),(some (42,false),.v 47 .bne [.s 43,.s 46]),(none,.v 48 .pick [.s 42,.k (.b true),.s 47]),(none,.v 49 .mv [.s 48]),(some (49,false),.v 50 .mv [.s 3]),(some (49,false),.co 51 38 [.s 50]),(some (49,false),.v 52 (.bin .eql) [.s 51,.k (.i 0)]),(some (49,false),.v 53 .mv [.s 7]),(some (49,false),.v 54 .bne [.s 52,.s 53]),(none,.v 55 .pick [.s 49,.k (.b true),.s 54]),(none,.v 56 .mv [.s 55]),(some (56,false),.v 57 .mv [.s 7]),(some (56,false),.v 58 .mv [.s 57]),(some (58,true),.v 59 .mv [.s 3]),(some (58,true),.v 60 .mv [.s 6]),(some (58,true),.co 61 39 [.s 59,.s 60]),(some (58,true),.v 62 .not [.s 61]),(some (56,false),.v 63 .pick [.s 58,.s 62,.k (.b false)]),(none,.v 64 .pick [.s 56,.k (.b true),.s 63])])
  (.cond (.s 64)
  (.seq
  (.rg 0 [(none,.v 2 .mv [.k (.b false)])])
  .ret)
  .skip))
  (.cl ks (.seq
  (.rg 0 [(none,.v 65 .mv [.s 4]),(none,.v 66 .mv [.s 0]),(none,.co 67 17 [.s 66,.k (.i 60)]),(none,.v 68 .mv [.s 4]),(none,.v 69 .len [.s 68]),(none,.v 70 (.bin .rem) [.s 67,.s 69]),(none,.v 71 .idx [.s 65,.s 70]),(none,.v 72 .ld [.s 71]),(none,.tk 8 72)])
  (.cl ks (.seq
  (.rg 0 [(none,.v 73 .mv [.s 3]),(none,.v 74 .mv [.s 8]),(none,.co 75 40 [.s 73,.s 74]),(none,.tk 9 75)])
  (.cl ks (.seq
  (.seq
  (.rg 0 [(none,.v 76 .mv [.s 3]),(none,.v 77 .len [.s 76]),(none,.v 78 .mv [.s 8]),(none,.co 79 41 [.s 77,.s 78]),(none,.v 80 .not [.s 79]),(none,.v 81 .mv [.s 80]),(some (81,false),.v 82 .mv [.s 3]),(some (81,false),.v 83 .mv [.s 8]),(some (81,false),.co 84 39 [.s 82,.s 83]),(some (81,false),.v 85 .mv [.s 9]),(some (81,false),.v 86 .len [.s 85]),(some (81,false),.v 87 (.bin .eql) [.s 86,.k (.i 0)]),(some (81,false),.v 88 .bne [.s 84,.s 87]),(none,.v 89 .pick [.s 81,.k (.b true),.s 88]),(none,.v 90 .mv [.s 89]),(some (90,false),.v 91 .mv [.s 9]),(some (90,false),.v 92 .len [.s 91]),(some (90,false),.v 93 .mv [.s 3]),(some (90,false),.co 94 38 [.s 93]),(some (90,false),.v 95 (.bin .lss) [.s 92,.s 94]),(none,.v 96 .pick [.s 90,.k (.b true),.s 95]),(none,.v 97 .mv [.s 96]),(some (97,false),.v 98 .mv [.s 4]),(some (97,false),.v 99 .len [.s 98]),(some (97,false),.lit 100 [.k (.i 0),.k (.i 0),.k (.i 1),.k (.i 0),.k (.i 3),.k (.i 0),.k (.i 15)] 0),(some (97,false),.v 101 .mv [.s 3]),(some (97,false),.v 102 .len [.s 101]),(some (97,false),.v 103 .idx [.s 100,.s 102]),(some (97,false),.v 104 .ld [.s 103]),(some (97,false),.v 105 (.bin .neq) [.s 99,.s 104]),(none,.v 106 .pick [.s 97,.k (.b true),.s 105])])
  (.cond (.s 106)
  (.seq
  (.rg 0 [(none,.v 2 .mv [.k (.b false)])])
  .ret)
  .skip))
  (.cl ks (.seq
  (.rg 0 [(none,.v 107 .mv [.s 0]),(none,.co 108 15 [.s 107,.k (.i 80),.k (.i 3)]),(none,.new 10 [.s (some true) [],.s (some true) []]),(none,.sts (.s 10) (.s 108) 2)])
  (.cl ks (.seq
  (.rg 0 [(none,.v 110 (.lds 2) [.s 10]),(none,.co 111 42 [.s 110]),(none,.tk 109 111),(none,.tk 112 100109),(none,.tk 113 101109),(none,.tk 11 112),(none,.tk 12 113)])
  (.cl ks (.seq
  (.rg 0 [(none,.v 114 (.fa 0) [.s 10]),(none,.v 115 .ld [.s 114]),(none,.v 116 .len [.s 115]),(none,.tk 13 116)])
  (.cl ks (.seq
  (.rg 0 [(none,.v 117 .mv [.s 11]),(none,.co 118 35 [.s 117]),(none,.tk 14 118)])
  (.cl ks (.seq
  (.rg 0 [(none,.v 119 (.lds 2) [.s 10]),(none,.co 120 16 [.s 119]),(none,.tk 15 120)])
  (.cl ks (.seq
  (.seq
  (.rg 0 [(none,.v 121 .mv [.s 12]),(none,.v 122 .not [.s 121]),(none,.v 123 .mv [.s 122]),(some (123,false),.v 124 .mv [.s 11]),(some (123,false),.co 125 37 [.s 124]),(some (123,false),.v 126 .not [.s 125]),(none,.v 127 .pick [.s 123,.k (.b true),.s 126]),(none,.v 128 .mv [.s 127]),(some (128,false),.v 129 .mv [.s 14]),(some (128,false),.v 130 .len [.s 129]),(some (128,false),.v 131 .mv [.s 15]),(some (128,false),.v 132 .len [.s 131]),(some (128,false),.v 133 (.bin .neq) [.s 130,.s 132]),(none,.v 134 .pick [.s 128,.k (.b true),.s 133])])
  (.cond (.s 134)
  (.seq
  (.rg 0 [(none,.v 2 .mv [.k (.b false)])])
  .ret)
  .skip))
  (.cl ks (.seq
  (.seq
  (.rg 0 [(none,.v 135 .mv [.s 14]),(none,.v 136 .len [.s 135]),(none,.v 137 .mv [.k (.i 0)])])
  (.cl ks (.block 0
  (.loop
  (.seq
  (.rg 0 [(none,.v 138 (.bin .lss) [.s 137,.s 136])])
  (.seq
  (.cond (.s 138)
  .skip
  (.exit 0))
  (.cl ks (.seq
  (.block 1
  (.seq
  (.rg 0 [(none,.v 139 .mv [.s 137]),(none,.v 140 .idx [.s 135,.s 137]),(none,.v 141 .ld [.s 140]),(none,.tk 16 139),(none,.tk 17 141)])
  (.cl ks (.seq
  (.seq
  (.rg 0 [(none,.v 142 .mv [.s 17]),(none,.v 143 .len [.s 142]),(none,.v 144 .mv [.s 13]),(none,.v 145 (.bin .mul) [.k (.i 2),.s 144]),(none,.v 146 (.bin .neq) [.s 143,.s 145]),(none,.v 147 .mv [.s 146]),(some (147,false),.v 148 .mv [.s 15]),(some (147,false),.v 149 .mv [.s 16]),(some (147,false),.v 150 .idx [.s 148,.s 149]),(some (147,false),.v 151 .ld [.s 150]),(some (147,false),.v 152 .len [.s 151]),(some (147,false),.v 153 .mv [.s 13]),(some (147,false),.v 154 (.bin .neq) [.s 152,.s 153]),(none,.v 155 .pick [.s 147,.k (.b true),.s 154])])
  (.cond (.s 155)
  (.seq
  (.rg 0 [(none,.v 2 .mv [.k (.b false)])])
  .ret)
  .skip))
  (.cl ks (.seq
  (.rg 0 [(none,.v 18 .mv [.k (.i 0)])])
  (.cl ks (.block 2
  (.loop
  (.seq
  (.seq
  (.rg 0 [(none,.v 156 .mv [.s 18]),(none,.v 157 .mv [.s 13]),(none,.v 158 (.bin .lss) [.s 156,.s 157])])
  (.cond (.s 158)
  .skip
  (.exit 2)))
  (.cl ks (.seq
  (.block 3
  (.seq
  (.rg 13 [(none,.v 161 .mv [.s 17]),(none,.v 162 .mv [.s 18]),(none,.v 163 .idx [.s 161,.s 162]),(none,.v 164 .ld [.s 163]),(none,.v 165 .mv [.s 13]),(none,.v 166 .mv [.s 15]),(none,.v 167 .mv [.s 16]),(none,.v 168 .idx [.s 166,.s 167]),(none,.v 169 .ld [.s 168]),(none,.v 170 .mv [.s 18]),(none,.v 171 .idx [.s 169,.s 170]),(none,.v 172 .ld [.s 171]),(none,.v 173 (.bin .add) [.s 165,.s 172]),(none,.v 174 (.bin .neq) [.s 164,.s 173])])
  (.cond (.s 174)
  (.seq
  (.rg 0 [(none,.v 2 .mv [.k (.b false)])])
  .ret)
  .skip)))
  (.cl ks (.rg 0 [(none,.v 159 .mv [.s 18]),(none,.v 160 (.bin .add) [.s 159,.k (.i 1)]),(none,.tk 18 160)]))))))))))))))
  (.cl ks (.rg 0 [(none,.v 175 (.bin .add) [.s 137,.k (.i 1)]),(none,.v 137 .mv [.s 175])]))))))))))
  (.cl ks (.seq
  (.rg 0 [(none,.v 2 .mv [.k (.b true)])])
  .ret)))))))))))))))))))))))))))))))))))
theorem chk_laws_FnRooms:∃ b,Try.f5.body = some b ∧ chk Try.prog Try.f5.ntmps true C_laws_FnRooms b = true:=⟨_,rfl,by kernel_rfl⟩
theorem marP_get {n k : Nat} {r : List Int} (hr : r.length = n) (hk : k < n) : (marP n r).getD k 0 = (n : Int) + r.getD k 0 := by
 simp only [marP,List.getD]
 rw [List.getElem?_append_left (by rw [List.length_map]; omega),List.getElem?_map,List.getElem?_eq_getElem (by omega:k < r.length)]
 simp only [Option.map_some,Option.getD_some]; omega
set_option maxHeartbeats 4000000 in
theorem FnRooms_ok (u : Value) (l : List Int) (a : l.length ≤ 9223372036854775807) (hb : ∀ x ∈ l, 0 ≤ x ∧ x < 256) : CallOk Try.prog 5 [.xv u (.s none (byt l))] [(0, .b true)] := by
 obtain ⟨code0,hcd1,hcd2⟩:=chk_laws_FnRooms; refine callOk_of Try.func5 hcd1 mo Try.call5 (rs:=[2]) (by kernel_rfl) hcd2 (by rw [Try.ntmps5]; simp) (by simp) (by decide) ?_; unfold C_laws_FnRooms K_laws_FnRooms; simp (maxSteps:=2000000) only [go_sem,Nat.reduceBEq,Nat.reduceAdd,Nat.reduceMul,Nat.reduceMod,Nat.reduceLT,Nat.reduceDiv,Nat.reduceSub,Nat.reduceLeDiff,Int.reduceToNat,Int.reduceLT,Int.reduceLE,reduceCtorEq]
 simp only [byt_len]
 refine ⟨fun _ => trivial,fun hlen => ?_⟩
 have C:CodeL l:=⟨by omega,hb⟩
 obtain ⟨q,R,W⟩:=spec_MakeRooms_ok u none C (n:=0) (by omega) (by omega)
 obtain ⟨y60,p0,p1,W60⟩:=spec_MakeNum_ok u none C (n:=60) (by omega) (by omega)
 obtain ⟨x,y,hm,x3,W2⟩:=spec_MakeMarket_ok u none C (n:=80) (by omega) (by omega) (m:=3) (by omega) (by omega)
 have he:=R.ev
 have hP:=PP_len he
 have hS:=stF_len R
 have hfz:=few_zero R
 have hf0:=few_0 (x:=q) (k:=(PP q.length).length)
 have ix : 0 ≤ y60.tmod ((PP q.length).length : Int) ∧ (y60.tmod ((PP q.length).length : Int)).toNat < (PP q.length).length := by
  have h1:=Int.tmod_nonneg ((PP q.length).length:Int) p0
  have h2:=Int.tmod_lt_of_pos y60 (show (0:Int) < ((PP q.length).length:Int) by omega)
  omega
 have hpp:=PP_pair he _ (getD_mem (d:=[]) ix.2)
 have hfl:=few_le (x:=q) (k:=(PP q.length).length) _ ix.2
 have f1:(((PP q.length).length:Int) = 0) = False:=eq_false (by omega)
 refine ⟨_,W,?_⟩; simp (maxSteps:=2000000) only [go_sem,Nat.reduceBEq,Nat.reduceAdd,Nat.reduceMul,Nat.reduceMod,Nat.reduceLT,Nat.reduceDiv,Nat.reduceSub,Nat.reduceLeDiff,Int.reduceToNat,Int.reduceLT,Int.reduceLE,reduceCtorEq]
 refine ⟨_,AllPairings_ok q.length he,?_⟩; simp (maxSteps:=2000000) only [go_sem,Nat.reduceBEq,Nat.reduceAdd,Nat.reduceMul,Nat.reduceMod,Nat.reduceLT,Nat.reduceDiv,Nat.reduceSub,Nat.reduceLeDiff,Int.reduceToNat,Int.reduceLT,Int.reduceLE,reduceCtorEq]
 refine ⟨_,StablePairings_ok q R,?_⟩; simp (maxSteps:=2000000) only [go_sem,Nat.reduceBEq,Nat.reduceAdd,Nat.reduceMul,Nat.reduceMod,Nat.reduceLT,Nat.reduceDiv,Nat.reduceSub,Nat.reduceLeDiff,Int.reduceToNat,Int.reduceLT,Int.reduceLE,reduceCtorEq]
 have hT : ([.i 0, .i 0, .i 1, .i 0, .i 3, .i 0, .i 15] : List T).getD q.length .any = .i (PP q.length).length := by
  rcases he with e | e | e <;> rw [e]
  ·rw [PP2]; rfl
  ·rw [PP4]; rfl
  ·rw [PP6]; rfl
 have M:=mk_of hm
 have n1:=M.m.n1
 have hyl:=M.w.len
 have hx:x.length ≤ 1048576:=by omega
 have hy:y.length ≤ 1048576:=by omega
 have kx : ∀ r ∈ x, r.length ≤ 1048576 := fun r hr => by
  obtain ⟨i,hi,rfl⟩:=mem_getD [] hr
  have:=rank_len (M.m.rk i hi); omega
 have ky : ∀ r ∈ y, r.length ≤ 1048576 := fun r hr => by
  obtain ⟨i,hi,rfl⟩:=mem_getD [] hr
  have:=rank_len (M.w.rk i (by omega)); omega
 have RM:=rm_mrL hm x3
 have hST:=rooms_eq hm x3
 have f6:(stF (mrL x y)).length = (stabF x y).length:=by rw [hST,List.length_map]
 have hU:∀ u ∈ stabF x y,u.length = x.length:=fun u hu => by have:=rank_len (stab_rank hu).2.1; omega
 have hUl:=stabF_len (x:=x) (y:=y)
 have hTU : ∀ i, i < (stabF x y).length → (stF (mrL x y)).getD i [] = marP x.length ((stabF x y).getD i []) := fun i hi => by
  rw [hST]; simp [List.getD,hi]
 refine (Classical.em (0 < (stF q).length)).elim (fun hs => ?_) (fun hs => ?_)
 have h0:=hfz.2 hs
 have hmem:=List.mem_filter.1 (show (stF q).getD 0 [] ∈ (PP q.length).filter (stB q) from getD_mem (d:=[]) hs)
 have cSt : ∀ n1 n2, CallOk Try.prog 39 [.s n1 (rr q), .s n2 (ii ((stF q).getD 0 []))] [(0, .b true)] := fun n1 n2 => by
  have:=IsStablePairing_ok (n1:=n1) (n2:=n2) q ((stF q).getD 0 []) R (PP_pair he _ hmem.1)
  rwa [hmem.2] at this
 have f2:(0 < ((stF q).length:Int)) = True:=eq_true (by omega)
 refine ⟨_,FirstPairing_ok q R hs,?_⟩; simp (maxSteps:=2000000) only [go_sem,Nat.reduceBEq,Nat.reduceAdd,Nat.reduceMul,Nat.reduceMod,Nat.reduceLT,Nat.reduceDiv,Nat.reduceSub,Nat.reduceLeDiff,Int.reduceToNat,Int.reduceLT,Int.reduceLE,reduceCtorEq]
 refine ⟨_,RoomsOk_ok q R,?_⟩; simp (maxSteps:=2000000) only [go_sem,Nat.reduceBEq,Nat.reduceAdd,Nat.reduceMul,Nat.reduceMod,Nat.reduceLT,Nat.reduceDiv,Nat.reduceSub,Nat.reduceLeDiff,Int.reduceToNat,Int.reduceLT,Int.reduceLE,reduceCtorEq]
 simp (maxSteps:=2000000) only [go_sem,Nat.reduceBEq,Nat.reduceAdd,Nat.reduceMul,Nat.reduceMod,Nat.reduceLT,Nat.reduceDiv,Nat.reduceSub,Nat.reduceLeDiff,Int.reduceToNat,Int.reduceLT,Int.reduceLE,reduceCtorEq,f1,f2,decide_false,decide_true,bne_self_eq_false,true_implies,not_true_eq_false,not_false_eq_true]
 refine ⟨_,FewestBlocks_ok q R,?_⟩; simp (maxSteps:=2000000) only [go_sem,Nat.reduceBEq,Nat.reduceAdd,Nat.reduceMul,Nat.reduceMod,Nat.reduceLT,Nat.reduceDiv,Nat.reduceSub,Nat.reduceLeDiff,Int.reduceToNat,Int.reduceLT,Int.reduceLE,reduceCtorEq]
 have f3:(fewK q (PP q.length).length = 0) = True:=eq_true h0
 simp (maxSteps:=2000000) only [go_sem,Nat.reduceBEq,Nat.reduceAdd,Nat.reduceMul,Nat.reduceMod,Nat.reduceLT,Nat.reduceDiv,Nat.reduceSub,Nat.reduceLeDiff,Int.reduceToNat,Int.reduceLT,Int.reduceLE,reduceCtorEq,f3,decide_false,decide_true,bne_self_eq_false,true_implies,not_true_eq_false,not_false_eq_true]
 refine ⟨_,cSt _ _,?_⟩; simp (maxSteps:=2000000) only [go_sem,Nat.reduceBEq,Nat.reduceAdd,Nat.reduceMul,Nat.reduceMod,Nat.reduceLT,Nat.reduceDiv,Nat.reduceSub,Nat.reduceLeDiff,Int.reduceToNat,Int.reduceLT,Int.reduceLE,reduceCtorEq]
 rotate_left
 have hs0:stF q = []:=List.eq_nil_of_length_eq_zero (by omega)
 have h0:¬ fewK q (PP q.length).length = 0:=fun h => hs (hfz.1 h)
 have f2:(0 < ((stF q).length:Int)) = False:=eq_false (by omega)
 refine ⟨_,FirstPairing_no q R hs0,?_⟩; simp (maxSteps:=2000000) only [go_sem,Nat.reduceBEq,Nat.reduceAdd,Nat.reduceMul,Nat.reduceMod,Nat.reduceLT,Nat.reduceDiv,Nat.reduceSub,Nat.reduceLeDiff,Int.reduceToNat,Int.reduceLT,Int.reduceLE,reduceCtorEq]
 refine ⟨_,RoomsOk_ok q R,?_⟩; simp (maxSteps:=2000000) only [go_sem,Nat.reduceBEq,Nat.reduceAdd,Nat.reduceMul,Nat.reduceMod,Nat.reduceLT,Nat.reduceDiv,Nat.reduceSub,Nat.reduceLeDiff,Int.reduceToNat,Int.reduceLT,Int.reduceLE,reduceCtorEq]
 simp (maxSteps:=2000000) only [go_sem,Nat.reduceBEq,Nat.reduceAdd,Nat.reduceMul,Nat.reduceMod,Nat.reduceLT,Nat.reduceDiv,Nat.reduceSub,Nat.reduceLeDiff,Int.reduceToNat,Int.reduceLT,Int.reduceLE,reduceCtorEq,f1,f2,decide_false,decide_true,bne_self_eq_false,true_implies,not_true_eq_false,not_false_eq_true]
 refine ⟨_,FewestBlocks_ok q R,?_⟩; simp (maxSteps:=2000000) only [go_sem,Nat.reduceBEq,Nat.reduceAdd,Nat.reduceMul,Nat.reduceMod,Nat.reduceLT,Nat.reduceDiv,Nat.reduceSub,Nat.reduceLeDiff,Int.reduceToNat,Int.reduceLT,Int.reduceLE,reduceCtorEq]
 have f3:(fewK q (PP q.length).length = 0) = False:=eq_false h0
 simp (maxSteps:=2000000) only [go_sem,Nat.reduceBEq,Nat.reduceAdd,Nat.reduceMul,Nat.reduceMod,Nat.reduceLT,Nat.reduceDiv,Nat.reduceSub,Nat.reduceLeDiff,Int.reduceToNat,Int.reduceLT,Int.reduceLE,reduceCtorEq,f3,decide_false,decide_true,bne_self_eq_false,true_implies,not_true_eq_false,not_false_eq_true]
 all_goals
  refine ⟨_,W60,?_⟩; simp (maxSteps:=2000000) only [go_sem,Nat.reduceBEq,Nat.reduceAdd,Nat.reduceMul,Nat.reduceMod,Nat.reduceLT,Nat.reduceDiv,Nat.reduceSub,Nat.reduceLeDiff,Int.reduceToNat,Int.reduceLT,Int.reduceLE,reduceCtorEq]
  refine ⟨by omega,by omega,ix.2,ix.2,?_⟩
  generalize (PP q.length).getD (y60.tmod ((PP q.length).length:Int)).toNat [] = P at hpp hfl ⊢
  have cB:=fun n1 n2 => BlockingRooms_ok (n1:=n1) (n2:=n2) q P R hpp
  have cS:∀ n1 n2,CallOk Try.prog 39 [.s n1 (rr q),.s n2 (ii P)] [(0,.b (decide (((rbL q P q.length q.length).length:Int) = 0)))]:=fun n1 n2 => IsStablePairing_ok (n1:=n1) (n2:=n2) q P R hpp
  refine ⟨_,cB _ _,?_⟩; simp (maxSteps:=2000000) only [go_sem,Nat.reduceBEq,Nat.reduceAdd,Nat.reduceMul,Nat.reduceMod,Nat.reduceLT,Nat.reduceDiv,Nat.reduceSub,Nat.reduceLeDiff,Int.reduceToNat,Int.reduceLT,Int.reduceLE,reduceCtorEq]
  refine ⟨_,IsPairing_ok q.length P he hpp,?_⟩; simp (maxSteps:=2000000) only [go_sem,Nat.reduceBEq,Nat.reduceAdd,Nat.reduceMul,Nat.reduceMod,Nat.reduceLT,Nat.reduceDiv,Nat.reduceSub,Nat.reduceLeDiff,Int.reduceToNat,Int.reduceLT,Int.reduceLE,reduceCtorEq]
  refine ⟨_,cS _ _,?_⟩; simp (maxSteps:=2000000) only [go_sem,Nat.reduceBEq,Nat.reduceAdd,Nat.reduceMul,Nat.reduceMod,Nat.reduceLT,Nat.reduceDiv,Nat.reduceSub,Nat.reduceLeDiff,Int.reduceToNat,Int.reduceLT,Int.reduceLE,reduceCtorEq]
  simp (maxSteps:=2000000) only [go_sem,Nat.reduceBEq,Nat.reduceAdd,Nat.reduceMul,Nat.reduceMod,Nat.reduceLT,Nat.reduceDiv,Nat.reduceSub,Nat.reduceLeDiff,Int.reduceToNat,Int.reduceLT,Int.reduceLE,reduceCtorEq,bne_self_eq_false,decide_false,decide_true,true_implies,not_true_eq_false,not_false_eq_true]
  refine ⟨_,FewestBlocks_ok q R,?_⟩; simp (maxSteps:=2000000) only [go_sem,Nat.reduceBEq,Nat.reduceAdd,Nat.reduceMul,Nat.reduceMod,Nat.reduceLT,Nat.reduceDiv,Nat.reduceSub,Nat.reduceLeDiff,Int.reduceToNat,Int.reduceLT,Int.reduceLE,reduceCtorEq]
  have f4:(((rbL q P q.length q.length).length:Int) < fewK q (PP q.length).length) = False:=eq_false (by omega)
  simp (maxSteps:=2000000) only [go_sem,Nat.reduceBEq,Nat.reduceAdd,Nat.reduceMul,Nat.reduceMod,Nat.reduceLT,Nat.reduceDiv,Nat.reduceSub,Nat.reduceLeDiff,Int.reduceToNat,Int.reduceLT,Int.reduceLE,reduceCtorEq,f4,decide_false,decide_true,true_implies,not_true_eq_false,not_false_eq_true]
  simp (maxSteps:=2000000) only [go_sem,Nat.reduceBEq,Nat.reduceAdd,Nat.reduceMul,Nat.reduceMod,Nat.reduceLT,Nat.reduceDiv,Nat.reduceSub,Nat.reduceLeDiff,Int.reduceToNat,Int.reduceLT,Int.reduceLE,reduceCtorEq,hT,decide_false,decide_true,true_implies,not_true_eq_false,not_false_eq_true]
  refine ⟨by omega,by omega,by omega,?_⟩
  refine ⟨_,W2,?_⟩; simp (maxSteps:=2000000) only [go_sem,Nat.reduceBEq,Nat.reduceAdd,Nat.reduceMul,Nat.reduceMod,Nat.reduceLT,Nat.reduceDiv,Nat.reduceSub,Nat.reduceLeDiff,Int.reduceToNat,Int.reduceLT,Int.reduceLE,reduceCtorEq]
  refine ⟨_,MarketAsRooms_ok x y hm x3 hx kx hy ky,?_⟩; simp (maxSteps:=2000000) only [go_sem,Nat.reduceBEq,Nat.reduceAdd,Nat.reduceMul,Nat.reduceMod,Nat.reduceLT,Nat.reduceDiv,Nat.reduceSub,Nat.reduceLeDiff,Int.reduceToNat,Int.reduceLT,Int.reduceLE,reduceCtorEq]
  refine ⟨_,StablePairings_ok (mrL x y) RM,?_⟩; simp (maxSteps:=2000000) only [go_sem,Nat.reduceBEq,Nat.reduceAdd,Nat.reduceMul,Nat.reduceMod,Nat.reduceLT,Nat.reduceDiv,Nat.reduceSub,Nat.reduceLeDiff,Int.reduceToNat,Int.reduceLT,Int.reduceLE,reduceCtorEq]
  refine ⟨_,impl_StableMatchings_ok x y hx kx hy ky,?_⟩; simp (maxSteps:=2000000) only [go_sem,Nat.reduceBEq,Nat.reduceAdd,Nat.reduceMul,Nat.reduceMod,Nat.reduceLT,Nat.reduceDiv,Nat.reduceSub,Nat.reduceLeDiff,Int.reduceToNat,Int.reduceLT,Int.reduceLE,reduceCtorEq]
  refine ⟨_,RoomsOk_ok (mrL x y) RM,?_⟩; simp (maxSteps:=2000000) only [go_sem,Nat.reduceBEq,Nat.reduceAdd,Nat.reduceMul,Nat.reduceMod,Nat.reduceLT,Nat.reduceDiv,Nat.reduceSub,Nat.reduceLeDiff,Int.reduceToNat,Int.reduceLT,Int.reduceLE,reduceCtorEq]
  refine ⟨fun h => h f6,fun _ => ?_⟩
  refine loopN (stF (mrL x y)).length (fun i => [(0,.t .arg (.xv u (.s none (byt l)))),(2,.b false),(13,.i x.length),(14,.own 0 none (rr (stF (mrL x y)))),(15,.own 1 none (rr (stabF x y))),(135,.al 14),(136,.i (stF (mrL x y)).length),(137,.i (i:Nat))]) (fun _ => True) ⟨trivial,by simp (maxSteps:=2000000) only [go_sem,Nat.reduceBEq,Nat.reduceAdd,Nat.reduceMul,Nat.reduceMod,Nat.reduceLT,Nat.reduceDiv,Nat.reduceSub,Nat.reduceLeDiff,Int.reduceToNat,Int.reduceLT,Int.reduceLE,reduceCtorEq,le_self]; simp [le_self]⟩ fun i hi _ => ?_
  simp (maxSteps:=2000000) only [go_sem,Nat.reduceBEq,Nat.reduceAdd,Nat.reduceMul,Nat.reduceMod,Nat.reduceLT,Nat.reduceDiv,Nat.reduceSub,Nat.reduceLeDiff,Int.reduceToNat,Int.reduceLT,Int.reduceLE,reduceCtorEq,le_self]
  refine ⟨fun hlt => ?_,fun hge => trivial⟩
  have hi1:i < (stF (mrL x y)).length:=by omega
  have hi2:i < (stabF x y).length:=by omega
  have hu:=hU _ (getD_mem (d:=[]) hi2)
  refine ⟨by omega,hi1,hi1,?_⟩
  have hrow:=hTU i hi2
  rw [hrow]
  have hml:(marP x.length ((stabF x y).getD i [])).length = x.length + x.length:=by simp only [marP,List.length_append,List.length_map,List.length_range]; omega
  have hmg:=fun k hk => marP_get (k:=k) hu hk
  have hbd:=fun k (hk:k < x.length) => rank_bd (stab_rank (getD_mem (d:=[]) hi2)).2.1 (i:=k) (by omega)
  generalize marP x.length ((stabF x y).getD i []) = Y at hml hmg ⊢
  refine ⟨inR_of (by omega) (by omega),fun _ => ⟨by omega,hi2,hi2,fun h => h hu,fun _ => ?_⟩,fun h => by omega⟩
  refine loopN x.length (fun k => [(0,.t .arg (.xv u (.s none (byt l)))),(2,.b false),(13,.i x.length),(14,.own 0 none (rr (stF (mrL x y)))),(15,.own 1 none (rr (stabF x y))),(16,.i i),(17,.t .fr (.s none (ii Y))),(18,.i (k:Nat)),(135,.al 14),(136,.i (stF (mrL x y)).length),(137,.i (i:Nat))]) (fun _ => True) ⟨trivial,by simp (maxSteps:=2000000) only [go_sem,Nat.reduceBEq,Nat.reduceAdd,Nat.reduceMul,Nat.reduceMod,Nat.reduceLT,Nat.reduceDiv,Nat.reduceSub,Nat.reduceLeDiff,Int.reduceToNat,Int.reduceLT,Int.reduceLE,reduceCtorEq,le_self]; simp [le_self]⟩ fun k hk _ => ?_
  simp (maxSteps:=2000000) only [go_sem,Nat.reduceBEq,Nat.reduceAdd,Nat.reduceMul,Nat.reduceMod,Nat.reduceLT,Nat.reduceDiv,Nat.reduceSub,Nat.reduceLeDiff,Int.reduceToNat,Int.reduceLT,Int.reduceLE,reduceCtorEq,le_self]
  refine ⟨fun hlt2 => ?_, fun hge2 => ?_⟩
  ·have hk':k < x.length:=by omega
   have g1:=hmg k hk'
   have g2:=hbd k hk'
   exact ⟨by omega,by omega,by omega,by omega,hi2,hi2,by omega,by omega,by omega,inR_of (by omega) (by omega),fun h => h g1,fun _ => ⟨inR_of (by omega) (by omega),hk',by simp⟩⟩
  ·exact ⟨inR_of (by omega) (by omega),hi1,by simp⟩
theorem FnRooms_lifted (os : Os) (started : os.Started) (H : Type) (enc : TypeId × Value → H) :
  ReturnsInHanded {} Try.checked os 5 .any (Rows.fnRoomsSpec.pre6 enc Try.prog Try.f5 Rows.fnRoomsRow.domain false) (Rows.fnRoomsSpec.post enc Try.prog Try.f5 false true false false):=by
 refine returnsInHanded_of_change (C := Try.checked) ownk started (by as_aux_lemma => kernel_rfl) Try.func5
  (ChangeSpec.witness6 (enc:=enc) (C:=Try.checked) false ⟨#[],#[.slice none 0 0],[]⟩ 8 (by kernel_rfl) (by kernel_rfl) (by kernel_rfl) (by kernel_rfl)) ?_
 intro W base args ds gs before hval0 hW _ _
 have hval:∀ (j:Nat) t v,Try.f5.params[j]? = some t → args[j]? = some v → Value.okWide Try.prog W .any base t v:=hval0
 have hW':=hW
 obtain ⟨p,q,hA0,_⟩:=hW
 have hA:DataW.TrodAll enc Try.prog W 0 (fun _ => true) true Try.f5.params.toList args.toList ds p:=hA0
 rw [Try.params5] at hA hval
 clear hA0 hval0
 obtain ⟨v0,d0,rfl,rfl,h0⟩:=trodAll_one hA
 obtain ⟨x0,a0,b0,f0⟩:=fz_bytes Try.underlying36 Try.underlying5 (by kernel_rfl:Try.prog.cellsOf 5 = 1) (hval 0 36 v0 rfl rfl) h0
 exact law_post (P := Try.prog) pfacts.laid (fun t ht => by rw [Try.params5] at ht; revert t; simp only [List.mem_cons, List.not_mem_nil, or_false, forall_eq_or_imp, forall_eq]; exact ⟨by kernel_rfl, of_decide_eq_true (by kernel_rfl)⟩) rfl (by kernel_rfl) rfl (fun ds hds => by
  have hds:ds.length = 1:=hds
  match ds,hds with
  | [d0],_ => rfl) hW' (ts:=[.xv v0 (.s none (byt x0))]) (by simp only [FzL]; exact ⟨_,_,rfl,f0,rfl⟩) (FnRooms_ok v0 x0 a0 b0)
set_option maxHeartbeats 4000000 in
theorem FnRooms_holds : Rows.FnRoomsSaid :=
 OpenClaim.holds_of_wide (p := Try.pinned) (s := Rows.fnRoomsSpec) (c := Rows.fnRoomsRow) 5 Try.f5 rfl rfl rfl rfl rfl rfl rfl ⟨rfl, rfl, rfl, rfl, rfl⟩ rfl rfl rfl rfl rfl (by as_aux_lemma => kernel_rfl) Try.func5 (joined_of pfacts rfl rfl rfl (by as_aux_lemma => kernel_rfl) (by as_aux_lemma => kernel_rfl) (by as_aux_lemma => kernel_rfl) (by as_aux_lemma => kernel_rfl) (by as_aux_lemma => kernel_rfl) (by as_aux_lemma => kernel_rfl) (by as_aux_lemma => kernel_rfl) (by as_aux_lemma => kernel_rfl) (by as_aux_lemma => kernel_rfl) (by as_aux_lemma => kernel_rfl) (by as_aux_lemma => kernel_rfl) (by as_aux_lemma => kernel_rfl) (by as_aux_lemma => kernel_rfl) (by as_aux_lemma => kernel_rfl) (by as_aux_lemma => kernel_rfl) (by as_aux_lemma => kernel_rfl) (by as_aux_lemma => kernel_rfl) (by as_aux_lemma => kernel_rfl) (by as_aux_lemma => kernel_rfl) (by as_aux_lemma => kernel_rfl) (by as_aux_lemma => kernel_rfl) (by as_aux_lemma => kernel_rfl) (by as_aux_lemma => kernel_rfl))
  (of_decide_eq_true (by kernel_rfl)) (by unfold Func.isWrapper; rw [if_neg (of_decide_eq_false (by kernel_rfl))]; exact ⟨rfl,rfl⟩)
  (fun os started H enc _ => FnRooms_lifted os started H enc)
end Go.Proofs.Ytllcbempbdibhaa
