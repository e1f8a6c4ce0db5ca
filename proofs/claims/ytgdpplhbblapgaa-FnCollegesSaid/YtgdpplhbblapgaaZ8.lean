/- At every input the law below returns true and leaves its argument alone: students and colleges get stable entries by their own steps, and the same places are filled in all of them. No condition. -/
import Derived.Test.YtgdpplhbblapgaaRows
import Derived.Test.YtgdpplhbblapgaaEntm
import Derived.Test.YtgdpplhbblapgaaCdr
import Derived.Test.YtgdpplhbblapgaaLsame
import Derived.Test.YtgdpplhbblapgaaFacts
import Derived.Test.YtgdpplhbblapgaaMarks
namespace Go.Proofs.Ytgdpplhbblapgaa
open Go Go.Vc
set_option maxRecDepth 100000
set_option linter.unusedSimpArgs false
set_option linter.unusedVariables false
open Go.ChangeShapes Go.WideShapes Go.RowKit
def K_laws_FnColleges:List Nat:=[0,2,3,4,5,6,7,9,10,11,12,13,14,56,57,58,87,88,89,1003,2003,3003,1012,2012,3012]
def C_laws_FnColleges : C :=
 let ks:=K_laws_FnColleges
 (.seq
  (.rg 0 [(none,.v 2 .mv [.k (.b false)])])
  (.cl ks (.seq
  (.seq
  (.rg 0 [(none,.v 15 .mv [.s 0]),(none,.v 16 .len [.s 15]),(none,.v 17 (.bin .gtr) [.s 16,.k (.i 1048576)])])
  (.cond (.s 17)
  (.seq
  (.rg 0 [(none,.v 2 .mv [.k (.b true)])])
  .ret)
  .skip))
  (.cl ks (.seq
  (.rg 0 [(none,.v 18 .mv [.s 0]),(none,.co 19 32 [.s 18,.k (.i 0)]),(none,.new 3 [.s (some true) [],.s (some true) [],.s (some true) []]),(none,.sts (.s 3) (.s 19) 3)])
  (.cl ks (.seq
  (.rg 0 [(none,.v 20 (.lds 3) [.s 3]),(none,.co 21 22 [.s 20]),(none,.tk 4 21)])
  (.cl ks (.seq
  (.rg 0 [(none,.v 22 (.lds 3) [.s 3]),(none,.co 23 15 [.s 22]),(none,.tk 5 23)])
  (.cl ks (.seq
  (.rg 0 [(none,.v 24 (.lds 3) [.s 3]),(none,.co 25 33 [.s 24]),(none,.tk 6 25)])
  (.cl ks (.seq
  (.seq
  (.rg 0 [(none,.v 26 (.lds 3) [.s 3]),(none,.v 27 .mv [.s 4]),(none,.co 28 34 [.s 26,.s 27]),(none,.v 29 .not [.s 28]),(none,.v 30 .mv [.s 29]),(some (30,false),.v 31 (.lds 3) [.s 3]),(some (30,false),.v 32 .mv [.s 5]),(some (30,false),.co 33 34 [.s 31,.s 32]),(some (30,false),.v 34 .not [.s 33]),(none,.v 35 .pick [.s 30,.k (.b true),.s 34]),(none,.v 36 .mv [.s 35]),(some (36,false),.v 37 (.lds 3) [.s 3]),(some (36,false),.v 38 .mv [.s 4]),(some (36,false),.co 39 35 [.s 37,.s 38]),(some (36,false),.v 40 .not [.s 39]),(none,.v 41 .pick [.s 36,.k (.b true),.s 40]),(none,.v 42 .mv [.s 41]),(some (42,false),.v 43 (.lds 3) [.s 3]),(some (42,false),.v 44 .mv [.s 5]),(some (42,false),.co 45 35 [.s 43,.s 44]),(some (42,false),.v 46 .not [.s 45]),(none,.v 47 .pick [.s 42,.k (.b true),.s 46]),(none,.v 48 .mv [.s 47]),(some (48,false),.v 49 .mv [.s 6]),(some (48,false),.v 50 .len [.s 49]),(some (48,false),.v 51 (.bin .eql) [.s 50,.k (.i 0)]),(none,.v 52 .pick [.s 48,.k (.b true),.s 51])])
  (.cond (.s 52)
  (.seq
  (.rg 0 [(none,.v 2 .mv [.k (.b false)])])
  .ret)
  .skip))
  (.cl ks (.seq
  (.rg 0 [(none,.v 53 (.lds 3) [.s 3]),(none,.v 54 .mv [.s 4]),(none,.co 55 36 [.s 53,.s 54]),(none,.tk 7 55)])
  (.cl ks (.seq
  (.seq
  (.rg 0 [(none,.v 56 .mv [.s 6]),(none,.v 57 .len [.s 56]),(none,.v 58 .mv [.k (.i 0)])])
  (.cl ks (.block 0
  (.loop
  (.seq
  (.rg 0 [(none,.v 59 (.bin .lss) [.s 58,.s 57])])
  (.seq
  (.cond (.s 59)
  .skip
  (.exit 0))
  (.cl ks (.seq
  (.block 1
  (.seq
  (.rg 0 [(none,.v 60 .idx [.s 56,.s 58]),(none,.v 61 .ld [.s 60]),(none,.tk 9 61)])
  (.cl ks (.seq
  (.seq
  (.rg 0 [(none,.v 62 (.lds 3) [.s 3]),(none,.v 63 .mv [.s 9]),(none,.co 64 34 [.s 62,.s 63]),(none,.v 65 .not [.s 64]),(none,.v 66 .mv [.s 65]),(some (66,false),.v 67 (.lds 3) [.s 3]),(some (66,false),.v 68 .mv [.s 9]),(some (66,false),.co 69 35 [.s 67,.s 68]),(some (66,false),.v 70 .not [.s 69]),(none,.v 71 .pick [.s 66,.k (.b true),.s 70]),(none,.v 72 .mv [.s 71]),(some (72,false),.v 73 (.lds 3) [.s 3]),(some (72,false),.v 74 .mv [.s 9]),(some (72,false),.co 75 37 [.s 73,.s 74]),(some (72,false),.v 76 .len [.s 75]),(some (72,false),.v 77 (.bin .neq) [.s 76,.k (.i 0)]),(none,.v 78 .pick [.s 72,.k (.b true),.s 77]),(none,.v 79 .mv [.s 78]),(some (79,false),.v 80 (.lds 3) [.s 3]),(some (79,false),.v 81 .mv [.s 9]),(some (79,false),.co 82 36 [.s 80,.s 81]),(some (79,false),.v 83 .mv [.s 7]),(some (79,false),.co 84 38 [.s 82,.s 83]),(some (79,false),.v 85 .not [.s 84]),(none,.v 86 .pick [.s 79,.k (.b true),.s 85])])
  (.cond (.s 86)
  (.seq
  (.rg 0 [(none,.v 2 .mv [.k (.b false)])])
  .ret)
  .skip))
  (.cl ks (.seq
  (.rg 0 [(none,.v 87 .mv [.s 9]),(none,.v 88 .len [.s 87]),(none,.v 89 .mv [.k (.i 0)])])
  (.cl ks (.block 2
  (.loop
  (.seq
  (.rg 0 [(none,.v 90 (.bin .lss) [.s 89,.s 88])])
  (.seq
  (.cond (.s 90)
  .skip
  (.exit 2))
  (.cl ks (.seq
  (.block 3
  (.seq
  (.rg 0 [(none,.v 91 .mv [.s 89]),(none,.v 92 .idx [.s 87,.s 89]),(none,.v 93 .ld [.s 92]),(none,.tk 10 91),(none,.tk 11 93)])
  (.cl ks (.seq
  (.rg 39 [(none,.v 94 .mv [.s 11]),(none,.v 95 (.bin .lss) [.s 94,.k (.i 0)]),(none,.v 96 .mv [.s 4]),(none,.v 97 .mv [.s 10]),(none,.v 98 .idx [.s 96,.s 97]),(none,.v 99 .ld [.s 98]),(none,.v 100 (.bin .lss) [.s 99,.k (.i 0)]),(none,.v 101 .bne [.s 95,.s 100]),(none,.v 102 .mv [.s 101]),(some (102,false),.v 103 .mv [.s 11]),(some (102,false),.v 104 (.bin .geq) [.s 103,.k (.i 0)]),(some (102,false),.v 105 .mv [.s 104]),(some (105,true),.v 106 (.fa 0) [.s 3]),(some (105,true),.v 107 .ld [.s 106]),(some (105,true),.v 108 .mv [.s 10]),(some (105,true),.v 109 .idx [.s 107,.s 108]),(some (105,true),.v 110 .ld [.s 109]),(some (105,true),.v 111 .mv [.s 11]),(some (105,true),.v 112 .mv [.s 4]),(some (105,true),.v 113 .mv [.s 10]),(some (105,true),.v 114 .idx [.s 112,.s 113]),(some (105,true),.v 115 .ld [.s 114]),(some (105,true),.v 116 (.call 39) [.s 110,.s 111,.s 115]),(some (102,false),.v 117 .pick [.s 105,.s 116,.k (.b false)]),(none,.v 118 .pick [.s 102,.k (.b true),.s 117]),(none,.v 119 .mv [.s 118]),(some (119,false),.v 120 .mv [.s 11]),(some (119,false),.v 121 (.bin .geq) [.s 120,.k (.i 0)]),(some (119,false),.v 122 .mv [.s 121]),(some (122,true),.v 123 (.fa 0) [.s 3]),(some (122,true),.v 124 .ld [.s 123]),(some (122,true),.v 125 .mv [.s 10]),(some (122,true),.v 126 .idx [.s 124,.s 125]),(some (122,true),.v 127 .ld [.s 126]),(some (122,true),.v 128 .mv [.s 5]),(some (122,true),.v 129 .mv [.s 10]),(some (122,true),.v 130 .idx [.s 128,.s 129]),(some (122,true),.v 131 .ld [.s 130]),(some (122,true),.v 132 .mv [.s 11]),(some (122,true),.co 133 39 [.s 127,.s 131,.s 132]),(some (119,false),.v 134 .pick [.s 122,.s 133,.k (.b false)]),(none,.v 135 .pick [.s 119,.k (.b true),.s 134])])
  (.cond (.s 135)
  (.seq
  (.rg 0 [(none,.v 2 .mv [.k (.b false)])])
  .ret)
  .skip)))))
  (.cl ks (.rg 0 [(none,.v 136 (.bin .add) [.s 89,.k (.i 1)]),(none,.v 89 .mv [.s 136])])))))))))))))))
  (.cl ks (.rg 0 [(none,.v 137 (.bin .add) [.s 58,.k (.i 1)]),(none,.v 58 .mv [.s 137])]))))))))))
  (.cl ks (.seq
  (.rg 0 [(none,.v 139 (.lds 3) [.s 3]),(none,.co 140 40 [.s 139]),(none,.tk 138 140),(none,.tk 141 100138),(none,.tk 142 101138),(none,.new 12 [.s (some true) [],.s (some true) [],.s (some true) []]),(none,.sts (.s 12) (.s 141) 3),(none,.tk 13 142)])
  (.cl ks (.seq
  (.rg 0 [(none,.v 143 (.fa 2) [.s 3]),(none,.v 144 .ld [.s 143]),(none,.co 145 41 [.s 144]),(none,.tk 14 145)])
  (.cl ks (.seq
  (.rg 0 [(none,.v 146 (.lds 3) [.s 3]),(none,.v 147 .mv [.s 4]),(none,.co 148 42 [.s 146,.s 147]),(none,.v 149 .mv [.s 148]),(some (149,true),.v 150 .mv [.s 13]),(some (149,true),.v 151 .mv [.s 14]),(some (149,true),.v 152 (.bin .geq) [.s 151,.k (.i 1)]),(some (149,true),.v 153 .mv [.s 152]),(some (153,true),.v 154 .mv [.s 14]),(some (153,true),.v 155 (.bin .leq) [.s 154,.k (.i 3)]),(some (149,true),.v 156 .pick [.s 153,.s 155,.k (.b false)]),(some (149,true),.v 157 .beq [.s 150,.s 156]),(none,.v 158 .pick [.s 149,.s 157,.k (.b false)]),(none,.v 159 .mv [.s 158]),(some (159,true),.v 160 .mv [.s 13]),(some (159,true),.v 161 .not [.s 160]),(some (159,true),.v 162 .mv [.s 161]),(some (162,false),.v 163 (.lds 3) [.s 12]),(some (162,false),.co 164 33 [.s 163]),(some (162,false),.v 165 .len [.s 164]),(some (162,false),.v 166 .mv [.s 6]),(some (162,false),.v 167 .len [.s 166]),(some (162,false),.v 168 (.bin .eql) [.s 165,.s 167]),(some (162,false),.v 169 .mv [.s 168]),(some (169,true),.v 170 (.fa 1) [.s 12]),(some (169,true),.v 171 .ld [.s 170]),(some (169,true),.v 172 .len [.s 171]),(some (169,true),.v 173 .mv [.s 14]),(some (169,true),.v 174 (.bin .eql) [.s 172,.s 173]),(some (162,false),.v 175 .pick [.s 169,.s 174,.k (.b false)]),(some (159,true),.v 176 .pick [.s 162,.k (.b true),.s 175]),(none,.v 177 .pick [.s 159,.s 176,.k (.b false)]),(none,.tk 2 177)])
  .ret)))))))))))))))))))))))
theorem chk_laws_FnColleges:∃ b,Try.f7.body = some b ∧ chk Try.prog Try.f7.ntmps true C_laws_FnColleges b = true:=⟨_,rfl,by kernel_rfl⟩
theorem col_facts {x y : List (List Int)} {z l : List Int} (h0 : schoolB x y z = true) (h : stEF x y z l = true) : l.length = x.length ∧ entryB x y z l = true ∧ stEB x y z l = true ∧ (blocksF x y z l).length = 0 ∧ filF y.length l = filF y.length (appF x y z) ∧
  ∀ i,i < x.length → (decide (l.getD i 0 < 0) = decide ((appF x y z).getD i 0 < 0)) ∧ (0 ≤ l.getD i 0 → prefB (x.getD i []) (l.getD i 0) ((appF x y z).getD i 0) = false ∧ prefB (x.getD i []) ((offF x y z).getD i 0) (l.getD i 0) = false):=by
 have S:=sc_of h0
 have H:=sh_of S
 obtain ⟨hl,W⟩:=(stb_iff h0).1 h
 obtain ⟨al,A,best⟩:=app_stable h0
 obtain ⟨bl,B,worst⟩:=off_stable h0
 obtain ⟨r1,r2⟩:=rural H A W fun i hi => best _ W i hi
 have h':=h
 unfold stEF at h'
 rw [Bool.and_eq_true,decide_eq_true_eq] at h'
 refine ⟨hl, h'.1, h, by unfold blocksF; rw [if_pos h'.1]; exact h'.2, ?_, fun i hi => ⟨?_, fun hk => ⟨?_, ?_⟩⟩⟩
 ·refine lst_ext (n:=y.length) filF_len filF_len fun k hk => ?_
  show (filF y.length l).getD k 0 = (filF y.length (appF x y z)).getD k 0
  rw [filF_cnt (fun i hi => (W.bd i (by omega)).2) hk,filF_cnt (fun i hi => (A.bd i (by omega)).2) hk,← cn_count,← cn_count,hl,al]
  exact (r1 k hk).symm
 ·have:=r2 i hi
  unfold fnE at this
  rw [decide_eq_decide]; omega
 ·have hb:=best _ W i hi
  have hwb:=W.bd i hi
  have hab:=A.bd i hi
  unfold fnE at hb hwb hab
  cases hp:prefB (x.getD i []) (l.getD i 0) ((appF x y z).getD i 0) with
  | false => rfl
  | true =>
   obtain ⟨k,hk'⟩:∃ k:Nat,l.getD i 0 = k:=⟨(l.getD i 0).toNat,by omega⟩
   rw [hk'] at hp hb hwb
   have:=(pref_pv S hi (k:=k) (by omega) hab).1 (.inr hp)
   rw [pv_at] at hb; omega
 ·have hb:=worst _ W i hi
  have hwb:=W.bd i hi
  have hbb:=B.bd i hi
  unfold fnE at hb hwb hbb
  cases hp:prefB (x.getD i []) ((offF x y z).getD i 0) (l.getD i 0) with
  | false => rfl
  | true =>
   have hnn : 0 ≤ (offF x y z).getD i 0 := by
    refine Classical.byContradiction fun hn => ?_
    unfold prefB at hp
    simp only [Bool.and_eq_true,decide_eq_true_eq] at hp
    have:(offF x y z).getD i 0 ∈ x.getD i []:=Classical.byContradiction fun h => by have:=placeI_neg.2 h; omega
    obtain ⟨j,hj,e⟩:=mem_getD 0 this
    have:=rank_bd (S.rx i hi) hj
    omega
   obtain ⟨k,hk'⟩:∃ k:Nat,(offF x y z).getD i 0 = k:=⟨((offF x y z).getD i 0).toNat,by omega⟩
   rw [hk'] at hp hb hbb
   have:=(pref_pv S hi (k:=k) (by omega) hwb).1 (.inr hp)
   rw [pv_at] at hb; omega
set_option maxHeartbeats 4000000 in
theorem FnColleges_ok (u : Value) (l : List Int) (a : l.length ≤ 9223372036854775807) (hb : ∀ x ∈ l, 0 ≤ x ∧ x < 256) : CallOk Try.prog 7 [.xv u (.s none (byt l))] [(0, .b true)] := by
 obtain ⟨code0,hcd1,hcd2⟩:=chk_laws_FnColleges; refine callOk_of Try.func7 hcd1 mo Try.call7 (rs:=[2]) (by kernel_rfl) hcd2 (by rw [Try.ntmps7]; simp) (by simp) (by decide) ?_; unfold C_laws_FnColleges K_laws_FnColleges; simp (maxSteps:=2000000) only [go_sem,Nat.reduceBEq,Nat.reduceAdd,Nat.reduceMul,Nat.reduceMod,Nat.reduceLT,Nat.reduceDiv,Nat.reduceSub,Nat.reduceLeDiff,Int.reduceToNat,Int.reduceLT,Int.reduceLE,reduceCtorEq]
 simp only [byt_len]
 refine ⟨fun _ => trivial,fun hlen => ?_⟩
 have C:CodeL l:=⟨by omega,hb⟩
 obtain ⟨x,y,z,h0,x4,z2,W⟩:=spec_MakeSchool_ok u none C (n:=0) (by omega) (by omega)
 have S:=sc_of h0
 have n1:=S.n1
 have n5:=S.n5
 have c1:=S.c1
 have c3:=S.c3
 have lz:=S.lz
 have hx:x.length ≤ 1048576:=by omega
 have hy:y.length ≤ 1048576:=by omega
 have hz:z.length ≤ 1048576:=by omega
 have kx : ∀ r ∈ x, r.length ≤ 1048576 := fun r hr => by
  obtain ⟨i,hi,rfl⟩:=mem_getD [] hr
  have:=rank_len (S.rx i hi); omega
 have ky : ∀ r ∈ y, r.length ≤ 1048576 := fun r hr => by
  obtain ⟨i,hi,rfl⟩:=mem_getD [] hr
  have:=rank_len (S.ry i hi); omega
 obtain ⟨al,A,_⟩:=app_stable h0
 obtain ⟨bl,B,_⟩:=off_stable h0
 have sa:=(stb_iff h0).2 ⟨al,A⟩
 have sb:=(stb_iff h0).2 ⟨bl,B⟩
 obtain ⟨_,ea,ta,_⟩:=col_facts h0 sa
 obtain ⟨_,eb,tb,_⟩:=col_facts h0 sb
 have hall:0 < (steF x y z).length:=List.length_pos_of_mem ((ste_mem h0).2 sa)
 have hS:=fun w (hw:w ∈ steF x y z) => col_facts h0 ((ste_mem h0).1 hw)
 have hSl : (steF x y z).length ≤ 1024 := by
  unfold steF
  rw [if_pos h0]
  exact Nat.le_trans selG_len (pow_ste S)
 have cE : ∀ w, w.length ≤ 1048576 → entryB x y z w = true → ∀ n4, CallOk Try.prog 34 [.a [.s none (rr x), .s none (rr y), .s none (ii z)], .s n4 (ii w)] [(0, .b true)] := fun w hw he n4 => by
  have:=spec_EntryOk_ok (n1:=none) (n2:=none) (n3:=none) (n4:=n4) x y z w hx kx hy ky hz hw
  rwa [he] at this
 have cS : ∀ w, w.length ≤ 1048576 → stEB x y z w = true → ∀ n4, CallOk Try.prog 35 [.a [.s none (rr x), .s none (rr y), .s none (ii z)], .s n4 (ii w)] [(0, .b true)] := fun w hw he n4 => by
  have:=impl_IsStableEntry_ok (n1:=none) (n2:=none) (n3:=none) (n4:=n4) x y z w hx kx hy ky hz hw
  rwa [he] at this
 have cI : ∀ n4, CallOk Try.prog 42 [.a [.s none (rr x), .s none (rr y), .s none (ii z)], .s n4 (ii (appF x y z))] [(0, .b true)] := fun n4 => by
  have:=impl_EntryOk_ok (n1:=none) (n2:=none) (n3:=none) (n4:=n4) x y z (appF x y z) hx kx hy ky hz (by omega)
  rwa [ea] at this
 have cF:=fun n4 => impl_FilledPlaces_ok (n1:=none) (n2:=none) (n3:=none) (n4:=n4) x y z (appF x y z) ea hx kx hy ky hz (by omega)
 refine ⟨_,W,?_⟩; simp (maxSteps:=2000000) only [go_sem,Nat.reduceBEq,Nat.reduceAdd,Nat.reduceMul,Nat.reduceMod,Nat.reduceLT,Nat.reduceDiv,Nat.reduceSub,Nat.reduceLeDiff,Int.reduceToNat,Int.reduceLT,Int.reduceLE,reduceCtorEq]
 refine ⟨_,impl_Apply_ok x y z hx kx hy ky hz,?_⟩; simp (maxSteps:=2000000) only [go_sem,Nat.reduceBEq,Nat.reduceAdd,Nat.reduceMul,Nat.reduceMod,Nat.reduceLT,Nat.reduceDiv,Nat.reduceSub,Nat.reduceLeDiff,Int.reduceToNat,Int.reduceLT,Int.reduceLE,reduceCtorEq]
 refine ⟨_,impl_Offer_ok x y z hx kx hy ky hz,?_⟩; simp (maxSteps:=2000000) only [go_sem,Nat.reduceBEq,Nat.reduceAdd,Nat.reduceMul,Nat.reduceMod,Nat.reduceLT,Nat.reduceDiv,Nat.reduceSub,Nat.reduceLeDiff,Int.reduceToNat,Int.reduceLT,Int.reduceLE,reduceCtorEq]
 refine ⟨_,impl_StableEntries_ok x y z hx kx hy ky hz,?_⟩; simp (maxSteps:=2000000) only [go_sem,Nat.reduceBEq,Nat.reduceAdd,Nat.reduceMul,Nat.reduceMod,Nat.reduceLT,Nat.reduceDiv,Nat.reduceSub,Nat.reduceLeDiff,Int.reduceToNat,Int.reduceLT,Int.reduceLE,reduceCtorEq]
 refine ⟨_,cE _ (by omega) ea _,?_⟩; simp (maxSteps:=2000000) only [go_sem,Nat.reduceBEq,Nat.reduceAdd,Nat.reduceMul,Nat.reduceMod,Nat.reduceLT,Nat.reduceDiv,Nat.reduceSub,Nat.reduceLeDiff,Int.reduceToNat,Int.reduceLT,Int.reduceLE,reduceCtorEq]
 refine ⟨_,cE _ (by omega) eb _,?_⟩; simp (maxSteps:=2000000) only [go_sem,Nat.reduceBEq,Nat.reduceAdd,Nat.reduceMul,Nat.reduceMod,Nat.reduceLT,Nat.reduceDiv,Nat.reduceSub,Nat.reduceLeDiff,Int.reduceToNat,Int.reduceLT,Int.reduceLE,reduceCtorEq]
 refine ⟨_,cS _ (by omega) ta _,?_⟩; simp (maxSteps:=2000000) only [go_sem,Nat.reduceBEq,Nat.reduceAdd,Nat.reduceMul,Nat.reduceMod,Nat.reduceLT,Nat.reduceDiv,Nat.reduceSub,Nat.reduceLeDiff,Int.reduceToNat,Int.reduceLT,Int.reduceLE,reduceCtorEq]
 refine ⟨_,cS _ (by omega) tb _,?_⟩; simp (maxSteps:=2000000) only [go_sem,Nat.reduceBEq,Nat.reduceAdd,Nat.reduceMul,Nat.reduceMod,Nat.reduceLT,Nat.reduceDiv,Nat.reduceSub,Nat.reduceLeDiff,Int.reduceToNat,Int.reduceLT,Int.reduceLE,reduceCtorEq]
 refine ⟨fun h => by omega,fun _ => ?_⟩
 refine ⟨_,cF _,?_⟩; simp (maxSteps:=2000000) only [go_sem,Nat.reduceBEq,Nat.reduceAdd,Nat.reduceMul,Nat.reduceMod,Nat.reduceLT,Nat.reduceDiv,Nat.reduceSub,Nat.reduceLeDiff,Int.reduceToNat,Int.reduceLT,Int.reduceLE,reduceCtorEq]
 have hcnt:=spl_count (x:=x) (y:=y) (z:=z) h0
 have hok:=spl_ok (x:=x) (y:=y) (z:=z) h0
 generalize hall':steF x y z = L at hall hS hSl hcnt ⊢
 generalize hAA:appF x y z = aa at *
 generalize hBB:offF x y z = bb at *
 refine loopN L.length (fun t => [(0,.t .arg (.xv u (.s none (byt l)))),(2,.b false),(3,.bx 3),(4,.own 1 none (ii aa)),(5,.own 1 none (ii bb)),(6,.own 1 none (rr L)),(7,.own 1 none (ii (filF y.length aa))),(56,.al 6),(57,.i L.length),(58,.i (t:Nat)),(1003,.own 1 none (rr x)),(2003,.own 1 none (rr y)),(3003,.own 1 none (ii z))]) (fun _ => True) ⟨trivial,by simp (maxSteps:=2000000) only [go_sem,Nat.reduceBEq,Nat.reduceAdd,Nat.reduceMul,Nat.reduceMod,Nat.reduceLT,Nat.reduceDiv,Nat.reduceSub,Nat.reduceLeDiff,Int.reduceToNat,Int.reduceLT,Int.reduceLE,reduceCtorEq,le_self]; simp [le_self]⟩ fun t ht _ => ?_
 simp (maxSteps:=2000000) only [go_sem,Nat.reduceBEq,Nat.reduceAdd,Nat.reduceMul,Nat.reduceMod,Nat.reduceLT,Nat.reduceDiv,Nat.reduceSub,Nat.reduceLeDiff,Int.reduceToNat,Int.reduceLT,Int.reduceLE,reduceCtorEq,le_self]
 refine ⟨fun hlt => ?_, fun hge => ?_⟩
 ·have ht':t < L.length:=by omega
  obtain ⟨wl,we,ws,wb,wf,wi⟩:=hS _ (getD_mem (d:=[]) ht')
  refine ⟨by omega,ht',ht',?_⟩
  generalize L.getD t [] = w at wl we ws wb wf wi ⊢
  have cB:=fun n4 => impl_EntryBlocks_ok (n1:=none) (n2:=none) (n3:=none) (n4:=n4) x y z w hx kx hy ky hz (by omega)
  have cFw:=fun n4 => impl_FilledPlaces_ok (n1:=none) (n2:=none) (n3:=none) (n4:=n4) x y z w we hx kx hy ky hz (by omega)
  have f1:(((blocksF x y z w).length:Int) = 0) = True:=by rw [wb]; simp
  have hfl:(filF y.length w).length ≤ 1048576:=by rw [filF_len]; omega
  refine ⟨_,cE w (by omega) we _,?_⟩; simp (maxSteps:=2000000) only [go_sem,Nat.reduceBEq,Nat.reduceAdd,Nat.reduceMul,Nat.reduceMod,Nat.reduceLT,Nat.reduceDiv,Nat.reduceSub,Nat.reduceLeDiff,Int.reduceToNat,Int.reduceLT,Int.reduceLE,reduceCtorEq]
  refine ⟨_,cS w (by omega) ws _,?_⟩; simp (maxSteps:=2000000) only [go_sem,Nat.reduceBEq,Nat.reduceAdd,Nat.reduceMul,Nat.reduceMod,Nat.reduceLT,Nat.reduceDiv,Nat.reduceSub,Nat.reduceLeDiff,Int.reduceToNat,Int.reduceLT,Int.reduceLE,reduceCtorEq]
  refine ⟨_,cB _,?_⟩; simp (maxSteps:=2000000) only [go_sem,Nat.reduceBEq,Nat.reduceAdd,Nat.reduceMul,Nat.reduceMod,Nat.reduceLT,Nat.reduceDiv,Nat.reduceSub,Nat.reduceLeDiff,Int.reduceToNat,Int.reduceLT,Int.reduceLE,reduceCtorEq]
  simp (maxSteps:=2000000) only [go_sem,Nat.reduceBEq,Nat.reduceAdd,Nat.reduceMul,Nat.reduceMod,Nat.reduceLT,Nat.reduceDiv,Nat.reduceSub,Nat.reduceLeDiff,Int.reduceToNat,Int.reduceLT,Int.reduceLE,reduceCtorEq,f1,not_true_eq_false,decide_false]
  refine ⟨_,cFw _,?_⟩; simp (maxSteps:=2000000) only [go_sem,Nat.reduceBEq,Nat.reduceAdd,Nat.reduceMul,Nat.reduceMod,Nat.reduceLT,Nat.reduceDiv,Nat.reduceSub,Nat.reduceLeDiff,Int.reduceToNat,Int.reduceLT,Int.reduceLE,reduceCtorEq]
  refine ⟨_,laws_same_yes (filF y.length w) (filF y.length aa) hfl wf,?_⟩; simp (maxSteps:=2000000) only [go_sem,Nat.reduceBEq,Nat.reduceAdd,Nat.reduceMul,Nat.reduceMod,Nat.reduceLT,Nat.reduceDiv,Nat.reduceSub,Nat.reduceLeDiff,Int.reduceToNat,Int.reduceLT,Int.reduceLE,reduceCtorEq]
  refine loopN w.length (fun i => [(0,.t .arg (.xv u (.s none (byt l)))),(2,.b false),(3,.bx 3),(4,.own 1 none (ii aa)),(5,.own 1 none (ii bb)),(6,.own 1 none (rr L)),(7,.own 1 none (ii (filF y.length aa))),(9,.t (.rw 6) (.s none (ii w))),(56,.al 6),(57,.i L.length),(58,.i (t:Nat)),(87,.t (.rw 6) (.s none (ii w))),(88,.i w.length),(89,.i (i:Nat)),(1003,.own 1 none (rr x)),(2003,.own 1 none (rr y)),(3003,.own 1 none (ii z))]) (fun _ => True) ⟨trivial,by simp (maxSteps:=2000000) only [go_sem,Nat.reduceBEq,Nat.reduceAdd,Nat.reduceMul,Nat.reduceMod,Nat.reduceLT,Nat.reduceDiv,Nat.reduceSub,Nat.reduceLeDiff,Int.reduceToNat,Int.reduceLT,Int.reduceLE,reduceCtorEq,le_self]; simp [le_self]⟩ fun i hi _ => ?_
  simp (maxSteps:=2000000) only [go_sem,Nat.reduceBEq,Nat.reduceAdd,Nat.reduceMul,Nat.reduceMod,Nat.reduceLT,Nat.reduceDiv,Nat.reduceSub,Nat.reduceLeDiff,Int.reduceToNat,Int.reduceLT,Int.reduceLE,reduceCtorEq,le_self]
  refine ⟨fun hlt2 => ?_, fun hge2 => ?_⟩
  ·have hi':i < w.length:=by omega
   obtain ⟨g1,g2⟩:=wi i (by omega)
   have g3:(decide (w.getD i 0 < 0) != decide (aa.getD i 0 < 0)) = false:=by rw [g1]; simp
   have hxi:(x.getD i []).length ≤ 1048576:=kx _ (getD_mem (by omega))
   simp (maxSteps:=2000000) only [go_sem,Nat.reduceBEq,Nat.reduceAdd,Nat.reduceMul,Nat.reduceMod,Nat.reduceLT,Nat.reduceDiv,Nat.reduceSub,Nat.reduceLeDiff,Int.reduceToNat,Int.reduceLT,Int.reduceLE,reduceCtorEq,g3]
   refine ⟨by omega, hi', hi', by omega, by omega, by omega, fun hk => ⟨by omega, by omega, by omega, by omega, by omega, by omega, ?_⟩, fun hk => ?_⟩
   ·obtain ⟨p1,p2⟩:=g2 hk
    have cP1 : ∀ n3, CallOk Try.prog 39 [.s n3 (ii (x.getD i [])), .i (w.getD i 0), .i (aa.getD i 0)] [(0, .b false)] := fun n3 => by
     have:=impl_Prefers_ok (nl:=n3) (x.getD i []) (w.getD i 0) (aa.getD i 0) hxi
     rwa [p1] at this
    have cP2 : ∀ n3, CallOk Try.prog 39 [.s n3 (ii (x.getD i [])), .i (bb.getD i 0), .i (w.getD i 0)] [(0, .b false)] := fun n3 => by
     have:=impl_Prefers_ok (nl:=n3) (x.getD i []) (bb.getD i 0) (w.getD i 0) hxi
     rwa [p2] at this
    refine ⟨_,cP1 _,?_⟩; simp (maxSteps:=2000000) only [go_sem,Nat.reduceBEq,Nat.reduceAdd,Nat.reduceMul,Nat.reduceMod,Nat.reduceLT,Nat.reduceDiv,Nat.reduceSub,Nat.reduceLeDiff,Int.reduceToNat,Int.reduceLT,Int.reduceLE,reduceCtorEq]
    refine ⟨fun _ => ⟨by omega,by omega,by omega,by omega,by omega,by omega,?_⟩,fun h => absurd hk h⟩
    refine ⟨_,cP2 _,?_⟩; simp (maxSteps:=2000000) only [go_sem,Nat.reduceBEq,Nat.reduceAdd,Nat.reduceMul,Nat.reduceMod,Nat.reduceLT,Nat.reduceDiv,Nat.reduceSub,Nat.reduceLeDiff,Int.reduceToNat,Int.reduceLT,Int.reduceLE,reduceCtorEq]
    exact ⟨inR_of (by omega) (by omega),hi',by simp [le_self]⟩
   ·refine ⟨fun h => absurd h hk,fun _ => ?_⟩
    exact ⟨inR_of (by omega) (by omega),hi',by simp [le_self]⟩
  ·have:i = w.length:=by omega
   subst this
   exact ⟨inR_of (by omega) (by omega),ht',by simp [le_self]⟩
 ·have:t = L.length:=by omega
  subst this
  have zb:∀ v ∈ z,0 ≤ v ∧ v ≤ 1000:=fun v hv => by have:=z2 v hv; omega
  by_cases hs : 1 ≤ z.sum ∧ z.sum ≤ 3
  ·obtain ⟨hsc,hpz,_⟩:=hok hs z2
   have hcn:=hcnt hs z2
   refine ⟨_,impl_SplitSchool_ok x y z h0 hs hx kx hy ky hz,?_⟩; simp (maxSteps:=2000000) only [go_sem,Nat.reduceBEq,Nat.reduceAdd,Nat.reduceMul,Nat.reduceMod,Nat.reduceLT,Nat.reduceDiv,Nat.reduceSub,Nat.reduceLeDiff,Int.reduceToNat,Int.reduceLT,Int.reduceLE,reduceCtorEq]
   refine ⟨_,laws_sum_ok z hz zb,?_⟩; simp (maxSteps:=2000000) only [go_sem,Nat.reduceBEq,Nat.reduceAdd,Nat.reduceMul,Nat.reduceMod,Nat.reduceLT,Nat.reduceDiv,Nat.reduceSub,Nat.reduceLeDiff,Int.reduceToNat,Int.reduceLT,Int.reduceLE,reduceCtorEq]
   refine ⟨_,cI _,?_⟩; simp (maxSteps:=2000000) only [go_sem,Nat.reduceBEq,Nat.reduceAdd,Nat.reduceMul,Nat.reduceMod,Nat.reduceLT,Nat.reduceDiv,Nat.reduceSub,Nat.reduceLeDiff,Int.reduceToNat,Int.reduceLT,Int.reduceLE,reduceCtorEq]
   have e1:(1 ≤ z.sum) = True:=eq_true hs.1
   have e2:(z.sum ≤ 3) = True:=eq_true hs.2
   simp (maxSteps:=2000000) only [go_sem,Nat.reduceBEq,Nat.reduceAdd,Nat.reduceMul,Nat.reduceMod,Nat.reduceLT,Nat.reduceDiv,Nat.reduceSub,Nat.reduceLeDiff,Int.reduceToNat,Int.reduceLT,Int.reduceLE,reduceCtorEq,e1,e2,decide_true,beq_self_eq_true,not_true_eq_false,decide_false]
   have S':=sc_of hsc
   have l1:(stuK x z y.length x.length).length = x.length:=stuK_len
   have l2:(colK y z y.length).length = preZ z y.length:=colK_len
   have kx' : ∀ r ∈ stuK x z y.length x.length, r.length ≤ 1048576 := fun r hr => by
    obtain ⟨i,hi,rfl⟩:=mem_getD [] hr
    have:=rank_len (S'.rx i hi); omega
   have ky' : ∀ r ∈ colK y z y.length, r.length ≤ 1048576 := fun r hr => by
    obtain ⟨i,hi,rfl⟩:=mem_getD [] hr
    have:=rank_len (S'.ry i hi); omega
   refine ⟨_,impl_StableEntries_ok (stuK x z y.length x.length) (colK y z y.length) (List.replicate (preZ z y.length) 1) (by omega) kx' (by omega) ky' (by simp; omega),?_⟩; simp (maxSteps:=2000000) only [go_sem,Nat.reduceBEq,Nat.reduceAdd,Nat.reduceMul,Nat.reduceMod,Nat.reduceLT,Nat.reduceDiv,Nat.reduceSub,Nat.reduceLeDiff,Int.reduceToNat,Int.reduceLT,Int.reduceLE,reduceCtorEq]
   exact ⟨fun _ => by rw [l2]; exact hpz,fun h => absurd hcn h⟩
  ·refine ⟨_,impl_SplitSchool_no x y z h0 hs hx kx hy ky hz,?_⟩; simp (maxSteps:=2000000) only [go_sem,Nat.reduceBEq,Nat.reduceAdd,Nat.reduceMul,Nat.reduceMod,Nat.reduceLT,Nat.reduceDiv,Nat.reduceSub,Nat.reduceLeDiff,Int.reduceToNat,Int.reduceLT,Int.reduceLE,reduceCtorEq]
   refine ⟨_,laws_sum_ok z hz zb,?_⟩; simp (maxSteps:=2000000) only [go_sem,Nat.reduceBEq,Nat.reduceAdd,Nat.reduceMul,Nat.reduceMod,Nat.reduceLT,Nat.reduceDiv,Nat.reduceSub,Nat.reduceLeDiff,Int.reduceToNat,Int.reduceLT,Int.reduceLE,reduceCtorEq]
   refine ⟨_,cI _,?_⟩; simp (maxSteps:=2000000) only [go_sem,Nat.reduceBEq,Nat.reduceAdd,Nat.reduceMul,Nat.reduceMod,Nat.reduceLT,Nat.reduceDiv,Nat.reduceSub,Nat.reduceLeDiff,Int.reduceToNat,Int.reduceLT,Int.reduceLE,reduceCtorEq]
   have e2:∀ h:1 ≤ z.sum,(z.sum ≤ 3) = False:=fun h => eq_false (fun g => hs ⟨h,g⟩)
   refine ⟨fun h => ⟨fun _ => trivial,fun e => ?_⟩,fun _ => ⟨fun _ => trivial,fun e => by simp at e⟩⟩
   simp only [e2 h,decide_false] at e
   simp at e
theorem FnColleges_lifted (os : Os) (started : os.Started) (H : Type) (enc : TypeId × Value → H) :
  ReturnsInHanded {} Try.checked os 7 .any (Rows.fnCollegesSpec.pre6 enc Try.prog Try.f7 Rows.fnCollegesRow.domain false) (Rows.fnCollegesSpec.post enc Try.prog Try.f7 false true false false):=by
 refine returnsInHanded_of_change (C := Try.checked) ownk started (by as_aux_lemma => kernel_rfl) Try.func7
  (ChangeSpec.witness6 (enc:=enc) (C:=Try.checked) false ⟨#[],#[.slice none 0 0],[]⟩ 8 (by kernel_rfl) (by kernel_rfl) (by kernel_rfl) (by kernel_rfl)) ?_
 intro W base args ds gs before hval0 hW _ _
 have hval:∀ (j:Nat) t v,Try.f7.params[j]? = some t → args[j]? = some v → Value.okWide Try.prog W .any base t v:=hval0
 have hW':=hW
 obtain ⟨p,q,hA0,_⟩:=hW
 have hA:DataW.TrodAll enc Try.prog W 0 (fun _ => true) true Try.f7.params.toList args.toList ds p:=hA0
 rw [Try.params7] at hA hval
 clear hA0 hval0
 obtain ⟨v0,d0,rfl,rfl,h0⟩:=trodAll_one hA
 obtain ⟨x0,a0,b0,f0⟩:=fz_bytes Try.underlying48 Try.underlying5 (by kernel_rfl:Try.prog.cellsOf 5 = 1) (hval 0 48 v0 rfl rfl) h0
 exact law_post (P := Try.prog) pfacts.laid (fun t ht => by rw [Try.params7] at ht; revert t; simp only [List.mem_cons, List.not_mem_nil, or_false, forall_eq_or_imp, forall_eq]; exact ⟨by kernel_rfl, of_decide_eq_true (by kernel_rfl)⟩) rfl (by kernel_rfl) rfl (fun ds hds => by
  have hds:ds.length = 1:=hds
  match ds,hds with
  | [d0],_ => rfl) hW' (ts:=[.xv v0 (.s none (byt x0))]) (by simp only [FzL]; exact ⟨_,_,rfl,f0,rfl⟩) (FnColleges_ok v0 x0 a0 b0)
set_option maxHeartbeats 4000000 in
theorem FnColleges_holds : Rows.FnCollegesSaid :=
 OpenClaim.holds_of_wide (p := Try.pinned) (s := Rows.fnCollegesSpec) (c := Rows.fnCollegesRow) 7 Try.f7 rfl rfl rfl rfl rfl rfl rfl ⟨rfl, rfl, rfl, rfl, rfl⟩ rfl rfl rfl rfl rfl (by as_aux_lemma => kernel_rfl) Try.func7 (joined_of pfacts rfl rfl rfl (by as_aux_lemma => kernel_rfl) (by as_aux_lemma => kernel_rfl) (by as_aux_lemma => kernel_rfl) (by as_aux_lemma => kernel_rfl) (by as_aux_lemma => kernel_rfl) (by as_aux_lemma => kernel_rfl) (by as_aux_lemma => kernel_rfl) (by as_aux_lemma => kernel_rfl) (by as_aux_lemma => kernel_rfl) (by as_aux_lemma => kernel_rfl) (by as_aux_lemma => kernel_rfl) (by as_aux_lemma => kernel_rfl) (by as_aux_lemma => kernel_rfl) (by as_aux_lemma => kernel_rfl) (by as_aux_lemma => kernel_rfl) (by as_aux_lemma => kernel_rfl) (by as_aux_lemma => kernel_rfl) (by as_aux_lemma => kernel_rfl) (by as_aux_lemma => kernel_rfl) (by as_aux_lemma => kernel_rfl) (by as_aux_lemma => kernel_rfl) (by as_aux_lemma => kernel_rfl) (by as_aux_lemma => kernel_rfl))
  (of_decide_eq_true (by kernel_rfl)) (by unfold Func.isWrapper; rw [if_neg (of_decide_eq_false (by kernel_rfl))]; exact ⟨rfl,rfl⟩)
  (fun os started H enc _ => FnColleges_lifted os started H enc)
end Go.Proofs.Ytgdpplhbblapgaa
