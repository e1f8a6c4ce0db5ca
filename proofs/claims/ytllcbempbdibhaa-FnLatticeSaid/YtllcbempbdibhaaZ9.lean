/- At every input the law below returns true and leaves its argument alone: any two stable matchings have a better and a worse one, and the medians and the least ones are stable. No condition. -/
import Derived.Test.YtllcbempbdibhaaRows
import Derived.Test.YtllcbempbdibhaaLatm
import Derived.Test.YtllcbempbdibhaaMedm
import Derived.Test.YtllcbempbdibhaaPartn
import Derived.Test.YtllcbempbdibhaaL17
import Derived.Test.YtllcbempbdibhaaLsame
import Derived.Test.YtllcbempbdibhaaFacts
import Derived.Test.YtllcbempbdibhaaMarks
import Derived.Test.YtllcbempbdibhaaTurnk
namespace Go.Proofs.Ytllcbempbdibhaa
open Go Go.Vc
set_option maxRecDepth 100000
set_option linter.unusedSimpArgs false
set_option linter.unusedVariables false
open Go.ChangeShapes Go.WideShapes Go.RowKit
section
variable {x y:List (List Int)} {a b l:List Int} {n:Nat}
def leP (x:List (List Int)) (c d:List Int):Prop:=∀ i,i < x.length → placeM x c i ≤ placeM x d i
theorem leP.trans {a b c:List Int} (h1:leP x a b) (h2:leP x b c):leP x a c:=fun i hi => Int.le_trans (h1 i hi) (h2 i hi)
def insC (x : List (List Int)) : List Int → List (List Int) → List (List Int)
 | f,[] => [f]
 | f,c :: C => betL x f c :: insC x (worL x f c) C
theorem insC_len : ∀ {C : List (List Int)} {f : List Int}, (insC x f C).length = C.length + 1
 | [],_ => rfl
 | c :: C,f => by simp only [insC,List.length_cons]; rw [insC_len]
theorem insC_ok : ∀ {C : List (List Int)} {f : List Int}, stabB x y f = true → (∀ c ∈ C, stabB x y c = true) → ∀ d ∈ insC x f C, stabB x y d = true
 | [], f, hf, _, d, hd => by
  simp only [insC,List.mem_singleton] at hd; subst hd; exact hf
 | c :: C, f, hf, hC, d, hd => by
  simp only [insC,List.mem_cons] at hd
  have hc:=hC c (by simp)
  rcases hd with rfl | hd
  ·exact bet_stab hf hc
  ·exact insC_ok (wor_stab hf hc) (fun e he => hC e (by simp [he])) d hd
theorem bet_le (ha : stabB x y a = true) (hb : stabB x y b = true) : leP x (betL x a b) a ∧ leP x (betL x a b) b ∧ leP x a (worL x a b) ∧ leP x b (worL x a b) := by
 refine ⟨fun i hi => ?_,fun i hi => ?_,fun i hi => ?_,fun i hi => ?_⟩ <;> rcases bw_place ha hb hi with h | h <;> omega
theorem insC_ge : ∀ {C : List (List Int)} {f h : List Int}, stabB x y f = true → (∀ c ∈ C, stabB x y c = true) → (∀ c ∈ C, leP x h c) → leP x h f → ∀ d ∈ insC x f C, leP x h d
 | [], f, h, hf, _, _, hl, d, hd => by
  simp only [insC,List.mem_singleton] at hd; subst hd; exact hl
 | c :: C, f, h, hf, hC, hh, hl, d, hd => by
  simp only [insC,List.mem_cons] at hd
  have hc:=hC c (by simp)
  have hb:=fun {i:Nat} (hi:i < x.length) => bw_place hf hc hi
  rcases hd with rfl | hd
  ·intro i hi
   have h1:=hl i hi
   have h2:=hh c (by simp) i hi
   rcases hb hi with h | h <;> omega
  ·exact insC_ge (wor_stab hf hc) (fun e he => hC e (by simp [he])) (fun e he => hh e (by simp [he])) (hl.trans (bet_le hf hc).2.2.1) d hd
theorem insC_sorted : ∀ {C : List (List Int)} {f : List Int}, stabB x y f = true → (∀ c ∈ C, stabB x y c = true) → C.Pairwise (leP x) → (insC x f C).Pairwise (leP x)
 | [],f,_,_,_ => by simp [insC]
 | c :: C, f, hf, hC, hp => by
  rw [List.pairwise_cons] at hp
  have hc:=hC c (by simp)
  have hb:=bet_le hf hc
  simp only [insC,List.pairwise_cons]
  exact ⟨insC_ge (wor_stab hf hc) (fun e he => hC e (by simp [he])) (fun e he => hb.2.1.trans (hp.1 e he)) (hb.1.trans hb.2.2.1),insC_sorted (wor_stab hf hc) (fun e he => hC e (by simp [he])) hp.2⟩
theorem insC_perm {i : Nat} (hi : i < x.length) : ∀ {C : List (List Int)} {f : List Int}, stabB x y f = true → (∀ c ∈ C, stabB x y c = true) → ((insC x f C).map fun l => l.getD i 0).Perm (f.getD i 0 :: C.map fun l => l.getD i 0)
 | [],f,_,_ => by simp [insC]
 | c :: C, f, hf, hC => by
  have hc:=hC c (by simp)
  have ih:=insC_perm hi (C:=C) (f:=worL x f c) (wor_stab hf hc) fun e he => hC e (by simp [he])
  simp only [insC,List.map_cons]
  rcases bw_at hf hc hi with ⟨_, e1, e2⟩ | ⟨_, e1, e2⟩ | ⟨_, e1, e2⟩ <;> rw [e2] at ih <;> rw [e1]
  ·exact ih.cons _
  ·exact (ih.cons _).trans (List.Perm.swap _ _ _)
  ·exact ih.cons _
def chC (x : List (List Int)) : List (List Int) → List (List Int)
 | [] => []
 | f :: S => insC x f (chC x S)
theorem chC_len : ∀ {S : List (List Int)}, (chC x S).length = S.length
 | [] => rfl
 | f :: S => by simp only [chC,List.length_cons]; rw [insC_len,chC_len]
theorem chC_ok : ∀ {S : List (List Int)}, (∀ c ∈ S, stabB x y c = true) → (∀ d ∈ chC x S, stabB x y d = true) ∧ (chC x S).Pairwise (leP x) ∧ ∀ i, i < x.length → ((chC x S).map fun l => l.getD i 0).Perm (S.map fun l => l.getD i 0)
 | [],_ => by simp [chC]
 | f :: S, h => by
  have hf:=h f (by simp)
  obtain ⟨h1,h2,h3⟩:=chC_ok (S:=S) fun c hc => h c (by simp [hc])
  exact ⟨insC_ok hf h1,insC_sorted hf h1 h2,fun i hi => (insC_perm hi hf h1).trans ((h3 i hi).cons _)⟩
theorem med_eq {k : Nat} (hk : k < (stabF x y).length) : medK x y k x.length = (chC x (stabF x y)).getD k [] ∧ stabB x y (medK x y k x.length) = true := by
 have hS:∀ c ∈ stabF x y,stabB x y c = true:=fun c hc => stab_mem.1 hc
 obtain ⟨h1,h2,h3⟩:=chC_ok hS
 have hl:=chC_len (x:=x) (S:=stabF x y)
 have hc:=h1 _ (getD_mem (d:=[]) (show k < (chC x (stabF x y)).length by omega))
 obtain ⟨hm,R,M⟩:=stab_of hc
 have e : medK x y k x.length = (chC x (stabF x y)).getD k [] := by
  have rl:=rank_len R
  refine List.ext_getElem (by rw [medK_len]; omega) fun i a b => ?_
  simp only [medK,List.length_map,List.length_range] at a
  have e1:((chC x (stabF x y)).getD k [])[i] = ((chC x (stabF x y)).getD k []).getD i 0:=by rw [List.getD_eq_getElem?_getD (l:=(chC x (stabF x y)).getD k []),List.getElem?_eq_getElem b]; rfl
  rw [e1]
  simp only [medK,List.getElem_map,List.getElem_range]
  have q : ∀ j, j < (chC x (stabF x y)).length → ((chC x (stabF x y)).map fun l => l.getD i 0).getD j 0 = ((chC x (stabF x y)).getD j []).getD i 0 := fun j hj => by
   simp [List.getD,hj]
  obtain ⟨g1, g2⟩ := sorted_at (p := placeI (x.getD i [])) (h3 i a) (fun u v huv hv => by
   rw [List.length_map] at hv
   rw [q u (by omega),q v hv]
   have:=List.pairwise_iff_getElem.1 h2 u v (by omega) hv huv i a
   unfold placeM at this
   simp only [List.getD_eq_getElem?_getD (l:=chC x (stabF x y)),List.getElem?_eq_getElem (show u < (chC x (stabF x y)).length by omega),List.getElem?_eq_getElem hv,Option.getD_some]
   exact this) (k:=k) (by rw [List.length_map]; omega)
  rw [q k (by omega)] at g1 g2
  have hr:=M.m.rk i a
  have hb:=rank_bd R (i:=i) (by omega)
  obtain ⟨j,j1,j2,j3⟩:=placeI_mem (rank_all hr hb.1 hb.2)
  have:=rank_len hr
  rw [j3] at g1 g2
  unfold medV
  rw [show (Int.toNat (k:Int)) = k from rfl]
  have hm2:=medJ_of (p:=placeI (x.getD i [])) (S:=medC x y i) (k:=k) (j:=j) g1 g2 (n:=x.length) (by omega)
  rw [hm2,j2]
 exact ⟨e,by rw [e]; exact hc⟩
theorem med_best (hm : marketB x y = true) : medK x y 0 x.length = (psF x y).wo := by
 have hS:∀ c ∈ stabF x y,stabB x y c = true:=fun c hc => stab_mem.1 hc
 have hp:=psF_stab hm
 have hpm:(psF x y).wo ∈ stabF x y:=stab_mem.2 hp
 have h0:0 < (stabF x y).length:=List.length_pos_of_mem hpm
 obtain ⟨h1,h2,h3⟩:=chC_ok hS
 have hl:=chC_len (x:=x) (S:=stabF x y)
 obtain ⟨e,hs⟩:=med_eq h0
 rw [show ((0:Nat):Int) = 0 from rfl] at e hs
 obtain ⟨_,R,M⟩:=stab_of hs
 obtain ⟨_,Rp,_⟩:=stab_of hp
 refine fn_ext R Rp fun i hi => ?_
 have up:=psF_best hs hi
 have mem:(psF x y).wo.getD i 0 ∈ (chC x (stabF x y)).map fun l => l.getD i 0:=(h3 i hi).symm.subset (List.mem_map.2 ⟨_,hpm,rfl⟩)
 obtain ⟨d,hd,ed⟩:=List.mem_map.1 mem
 obtain ⟨j,hj,rfl⟩:=mem_getD [] hd
 have lo : placeM x (medK x y 0 x.length) i ≤ placeM x (psF x y).wo i := by
  rw [e]
  unfold placeM
  rw [← ed]
  rcases Nat.eq_zero_or_pos j with rfl | hj0
  ·exact Int.le_refl _
  ·have:=List.pairwise_iff_getElem.1 h2 0 j (by omega) hj hj0 i hi
   unfold placeM at this
   simp only [List.getD_eq_getElem?_getD (l:=chC x (stabF x y)),List.getElem?_eq_getElem (show 0 < (chC x (stabF x y)).length by omega),List.getElem?_eq_getElem hj,Option.getD_some]
   exact this
 have f1:=fn_at R hi
 have f2:=fn_at Rp hi
 have L:=lkP M.m
 rcases L.tot i _ _ hi f1.2 f2.2 with h | h | h
 ·rw [pm_iff M.m hi f1.2 f2.2,f1.1,f2.1] at h
  unfold placeM at up lo; omega
 ·exact h
 ·rw [pm_iff M.m hi f2.2 f1.2,f1.1,f2.1] at h
  unfold placeM at up lo; omega
end
def K_laws_FnLattice:List Nat:=[0,2,3,4,5,6,7,8,9,10,11,12,13,14,15,16,17,18,19,20,21,22,23,24,25,26,27,28,29,30,31,32,34,1003,2003,1011,2011]
def C_laws_FnLattice : C :=
 let ks:=K_laws_FnLattice
 (.seq
  (.rg 0 [(none,.v 2 .mv [.k (.b false)])])
  (.cl ks (.seq
  (.seq
  (.rg 0 [(none,.v 36 .mv [.s 0]),(none,.v 37 .len [.s 36]),(none,.v 38 (.bin .gtr) [.s 37,.k (.i 1048576)])])
  (.cond (.s 38)
  (.seq
  (.rg 0 [(none,.v 2 .mv [.k (.b true)])])
  .ret)
  .skip))
  (.cl ks (.seq
  (.rg 0 [(none,.v 39 .mv [.s 0]),(none,.co 40 15 [.s 39,.k (.i 0),.k (.i 4)]),(none,.new 3 [.s (some true) [],.s (some true) []]),(none,.sts (.s 3) (.s 40) 2)])
  (.cl ks (.seq
  (.rg 0 [(none,.v 41 (.lds 2) [.s 3]),(none,.co 42 16 [.s 41]),(none,.tk 4 42)])
  (.cl ks (.seq
  (.seq
  (.rg 0 [(none,.v 43 .mv [.s 4]),(none,.v 44 .len [.s 43]),(none,.v 45 (.bin .eql) [.s 44,.k (.i 0)])])
  (.cond (.s 45)
  (.seq
  (.rg 0 [(none,.v 2 .mv [.k (.b false)])])
  .ret)
  .skip))
  (.cl ks (.seq
  (.rg 0 [(none,.v 46 .mv [.s 4]),(none,.v 47 .mv [.s 0]),(none,.co 48 17 [.s 47,.k (.i 60)]),(none,.v 49 .mv [.s 4]),(none,.v 50 .len [.s 49]),(none,.v 51 (.bin .rem) [.s 48,.s 50]),(none,.v 52 .idx [.s 46,.s 51]),(none,.v 53 .ld [.s 52]),(none,.tk 5 53)])
  (.cl ks (.seq
  (.rg 0 [(none,.v 54 .mv [.s 4]),(none,.v 55 .mv [.s 0]),(none,.co 56 17 [.s 55,.k (.i 62)]),(none,.v 57 .mv [.s 4]),(none,.v 58 .len [.s 57]),(none,.v 59 (.bin .rem) [.s 56,.s 58]),(none,.v 60 .idx [.s 54,.s 59]),(none,.v 61 .ld [.s 60]),(none,.tk 6 61)])
  (.cl ks (.seq
  (.rg 0 [(none,.v 63 (.lds 2) [.s 3]),(none,.v 64 .mv [.s 5]),(none,.v 65 .mv [.s 6]),(none,.co 66 18 [.s 63,.s 64,.s 65]),(none,.tk 62 66),(none,.tk 67 100062),(none,.tk 68 101062),(none,.tk 7 67),(none,.tk 8 68)])
  (.cl ks (.seq
  (.rg 0 [(none,.v 70 (.lds 2) [.s 3]),(none,.v 71 .mv [.s 5]),(none,.v 72 .mv [.s 6]),(none,.co 73 19 [.s 70,.s 71,.s 72]),(none,.tk 69 73),(none,.tk 74 100069),(none,.tk 75 101069),(none,.tk 9 74),(none,.tk 10 75)])
  (.cl ks (.seq
  (.rg 0 [(none,.v 77 (.lds 2) [.s 3]),(none,.co 78 20 [.s 77]),(none,.tk 76 78),(none,.tk 79 100076),(none,.tk 80 101076),(none,.new 11 [.s (some true) [],.s (some true) []]),(none,.sts (.s 11) (.s 79) 2),(none,.tk 12 80)])
  (.cl ks (.seq
  (.seq
  (.rg 42 [(none,.v 81 .mv [.s 8]),(none,.v 82 .not [.s 81]),(none,.v 83 .mv [.s 82]),(some (83,false),.v 84 .mv [.s 10]),(some (83,false),.v 85 .not [.s 84]),(none,.v 86 .pick [.s 83,.k (.b true),.s 85]),(none,.v 87 .mv [.s 86]),(some (87,false),.v 88 .mv [.s 12]),(some (87,false),.v 89 .not [.s 88]),(none,.v 90 .pick [.s 87,.k (.b true),.s 89]),(none,.v 91 .mv [.s 90]),(some (91,false),.v 92 (.lds 2) [.s 3]),(some (91,false),.v 93 .mv [.s 7]),(some (91,false),.v 94 (.call 21) [.s 92,.s 93]),(some (91,false),.v 95 .not [.s 94]),(none,.v 96 .pick [.s 91,.k (.b true),.s 95]),(none,.v 97 .mv [.s 96]),(some (97,false),.v 98 (.lds 2) [.s 3]),(some (97,false),.v 99 .mv [.s 9]),(some (97,false),.v 100 (.call 21) [.s 98,.s 99]),(some (97,false),.v 101 .not [.s 100]),(none,.v 102 .pick [.s 97,.k (.b true),.s 101]),(none,.v 103 .mv [.s 102]),(some (103,false),.v 104 (.lds 2) [.s 3]),(some (103,false),.v 105 .mv [.s 7]),(some (103,false),.v 106 .mv [.s 5]),(some (103,false),.v 107 (.call 22) [.s 104,.s 105,.s 106]),(some (103,false),.v 108 .not [.s 107]),(none,.v 109 .pick [.s 103,.k (.b true),.s 108]),(none,.v 110 .mv [.s 109]),(some (110,false),.v 111 (.lds 2) [.s 3]),(some (110,false),.v 112 .mv [.s 6]),(some (110,false),.v 113 .mv [.s 9]),(some (110,false),.v 114 (.call 22) [.s 111,.s 112,.s 113]),(some (110,false),.v 115 .not [.s 114]),(none,.v 116 .pick [.s 110,.k (.b true),.s 115]),(none,.v 117 .mv [.s 116]),(some (117,false),.v 118 (.lds 2) [.s 11]),(some (117,false),.v 119 .mv [.s 9]),(some (117,false),.v 120 (.call 23) [.s 119]),(some (117,false),.v 121 .mv [.s 5]),(some (117,false),.v 122 (.call 23) [.s 121]),(some (117,false),.co 123 22 [.s 118,.s 120,.s 122]),(some (117,false),.v 124 .not [.s 123]),(none,.v 125 .pick [.s 117,.k (.b true),.s 124])])
  (.cond (.s 125)
  (.seq
  (.rg 0 [(none,.v 2 .mv [.k (.b false)])])
  .ret)
  .skip))
  (.cl ks (.seq
  (.rg 0 [(none,.v 127 (.lds 2) [.s 3]),(none,.v 128 .mv [.s 5]),(none,.co 129 24 [.s 127,.s 128]),(none,.tk 126 129),(none,.tk 130 100126),(none,.tk 131 101126),(none,.tk 13 130),(none,.tk 14 131)])
  (.cl ks (.seq
  (.rg 0 [(none,.v 133 (.lds 2) [.s 3]),(none,.v 134 .mv [.s 6]),(none,.co 135 24 [.s 133,.s 134]),(none,.tk 132 135),(none,.tk 136 100132),(none,.tk 137 101132),(none,.tk 15 136),(none,.tk 16 137)])
  (.cl ks (.seq
  (.rg 0 [(none,.v 139 (.lds 2) [.s 3]),(none,.v 140 .mv [.s 7]),(none,.co 141 24 [.s 139,.s 140]),(none,.tk 138 141),(none,.tk 142 100138),(none,.tk 143 101138),(none,.tk 17 142),(none,.tk 18 143)])
  (.cl ks (.seq
  (.rg 0 [(none,.v 145 (.lds 2) [.s 3]),(none,.v 146 .mv [.s 9]),(none,.co 147 24 [.s 145,.s 146]),(none,.tk 144 147),(none,.tk 148 100144),(none,.tk 149 101144),(none,.tk 19 148),(none,.tk 20 149)])
  (.cl ks (.seq
  (.rg 0 [(none,.v 151 (.lds 2) [.s 3]),(none,.co 152 25 [.s 151]),(none,.tk 150 152),(none,.tk 153 100150),(none,.tk 154 101150),(none,.tk 21 153),(none,.tk 22 154)])
  (.cl ks (.seq
  (.rg 0 [(none,.v 156 (.lds 2) [.s 3]),(none,.co 157 26 [.s 156]),(none,.tk 155 157),(none,.tk 158 100155),(none,.tk 159 101155),(none,.tk 23 158),(none,.tk 24 159)])
  (.cl ks (.seq
  (.rg 0 [(none,.v 161 (.lds 2) [.s 3]),(none,.co 162 27 [.s 161]),(none,.tk 160 162),(none,.tk 163 100160),(none,.tk 164 101160),(none,.tk 25 163),(none,.tk 26 164)])
  (.cl ks (.seq
  (.rg 0 [(none,.v 165 .mv [.s 0]),(none,.co 166 17 [.s 165,.k (.i 64)]),(none,.v 167 .mv [.s 4]),(none,.v 168 .len [.s 167]),(none,.v 169 (.bin .rem) [.s 166,.s 168]),(none,.tk 27 169)])
  (.cl ks (.seq
  (.rg 0 [(none,.v 171 (.lds 2) [.s 3]),(none,.v 172 .mv [.s 27]),(none,.co 173 9 [.s 171,.s 172]),(none,.tk 170 173),(none,.tk 174 100170),(none,.tk 175 101170),(none,.tk 28 174),(none,.tk 29 175)])
  (.cl ks (.seq
  (.rg 0 [(none,.v 177 (.lds 2) [.s 3]),(none,.v 178 .mv [.s 21]),(none,.co 179 24 [.s 177,.s 178]),(none,.tk 176 179),(none,.tk 180 100176),(none,.tk 181 101176),(none,.tk 30 180),(none,.tk 31 181)])
  (.cl ks (.seq
  (.rg 0 [(none,.v 183 (.lds 2) [.s 3]),(none,.co 184 9 [.s 183,.k (.i 0)]),(none,.tk 182 184),(none,.tk 185 100182),(none,.tk 186 101182),(none,.tk 32 185),(none,.tk 33 186)])
  (.cl ks (.seq
  (.rg 0 [(none,.v 188 (.lds 2) [.s 3]),(none,.co 189 28 [.s 188]),(none,.tk 187 189),(none,.tk 190 100187),(none,.tk 191 101187),(none,.tk 34 190),(none,.tk 35 191)])
  (.cl ks (.seq
  (.rg 73 [(none,.v 192 .mv [.s 13]),(none,.v 193 .mv [.s 15]),(none,.v 194 (.bin .add) [.s 192,.s 193]),(none,.v 195 .mv [.s 17]),(none,.v 196 .mv [.s 19]),(none,.v 197 (.bin .add) [.s 195,.s 196]),(none,.v 198 (.bin .eql) [.s 194,.s 197]),(none,.v 199 .mv [.s 198]),(some (199,true),.v 200 .mv [.s 14]),(some (199,true),.v 201 .mv [.s 16]),(some (199,true),.v 202 (.bin .add) [.s 200,.s 201]),(some (199,true),.v 203 .mv [.s 18]),(some (199,true),.v 204 .mv [.s 20]),(some (199,true),.v 205 (.bin .add) [.s 203,.s 204]),(some (199,true),.v 206 (.bin .eql) [.s 202,.s 205]),(none,.v 207 .pick [.s 199,.s 206,.k (.b false)]),(none,.v 208 .mv [.s 207]),(some (208,true),.v 209 .mv [.s 22]),(none,.v 210 .pick [.s 208,.s 209,.k (.b false)]),(none,.v 211 .mv [.s 210]),(some (211,true),.v 212 .mv [.s 24]),(none,.v 213 .pick [.s 211,.s 212,.k (.b false)]),(none,.v 214 .mv [.s 213]),(some (214,true),.v 215 .mv [.s 26]),(none,.v 216 .pick [.s 214,.s 215,.k (.b false)]),(none,.v 217 .mv [.s 216]),(some (217,true),.v 218 .mv [.s 29]),(none,.v 219 .pick [.s 217,.s 218,.k (.b false)]),(none,.v 220 .mv [.s 219]),(some (220,true),.v 221 (.lds 2) [.s 3]),(some (220,true),.v 222 .mv [.s 25]),(some (220,true),.v 223 (.call 21) [.s 221,.s 222]),(none,.v 224 .pick [.s 220,.s 223,.k (.b false)]),(none,.v 225 .mv [.s 224]),(some (225,true),.v 226 .mv [.s 30]),(some (225,true),.v 227 .mv [.s 31]),(some (225,true),.v 228 (.bin .add) [.s 226,.s 227]),(some (225,true),.v 229 .mv [.s 13]),(some (225,true),.v 230 .mv [.s 14]),(some (225,true),.v 231 (.bin .add) [.s 229,.s 230]),(some (225,true),.v 232 (.bin .leq) [.s 228,.s 231]),(none,.v 233 .pick [.s 225,.s 232,.k (.b false)]),(none,.v 234 .mv [.s 233]),(some (234,true),.v 235 (.lds 2) [.s 3]),(some (234,true),.v 236 .mv [.s 23]),(some (234,true),.v 237 (.call 29) [.s 235,.s 236]),(some (234,true),.v 238 (.lds 2) [.s 3]),(some (234,true),.v 239 .mv [.s 5]),(some (234,true),.v 240 (.call 29) [.s 238,.s 239]),(some (234,true),.v 241 (.bin .leq) [.s 237,.s 240]),(none,.v 242 .pick [.s 234,.s 241,.k (.b false)]),(none,.v 243 .mv [.s 242]),(some (243,true),.v 244 (.lds 2) [.s 3]),(some (243,true),.v 245 .mv [.s 28]),(some (243,true),.v 246 (.call 21) [.s 244,.s 245]),(none,.v 247 .pick [.s 243,.s 246,.k (.b false)]),(none,.v 248 .mv [.s 247]),(some (248,true),.v 249 .mv [.s 32]),(some (248,true),.v 250 .mv [.s 34]),(some (248,true),.v 251 (.call 30) [.s 249,.s 250]),(none,.v 252 .pick [.s 248,.s 251,.k (.b false)]),(none,.v 253 .mv [.s 252]),(some (253,true),.v 254 (.lds 2) [.s 3]),(some (253,true),.v 255 (.call 31) [.s 254,.k (.i 0)]),(some (253,true),.v 256 .len [.s 255]),(some (253,true),.v 257 (.bin .geq) [.s 256,.k (.i 1)]),(none,.v 258 .pick [.s 253,.s 257,.k (.b false)]),(none,.v 259 .mv [.s 258]),(some (259,true),.v 260 (.lds 2) [.s 3]),(some (259,true),.v 261 (.call 32) [.s 260]),(some (259,true),.v 262 .mv [.s 4]),(some (259,true),.v 263 .len [.s 262]),(some (259,true),.v 264 (.bin .eql) [.s 263,.k (.i 1)]),(some (259,true),.v 265 .beq [.s 261,.s 264]),(none,.v 266 .pick [.s 259,.s 265,.k (.b false)]),(none,.tk 2 266)])
  .ret)))))))))))))))))))))))))))))))))))))))))))))))
theorem chk_laws_FnLattice:∃ b,Try.f4.body = some b ∧ chk Try.prog Try.f4.ntmps true C_laws_FnLattice b = true:=⟨_,rfl,by kernel_rfl⟩
theorem bestL_min {c : List Int → Int} {S : List (List Int)} : ∀ {k : Nat}, k ≤ S.length → ∀ j, j < k → c (bestL c S k) ≤ c (S.getD j [])
 | 0,_,j,h => by omega
 | k + 1, hk, j, hj => by
  have ih:=bestL_min (c:=c) (S:=S) (k:=k) (by omega)
  rw [bestL]
  split
  ·rename_i h
   by_cases e : j = k
   ·subst e; exact Int.le_refl _
   ·have:=ih j (by omega)
    rcases h with h | h <;> omega
  ·rename_i h
   simp only [not_or,Int.not_lt] at h
   by_cases e : j = k
   ·subst e; exact h.2
   ·exact ih j (by omega)
theorem best_of {x y : List (List Int)} {c : List Int → Int} (h : 0 < (stabF x y).length) : stabB x y (bestL c (stabF x y) (stabF x y).length) = true ∧ ∀ z, stabB x y z = true → c (bestL c (stabF x y) (stabF x y).length) ≤ c z := by
 refine ⟨?_, fun z hz => ?_⟩
 ·obtain ⟨k,hk⟩:∃ k,(stabF x y).length = k + 1:=⟨(stabF x y).length - 1,by omega⟩
  have:=bestL_mem (c:=c) (S:=stabF x y) (k:=k) (by omega)
  rw [← hk] at this
  exact stab_mem.1 this
 ·obtain ⟨j,hj,rfl⟩:=mem_getD [] (stab_mem.2 hz)
  exact bestL_min (Nat.le_refl _) j hj
theorem part_pos {x y : List (List Int)} {z : List Int} (hz : stabB x y z = true) : 1 ≤ (partF x y 0).length := by
 obtain ⟨hm,R,M⟩:=stab_of hz
 have n1:=M.m.n1
 have hb:=rank_bd R (i:=0) (by have:=rank_len R; omega)
 have h0 : partB x y 0 = true := by
  simp only [partB,hm,Bool.true_and,inI,Bool.and_eq_true,decide_eq_true_eq]; omega
 have e:partF x y 0 = partK x y 0 (x.getD 0 []).length:=if_pos h0
 rw [e]
 have hmem : z.getD 0 0 ∈ partK x y 0 (x.getD 0 []).length := by
  unfold partK
  rw [List.take_length]
  refine List.mem_filter.2 ⟨rank_all (M.m.rk 0 (by omega)) hb.1 hb.2,?_⟩
  exact List.any_eq_true.2 ⟨z,stab_mem.2 hz,by simp⟩
 exact List.length_pos_of_mem hmem
set_option maxHeartbeats 4000000 in
theorem FnLattice_ok (u : Value) (l : List Int) (a : l.length ≤ 9223372036854775807) (hb : ∀ x ∈ l, 0 ≤ x ∧ x < 256) : CallOk Try.prog 4 [.xv u (.s none (byt l))] [(0, .b true)] := by
 obtain ⟨code0,hcd1,hcd2⟩:=chk_laws_FnLattice; refine callOk_of Try.func4 hcd1 mo Try.call4 (rs:=[2]) (by kernel_rfl) hcd2 (by rw [Try.ntmps4]; simp) (by simp) (by decide) ?_; unfold C_laws_FnLattice K_laws_FnLattice; simp (maxSteps:=2000000) only [go_sem,Nat.reduceBEq,Nat.reduceAdd,Nat.reduceMul,Nat.reduceMod,Nat.reduceLT,Nat.reduceDiv,Nat.reduceSub,Nat.reduceLeDiff,Int.reduceToNat,Int.reduceLT,Int.reduceLE,reduceCtorEq]
 simp only [byt_len]
 refine ⟨fun _ => trivial,fun hlen => ?_⟩
 have C:CodeL l:=⟨by omega,hb⟩
 obtain ⟨x,y,hm,x4,W⟩:=spec_MakeMarket_ok u none C (n:=0) (by omega) (by omega) (m:=4) (by omega) (by omega)
 obtain ⟨y60,p0,p1,W60⟩:=spec_MakeNum_ok u none C (n:=60) (by omega) (by omega)
 obtain ⟨y62,p2,p3,W62⟩:=spec_MakeNum_ok u none C (n:=62) (by omega) (by omega)
 obtain ⟨y64,p4,p5,W64⟩:=spec_MakeNum_ok u none C (n:=64) (by omega) (by omega)
 have M:=mk_of hm
 have n1:=M.m.n1
 have n5:=M.m.n5
 have hyl:=M.w.len
 have hx:x.length ≤ 1048576:=by omega
 have hy:y.length ≤ 1048576:=by omega
 have kx : ∀ r ∈ x, r.length ≤ 1048576 := fun r hr => by
  obtain ⟨i,hi,rfl⟩:=mem_getD [] hr
  have:=rank_len (M.m.rk i hi); omega
 have ky : ∀ r ∈ y, r.length ≤ 1048576 := fun r hr => by
  obtain ⟨i,hi,rfl⟩:=mem_getD [] hr
  have:=rank_len (M.w.rk i (by omega)); omega
 have ep:=psF_stab hm
 have hall:0 < (stabF x y).length:=List.length_pos_of_mem (stab_mem.2 ep)
 have hal:=stabF_len (x:=x) (y:=y)
 have ix : ∀ t : Int, 0 ≤ t → 0 ≤ t.tmod ((stabF x y).length : Int) ∧ (t.tmod ((stabF x y).length : Int)).toNat < (stabF x y).length := fun t ht => by
  have h1:=Int.tmod_nonneg ((stabF x y).length:Int) ht
  have h2:=Int.tmod_lt_of_pos t (show (0:Int) < ((stabF x y).length:Int) by omega)
  omega
 have q60:=ix y60 p0
 have q62:=ix y62 p2
 have q64:=ix y64 p4
 have cIs : ∀ z, stabB x y z = true → ∀ n3, CallOk Try.prog 21 [.a [.s none (rr x), .s none (rr y)], .s n3 (ii z)] [(0, .b true)] := fun z hz n3 => by
  obtain ⟨_,R,_⟩:=stab_of hz
  have:=rank_len R
  have:=impl_IsStable_ok (n1:=none) (n2:=none) (n3:=n3) x y z hx kx hy ky (by omega)
  rwa [hz] at this
 have cPs : ∀ z, stabB x y z = true → ∀ n3, CallOk Try.prog 24 [.a [.s none (rr x), .s none (rr y)], .s n3 (ii z)] [(0, .tp 2), (100000, .i (sumF (placeM x z) x.length)), (101000, .i (sumF (placeW y z) x.length))] := fun z hz n3 => by
  obtain ⟨_,R,_⟩:=stab_of hz
  exact impl_PlaceSums_ok (n1:=none) (n2:=none) (n3:=n3) x y z hm R hx kx hy ky
 refine ⟨_,W,?_⟩; simp (maxSteps:=2000000) only [go_sem,Nat.reduceBEq,Nat.reduceAdd,Nat.reduceMul,Nat.reduceMod,Nat.reduceLT,Nat.reduceDiv,Nat.reduceSub,Nat.reduceLeDiff,Int.reduceToNat,Int.reduceLT,Int.reduceLE,reduceCtorEq]
 refine ⟨_,impl_StableMatchings_ok x y hx kx hy ky,?_⟩; simp (maxSteps:=2000000) only [go_sem,Nat.reduceBEq,Nat.reduceAdd,Nat.reduceMul,Nat.reduceMod,Nat.reduceLT,Nat.reduceDiv,Nat.reduceSub,Nat.reduceLeDiff,Int.reduceToNat,Int.reduceLT,Int.reduceLE,reduceCtorEq]
 refine ⟨fun h => by omega,fun _ => ?_⟩
 refine ⟨_,W60,?_⟩; simp (maxSteps:=2000000) only [go_sem,Nat.reduceBEq,Nat.reduceAdd,Nat.reduceMul,Nat.reduceMod,Nat.reduceLT,Nat.reduceDiv,Nat.reduceSub,Nat.reduceLeDiff,Int.reduceToNat,Int.reduceLT,Int.reduceLE,reduceCtorEq]
 refine ⟨by omega,by omega,by omega,by omega,?_⟩
 refine ⟨_,W62,?_⟩; simp (maxSteps:=2000000) only [go_sem,Nat.reduceBEq,Nat.reduceAdd,Nat.reduceMul,Nat.reduceMod,Nat.reduceLT,Nat.reduceDiv,Nat.reduceSub,Nat.reduceLeDiff,Int.reduceToNat,Int.reduceLT,Int.reduceLE,reduceCtorEq]
 refine ⟨by omega,by omega,by omega,by omega,?_⟩
 have hA:=stab_mem.1 (getD_mem (d:=[]) q60.2)
 have hB:=stab_mem.1 (getD_mem (d:=[]) q62.2)
 generalize (stabF x y).getD (y60.tmod ((stabF x y).length:Int)).toNat [] = A at hA ⊢
 generalize (stabF x y).getD (y62.tmod ((stabF x y).length:Int)).toNat [] = B at hB ⊢
 obtain ⟨_,RA,_⟩:=stab_of hA
 have lA:=rank_len RA
 have hX:=bet_stab hA hB
 have hY:=wor_stab hA hB
 obtain ⟨_,RX,_⟩:=stab_of hX
 obtain ⟨_,RY,_⟩:=stab_of hY
 have lX:=rank_len RX
 have lY:=rank_len RY
 obtain ⟨g1,g2,g3⟩:=lat_good hA hB
 obtain ⟨s1,s2⟩:=lat_sums hA hB
 obtain ⟨_,RB,_⟩:=stab_of hB
 have lB:=rank_len RB
 have cG1 : ∀ n3 n4, CallOk Try.prog 22 [.a [.s none (rr x), .s none (rr y)], .s n3 (ii (betL x A B)), .s n4 (ii A)] [(0, .b true)] := fun n3 n4 => by
  have:=impl_AtLeastAsGood_ok (n1:=none) (n2:=none) (n3:=n3) (n4:=n4) x y (betL x A B) A hx kx hy ky (by omega) (by omega)
  rwa [g1] at this
 have cG2 : ∀ n3 n4, CallOk Try.prog 22 [.a [.s none (rr x), .s none (rr y)], .s n3 (ii B), .s n4 (ii (worL x A B))] [(0, .b true)] := fun n3 n4 => by
  have:=impl_AtLeastAsGood_ok (n1:=none) (n2:=none) (n3:=n3) (n4:=n4) x y B (worL x A B) hx kx hy ky (by omega) (by omega)
  rwa [g2] at this
 have cG3 : ∀ n3 n4, CallOk Try.prog 22 [.a [.s none (rr y), .s none (rr x)], .s n3 (ii (invL (worL x A B))), .s n4 (ii (invL A))] [(0, .b true)] := fun n3 n4 => by
  have e1:=inv_len RY
  have e2:=inv_len RA
  have:=impl_AtLeastAsGood_ok (n1:=none) (n2:=none) (n3:=n3) (n4:=n4) y x (invL (worL x A B)) (invL A) hy ky hx kx (by omega) (by omega)
  rwa [g3] at this
 refine ⟨_,impl_BetterOf_ok x y A B (by simp) hA hB hx kx hy ky,?_⟩; simp (maxSteps:=2000000) only [go_sem,Nat.reduceBEq,Nat.reduceAdd,Nat.reduceMul,Nat.reduceMod,Nat.reduceLT,Nat.reduceDiv,Nat.reduceSub,Nat.reduceLeDiff,Int.reduceToNat,Int.reduceLT,Int.reduceLE,reduceCtorEq]
 refine ⟨_,impl_WorseOf_ok x y A B (by simp) hA hB hx kx hy ky,?_⟩; simp (maxSteps:=2000000) only [go_sem,Nat.reduceBEq,Nat.reduceAdd,Nat.reduceMul,Nat.reduceMod,Nat.reduceLT,Nat.reduceDiv,Nat.reduceSub,Nat.reduceLeDiff,Int.reduceToNat,Int.reduceLT,Int.reduceLE,reduceCtorEq]
 refine ⟨_,impl_TurnMarket_ok x y hm hx kx hy ky,?_⟩; simp (maxSteps:=2000000) only [go_sem,Nat.reduceBEq,Nat.reduceAdd,Nat.reduceMul,Nat.reduceMod,Nat.reduceLT,Nat.reduceDiv,Nat.reduceSub,Nat.reduceLeDiff,Int.reduceToNat,Int.reduceLT,Int.reduceLE,reduceCtorEq]
 generalize betL x A B = X at *
 generalize worL x A B = Y at *
 refine ⟨_,cIs X hX _,?_⟩; simp (maxSteps:=2000000) only [go_sem,Nat.reduceBEq,Nat.reduceAdd,Nat.reduceMul,Nat.reduceMod,Nat.reduceLT,Nat.reduceDiv,Nat.reduceSub,Nat.reduceLeDiff,Int.reduceToNat,Int.reduceLT,Int.reduceLE,reduceCtorEq]
 refine ⟨_,cIs Y hY _,?_⟩; simp (maxSteps:=2000000) only [go_sem,Nat.reduceBEq,Nat.reduceAdd,Nat.reduceMul,Nat.reduceMod,Nat.reduceLT,Nat.reduceDiv,Nat.reduceSub,Nat.reduceLeDiff,Int.reduceToNat,Int.reduceLT,Int.reduceLE,reduceCtorEq]
 refine ⟨_,cG1 _ _,?_⟩; simp (maxSteps:=2000000) only [go_sem,Nat.reduceBEq,Nat.reduceAdd,Nat.reduceMul,Nat.reduceMod,Nat.reduceLT,Nat.reduceDiv,Nat.reduceSub,Nat.reduceLeDiff,Int.reduceToNat,Int.reduceLT,Int.reduceLE,reduceCtorEq]
 refine ⟨_,cG2 _ _,?_⟩; simp (maxSteps:=2000000) only [go_sem,Nat.reduceBEq,Nat.reduceAdd,Nat.reduceMul,Nat.reduceMod,Nat.reduceLT,Nat.reduceDiv,Nat.reduceSub,Nat.reduceLeDiff,Int.reduceToNat,Int.reduceLT,Int.reduceLE,reduceCtorEq]
 refine ⟨_,impl_TurnMatching_ok Y (by omega),?_⟩; simp (maxSteps:=2000000) only [go_sem,Nat.reduceBEq,Nat.reduceAdd,Nat.reduceMul,Nat.reduceMod,Nat.reduceLT,Nat.reduceDiv,Nat.reduceSub,Nat.reduceLeDiff,Int.reduceToNat,Int.reduceLT,Int.reduceLE,reduceCtorEq]
 refine ⟨_,impl_TurnMatching_ok A (by omega),?_⟩; simp (maxSteps:=2000000) only [go_sem,Nat.reduceBEq,Nat.reduceAdd,Nat.reduceMul,Nat.reduceMod,Nat.reduceLT,Nat.reduceDiv,Nat.reduceSub,Nat.reduceLeDiff,Int.reduceToNat,Int.reduceLT,Int.reduceLE,reduceCtorEq]
 refine ⟨_,cG3 _ _,?_⟩; simp (maxSteps:=2000000) only [go_sem,Nat.reduceBEq,Nat.reduceAdd,Nat.reduceMul,Nat.reduceMod,Nat.reduceLT,Nat.reduceDiv,Nat.reduceSub,Nat.reduceLeDiff,Int.reduceToNat,Int.reduceLT,Int.reduceLE,reduceCtorEq]
 have bd : ∀ z, stabB x y z = true → (0 ≤ sumF (placeM x z) x.length ∧ sumF (placeM x z) x.length ≤ 25) ∧ (0 ≤ sumF (placeW y z) x.length ∧ sumF (placeW y z) x.length ≤ 25) := fun z hz => by
  obtain ⟨_,R,_⟩:=stab_of hz
  have c1:=sumF_bd (fun i hi => plM M R (i:=i) hi) (Nat.le_refl _)
  have c2:=sumF_bd (fun i hi => plW M R (i:=i) hi) (Nat.le_refl _)
  omega
 have bA:=bd A hA
 have bB:=bd B hB
 have bX:=bd X hX
 have bY:=bd Y hY
 refine ⟨_,cPs A hA _,?_⟩; simp (maxSteps:=2000000) only [go_sem,Nat.reduceBEq,Nat.reduceAdd,Nat.reduceMul,Nat.reduceMod,Nat.reduceLT,Nat.reduceDiv,Nat.reduceSub,Nat.reduceLeDiff,Int.reduceToNat,Int.reduceLT,Int.reduceLE,reduceCtorEq]
 refine ⟨_,cPs B hB _,?_⟩; simp (maxSteps:=2000000) only [go_sem,Nat.reduceBEq,Nat.reduceAdd,Nat.reduceMul,Nat.reduceMod,Nat.reduceLT,Nat.reduceDiv,Nat.reduceSub,Nat.reduceLeDiff,Int.reduceToNat,Int.reduceLT,Int.reduceLE,reduceCtorEq]
 refine ⟨_,cPs X hX _,?_⟩; simp (maxSteps:=2000000) only [go_sem,Nat.reduceBEq,Nat.reduceAdd,Nat.reduceMul,Nat.reduceMod,Nat.reduceLT,Nat.reduceDiv,Nat.reduceSub,Nat.reduceLeDiff,Int.reduceToNat,Int.reduceLT,Int.reduceLE,reduceCtorEq]
 refine ⟨_,cPs Y hY _,?_⟩; simp (maxSteps:=2000000) only [go_sem,Nat.reduceBEq,Nat.reduceAdd,Nat.reduceMul,Nat.reduceMod,Nat.reduceLT,Nat.reduceDiv,Nat.reduceSub,Nat.reduceLeDiff,Int.reduceToNat,Int.reduceLT,Int.reduceLE,reduceCtorEq]
 have hls:∀ z,stabB x y z = true → (z.length:Int) = x.length:=fun z hz => rank_len (stab_of hz).2.1
 obtain ⟨hE,mE⟩:=best_of (c:=costF x y 0) hall
 obtain ⟨hF,mF⟩:=best_of (c:=costF x y 1) hall
 obtain ⟨hV,mV⟩:=best_of (c:=costF x y 2) hall
 have cE:=impl_EqualMatching_ok (n1:=none) (n2:=none) x y hx kx hy ky
 have cF:=impl_CalmMatching_ok (n1:=none) (n2:=none) x y hx kx hy ky
 have cV:=impl_EvenMatching_ok (n1:=none) (n2:=none) x y hx kx hy ky
 generalize bestL (costF x y 0) (stabF x y) (stabF x y).length = E at hE mE cE
 generalize bestL (costF x y 1) (stabF x y) (stabF x y).length = F at hF mF cF
 generalize bestL (costF x y 2) (stabF x y) (stabF x y).length = V at hV mV cV
 have lE:=hls E hE
 have lF:=hls F hF
 have lV:=hls V hV
 rw [decide_eq_true (show 0 < E.length by omega)] at cE
 rw [decide_eq_true (show 0 < F.length by omega)] at cF
 rw [decide_eq_true (show 0 < V.length by omega)] at cV
 refine ⟨_,cE,?_⟩; simp (maxSteps:=2000000) only [go_sem,Nat.reduceBEq,Nat.reduceAdd,Nat.reduceMul,Nat.reduceMod,Nat.reduceLT,Nat.reduceDiv,Nat.reduceSub,Nat.reduceLeDiff,Int.reduceToNat,Int.reduceLT,Int.reduceLE,reduceCtorEq]
 refine ⟨_,cF,?_⟩; simp (maxSteps:=2000000) only [go_sem,Nat.reduceBEq,Nat.reduceAdd,Nat.reduceMul,Nat.reduceMod,Nat.reduceLT,Nat.reduceDiv,Nat.reduceSub,Nat.reduceLeDiff,Int.reduceToNat,Int.reduceLT,Int.reduceLE,reduceCtorEq]
 refine ⟨_,cV,?_⟩; simp (maxSteps:=2000000) only [go_sem,Nat.reduceBEq,Nat.reduceAdd,Nat.reduceMul,Nat.reduceMod,Nat.reduceLT,Nat.reduceDiv,Nat.reduceSub,Nat.reduceLeDiff,Int.reduceToNat,Int.reduceLT,Int.reduceLE,reduceCtorEq]
 refine ⟨_,W64,?_⟩; simp (maxSteps:=2000000) only [go_sem,Nat.reduceBEq,Nat.reduceAdd,Nat.reduceMul,Nat.reduceMod,Nat.reduceLT,Nat.reduceDiv,Nat.reduceSub,Nat.reduceLeDiff,Int.reduceToNat,Int.reduceLT,Int.reduceLE,reduceCtorEq]
 refine ⟨by omega,?_⟩
 have hMd : ∀ k : Nat, k < (stabF x y).length → CallOk Try.prog 9 [.a [.s none (rr x), .s none (rr y)], .i k] [(0, .tp 2), (100000, .own 1 none (ii (medK x y k x.length))), (101000, .b true)] := fun k hk => by
  have:=impl_MedianMatching_ok (n1:=none) (n2:=none) x y k hx kx hy ky
  have h1:medB x y k = true:=by simp only [medB,inI,Bool.and_eq_true,decide_eq_true_eq]; omega
  rw [show medF x y k = medK x y k x.length from if_pos h1,h1] at this
  exact this
 obtain ⟨k,hk⟩:∃ k:Nat,(k:Int) = y64.tmod ((stabF x y).length:Int):=⟨_,Int.toNat_of_nonneg q64.1⟩
 rw [← hk] at q64 ⊢
 have q64':k < (stabF x y).length:=by have:=q64.2; omega
 have hD:=(med_eq q64').2
 have cD:=hMd k q64'
 have c0:=hMd 0 hall
 rw [show ((0:Nat):Int) = 0 from rfl,med_best hm] at c0
 generalize medK x y k x.length = D at hD cD
 refine ⟨_,cD,?_⟩; simp (maxSteps:=2000000) only [go_sem,Nat.reduceBEq,Nat.reduceAdd,Nat.reduceMul,Nat.reduceMod,Nat.reduceLT,Nat.reduceDiv,Nat.reduceSub,Nat.reduceLeDiff,Int.reduceToNat,Int.reduceLT,Int.reduceLE,reduceCtorEq]
 refine ⟨_,cPs E hE _,?_⟩; simp (maxSteps:=2000000) only [go_sem,Nat.reduceBEq,Nat.reduceAdd,Nat.reduceMul,Nat.reduceMod,Nat.reduceLT,Nat.reduceDiv,Nat.reduceSub,Nat.reduceLeDiff,Int.reduceToNat,Int.reduceLT,Int.reduceLE,reduceCtorEq]
 refine ⟨_,c0,?_⟩; simp (maxSteps:=2000000) only [go_sem,Nat.reduceBEq,Nat.reduceAdd,Nat.reduceMul,Nat.reduceMod,Nat.reduceLT,Nat.reduceDiv,Nat.reduceSub,Nat.reduceLeDiff,Int.reduceToNat,Int.reduceLT,Int.reduceLE,reduceCtorEq]
 refine ⟨_,impl_ProposeMen_ok x y hm hx kx hy ky,?_⟩; simp (maxSteps:=2000000) only [go_sem,Nat.reduceBEq,Nat.reduceAdd,Nat.reduceMul,Nat.reduceMod,Nat.reduceLT,Nat.reduceDiv,Nat.reduceSub,Nat.reduceLeDiff,Int.reduceToNat,Int.reduceLT,Int.reduceLE,reduceCtorEq]
 have bE:=bd E hE
 have hEA:=mE A hA
 have hFA:=mF A hA
 simp only [costF,if_pos,show ¬ (1:Int) = 0 by omega,if_false] at hEA hFA
 have cR:∀ z,stabB x y z = true → ∀ n3,CallOk Try.prog 29 [.a [.s none (rr x),.s none (rr y)],.s n3 (ii z)] [(0,.i (regN x y z x.length))]:=fun z hz n3 => impl_RegretOf_ok (n1:=none) (n2:=none) (n3:=n3) x y z hm (stab_of hz).2.1 hx kx hy ky
 generalize sumF (placeM x A) x.length = pa at *
 generalize sumF (placeM x B) x.length = pb at *
 generalize sumF (placeM x X) x.length = px at *
 generalize sumF (placeM x Y) x.length = py at *
 generalize sumF (placeM x E) x.length = pe at *
 generalize sumF (placeW y A) x.length = qa at *
 generalize sumF (placeW y B) x.length = qb at *
 generalize sumF (placeW y X) x.length = qx at *
 generalize sumF (placeW y Y) x.length = qy at *
 generalize sumF (placeW y E) x.length = qe at *
 have f1:(pa + pb = px + py) = True:=eq_true s1
 have f2:(qa + qb = qx + qy) = True:=eq_true s2
 have f3:(pe + qe ≤ pa + qa) = True:=eq_true hEA
 simp (maxSteps:=2000000) only [go_sem,Nat.reduceBEq,Nat.reduceAdd,Nat.reduceMul,Nat.reduceMod,Nat.reduceLT,Nat.reduceDiv,Nat.reduceSub,Nat.reduceLeDiff,Int.reduceToNat,Int.reduceLT,Int.reduceLE,reduceCtorEq,f1,f2,f3,true_implies,not_true_eq_false,decide_true]
 refine ⟨inR_of (by omega) (by omega),inR_of (by omega) (by omega),?_⟩
 refine ⟨inR_of (by omega) (by omega),inR_of (by omega) (by omega),?_⟩
 refine ⟨_,cIs V hV _,?_⟩; simp (maxSteps:=2000000) only [go_sem,Nat.reduceBEq,Nat.reduceAdd,Nat.reduceMul,Nat.reduceMod,Nat.reduceLT,Nat.reduceDiv,Nat.reduceSub,Nat.reduceLeDiff,Int.reduceToNat,Int.reduceLT,Int.reduceLE,reduceCtorEq]
 simp (maxSteps:=2000000) only [go_sem,Nat.reduceBEq,Nat.reduceAdd,Nat.reduceMul,Nat.reduceMod,Nat.reduceLT,Nat.reduceDiv,Nat.reduceSub,Nat.reduceLeDiff,Int.reduceToNat,Int.reduceLT,Int.reduceLE,reduceCtorEq,f3,true_implies,not_true_eq_false,decide_true]
 refine ⟨inR_of (by omega) (by omega),inR_of (by omega) (by omega),?_⟩
 refine ⟨_,cR F hF _,?_⟩; simp (maxSteps:=2000000) only [go_sem,Nat.reduceBEq,Nat.reduceAdd,Nat.reduceMul,Nat.reduceMod,Nat.reduceLT,Nat.reduceDiv,Nat.reduceSub,Nat.reduceLeDiff,Int.reduceToNat,Int.reduceLT,Int.reduceLE,reduceCtorEq]
 refine ⟨_,cR A hA _,?_⟩; simp (maxSteps:=2000000) only [go_sem,Nat.reduceBEq,Nat.reduceAdd,Nat.reduceMul,Nat.reduceMod,Nat.reduceLT,Nat.reduceDiv,Nat.reduceSub,Nat.reduceLeDiff,Int.reduceToNat,Int.reduceLT,Int.reduceLE,reduceCtorEq]
 generalize regN x y F x.length = rF at *
 generalize regN x y A x.length = rA at *
 have f4:(rF ≤ rA) = True:=eq_true hFA
 simp (maxSteps:=2000000) only [go_sem,Nat.reduceBEq,Nat.reduceAdd,Nat.reduceMul,Nat.reduceMod,Nat.reduceLT,Nat.reduceDiv,Nat.reduceSub,Nat.reduceLeDiff,Int.reduceToNat,Int.reduceLT,Int.reduceLE,reduceCtorEq,f4,true_implies,not_true_eq_false,decide_true]
 refine ⟨_,cIs D hD _,?_⟩; simp (maxSteps:=2000000) only [go_sem,Nat.reduceBEq,Nat.reduceAdd,Nat.reduceMul,Nat.reduceMod,Nat.reduceLT,Nat.reduceDiv,Nat.reduceSub,Nat.reduceLeDiff,Int.reduceToNat,Int.reduceLT,Int.reduceLE,reduceCtorEq]
 refine ⟨_,laws_same_yes (psF x y).wo (psF x y).wo (by have:=hls _ ep; omega) rfl,?_⟩; simp (maxSteps:=2000000) only [go_sem,Nat.reduceBEq,Nat.reduceAdd,Nat.reduceMul,Nat.reduceMod,Nat.reduceLT,Nat.reduceDiv,Nat.reduceSub,Nat.reduceLeDiff,Int.reduceToNat,Int.reduceLT,Int.reduceLE,reduceCtorEq]
 refine ⟨_,impl_PartnersOf_ok x y 0 hx kx hy ky,?_⟩; simp (maxSteps:=2000000) only [go_sem,Nat.reduceBEq,Nat.reduceAdd,Nat.reduceMul,Nat.reduceMod,Nat.reduceLT,Nat.reduceDiv,Nat.reduceSub,Nat.reduceLeDiff,Int.reduceToNat,Int.reduceLT,Int.reduceLE,reduceCtorEq]
 have hp:=part_pos hA
 have f5:((1:Int) ≤ ((partF x y 0).length:Int)) = True:=eq_true (by omega)
 simp (maxSteps:=2000000) only [go_sem,Nat.reduceBEq,Nat.reduceAdd,Nat.reduceMul,Nat.reduceMod,Nat.reduceLT,Nat.reduceDiv,Nat.reduceSub,Nat.reduceLeDiff,Int.reduceToNat,Int.reduceLT,Int.reduceLE,reduceCtorEq,f5,true_implies,not_true_eq_false,decide_true]
 refine ⟨_,impl_IsUniqueStable_ok x y hx kx hy ky,?_⟩; simp (maxSteps:=2000000) only [go_sem,Nat.reduceBEq,Nat.reduceAdd,Nat.reduceMul,Nat.reduceMod,Nat.reduceLT,Nat.reduceDiv,Nat.reduceSub,Nat.reduceLeDiff,Int.reduceToNat,Int.reduceLT,Int.reduceLE,reduceCtorEq]
 simp
theorem FnLattice_lifted (os : Os) (started : os.Started) (H : Type) (enc : TypeId × Value → H) :
  ReturnsInHanded {} Try.checked os 4 .any (Rows.fnLatticeSpec.pre6 enc Try.prog Try.f4 Rows.fnLatticeRow.domain false) (Rows.fnLatticeSpec.post enc Try.prog Try.f4 false true false false):=by
 refine returnsInHanded_of_change (C := Try.checked) ownk started (by as_aux_lemma => kernel_rfl) Try.func4
  (ChangeSpec.witness6 (enc:=enc) (C:=Try.checked) false ⟨#[],#[.slice none 0 0],[]⟩ 8 (by kernel_rfl) (by kernel_rfl) (by kernel_rfl) (by kernel_rfl)) ?_
 intro W base args ds gs before hval0 hW _ _
 have hval:∀ (j:Nat) t v,Try.f4.params[j]? = some t → args[j]? = some v → Value.okWide Try.prog W .any base t v:=hval0
 have hW':=hW
 obtain ⟨p,q,hA0,_⟩:=hW
 have hA:DataW.TrodAll enc Try.prog W 0 (fun _ => true) true Try.f4.params.toList args.toList ds p:=hA0
 rw [Try.params4] at hA hval
 clear hA0 hval0
 obtain ⟨v0,d0,rfl,rfl,h0⟩:=trodAll_one hA
 obtain ⟨x0,a0,b0,f0⟩:=fz_bytes Try.underlying36 Try.underlying5 (by kernel_rfl:Try.prog.cellsOf 5 = 1) (hval 0 36 v0 rfl rfl) h0
 exact law_post (P := Try.prog) pfacts.laid (fun t ht => by rw [Try.params4] at ht; revert t; simp only [List.mem_cons, List.not_mem_nil, or_false, forall_eq_or_imp, forall_eq]; exact ⟨by kernel_rfl, of_decide_eq_true (by kernel_rfl)⟩) rfl (by kernel_rfl) rfl (fun ds hds => by
  have hds:ds.length = 1:=hds
  match ds,hds with
  | [d0],_ => rfl) hW' (ts:=[.xv v0 (.s none (byt x0))]) (by simp only [FzL]; exact ⟨_,_,rfl,f0,rfl⟩) (FnLattice_ok v0 x0 a0 b0)
set_option maxHeartbeats 4000000 in
theorem FnLattice_holds : Rows.FnLatticeSaid :=
 OpenClaim.holds_of_wide (p := Try.pinned) (s := Rows.fnLatticeSpec) (c := Rows.fnLatticeRow) 4 Try.f4 rfl rfl rfl rfl rfl rfl rfl ⟨rfl, rfl, rfl, rfl, rfl⟩ rfl rfl rfl rfl rfl (by as_aux_lemma => kernel_rfl) Try.func4 (joined_of pfacts rfl rfl rfl (by as_aux_lemma => kernel_rfl) (by as_aux_lemma => kernel_rfl) (by as_aux_lemma => kernel_rfl) (by as_aux_lemma => kernel_rfl) (by as_aux_lemma => kernel_rfl) (by as_aux_lemma => kernel_rfl) (by as_aux_lemma => kernel_rfl) (by as_aux_lemma => kernel_rfl) (by as_aux_lemma => kernel_rfl) (by as_aux_lemma => kernel_rfl) (by as_aux_lemma => kernel_rfl) (by as_aux_lemma => kernel_rfl) (by as_aux_lemma => kernel_rfl) (by as_aux_lemma => kernel_rfl) (by as_aux_lemma => kernel_rfl) (by as_aux_lemma => kernel_rfl) (by as_aux_lemma => kernel_rfl) (by as_aux_lemma => kernel_rfl) (by as_aux_lemma => kernel_rfl) (by as_aux_lemma => kernel_rfl) (by as_aux_lemma => kernel_rfl) (by as_aux_lemma => kernel_rfl) (by as_aux_lemma => kernel_rfl))
  (of_decide_eq_true (by kernel_rfl)) (by unfold Func.isWrapper; rw [if_neg (of_decide_eq_false (by kernel_rfl))]; exact ⟨rfl,rfl⟩)
  (fun os started H enc _ => FnLattice_lifted os started H enc)
end Go.Proofs.Ytllcbempbdibhaa
