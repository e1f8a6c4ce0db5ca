/- Own work: contracts of functions. No condition beyond those that each theorem names. -/
import Derived.Test.YtllcbempbdibhaaProg
import Derived.Test.YtllcbempbdibhaaMrooms
namespace Go.Proofs.Ytllcbempbdibhaa
open Go Go.Vc
set_option maxRecDepth 100000
set_option linter.unusedSimpArgs false
set_option linter.unusedVariables false
section
variable {x y:List (List Int)} {l A B:List Int} {n:Nat} {v c:Int}
theorem place_app (h : v ∈ A) : placeI (A ++ B) v = placeI A v := by
 rcases idxP_cases 0 (fun y => decide (y = v)) A with ⟨j, hj, hp, hb, e⟩ | ⟨hn, _⟩
 ·unfold placeI
  rw [e]
  have g:∀ i,i < A.length → (A ++ B).getD i 0 = A.getD i 0:=fun i hi => by simp [List.getD,List.getElem?_append_left hi]
  exact idxP_hit (d:=0) (by rw [List.length_append]; omega) (by rw [g j hj]; exact hp) fun i hi => by rw [g i (by omega)]; exact hb i hi
 ·have:=hn v h; simp at this
theorem place_app2 (hA : v ∉ A) (hB : v ∈ B) : placeI (A ++ B) v = A.length + placeI B v := by
 rcases idxP_cases 0 (fun y => decide (y = v)) B with ⟨j, hj, hp, hb, e⟩ | ⟨hn, _⟩
 ·unfold placeI
  rw [e]
  have g:∀ i,A.length ≤ i → (A ++ B).getD i 0 = B.getD (i - A.length) 0:=fun i hi => by simp [List.getD,List.getElem?_append_right hi]
  have := idxP_hit (d := 0) (p := fun y => decide (y = v)) (xs := A ++ B) (j := A.length + j) (by rw [List.length_append]; omega) (by rw [g _ (by omega), Nat.add_sub_cancel_left]; exact hp) fun i hi => by
   by_cases c : i < A.length
   ·have e1:(A ++ B).getD i 0 = A.getD i 0:=by simp [List.getD,List.getElem?_append_left c]
    rw [e1]
    have:A.getD i 0 ≠ v:=fun e2 => hA (by rw [← e2]; exact getD_mem c)
    simpa using this
   ·rw [g i (by omega)]; exact hb _ (by omega)
  rw [this]; omega
 ·have:=hn v hB; simp at this
theorem place_map : placeI (A.map (· + c)) (v + c) = placeI A v := by
 unfold placeI idxP
 rw [List.findIdx?_map]
 have : ((fun y : Int => decide (y = v + c)) ∘ fun y : Int => y + c) = fun y => decide (y = v) := by
  funext y
  simp only [Function.comp]
  rw [decide_eq_decide]; omega
 rw [this]
theorem mem_oth {b : Nat} (hn : n = 1 ∨ n = 2 ∨ n = 3) (hb : b < n) : v ∈ othL n b c ↔ c ≤ v ∧ v < n + c ∧ v ≠ b + c := by
 have h1 : (∃ a, a ∈ (upto n).take b ++ (upto n).drop (b + 1) ∧ a + c = v) ↔ c ≤ v ∧ v < n + c ∧ v ≠ b + c := by
  rcases hn with rfl | rfl | rfl
  ·obtain rfl:b = 0:=by omega
   simp [upto,List.range_succ]; omega
  ·rcases (show b = 0 ∨ b = 1 by omega) with rfl | rfl <;> simp [upto,List.range_succ] <;> omega
  ·rcases (show b = 0 ∨ b = 1 ∨ b = 2 by omega) with rfl | rfl | rfl <;> simp [upto,List.range_succ] <;> omega
 rw [← h1]
 unfold othL
 exact List.mem_map
theorem oth_nodup {b : Nat} (hn : n = 1 ∨ n = 2 ∨ n = 3) (hb : b < n) : (othL n b c).Nodup := by
 rcases hn with rfl | rfl | rfl
 ·obtain rfl:b = 0:=by omega
  simp [othL,upto,List.range_succ]
 ·rcases (show b = 0 ∨ b = 1 by omega) with rfl | rfl <;> simp [othL,upto,List.range_succ]
 ·rcases (show b = 0 ∨ b = 1 ∨ b = 2 by omega) with rfl | rfl | rfl <;> simp [othL,upto,List.range_succ] <;> omega
theorem oth_len1 {b : Nat} (hn : n = 1 ∨ n = 2 ∨ n = 3) (hb : b < n) : (othL n b c).length + 1 = n := by
 have:=upto_len (n:=n)
 simp only [othL,List.length_map,List.length_append,List.length_take,List.length_drop]; omega
theorem place_bd0 (h : v ∈ A) : 0 ≤ placeI A v ∧ placeI A v < A.length := by
 obtain ⟨j,h1,_,h3⟩:=placeI_mem h
 omega
theorem man_w {i w : Nat} (R : rankB n (x.getD i []) = true) (hw : w < n) : placeI (mrM x n i) ((n : Int) + w) = placeI (x.getD i []) w := by
 have hm:=rank_all R (a:=(w:Int)) (by omega) (by omega)
 unfold mrM
 rw [Int.add_comm,place_app (List.mem_map.2 ⟨_,hm,rfl⟩),place_map]
theorem man_m {i k : Nat} (hn : n = 1 ∨ n = 2 ∨ n = 3) (hi : i < n) (R : rankB n (x.getD i []) = true) (hk : k < n) (hne : k ≠ i) : (n : Int) ≤ placeI (mrM x n i) k := by
 have rl:=rank_len R
 have h1 : (k : Int) ∉ (x.getD i []).map (· + (n : Int)) := fun h => by
  obtain ⟨v,hv,e⟩:=List.mem_map.1 h
  obtain ⟨j,hj,rfl⟩:=mem_getD 0 hv
  have:=rank_bd R hj; omega
 have h2:(k:Int) ∈ othL n i 0:=(mem_oth hn hi).2 (by omega)
 unfold mrM
 rw [place_app2 h1 h2,List.length_map]
 have:=place_bd0 h2; omega
theorem woman_m {i w : Nat} (R : rankB n (y.getD w []) = true) (hi : i < n) : placeI (mrW y n w) i = placeI (y.getD w []) i := by
 have hm:=rank_all R (a:=(i:Int)) (by omega) (by omega)
 unfold mrW
 rw [place_app hm]
theorem woman_w {w v : Nat} (hn : n = 1 ∨ n = 2 ∨ n = 3) (hw : w < n) (R : rankB n (y.getD w []) = true) (hv : v < n) (hne : v ≠ w) : (n : Int) ≤ placeI (mrW y n w) ((n : Int) + v) := by
 have rl:=rank_len R
 have h1 : (n : Int) + v ∉ y.getD w [] := fun h => by
  obtain ⟨j,hj,e⟩:=mem_getD 0 h
  have:=rank_bd R hj; omega
 have h2:(n:Int) + v ∈ othL n w n:=(mem_oth hn hw).2 (by omega)
 unfold mrW
 rw [place_app2 h1 h2]
 have:=place_bd0 h2; omega
theorem mrL_len:(mrL x y).length = x.length + x.length:=by simp [mrL,mrK,mrV]
theorem mrL_m {i : Nat} (hi : i < x.length) : (mrL x y).getD i [] = mrM x x.length i := by
 have h:i < (mrK x x.length x.length).length:=by simp [mrK]; omega
 simp only [mrL,List.getD]
 rw [List.getElem?_append_left h]
 simp [mrK,hi]
theorem mrL_w {w : Nat} (hw : w < x.length) : (mrL x y).getD (x.length + w) [] = mrW y x.length w := by
 have h:(mrK x x.length x.length).length = x.length:=by simp [mrK]
 simp only [mrL,List.getD]
 rw [List.getElem?_append_right (by omega),h,Nat.add_sub_cancel_left]
 simp [mrV,hw]
theorem rm_mrL (hm : marketB x y = true) (h3 : x.length ≤ 3) : Rm (mrL x y) := by
 have M:=mk_of hm
 have n1:=M.m.n1
 have hn:x.length = 1 ∨ x.length = 2 ∨ x.length = 3:=by omega
 have key : ∀ P : List Int → Nat → Prop, (∀ i, i < x.length → P (mrM x x.length i) i) → (∀ w, w < x.length → P (mrW y x.length w) (x.length + w)) → ∀ i, i < (mrL x y).length → P ((mrL x y).getD i []) i := fun P h1 h2 i hi => by
  rw [mrL_len] at hi
  by_cases c : i < x.length
  ·rw [mrL_m c]; exact h1 i c
  ·obtain ⟨w,rfl⟩:∃ w,i = x.length + w:=⟨i - x.length,by omega⟩
   rw [mrL_w (by omega)]; exact h2 w (by omega)
 have rx:=fun i (hi:i < x.length) => M.m.rk i hi
 have ry:=fun i (hi:i < x.length) => M.w.rk i hi
 refine ⟨by rw [mrL_len]; omega, key (fun r _ => r.length + 1 = (mrL x y).length) (fun i hi => ?_) (fun w hw => ?_), key (fun r _ => ∀ v ∈ r, 0 ≤ v ∧ v < (mrL x y).length) (fun i hi v hv => ?_) (fun w hw v hv => ?_), key (fun r i => (i : Int) ∉ r) (fun i hi hv => ?_) (fun w hw hv => ?_), key (fun r _ => r.Nodup) (fun i hi => ?_) (fun w hw => ?_)⟩
 ·have:=rank_len (rx i hi)
  have:=oth_len1 (c:=0) hn hi
  rw [mrL_len]; simp only [mrM,List.length_append,List.length_map]; omega
 ·have:=rank_len (ry w hw)
  have:=oth_len1 (c:=(x.length:Int)) hn hw
  rw [mrL_len]; simp only [mrW,List.length_append]; omega
 ·rw [mrL_len]
  rcases List.mem_append.1 hv with h | h
  ·obtain ⟨a,ha,rfl⟩:=List.mem_map.1 h
   obtain ⟨j,hj,rfl⟩:=mem_getD 0 ha
   have:=rank_bd (rx i hi) hj; omega
  ·have:=(mem_oth hn hi).1 h; omega
 ·rw [mrL_len]
  rcases List.mem_append.1 hv with h | h
  ·obtain ⟨j,hj,rfl⟩:=mem_getD 0 h
   have:=rank_bd (ry w hw) hj; omega
  ·have:=(mem_oth hn hw).1 h; omega
 ·rcases List.mem_append.1 hv with h | h
  ·obtain ⟨a,ha,e⟩:=List.mem_map.1 h
   obtain ⟨j,hj,rfl⟩:=mem_getD 0 ha
   have:=rank_bd (rx i hi) hj; omega
  ·have:=(mem_oth hn hi).1 h; omega
 ·rcases List.mem_append.1 hv with h | h
  ·obtain ⟨j,hj,e⟩:=mem_getD 0 h
   have:=rank_bd (ry w hw) hj; omega
  ·have:=(mem_oth hn hw).1 h; omega
 ·refine List.nodup_append.2 ⟨List.pairwise_map.2 ((rank_nodup (rx i hi)).imp fun h e => h (by omega)),oth_nodup hn hi,fun a ha b hb e => ?_⟩
  obtain ⟨v,hv,rfl⟩:=List.mem_map.1 ha
  obtain ⟨j,hj,rfl⟩:=mem_getD 0 hv
  have:=rank_bd (rx i hi) hj
  have:=(mem_oth hn hi).1 hb; omega
 ·refine List.nodup_append.2 ⟨rank_nodup (ry w hw),oth_nodup hn hw,fun a ha b hb e => ?_⟩
  obtain ⟨j,hj,rfl⟩:=mem_getD 0 ha
  have:=rank_bd (ry w hw) hj
  have:=(mem_oth hn hw).1 hb; omega
def marB (n:Nat) (l:List Int):Bool:=(List.range n).all fun i => decide ((n:Int) ≤ l.getD i 0)
def marP (n:Nat) (r:List Int):List Int:=r.map (· + (n:Int)) ++ (List.range n).map fun (w:Nat) => placeI r (w:Int)
theorem PP_mar (hn : n = 1 ∨ n = 2 ∨ n = 3) : (PP (n + n)).filter (marB n) = (allRank (n : Int)).map (marP n) := by
 rcases hn with rfl | rfl | rfl
 ·kernel_rfl
 ·kernel_rfl
 ·kernel_rfl
theorem PP_non (hn : n = 1 ∨ n = 2 ∨ n = 3) {l : List Int} (hl : l ∈ PP (n + n)) (h : marB n l = false) : (∃ i, i < n ∧ l.getD i 0 < n) ∧ ∃ w, w < n ∧ (n : Int) ≤ l.getD (n + w) 0 := by
 have g : ((PP (n + n)).all fun l => marB n l || ((List.range n).any fun i => decide (l.getD i 0 < n)) && ((List.range n).any fun w => decide ((n : Int) ≤ l.getD (n + w) 0))) = true := by
  rcases hn with rfl | rfl | rfl
  ·kernel_rfl
  ·kernel_rfl
  ·kernel_rfl
 have:=List.all_eq_true.1 g l hl
 rw [h,Bool.false_or,Bool.and_eq_true] at this
 obtain ⟨h1,h2⟩:=this
 obtain ⟨i,hi,e1⟩:=List.any_eq_true.1 h1
 obtain ⟨w,hw,e2⟩:=List.any_eq_true.1 h2
 exact ⟨⟨i,List.mem_range.1 hi,of_decide_eq_true e1⟩,w,List.mem_range.1 hw,of_decide_eq_true e2⟩
theorem pref_of {l : List Int} {a b : Int} (h0 : 0 ≤ placeI l a) (h : placeI l a < placeI l b) : prefB l a b = true := by
 unfold prefB
 simp only [Bool.and_eq_true,decide_eq_true_eq]; omega
theorem pref_no {l : List Int} {a b : Int} (h : placeI l b ≤ placeI l a) : prefB l a b = false := by
 unfold prefB
 simp only [Bool.and_eq_false_iff,decide_eq_false_iff_not]; omega
theorem non_block (hm : marketB x y = true) (h3 : x.length ≤ 3) {l : List Int} (hl : l ∈ PP (x.length + x.length)) (h : marB x.length l = false) : stB (mrL x y) l = false := by
 have M:=mk_of hm
 have n1:=M.m.n1
 have hn:x.length = 1 ∨ x.length = 2 ∨ x.length = 3:=by omega
 obtain ⟨⟨i,hi,ei⟩,w,hw,ew⟩:=PP_non hn hl h
 obtain ⟨_,hp⟩:=pair_len (PP_pair (n:=x.length + x.length) (by omega) l hl)
 have pi:=hp i (by omega)
 have pw:=hp (x.length + w) (by omega)
 obtain ⟨k,hk⟩:∃ k:Nat,l.getD i 0 = k:=⟨(l.getD i 0).toNat,by omega⟩
 obtain ⟨v,hv⟩:∃ v:Nat,l.getD (x.length + w) 0 = (x.length:Int) + v:=⟨(l.getD (x.length + w) 0 - x.length).toNat,by omega⟩
 have rx:=M.m.rk i hi
 have ry:=M.w.rk w hw
 have hb : rbI (mrL x y) l i (x.length + w) = true := by
  unfold rbI
  rw [mrL_m hi,mrL_w hw,hk,hv,Bool.and_eq_true]
  have b1:=place_bd0 (rank_all rx (a:=(w:Int)) (by omega) (by omega))
  have b2:=place_bd0 (rank_all ry (a:=(i:Int)) (by omega) (by omega))
  have l1:=rank_len rx
  have l2:=rank_len ry
  have m1:=man_w (i:=i) rx hw
  have m2:=man_m hn hi rx (k:=k) (by omega) (by omega)
  have m3:=woman_m (w:=w) ry hi
  have m4:=woman_w hn hw ry (v:=v) (by omega) (by omega)
  rw [show ((x.length + w:Nat):Int) = (x.length:Int) + w by omega]
  exact ⟨pref_of (by omega) (by omega),pref_of (by omega) (by omega)⟩
 cases hs:stB (mrL x y) l with
 | false => rfl
 | true =>
  have:=stB_iff.1 hs i (by rw [mrL_len]; omega) (x.length + w) (by rw [mrL_len]; omega) (by omega)
  rw [hb] at this; cases this
theorem mar_stab (hm : marketB x y = true) (h3 : x.length ≤ 3) {r : List Int} (R : rankB x.length r = true) : stB (mrL x y) (marP x.length r) = stableB x y x.length r := by
 have M:=mk_of hm
 have n1:=M.m.n1
 have hn:x.length = 1 ∨ x.length = 2 ∨ x.length = 3:=by omega
 have rl:=rank_len R
 have gm : ∀ i, i < x.length → (marP x.length r).getD i 0 = (x.length : Int) + r.getD i 0 := fun i hi => by
  simp only [marP,List.getD]
  rw [List.getElem?_append_left (by rw [List.length_map]; omega),List.getElem?_map,List.getElem?_eq_getElem (by omega:i < r.length)]
  simp only [Option.map_some,Option.getD_some]; omega
 have gw : ∀ w, w < x.length → (marP x.length r).getD (x.length + w) 0 = placeI r w := fun w hw => by
  simp only [marP,List.getD]
  rw [List.getElem?_append_right (by rw [List.length_map]; omega),List.length_map,show x.length + w - r.length = w by omega]
  simp [hw]
 have hmw : ∀ i w, i < x.length → w < x.length → rbI (mrL x y) (marP x.length r) i (x.length + w) = blkI x y r i w := fun i w hi hw => by
  have rx:=M.m.rk i hi
  have ry:=M.w.rk w hw
  have br:=rank_bd R (i:=i) (by omega)
  obtain ⟨a,ha⟩:∃ a:Nat,r.getD i 0 = a:=⟨(r.getD i 0).toNat,by omega⟩
  obtain ⟨j,j1,j2,j3⟩:=placeI_mem (rank_all R (a:=(w:Int)) (by omega) (by omega))
  unfold rbI blkI
  rw [mrL_m hi,mrL_w hw,gm i hi,gw w hw,ha,j3]
  have m1:=man_w (i:=i) rx hw
  have m2:=man_w (i:=i) rx (w:=a) (by omega)
  have m3:=woman_m (w:=w) ry hi
  have m4:=woman_m (w:=w) ry (i:=j) (by omega)
  unfold prefB
  rw [show ((x.length + w:Nat):Int) = (x.length:Int) + w by omega,m1,m2,m3,m4]
 rw [Bool.eq_iff_iff,stB_iff,stable_iff,mrL_len]
 constructor
 ·intro h i hi w hw
  rw [← hmw i w hi hw]
  exact h i (by omega) (x.length + w) (by omega) (by omega)
 ·intro h i hi k hk hik
  by_cases ck : k < x.length
  ·
   have hi':i < x.length:=by omega
   have rx:=M.m.rk i hi'
   have br:=rank_bd R (i:=i) (by omega)
   obtain ⟨a,ha⟩:∃ a:Nat,r.getD i 0 = a:=⟨(r.getD i 0).toNat,by omega⟩
   have m1:=man_m hn hi' rx ck (by omega)
   have m2:=man_w (i:=i) rx (w:=a) (by omega)
   have b:=place_bd0 (rank_all rx (a:=(a:Int)) (by omega) (by omega))
   have:=rank_len rx
   unfold rbI
   rw [mrL_m hi',gm i hi',ha,pref_no (by omega),Bool.false_and]
  ·obtain ⟨v,rfl⟩:∃ v,k = x.length + v:=⟨k - x.length,by omega⟩
   by_cases ci : i < x.length
   ·rw [hmw i v ci (by omega)]; exact h i ci v (by omega)
   ·
    obtain ⟨w,rfl⟩:∃ w,i = x.length + w:=⟨i - x.length,by omega⟩
    have hw:w < x.length:=by omega
    have ry:=M.w.rk w hw
    obtain ⟨j,j1,j2,j3⟩:=placeI_mem (rank_all R (a:=(w:Int)) (by omega) (by omega))
    have m1:=woman_w hn hw ry (v:=v) (by omega) (by omega)
    have m2:=woman_m (w:=w) ry (i:=j) (by omega)
    have b:=place_bd0 (rank_all ry (a:=(j:Int)) (by omega) (by omega))
    have:=rank_len ry
    unfold rbI
    rw [mrL_w hw,gw w hw,j3,show ((x.length + v:Nat):Int) = (x.length:Int) + v by omega,pref_no (by omega),Bool.false_and]
theorem rooms_eq (hm : marketB x y = true) (h3 : x.length ≤ 3) : stF (mrL x y) = (stabF x y).map (marP x.length) := by
 have M:=mk_of hm
 have n1:=M.m.n1
 have hn:x.length = 1 ∨ x.length = 2 ∨ x.length = 3:=by omega
 have e1 : stF (mrL x y) = ((PP (x.length + x.length)).filter (marB x.length)).filter (stB (mrL x y)) := by
  unfold stF
  rw [mrL_len,List.filter_filter]
  refine List.filter_congr fun l hl => ?_
  cases c:marB x.length l with
  | true => simp
  | false => rw [non_block hm h3 hl c]; rfl
 have e2 : stabF x y = (allRank (x.length : Int)).filter (stableB x y x.length) := by
  unfold stabF stabK
  rw [if_pos hm,List.take_length]
 rw [e1,e2,PP_mar hn,List.filter_map]
 congr 1
 refine List.filter_congr fun r hr => ?_
 exact mar_stab hm h3 (allRank_rank hr)
end
end Go.Proofs.Ytllcbempbdibhaa
