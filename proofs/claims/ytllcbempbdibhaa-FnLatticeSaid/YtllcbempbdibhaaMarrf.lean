/- Own work: contracts of functions. No condition beyond those that each theorem names. -/
import Derived.Test.YtllcbempbdibhaaProg
import Derived.Test.YtllcbempbdibhaaRfacts
import Derived.Test.YtllcbempbdibhaaDraw
namespace Go.Proofs.Ytllcbempbdibhaa
open Go Go.Vc
set_option maxRecDepth 100000
set_option linter.unusedSimpArgs false
set_option linter.unusedVariables false
section
variable {x y:List (List Int)} {l:List Int} {n:Nat}
theorem perm_sum {a b : List Int} (h : a.Perm b) : a.sum = b.sum := by
 induction h with
 | nil => rfl
 | cons c _ ih => simp [ih]
 | swap c d l => simp; omega
 | trans _ _ h1 h2 => exact h1.trans h2
theorem sumF_range {f : Nat → Int} : ∀ {k : Nat}, sumF f k = ((List.range k).map f).sum
 | 0 => rfl
 | k + 1 => by simp only [sumF]; rw [sumF_range (k:=k),List.range_succ]; simp
theorem sumF_congr {f g : Nat → Int} : ∀ {k : Nat}, (∀ i, i < k → f i = g i) → sumF f k = sumF g k
 | 0,_ => rfl
 | k + 1,h => by simp only [sumF]; rw [sumF_congr (k:=k) fun i hi => h i (by omega),h k (by omega)]
theorem sumF_perm (R : rankB n l = true) {f : Nat → Int} : sumF (fun i => f (fnL l i)) n = sumF f n := by
 have hl:=rank_len R
 have e1 : (List.range n).map (fnL l) = l.map Int.toNat := by
  apply List.ext_getElem
  ·simp; omega
  ·intro i h1 h2
   simp at h1 h2
   simp [fnL,List.getD,h2]
 have e2 : (upto n).map Int.toNat = List.range n := by
  apply List.ext_getElem
  ·simp [upto]
  ·intro i h1 h2; simp [upto]
 have h : ((List.range n).map (fnL l)).Perm (List.range n) := by
  rw [e1]
  have:=(rank_perm R).map Int.toNat
  rwa [e2] at this
 have h2:=perm_sum (h.map f)
 rw [sumF_range,sumF_range,← h2,List.map_map]; rfl
theorem inv_ex (R : rankB n l = true) {w : Nat} (hw : w < n) : ∃ i : Nat, i < n ∧ fnL l i = w ∧ (invL l).getD w 0 = i := by
 obtain ⟨h1,h2⟩:=inv_fn R hw
 have h3:=inv_at R h1
 rw [h2] at h3
 exact ⟨_,h1,h2,h3⟩
theorem inv_rank (R : rankB n l = true) : rankB n (invL l) = true := by
 have hn : 1 ≤ n ∧ n ≤ 5 := by
  simp only [rankB,Bool.and_eq_true,inI,decide_eq_true_eq] at R
  omega
 refine rank_of_nodup hn.1 hn.2 (inv_len R) (fun v hv => ?_) fun p q hp hq hne => ?_
 ·obtain ⟨j,hj,rfl⟩:=mem_getD 0 hv
  rw [inv_len R] at hj
  obtain ⟨i,hi,_,e⟩:=inv_ex R hj
  rw [e]; omega
 ·rw [inv_len R] at hp hq
  obtain ⟨i,hi,e1,e⟩:=inv_ex R hp
  obtain ⟨j,hj,e2,e'⟩:=inv_ex R hq
  rw [e,e']
  intro h
  have:i = j:=by omega
  rw [this] at e1; omega
theorem inv_inv (R : rankB n l = true) : invL (invL l) = l := by
 have R1:=inv_rank R
 refine fn_ext (n:=n) (inv_rank R1) R fun i hi => ?_
 have hw:=fn_at R hi
 have h:=inv_at R1 hw.2
 have h2:=inv_at R hi
 have e:fnL (invL l) (fnL l i) = i:=by unfold fnL at h2 ⊢; rw [h2]; simp
 rw [e] at h
 show ((invL (invL l)).getD i 0).toNat = fnL l i
 rw [h]; simp
theorem place_inv (R : rankB n l = true) {i : Nat} (hi : i < n) : placeW y (invL l) i = placeM y l (fnL (invL l) i) := by
 obtain ⟨h1,h2⟩:=inv_fn R hi
 have:=(fn_at R h1).1
 rw [h2] at this
 unfold placeW placeM
 rw [← this]; rfl
theorem sum_inv (R : rankB n l = true) : sumF (placeW y (invL l)) n = sumF (placeM y l) n := by
 rw [sumF_congr fun i hi => place_inv R hi]
 exact sumF_perm (inv_rank R)
theorem good_of {a b : List Int} (ha : matchB x y a = true) (hb : matchB x y b = true) (h : ∀ i, i < x.length → placeM x a i ≤ placeM x b i) : goodB x y a b = true := by
 simp only [goodB,Bool.and_eq_true,List.all_eq_true,List.mem_range,Bool.not_eq_true']
 refine ⟨⟨ha,hb⟩,fun i hi => ?_⟩
 have:=h i hi
 unfold placeM at this
 unfold prefB
 simp only [Bool.and_eq_false_iff,decide_eq_false_iff_not]
 right; omega
end
end Go.Proofs.Ytllcbempbdibhaa
