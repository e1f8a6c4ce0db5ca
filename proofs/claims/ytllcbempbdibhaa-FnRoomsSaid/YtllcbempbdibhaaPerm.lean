/- Own work: contracts of functions. No condition beyond those that each theorem names. -/
import Derived.Test.YtllcbempbdibhaaProg
import Derived.Test.YtllcbempbdibhaaHouses
import Derived.Test.YtllcbempbdibhaaOrders
import Derived.Test.YtllcbempbdibhaaRankn
namespace Go.Proofs.Ytllcbempbdibhaa
open Go Go.Vc
set_option maxRecDepth 100000
set_option linter.unusedSimpArgs false
set_option linter.unusedVariables false
theorem perm_of_sub : ∀ {xs ys : List Int}, xs.Nodup → (∀ x ∈ xs, x ∈ ys) → ys.length ≤ xs.length → xs.Perm ys
 | [],ys,_,_,hl => by rw [List.eq_nil_of_length_eq_zero (show ys.length = 0 by simp at hl; rw [hl]; rfl)]
 | x :: xs, ys, hn, hs, hl => by
  rw [List.nodup_cons] at hn
  have hx:=hs x (by simp)
  have hp:0 < ys.length:=List.length_pos_of_mem hx
  refine ((perm_of_sub (xs:=xs) (ys:=ys.erase x) hn.2 (fun y hy => (List.mem_erase_of_ne (by rintro rfl; exact hn.1 hy)).2 (hs y (by simp [hy]))) ?_).cons x).trans (List.perm_cons_erase hx).symm
  rw [List.length_erase_of_mem hx]; simp only [List.length_cons] at hl; omega
theorem rank_perm {n:Nat} {r:List Int} (h:rankB n r = true):r.Perm (upto n):=perm_of_sub (rank_nodup h) (rank_sub h) (by rw [upto_len]; have:=rank_len h; omega)
theorem perm_mem_ords : ∀ {n : Nat} {xs r : List Int}, xs.length = n → r.Perm xs → r ∈ ordsN n xs
 | 0, xs, r, hl, h => by
  have:r.length = 0:=by rw [h.length_eq,hl]
  simp [ordsN,List.eq_nil_of_length_eq_zero this]
 | n + 1, xs, r, hl, h => by
  cases r with
  | nil => have:=h.length_eq; simp at this; omega
  | cons a r =>
   have ha:a ∈ xs:=h.mem_iff.1 (by simp)
   obtain ⟨i,hi,e⟩:=mem_getD 0 ha
   simp only [ordsN,List.mem_flatMap,List.mem_map,List.mem_range]
   refine ⟨i,hi,r,?_,by rw [e]⟩
   refine perm_mem_ords (by simp; omega) ?_
   have h1 : (a :: r).Perm (a :: (xs.take i ++ xs.drop (i + 1))) := by
    refine h.trans ?_
    have h2:(xs.take i ++ xs.getD i 0 :: xs.drop (i + 1)).Perm (xs.getD i 0 :: (xs.take i ++ xs.drop (i + 1))):=List.perm_middle
    rw [← drop_getD 0 hi,List.take_append_drop,e] at h2
    exact h2
   exact h1.cons_inv
theorem rank_allRank {n : Nat} {r : List Int} (h : rankB n r = true) : r ∈ allRank (n : Int) := by
 have h1:inI (n:Int) 1 5 = true:=by simp only [rankB,Bool.and_eq_true] at h; exact h.1.1
 rw [allRank_eq,allOrd,if_pos h1,Int.toNat_natCast]
 exact perm_mem_ords upto_len (rank_perm h)
theorem placeI_mem {r : List Int} {a : Int} (h : a ∈ r) : ∃ j : Nat, j < r.length ∧ r.getD j 0 = a ∧ placeI r a = j := by
 rcases idxP_cases 0 (fun y => decide (y = a)) r with ⟨j, hj, h1, _, e⟩ | ⟨h', e⟩
 ·exact ⟨j,hj,by simpa using h1,e⟩
 ·have:=h' a h; simp at this
theorem placeI_inj {r : List Int} {a b : Int} (ha : a ∈ r) (h : placeI r a = placeI r b) : a = b := by
 obtain ⟨j,hj,e,e1⟩:=placeI_mem ha
 by_cases hb : b ∈ r
 ·obtain ⟨k,hk,f,f1⟩:=placeI_mem hb
  have:j = k:=by omega
  subst this; rw [← e,f]
 ·have:=placeI_neg.2 hb; omega
theorem pref_iff {r : List Int} {a b : Int} (ha : a ∈ r) (hb : b ∈ r) : prefB r a b = decide (placeI r a < placeI r b) := by
 obtain ⟨j,hj,e,e1⟩:=placeI_mem ha
 obtain ⟨k,hk,f,f1⟩:=placeI_mem hb
 simp [prefB,e1,f1]
theorem pref_total {r : List Int} {a b : Int} (ha : a ∈ r) (hb : b ∈ r) (hne : a ≠ b) : prefB r a b = !prefB r b a := by
 rw [pref_iff ha hb,pref_iff hb ha]
 have:placeI r a ≠ placeI r b:=fun e => hne (placeI_inj ha e)
 by_cases h : placeI r a < placeI r b
 ·have:¬ placeI r b < placeI r a:=by omega
  simp [h,this]
 ·have:placeI r b < placeI r a:=by omega
  simp [h,this]
theorem pref_self {r:List Int} {a:Int}:prefB r a a = false:=by simp [prefB]
end Go.Proofs.Ytllcbempbdibhaa
