/- Own work: contracts of functions. No condition beyond those that each theorem names. -/
import Derived.Test.YtllcbempbdibhaaProg
import Derived.Test.YtllcbempbdibhaaRanks
import Derived.Test.YtllcbempbdibhaaIdx
namespace Go.Proofs.Ytllcbempbdibhaa
open Go Go.Vc
set_option maxRecDepth 100000
set_option linter.unusedSimpArgs false
set_option linter.unusedVariables false
theorem nodup_sub_len : ∀ {xs ys : List Int}, xs.Nodup → (∀ x ∈ xs, x ∈ ys) → xs.length ≤ ys.length
 | [],_,_,_ => by simp
 | x :: xs, ys, hn, hs => by
  rw [List.nodup_cons] at hn
  have hx:=hs x (by simp)
  have h1:=nodup_sub_len (xs:=xs) (ys:=ys.erase x) hn.2 fun y hy => (List.mem_erase_of_ne (by rintro rfl; exact hn.1 hy)).2 (hs y (by simp [hy]))
  rw [List.length_erase_of_mem hx] at h1
  have:0 < ys.length:=List.length_pos_of_mem hx
  simp only [List.length_cons]; omega
theorem nodup_full {xs ys : List Int} (hn : xs.Nodup) (hs : ∀ x ∈ xs, x ∈ ys) (hl : ys.length ≤ xs.length) : ∀ y ∈ ys, y ∈ xs := by
 intro y hy
 refine Classical.byContradiction fun h => ?_
 have := nodup_sub_len (xs := y :: xs) (ys := ys) (List.nodup_cons.2 ⟨h, hn⟩) fun z hz => by
  rcases List.mem_cons.1 hz with rfl | hz
  ·exact hy
  ·exact hs z hz
 simp only [List.length_cons] at this; omega
theorem nodup_getD {xs : List Int} (h : ∀ i j, i < j → j < xs.length → xs.getD i 0 ≠ xs.getD j 0) : xs.Nodup := by
 rw [List.Nodup,List.pairwise_iff_getElem]
 intro i j hi hj hij
 have:=h i j hij hj
 simpa [List.getD,hi,hj] using this
theorem rank_nodup {m : Int} {r : List Int} (h : rankB m r = true) : r.Nodup := by
 simp only [rankB,Bool.and_eq_true] at h
 refine nodup_getD fun i j hij hj e => ?_
 have:=all_range_iff.1 h.2 j hj
 simp only [rankAt,Bool.and_eq_true,Bool.not_eq_true',List.any_eq_false] at this
 refine this.2 (r.getD i 0) ?_ (by simp only [decide_eq_true_eq]; exact e.symm)
 rw [List.getD,List.getElem?_eq_getElem (by omega),Option.getD_some]
 exact List.mem_take_iff_getElem.2 ⟨i,by omega,rfl⟩
theorem rank_sub {n : Nat} {r : List Int} (h : rankB n r = true) : ∀ x ∈ r, x ∈ upto n := by
 intro x hx
 obtain ⟨i,hi,e⟩:=mem_getD 0 hx
 have:=rank_bd h hi
 rw [← e]; exact mem_upto.2 this
theorem rank_all {n : Nat} {r : List Int} (h : rankB n r = true) {a : Int} (h0 : 0 ≤ a) (h1 : a < n) : a ∈ r :=
 nodup_full (rank_nodup h) (rank_sub h) (by rw [upto_len]; have:=rank_len h; omega) a (mem_upto.2 ⟨h0,h1⟩)
end Go.Proofs.Ytllcbempbdibhaa
