/- Own work: contracts of functions. No condition beyond those that each theorem names. -/
import Derived.Test.YtgdpplhbblapgaaProg
import Derived.Test.YtgdpplhbblapgaaConcat
import Derived.Test.YtgdpplhbblapgaaAllrank
namespace Go.Proofs.Ytgdpplhbblapgaa
open Go Go.Vc
set_option maxRecDepth 100000
set_option linter.unusedSimpArgs false
set_option linter.unusedVariables false
def ordsN : Nat → List Int → List (List Int)
 | 0,_ => [[]]
 | n + 1,xs => (List.range xs.length).flatMap fun (i:Nat) => (ordsN n (xs.take i ++ xs.drop (i + 1))).map (xs.getD i 0 :: ·)
theorem flatMap_if {α β : Type} {p : α → Prop} [DecidablePred p] {f : α → List β} : ∀ {xs : List α}, (xs.flatMap fun x => if p x then f x else []) = (xs.filter fun x => decide (p x)).flatMap f
 | [] => rfl
 | x :: xs => by
  rw [List.flatMap_cons,flatMap_if (xs:=xs),List.filter_cons]
  by_cases h:p x <;> simp [h]
theorem flatMap_getD {α β : Type} (d : α) {f : α → List β} {xs : List α} : xs.flatMap f = (List.range xs.length).flatMap fun i => f (xs.getD i d) := by
 have : xs = (List.range xs.length).map fun i => xs.getD i d := by
  apply List.ext_getElem
  ·simp
  ·intro i h1 h2; simp [List.getD,h1]
 conv => lhs; rw [this]
 rw [List.flatMap_map]
def restOf (m:Nat) (l:List Int):List Int:=(upto m).filter fun x => decide (placeI l x < 0)
theorem placeI_neg {l : List Int} {x : Int} : placeI l x < 0 ↔ x ∉ l := by
 rcases idxP_cases 0 (fun y => decide (y = x)) l with ⟨j, hj, h1, _, e⟩ | ⟨h, e⟩
 ·rw [placeI,e]
  constructor
  ·intro h; omega
  ·intro h; exact absurd (by simp only [decide_eq_true_eq] at h1; rw [← h1]; exact getD_mem hj) h
 ·rw [placeI,e]
  constructor
  ·intro _ hx; have:=h x hx; simp at this
  ·intro _; omega
theorem upto_nodup {m : Nat} : (upto m).Nodup := by
 unfold upto
 refine List.pairwise_map.2 ((List.nodup_range (n:=m)).imp ?_)
 intro a b h e; exact h (Int.ofNat.inj e)
theorem filter_ne_nodup {xs : List Int} (h : xs.Nodup) {i : Nat} (hi : i < xs.length) : xs.filter (fun x => decide (x ≠ xs.getD i 0)) = xs.take i ++ xs.drop (i + 1) := by
 have e:=List.take_append_drop i xs
 rw [drop_getD 0 hi] at e
 have hn:(xs.take i ++ xs.getD i 0 :: xs.drop (i + 1)).Nodup:=by rw [e]; exact h
 rw [List.nodup_append] at hn
 obtain ⟨h1,h2,h3⟩:=hn
 rw [List.nodup_cons] at h2
 generalize xs.getD i 0 = a at *
 rw [show xs.filter (fun x => decide (x ≠ a)) = (xs.take i ++ a :: xs.drop (i + 1)).filter (fun x => decide (x ≠ a)) from by rw [e]]
 rw [List.filter_append,List.filter_cons,if_neg (by simp)]
 have f1 : (xs.take i).filter (fun x => decide (x ≠ a)) = xs.take i := List.filter_eq_self.2 fun x hx => by
  simp only [decide_eq_true_eq]; exact h3 x hx _ (by simp)
 have f2 : (xs.drop (i + 1)).filter (fun x => decide (x ≠ a)) = xs.drop (i + 1) := List.filter_eq_self.2 fun x hx => by
  simp only [decide_eq_true_eq]; intro e; rw [e] at hx; exact h2.1 hx
 rw [f1,f2]
theorem restOf_s {m : Nat} {l : List Int} {i : Nat} (hi : i < (restOf m l).length) : restOf m (l ++ [(restOf m l).getD i 0]) = (restOf m l).take i ++ (restOf m l).drop (i + 1) := by
 have hnd:(restOf m l).Nodup:=List.Pairwise.filter _ upto_nodup
 rw [← filter_ne_nodup hnd hi]
 generalize (restOf m l).getD i 0 = a
 unfold restOf
 rw [List.filter_filter]
 refine List.filter_congr fun x _ => ?_
 rw [← Bool.decide_and,decide_eq_decide]
 simp only [placeI_neg,List.mem_append,List.mem_singleton,not_or]
 exact ⟨fun h => ⟨h.2,h.1⟩,fun h => ⟨h.2,h.1⟩⟩
theorem l03_eq {m : Nat} : ∀ {k : Nat} {l : List Int}, (restOf m l).length = k → l03 m k l = (ordsN k (restOf m l)).map (l ++ ·)
 | 0,l,_ => by simp [l03,ordsN]
 | k + 1, l, h => by
  have e1 : l03 m (k + 1) l = (restOf m l).flatMap fun x => l03 m k (l ++ [x]) := by
   simp only [l03,restOf,upto]
   rw [flatMap_if,List.filter_map,List.flatMap_map]
   rfl
  rw [e1,flatMap_getD 0]
  simp only [ordsN,List.map_flatMap]
  have : ∀ (is : List Nat), (∀ i ∈ is, i < (restOf m l).length) → (is.flatMap fun i => l03 m k (l ++ [(restOf m l).getD i 0])) = is.flatMap fun i => ((ordsN k ((restOf m l).take i ++ (restOf m l).drop (i + 1))).map ((restOf m l).getD i 0 :: ·)).map (l ++ ·) := by
   intro is
   induction is with
   | nil => intro _; rfl
   | cons i is ih =>
    intro h'
    have hi:=h' i (by simp)
    rw [List.flatMap_cons,List.flatMap_cons,ih fun i hi => h' i (by simp [hi])]
    congr 1
    have h2:=restOf_s hi
    rw [l03_eq (by rw [h2]; simp; omega),h2,List.map_map]
    exact List.map_congr_left fun r _ => by simp
  exact this _ fun i hi => by simpa using hi
def allOrd (m:Int):List (List Int):=if inI m 1 5 then ordsN m.toNat (upto m.toNat) else []
theorem allRank_eq {m : Int} : allRank m = allOrd m := by
 unfold allRank allOrd
 have:restOf m.toNat [] = upto m.toNat:=List.filter_eq_self.2 fun x _ => by simp [placeI,idxP]
 split
 ·rw [l03_eq (by rw [this,upto_len]),this]; simp
 ·rfl
end Go.Proofs.Ytgdpplhbblapgaa
