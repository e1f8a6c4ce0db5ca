/-
  Own work, laid by a program of the author's: slices.Delete, by the library's own contract, as a contract of a function that uses up a slice. No condition.
-/
import Derived.Test.YtllcbempbdibhaaV4
import Derived.Shelf.SlicesE.Delete
set_option linter.unusedSimpArgs false
set_option linter.unusedVariables false
set_option linter.unusedSimpArgs false
set_option linter.unusedVariables false
namespace Go.Vc
open Go
theorem fzD_ii {ok : Nat → Prop} {w : World} : ∀ {xs : List Int} {vs : List Value}, FzL ok w (ii xs) vs → vs = xs.map (.int .i64) ∧ ∀ x ∈ xs, inR x
 | [],vs,h => by simpa [ii,FzL] using h
 | x :: xs, vs, h => by
  obtain ⟨v,ys,rfl,h1,h2⟩:=(by simpa [ii,FzL] using h:∃ v ys,vs = v :: ys ∧ Fz ok w (.i x) v ∧ FzL ok w (ii xs) ys)
  have h1':v = .int .i64 x ∧ inR x:=(by simpa [Fz] using h1:v = .int .i64 x ∧ inR x)
  obtain ⟨e,h3⟩:=fzD_ii h2
  rw [e,h1'.1]
  refine ⟨rfl,fun y hy => ?_⟩
  rcases List.mem_cons.1 hy with rfl | hy
  ·exact h1'.2
  ·exact h3 y hy
theorem ii_fzD {ok : Nat → Prop} {w : World} : ∀ {xs : List Int}, (∀ x ∈ xs, inR x) → FzL ok w (ii xs) (xs.map (.int .i64))
 | [],_ => by simp [ii,FzL]
 | x :: xs, h => by
  simp only [ii,List.map_cons,FzL]
  exact ⟨_,_,rfl,by simp [Fz,h x (by simp)],ii_fzD fun y hy => h y (by simp [hy])⟩
open Go.Shelf Go.RowKit Go.Lib Go.Sort Go.Proofs in
theorem deleteFn_of {P : Program} {ρ : Ren} (L : SlLaysE.n45 P ρ) (h45 : ∀ args w, (callFunc (ρ.f 45) args).run P w = .ok (.enter (ρ.f 45) args) w) (v23 : ∀ w, (zeroValue (ρ.t 23)).run P w = .ok (.int .i64 0) w)
  (hi0:(P.info? (ρ.t 23)).map TypeInfo.size = some 1) {nl:Option Bool} {xs:List Int} {i j:Nat} (h0:xs ≠ []) (hij:i ≤ j) (hj:j ≤ xs.length) :
  CallC P (ρ.f 45) [0] [.s nl (ii xs),.i i,.i j] [(0,.own 1 none (ii (xs.take i ++ xs.drop j)))]:=by
 obtain ⟨i0,hi1,hz1⟩:=Option.map_eq_some_iff.1 hi0
 refine ⟨h45,fun w vs ow hlen how hv => ?_⟩
 match vs,hlen with
 | [u, v1, v2], _ =>
  obtain ⟨nl',cs',e0,hOw⟩:=(hv 0 _ u rfl rfl).1 (by simp)
  cases e0
  have e1 : v1 = .int .i64 i := by
   have:=(hv 1 _ v1 rfl rfl).2 (by simp)
   exact (by simpa [Fz] using this:v1 = .int .i64 (i:Int) ∧ inR i).1
  have e2 : v2 = .int .i64 j := by
   have:=(hv 2 _ v2 rfl rfl).2 (by simp)
   exact (by simpa [Fz] using this:v2 = .int .i64 (j:Int) ∧ inR j).1
  subst e1 e2
  rcases hOw.2 with ⟨_, hn, _⟩ | ⟨hnl, b, cap, arr, ty, xs', hu, hob, hb, hsz, hlc, hcm, htk, hfz, _⟩
  ·exact absurd (by simpa [ii] using hn) h0
  have hbl:b < w.heap.size:=(Array.getElem?_eq_some_iff.1 hb).1
  obtain ⟨hxs,hR⟩:=fzD_ii hfz
  have hlx:(ii xs).length = xs.length:=by simp [ii]
  rw [hlx] at hu hlc htk
  have hH : Holds (Value.int .i64) w b 0 xs.toArray := fun k hk => by
   have hk':k < xs.length:=by simpa using hk
   refine ⟨?_,by simp [World.frozen?,hb]⟩
   have q1:xs'[k]? = some (.int .i64 xs[k]):=by rw [hxs,List.getElem?_map,List.getElem?_eq_getElem hk']; rfl
   rw [← htk,List.getElem?_take,if_pos hk',Array.getElem?_toList] at q1
   simp only [World.cell?,hb,Nat.zero_add]
   have q2:(xs.toArray)[k]! = xs[k]:=by rw [getElem!_pos xs.toArray k hk]; simp
   rw [q2]; simpa using q1
  have key:=AnyE.slices_Delete L (Value.int .i64) (fun _ => rfl) 0 v23 i0 hi1 hz1 b 0 cap i j xs.toArray w hH (by simpa using hlc) (by unfold maxLen at hcm; omega) hij (by simpa using hj)
  have ev:([u,.int .i64 (i:Int),.int .i64 (j:Int)]:List Value).toArray = #[.slice (some ⟨b,0,none⟩) xs.toArray.size cap,.int .i64 i,.int .i64 j]:=by rw [hu]; simp
  rw [ev]
  refine key.mono fun e w' ⟨he, q, hw⟩ => ⟨_, he, ?_, ?_⟩
  ·rw [hw]
   refine ⟨rfl, rfl, rfl, ?_, fun k hk hx => ?_, ?_⟩
   ·show _ ≤ (w.heap.modify b _).size; simp
   ·show (w.heap.modify b _)[k]? = _
    rw [Array.getElem?_modify,if_neg fun e => hx (by rw [← e,hob]; simp)]
   ·show w.drawn ≤ w.drawn + q; omega
  ·generalize hd:xs.take i ++ xs.drop j = ys
   have hyl:ys.length = xs.length - (j - i):=by rw [← hd]; simp; omega
   have hyR : ∀ y ∈ ys, inR y := fun y hy => by
    rw [← hd] at hy
    rcases List.mem_append.1 hy with h | h
    ·exact hR y (List.mem_of_mem_take h)
    ·exact hR y (List.mem_of_mem_drop h)
   have hdl:(ys ++ List.replicate (j - i) (0:Int)).length = xs.length:=by simp [hyl]; omega
   have hb' : w'.heap[b]? = some (.cells (putCells (Value.int .i64) 0 (ys ++ List.replicate (j - i) 0).toArray arr) ty (0, 0)) := by
    rw [hw]
    show (w.heap.modify b _)[b]? = _
    rw [Array.getElem?_modify,if_pos rfl,hb]
    simp only [Option.map_some,onCells,hd]
   have et : (putCells (Value.int .i64) 0 (ys ++ List.replicate (j - i) 0).toArray arr).toList.take ys.length = ys.map (.int .i64) := by
    apply List.ext_getElem?
    intro k
    rw [List.getElem?_take,Array.getElem?_toList,List.getElem?_map]
    by_cases hk : k < ys.length
    ·rw [if_pos hk]
     simp only [putCells,Array.getElem?_mapIdx,Nat.zero_le,Nat.zero_add,true_and,Nat.sub_zero]
     rw [Array.getElem?_eq_getElem (by omega:k < arr.size)]
     have hk2:k < (ys ++ List.replicate (j - i) (0:Int)).toArray.size:=by simp; omega
     simp only [Option.map_some]
     rw [if_pos hk2,getElem!_pos _ k hk2,List.getElem?_eq_getElem hk]
     simp [List.getElem_append_left hk]
    ·rw [if_neg hk,List.getElem?_eq_none (by omega)]; rfl
   refine ⟨fun p hp => by simp only [List.mem_singleton] at hp; subst hp; simp, ow, fun k p hk => ⟨?_, .inr (by rw [hk]; simp)⟩, ?_, fun y hl hn => ?_⟩
   ·have:=(how k p hk).2
    rw [hw]; show _ < (w.heap.modify b _).size; simpa using this
   ·rw [hw]; show _ ≤ (w.heap.modify b _).size; simp
   ·by_cases hy : y = 0
    ·subst hy
     refine ⟨_,by simp [nmv]; rfl,?_⟩
     rw [get_top]
     refine ⟨fun h => absurd h (by decide), .inr ⟨by simp, b, cap, _, ty, _, ?_, hob, hb', ?_, ?_, hcm, rfl, ?_, fun _ => ?_⟩⟩
     ·simp [ii,hyl]
     ·simp [putCells,hsz]
     ·simp only [ii,List.length_map]; omega
     all_goals
      have e3:(ii ys).length = ys.length:=by simp [ii]
      rw [e3,et]
     ·exact ii_fzD hyR
     ·exact (scal_deep (ok := fun _ => True) (w := w') (fun t ht => by
       obtain ⟨x,_,rfl⟩:=List.mem_map.1 ht
       simp [T.scal]) (ii_fzD hyR)).veil
    ·exfalso
     have h0y:((0:Nat) == y) = false:=beq_eq_false_iff_ne.2 fun h => hy h.symm
     simp [St.get,V.isAny,h0y,V.any] at hn
end Go.Vc
