/-
  Own work, laid by a program of the author's: slices.SortFunc, by the library's own contract, as a contract of a function that sorts a slice in place. No condition.
-/
import Derived.Test.YtllcbempbdibhaaV4
import Derived.Shelf.SlSortCmp.Whole1
set_option linter.unusedSimpArgs false
set_option linter.unusedVariables false
set_option linter.unusedSimpArgs false
set_option linter.unusedVariables false
namespace Go.Vc
open Go
abbrev WI:={x:Int // inR x}
instance:Inhabited WI:=⟨⟨0,by unfold inR; omega⟩⟩
def encW (x:WI):Value:=.int .i64 x.1
instance (x:Int):Decidable (inR x):=by unfold inR; infer_instance
def mkW (x:Int):WI:=if h:inR x then ⟨x,h⟩ else default
theorem mkW_val {x:Int} (h:inR x):(mkW x).1 = x:=by simp [mkW,h]
theorem mkW_map {xs : List Int} (h : ∀ x ∈ xs, inR x) : (xs.map mkW).map (·.1) = xs := by
 induction xs with
 | nil => rfl
 | cons a xs ih => simp only [List.map_cons,mkW_val (h a (by simp)),ih fun x hx => h x (by simp [hx])]
theorem fzW_ii {ok : Nat → Prop} {w : World} : ∀ {xs : List Int} {vs : List Value}, FzL ok w (ii xs) vs → vs = xs.map (.int .i64)
 | [],vs,h => by simpa [ii,FzL] using h
 | x :: xs, vs, h => by
  obtain ⟨v,ys,rfl,h1,h2⟩:=(by simpa [ii,FzL] using h:∃ v ys,vs = v :: ys ∧ Fz ok w (.i x) v ∧ FzL ok w (ii xs) ys)
  have h1':v = .int .i64 x:=(by simpa [Fz] using h1:v = .int .i64 x ∧ inR x).1
  rw [fzW_ii h2,h1']; rfl
theorem ii_fzW {ok : Nat → Prop} {w : World} : ∀ {xs : List Int}, (∀ x ∈ xs, inR x) → FzL ok w (ii xs) (xs.map (.int .i64))
 | [],_ => by simp [ii,FzL]
 | x :: xs, h => by
  simp only [ii,List.map_cons,FzL]
  exact ⟨_,_,rfl,by simp [Fz,h x (by simp)],ii_fzW fun y hy => h y (by simp [hy])⟩
theorem scalW_ii {xs : List Int} : scalL (ii xs) := fun t ht => by
 obtain ⟨x,_,rfl⟩:=List.mem_map.1 ht
 simp [T.scal]
open Go.Sort Go.Proofs in
theorem sortWorld_other {α : Type} [Inhabited α] {enc : α → Value} {w : World} {b n : Nat} {d : Array α} {os : Array Obj} {k : Nat} (hk : k < w.heap.size) (hb : k ≠ b) : (sortWorld enc w b 0 n d os).heap[k]? = w.heap[k]? := by
 have hs:k < (w.heap.modify b (onCells (putCells enc 0 d))).size:=by simpa using hk
 show ((w.heap.modify b (onCells (putCells enc 0 d))) ++ os)[k]? = _
 rw [Array.getElem?_append_left hs,Array.getElem?_modify,if_neg (fun e => hb e.symm)]
open Go.Sort Go.Proofs in
theorem sortWorld_same {α : Type} [Inhabited α] {enc : α → Value} {w : World} {b n : Nat} {d : Array α} {os : Array Obj} {arr : Array Value} {ty : TypeId} {fr : Nat × Nat} (hb : w.heap[b]? = some (.cells arr ty fr)) : (sortWorld enc w b 0 n d os).heap[b]? = some (.cells (putCells enc 0 d arr) ty fr) := by
 have hl:b < w.heap.size:=(Array.getElem?_eq_some_iff.1 hb).1
 have hs:b < (w.heap.modify b (onCells (putCells enc 0 d))).size:=by simpa using hl
 show ((w.heap.modify b (onCells (putCells enc 0 d))) ++ os)[b]? = _
 rw [Array.getElem?_append_left hs,Array.getElem?_modify,if_pos rfl,hb]; rfl
open Go.Sort Go.Proofs in
theorem grown_of {w w' : World} (h : Grow (fun _ => False) w w') : ∃ q os, w' = grow (w.drewN q) os := by
 refine ⟨w'.drawn - w.drawn,w'.heap.extract w.heap.size w'.heap.size,?_⟩
 have hh : w'.heap = w.heap ++ w'.heap.extract w.heap.size w'.heap.size := by
  apply Array.ext_getElem?
  intro k
  by_cases hk : k < w.heap.size
  ·rw [Array.getElem?_append_left hk]; exact h.blk hk
  ·rw [Array.getElem?_append_right (by omega),Array.getElem?_extract]
   by_cases hk' : k < w'.heap.size
   ·rw [if_pos (by omega)]; congr 1; omega
   ·rw [if_neg (by omega)]; exact Array.getElem?_eq_none (by omega)
 have hd:w'.drawn = w.drawn + (w'.drawn - w.drawn):=by have:=h.drawn; omega
 obtain ⟨H,T,D,O,U⟩:=w'
 have h1:=h.os; have h2:=h.tape; have h3:=h.output
 simp only at h1 h2 h3 hh hd
 subst h1 h2 h3
 simp only [grow,World.drewN]
 rw [← hh]
 congr
open Go.Shelf Go.RowKit Go.Lib Go.Sort Go.Proofs in
theorem sortFn_of {P : Program} {ρ : Ren} (L : SlLaysF.n6 P ρ) (h6 : ∀ args w, (callFunc (ρ.f 6) args).run P w = .ok (.enter (ρ.f 6) args) w) {f : Nat} {cp : List T} {cf : Int → Int → Int} (hO : SWO (ltOf fun x y : WI => cf x.1 y.1)) {nl : Option Bool} {xs : List Int}
  (h0:xs ≠ []) (hl:xs.length < 4611686018427387904) (hx:∀ x ∈ xs,inR x) (hc:∀ x y:Int,inR x → inR y → CallOk P f ([.i x,.i y] ++ cp) [(0,.i (cf x y))]) :
  ∃ ys:List Int,ys.Perm xs ∧ (∀ i j,i < j → j < ys.length → ¬ cf (ys.getD j 0) (ys.getD i 0) < 0) ∧ CallX P (ρ.f 6) 0 [.s nl (ii xs),.c f cp] (.u []) nl (ii ys):=by
 have hds:(xs.map mkW).toArray.size = xs.length:=by simp
 have hdm:(xs.map mkW).toArray.toList.map (·.1) = xs:=by simpa using mkW_map hx
 generalize hd:(xs.map mkW).toArray = d at hds hdm
 have hP:=pdq_sorts (ltOf fun x y:WI => cf x.1 y.1) hO d 0 d.size (Lib.bitLen d.size) true true (Nat.zero_le _) (Nat.le_refl _) (Or.inl rfl)
 have hcall:=fun w b cap cb hcmp hH hblk => Any.slices_SortFunc_eq L encW (fun x => by simp [encW,Value.oneCell']) (fun x y:WI => cf x.1 y.1) hO f cb b 0 cap d w (hc 0 0 (by unfold inR; omega) (by unfold inR; omega)).1 hcmp hH hblk (by omega)
 generalize pdq (ltOf fun x y:WI => cf x.1 y.1) d 0 d.size (Lib.bitLen d.size) true true = d' at hP hcall
 obtain ⟨⟨p1,p2,p3⟩,p4⟩:=hP
 have e1:d'.extract 0 d.size = d':=by rw [← p1]; simp
 have e2:d.extract 0 d.size = d:=by simp
 rw [e1,e2] at p3
 have hg : ∀ i, i < d'.size → (d'.toList.map (·.1)).getD i 0 = (d'[i]!).1 := fun i hi => by
  rw [List.getD_eq_getElem?_getD,List.getElem?_map,Array.getElem?_toList,Array.getElem?_eq_getElem hi,getElem!_pos d' i hi]; rfl
 have hyR : ∀ y ∈ d'.toList.map (·.1), inR y := fun y hy => by
  obtain ⟨z,_,rfl⟩:=List.mem_map.1 hy; exact z.2
 refine ⟨d'.toList.map (·.1), by rw [← hdm]; exact p3.map _, fun i j hij hj => ?_, h6, nl, ii xs, rfl, fun w vs ow u hlen how hu hz hOw => ?_⟩
 ·have hj':j < d'.size:=by simpa using hj
  have:=p4 i j (Nat.zero_le _) hij (by omega)
  rw [hg j hj',hg i (by omega)]
  simpa [ltOf] using this
 match vs,hlen with
 | [u', v1], _ =>
  have hu':u' = u:=by simpa using hu
  subst hu'
  obtain ⟨caps,rfl,hcap⟩:=(by simpa [Fz] using hz 1 (.c f cp) v1 (by decide) rfl rfl:∃ caps:List Value,v1 = .func (.func f) #[] caps.toArray ∧ FzL (fun b => ow b = none) w cp caps)
  rcases hOw.2 with ⟨_, hn, _⟩ | ⟨hnl, b, cap, arr, ty, xs', hv, hob, hb, hsz, hlc, hcm, htk, hfz, _⟩
  ·exact absurd (by simpa [ii] using hn) h0
  have hbl:b < w.heap.size:=(Array.getElem?_eq_some_iff.1 hb).1
  have hxs:=fzW_ii hfz
  have hlx:(ii xs).length = d.size:=by simp [ii,hds]
  have hat : ∀ j, j < d.size → arr[j]? = some (encW d[j]!) := fun j hj => by
   have q1 : xs'[j]? = some (.int .i64 (xs.getD j 0)) := by
    rw [hxs,List.getElem?_map,List.getD_eq_getElem?_getD,List.getElem?_eq_getElem (by omega)]; rfl
   rw [← htk,List.getElem?_take,if_pos (by omega),Array.getElem?_toList] at q1
   rw [q1]
   have q2 : xs.getD j 0 = (d[j]!).1 := by
    rw [← hdm,List.getD_eq_getElem?_getD,List.getElem?_map,Array.getElem?_toList,Array.getElem?_eq_getElem hj,getElem!_pos d j hj]; rfl
   rw [q2]; rfl
  have hH : Holds encW w b 0 d := fun j hj => by
   refine ⟨?_, ?_⟩
   ·simp only [World.cell?,hb,Nat.zero_add]; simpa using hat j hj
   ·simp [World.frozen?,hb]
  have hcmp : CmpLays1 P f caps.toArray encW (fun x y : WI => cf x.1 y.1) b 0 d.size w := fun m os dk hs x y => by
   have := (hc x.1 y.1 x.2 y.2).2 (sortWorld encW w b 0 m dk os) (encW x :: encW y :: caps) (by
    refine ⟨_,_,rfl,by simp [Fz,encW,x.2],_,_,rfl,by simp [Fz,encW,y.2],?_⟩
    refine FzL.imp (fun k hk hok => ⟨trivial,sortWorld_other hk fun e => ?_⟩) _ _ hcap
    subst e; rw [hob] at hok; simp at hok)
   have ea:(encW x :: encW y :: caps).toArray = #[encW x,encW y] ++ caps.toArray:=by simp
   rw [ea] at this
   refine this.mono fun e w' ⟨r,he,hg',hR,ow',hG⟩ => ⟨?_,grown_of hg'⟩
   obtain ⟨v,hv1,hv2⟩:=hG.ent 0 (by simp [St.lv,St.get]) (by simp [St.get,V.isAny])
   have hv3:v = r:=by simpa [nmv] using hv1.symm
   subst hv3
   have hv4 : v = .int .i64 (cf x.1 y.1) := by
    have h4:v = .int .i64 (cf x.1 y.1) ∧ inR (cf x.1 y.1):=by simpa [St.get,V.i,Rep,Fz] using hv2
    exact h4.1
   rw [he,hv4]
  have key:=hcall w b cap caps.toArray hcmp hH hbl
  rw [hlx] at hv
  have ev:(([u',Value.func (.func f) #[] caps.toArray]:List Value)).toArray = #[.slice (some ⟨b,0,none⟩) d.size cap,.func (.func f) #[] caps.toArray]:=by rw [hv]
  rw [ev]
  refine key.mono fun e w' ⟨he, n, os, hw⟩ => ⟨_, he, ?_, ?_, ow, fun k p hk => ⟨(how k p hk).1, ?_, .inr (by rw [hk]; simp)⟩, fun h => absurd h (by decide), .inr ⟨hnl, b, cap, putCells encW 0 d' arr, ty, _, ?_, hob, ?_, ?_, ?_, hcm, rfl, ?_, fun _ => ?_⟩⟩
  ·rw [hw]
   exact ⟨rfl,rfl,rfl,by show _ ≤ (w.heap.modify b _ ++ os).size; simp,fun k hk hx => sortWorld_other hk fun e => hx (by rw [e,hob]; simp),by show w.drawn ≤ w.drawn + n; omega⟩
  ·exact ⟨[],rfl,by simp [FzL]⟩
  ·have:=(how k p hk).2
   rw [hw]
   show _ < (w.heap.modify b _ ++ os).size
   simp; omega
  ·rw [hv]; simp [ii,p1]
  ·rw [hw]; exact sortWorld_same hb
  ·simp [putCells,hsz]
  ·simp only [ii,List.length_map,Array.length_toList,p1]; omega
  all_goals
   have et : ((putCells encW 0 d' arr).toList.take (ii (d'.toList.map (·.1))).length) = (d'.toList.map (·.1)).map (.int .i64) := by
    apply List.ext_getElem?
    intro k
    have hle:d.size ≤ arr.size:=by omega
    rw [List.getElem?_take,Array.getElem?_toList,List.getElem?_map,List.getElem?_map,Array.getElem?_toList]
    by_cases hk : k < d'.size
    ·rw [if_pos (by simpa [ii] using hk),Array.getElem?_eq_getElem hk]
     simp only [putCells,Array.getElem?_mapIdx,Nat.zero_le,Nat.zero_add,true_and,Nat.sub_zero]
     rw [Array.getElem?_eq_getElem (by omega:k < arr.size)]
     simp [hk,encW,getElem!_pos d' k hk]
    ·rw [if_neg (by simpa [ii] using hk),Array.getElem?_eq_none (by omega)]; rfl
   rw [et]
  ·exact ii_fzW hyR
  ·exact (scal_deep (ok:=fun _ => True) (w:=w') scalW_ii (ii_fzW hyR)).veil
end Go.Vc
