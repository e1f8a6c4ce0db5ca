/- Own work: contracts of functions that the claim reaches. No condition beyond those that each theorem names. -/
import Derived.Test.YtgdpplhbblapgaaProg
import Derived.Test.YtgdpplhbblapgaaPerm
namespace Go.Proofs.Ytgdpplhbblapgaa
open Go Go.Vc
set_option maxRecDepth 100000
set_option linter.unusedSimpArgs false
set_option linter.unusedVariables false
structure Pth (f : Int → Int) (a : Int) (L : List Int) : Prop where
 pos : 0 < L.length
 hd : L.getD 0 0 = a
 nx : ∀ i, i + 1 < L.length → L.getD (i + 1) 0 = f (L.getD i 0)
 nd : L.Nodup
structure Cyc (f : Int → Int) (a : Int) (L : List Int) : Prop extends Pth f a L where
 cl : f (L.getD (L.length - 1) 0) = a
def cycG (f : Int → Int) (a : Int) : Nat → List Int → List Int
 | 0, _ => []
 | k + 1, out => if f (out.getD (out.length - 1) 0) = a then out else if f (out.getD (out.length - 1) 0) ∈ out then [] else cycG f a k (out ++ [f (out.getD (out.length - 1) 0)])
def spG (f : Int → Int) (a : Int) : Nat → List Int → List Int
 | 0, _ => []
 | k + 1, out => if f (out.getD (out.length - 1) 0) = a then out else if f (out.getD (out.length - 1) 0) < a ∨ f (out.getD (out.length - 1) 0) ∈ out then [] else spG f a k (out ++ [f (out.getD (out.length - 1) 0)])
def lowOf (a : Int) (L : List Int) : List Int := if L ≠ [] ∧ (∀ y ∈ L, a ≤ y) then L else []
section
variable {f : Int → Int} {a b : Int}
theorem cycG_mem : ∀ {k : Nat} {out : List Int}, cycG f a k out = [] ∨ ∀ y ∈ out, y ∈ cycG f a k out
 | 0, out => .inl rfl
 | k + 1, out => by
  simp only [cycG]
  by_cases h : f (out.getD (out.length - 1) 0) = a
  ·rw [if_pos h]; exact .inr fun y hy => hy
  ·rw [if_neg h]
   by_cases h2 : f (out.getD (out.length - 1) 0) ∈ out
   ·rw [if_pos h2]; exact .inl rfl
   ·rw [if_neg h2]
    rcases cycG_mem (k := k) (out := out ++ [f (out.getD (out.length - 1) 0)]) with h | h
    ·exact .inl h
    ·exact .inr fun y hy => h y (by simp [hy])
theorem spG_eq : ∀ {k : Nat} {out : List Int}, out ≠ [] → (∀ y ∈ out, a ≤ y) → spG f a k out = lowOf a (cycG f a k out)
 | 0, out, _, _ => by simp [spG, cycG, lowOf]
 | k + 1, out, hne, ho => by
  simp only [cycG, spG]
  by_cases h : f (out.getD (out.length - 1) 0) = a
  ·rw [if_pos h, if_pos h, lowOf, if_pos ⟨hne, ho⟩]
  ·rw [if_neg h, if_neg h]
   by_cases h2 : f (out.getD (out.length - 1) 0) ∈ out
   ·rw [if_pos (.inr h2), if_pos h2]; simp [lowOf]
   ·by_cases h3 : f (out.getD (out.length - 1) 0) < a
    ·rw [if_pos (.inl h3), if_neg h2]
     rcases cycG_mem (f := f) (a := a) (k := k) (out := out ++ [f (out.getD (out.length - 1) 0)]) with h4 | h4
     ·rw [h4]; simp [lowOf]
     ·rw [lowOf, if_neg]
      rintro ⟨_, h5⟩
      have := h5 _ (h4 (f (out.getD (out.length - 1) 0)) (List.mem_append_right _ (List.mem_singleton.2 rfl))); omega
    ·rw [if_neg (by simp only [not_or]; exact ⟨h3, h2⟩), if_neg h2]
     refine spG_eq (by simp) fun y hy => ?_
     rcases List.mem_append.1 hy with hy | hy
     ·exact ho y hy
     ·rw [List.mem_singleton.1 hy]; omega
theorem getD_app_l {xs ys : List Int} {i : Nat} (h : i < xs.length) : (xs ++ ys).getD i 0 = xs.getD i 0 := by simp [List.getD, List.getElem?_append_left h]
theorem getD_app_r {xs ys : List Int} {i : Nat} (h : xs.length ≤ i) : (xs ++ ys).getD i 0 = ys.getD (i - xs.length) 0 := by simp [List.getD, List.getElem?_append_right h]
theorem Pth.snoc {L : List Int} (h : Pth f a L) (hn : f (L.getD (L.length - 1) 0) ∉ L) : Pth f a (L ++ [f (L.getD (L.length - 1) 0)]) := by
 have := h.pos
 refine ⟨by simp, by rw [getD_app_l h.pos]; exact h.hd, fun i hi => ?_, ?_⟩
 ·simp only [List.length_append, List.length_singleton] at hi
  by_cases e : i + 1 < L.length
  ·rw [getD_app_l e, getD_app_l (by omega)]; exact h.nx i e
  ·have : i + 1 = L.length := by omega
   rw [getD_app_r (by omega), getD_app_l (by omega), this, Nat.sub_self, ← this, Nat.add_sub_cancel]; rfl
 ·rw [List.nodup_append]
  refine ⟨h.nd, by simp, fun x hx y hy e => hn ?_⟩
  rw [← List.mem_singleton.1 hy, ← e]; exact hx
theorem cycG_ok : ∀ {k : Nat} {out : List Int}, Pth f a out → cycG f a k out = [] ∨ Cyc f a (cycG f a k out)
 | 0, out, _ => .inl rfl
 | k + 1, out, h => by
  simp only [cycG]
  by_cases e : f (out.getD (out.length - 1) 0) = a
  ·rw [if_pos e]; exact .inr ⟨h, e⟩
  ·rw [if_neg e]
   by_cases h2 : f (out.getD (out.length - 1) 0) ∈ out
   ·rw [if_pos h2]; exact .inl rfl
   ·rw [if_neg h2]; exact cycG_ok (h.snoc h2)
theorem pth_one : Pth f a [a] := ⟨by simp, rfl, fun i h => by simp at h, by simp⟩
theorem mem_getD' {xs : List Int} {i : Nat} (h : i < xs.length) : xs.getD i 0 ∈ xs := by rw [List.getD, List.getElem?_eq_getElem h]; exact List.getElem_mem h
theorem nodup_inj {xs : List Int} (h : xs.Nodup) {i j : Nat} (hi : i < xs.length) (hj : j < xs.length) (e : xs.getD i 0 = xs.getD j 0) : i = j := by
 refine Classical.byContradiction fun hne => ?_
 rw [List.Nodup, List.pairwise_iff_getElem] at h
 simp only [List.getD, List.getElem?_eq_getElem hi, List.getElem?_eq_getElem hj, Option.getD_some] at e
 rcases Nat.lt_or_gt_of_ne hne with h1 | h1
 ·exact h i j hi hj h1 e
 ·exact h j i hj hi h1 e.symm
theorem take_getD_l {xs : List Int} {i j : Nat} (h : i < j) : (xs.take j).getD i 0 = xs.getD i 0 := by simp [List.getD, List.getElem?_take, h]
theorem Cyc.found {L : List Int} (h : Cyc f a L) : ∀ {k j : Nat}, 0 < j → j ≤ L.length → L.length < j + k → cycG f a k (L.take j) = L
 | 0, j, _, h1, h0 => by omega
 | k + 1, j, hj, hl, hk => by
  have tl : (L.take j).length = j := by simp; omega
  have e0 : (L.take j).getD (j - 1) 0 = L.getD (j - 1) 0 := take_getD_l (by omega)
  simp only [cycG, tl, e0]
  by_cases e : j = L.length
  ·subst e
   rw [if_pos h.cl, List.take_length]
  ·have hx := h.nx (j - 1) (by omega)
   rw [Nat.sub_add_cancel hj] at hx
   rw [← hx]
   have n1 : L.getD j 0 ≠ a := fun e1 => by
    have := nodup_inj h.nd (i := j) (j := 0) (by omega) h.pos (by rw [e1, h.hd]); omega
   have n2 : L.getD j 0 ∉ L.take j := fun hm => by
    obtain ⟨i, hi, e2⟩ := mem_getD 0 hm
    rw [tl] at hi
    rw [take_getD_l hi] at e2
    have := nodup_inj h.nd (i := i) (j := j) (by omega) (by omega) e2; omega
   rw [if_neg n1, if_neg n2, ← take_getD 0 (show j < L.length by omega)]
   exact Cyc.found h (by omega) (by omega) (by omega)
theorem Cyc.nx' {L : List Int} (h : Cyc f a L) {y : Int} (hy : y ∈ L) : f y ∈ L := by
 obtain ⟨i, hi, rfl⟩ := mem_getD 0 hy
 by_cases e : i + 1 < L.length
 ·rw [← h.nx i e]; exact mem_getD' e
 ·have : i = L.length - 1 := by omega
  rw [this, h.cl, ← h.hd]; exact mem_getD' h.pos
theorem Cyc.reach {L : List Int} (h : Cyc f a L) {T : Int → Prop} (hT : ∀ y, T y → f y ∈ L → T (f y)) {y : Int} (hy : y ∈ L) (hy' : T y) : T a := by
 obtain ⟨i, hi, rfl⟩ := mem_getD 0 hy
 have : ∀ n i, i + n + 1 = L.length → T (L.getD i 0) → T a := by
  intro n
  induction n with
  | zero =>
   intro i hi ht
   have : i = L.length - 1 := by omega
   have := hT _ ht (h.nx' (mem_getD' (by omega)))
   rw [show i = L.length - 1 by omega, h.cl] at this; exact this
  | succ n ih =>
   intro i hi ht
   refine ih (i + 1) (by omega) ?_
   rw [h.nx i (by omega)]
   exact hT _ ht (h.nx' (mem_getD' (by omega)))
 exact this (L.length - 1 - i) i (by omega) hy'
theorem Cyc.same {L M : List Int} (h : Cyc f a L) (g : Cyc f b M) (hL : ∀ y ∈ L, a ≤ y) (hM : ∀ y ∈ M, b ≤ y) {y : Int} (h1 : y ∈ L) (h2 : y ∈ M) : a = b := by
 have q1 : a ∈ M := h.reach (T := fun y => y ∈ M) (fun y hy _ => g.nx' hy) h1 h2
 have q2 : b ∈ L := g.reach (T := fun y => y ∈ L) (fun y hy _ => h.nx' hy) h2 h1
 have := hL _ q2; have := hM _ q1; omega
theorem Cyc.rot {L : List Int} (h : Cyc f a L) {j : Nat} (hj : j < L.length) : Cyc f (L.getD j 0) (L.drop j ++ L.take j) := by
 have dl : (L.drop j).length = L.length - j := by simp
 have tl : (L.take j).length = j := by simp; omega
 have gd : ∀ i, (L.drop j).getD i 0 = L.getD (j + i) 0 := fun i => by simp [List.getD]
 have hL := h.pos
 refine ⟨⟨by simp; omega, by rw [getD_app_l (by omega), gd]; rfl, fun i hi => ?_, ?_⟩, ?_⟩
 ·simp only [List.length_append, dl, tl] at hi
  by_cases e1 : i + 1 < L.length - j
  ·rw [getD_app_l (by omega), getD_app_l (by omega), gd, gd, ← h.nx (j + i) (by omega)]; rfl
  ·by_cases e2 : i + 1 = L.length - j
   ·rw [getD_app_r (by omega), getD_app_l (by omega), gd, dl, e2, Nat.sub_self, take_getD_l (by omega), show j + i = L.length - 1 by omega, h.cl, h.hd]
   ·rw [getD_app_r (by omega), getD_app_r (by omega), dl, take_getD_l (by omega), take_getD_l (by omega), show i + 1 - (L.length - j) = (i - (L.length - j)) + 1 by omega]
    exact h.nx _ (by omega)
 ·have := h.nd
  rw [← List.take_append_drop j L, List.nodup_append] at this
  rw [List.nodup_append]
  exact ⟨this.2.1, this.1, fun x hx y hy e => this.2.2 y hy x hx e.symm⟩
 ·simp only [List.length_append, dl, tl]
  by_cases e : j = 0
  ·subst e
   rw [getD_app_l (by omega), gd, h.hd, show 0 + (L.length - 0 + 0 - 1) = L.length - 1 by omega]; exact h.cl
  ·rw [getD_app_r (by omega), dl, take_getD_l (by omega), show L.length - j + j - 1 - (L.length - j) = j - 1 by omega, ← h.nx (j - 1) (by omega), Nat.sub_add_cancel (by omega)]
theorem Cyc.drop {L : List Int} (h : Pth f a L) {j : Nat} (hj : j < L.length) (e : f (L.getD (L.length - 1) 0) = L.getD j 0) : Cyc f (L.getD j 0) (L.drop j) := by
 have gd : ∀ i, (L.drop j).getD i 0 = L.getD (j + i) 0 := fun i => by simp [List.getD]
 refine ⟨⟨by simp; omega, by rw [gd]; rfl, fun i hi => ?_, h.nd.sublist (List.drop_sublist _ _)⟩, ?_⟩
 ·simp only [List.length_drop] at hi
  rw [gd, gd, ← h.nx (j + i) (by omega)]; rfl
 ·rw [gd, List.length_drop, show j + (L.length - j - 1) = L.length - 1 by omega]; exact e
theorem cyc_ex {S : List Int} (hS : ∀ x ∈ S, f x ∈ S) : ∀ {k : Nat} {L : List Int}, Pth f a L → (∀ x ∈ L, x ∈ S) → S.length < L.length + k → ∃ b M, Cyc f b M ∧ ∀ x ∈ M, x ∈ S
 | 0, L, h, hs, hk => by have := nodup_sub_len h.nd hs; omega
 | k + 1, L, h, hs, hk => by
  by_cases e : f (L.getD (L.length - 1) 0) ∈ L
  ·obtain ⟨j, hj, e1⟩ := mem_getD 0 e
   exact ⟨_, _, Cyc.drop h hj e1.symm, fun x hx => hs x (List.mem_of_mem_drop hx)⟩
  ·refine cyc_ex hS (k := k) (L := L ++ [f (L.getD (L.length - 1) 0)]) (h.snoc e) (fun x hx => ?_) (by simp only [List.length_append, List.length_singleton]; omega)
   rcases List.mem_append.1 hx with hx | hx
   ·exact hs x hx
   ·have := h.pos
    rw [List.mem_singleton.1 hx]; exact hS _ (hs _ (mem_getD' (by omega)))
end
theorem pth_sub {S : List Int} {f : Int → Int} {a : Int} {L : List Int} (hf : ∀ x ∈ S, f x ∈ S) (h : Pth f a L) (ha : a ∈ S) : ∀ x ∈ L, x ∈ S := by
 have : ∀ i, i < L.length → L.getD i 0 ∈ S := by
  intro i
  induction i with
  | zero => intro _; rw [h.hd]; exact ha
  | succ i ih => intro hi; rw [h.nx i hi]; exact hf _ (ih (by omega))
 intro x hx
 obtain ⟨i, hi, rfl⟩ := mem_getD 0 hx
 exact this i hi
end Go.Proofs.Ytgdpplhbblapgaa
