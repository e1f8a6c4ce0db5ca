/- Own work: contracts of functions. No condition beyond those that each theorem names. -/
import Derived.Test.YtllcbempbdibhaaProg
import Derived.Test.YtllcbempbdibhaaBase
namespace Go.Proofs.Ytllcbempbdibhaa
open Go Go.Vc
set_option maxRecDepth 100000
set_option linter.unusedSimpArgs false
set_option linter.unusedVariables false
theorem inj_onto : ∀ {S : List Nat} {f : Nat → Nat}, S.Nodup → (∀ a ∈ S, f a ∈ S) → (∀ a ∈ S, ∀ b ∈ S, f a = f b → a = b) → ∀ h ∈ S, ∃ k ∈ S, f k = h := by
 intro S f hn hf hi h hh
 have hm : (S.map f).Nodup := by
  rw [List.Nodup,List.pairwise_map]
  exact hn.imp_of_mem fun ha hb hne e => hne (hi _ ha _ hb e)
 refine Classical.byContradiction fun hno => ?_
 have h2:(h :: S.map f).Nodup:=List.nodup_cons.2 ⟨fun hm => by obtain ⟨k,hk,e⟩:=List.mem_map.1 hm; exact hno ⟨k,hk,e⟩,hm⟩
 have sub : ∀ {xs ys : List Nat}, xs.Nodup → (∀ x ∈ xs, x ∈ ys) → xs.length ≤ ys.length := by
  intro xs
  induction xs with
  | nil => intro ys _ _; simp
  | cons x xs ih =>
   intro ys hn hs
   rw [List.nodup_cons] at hn
   have hx:=hs x (by simp)
   have h1:=ih (ys:=ys.erase x) hn.2 fun y hy => (List.mem_erase_of_ne (by rintro rfl; exact hn.1 hy)).2 (hs y (by simp [hy]))
   rw [List.length_erase_of_mem hx] at h1
   have:0 < ys.length:=List.length_pos_of_mem hx
   simp only [List.length_cons]; omega
 have := sub (xs := h :: S.map f) (ys := S) h2 fun y hy => by
  rcases List.mem_cons.1 hy with rfl | hy
  ·exact hh
  ·obtain ⟨k,hk,rfl⟩:=List.mem_map.1 hy; exact hf k hk
 simp at this
 omega
structure Core (n : Nat) (P : Nat → Nat → Nat → Prop) (x r : Nat → Nat) : Prop where
 inn:∀ i,i < n → x i < n
 inj:∀ i j,i < n → j < n → x i = x j → i = j
 rnd:∀ i,i < n → r (x i) = r i
 top:∀ i h,i < n → h < n → r i ≤ r h → ¬ P i h (x i)
 tot:∀ i a b,i < n → a < n → b < n → P i a b ∨ a = b ∨ P i b a
section
variable {n:Nat} {P:Nat → Nat → Nat → Prop} {x r:Nat → Nat}
theorem Core.block (C : Core n P x r) {z : Nat → Nat} (hz : ∀ i, i < n → z i < n) (zinj : ∀ i j, i < n → j < n → z i = z j → i = j) (hne : ∃ i, i < n ∧ z i ≠ x i) :
  ∃ k,(∃ i,i < n ∧ r i = k ∧ z i ≠ x i) ∧ ∀ i,i < n → r i = k → ¬ P i (z i) (x i):=by
 obtain ⟨i0,hi0,hd⟩:=hne
 have hex : ∃ k, (∃ i, i < n ∧ r i = k ∧ z i ≠ x i) ∧ ∀ k', k' < k → ∀ i, i < n → r i = k' → z i = x i := by
  have : ∀ k, (∃ i, i < n ∧ r i = k ∧ z i ≠ x i) → ∃ k, (∃ i, i < n ∧ r i = k ∧ z i ≠ x i) ∧ ∀ k', k' < k → ∀ i, i < n → r i = k' → z i = x i := by
   intro k
   induction k using Nat.strongRecOn with
   | _ k ih =>
    intro h
    by_cases hk : ∃ k', k' < k ∧ ∃ i, i < n ∧ r i = k' ∧ z i ≠ x i
    ·obtain ⟨k',h1,h2⟩:=hk; exact ih k' h1 h2
    ·refine ⟨k,h,fun k' hk' i hi hr => Classical.byContradiction fun hne => hk ⟨k',hk',i,hi,hr,hne⟩⟩
  exact this (r i0) ⟨i0,hi0,rfl,hd⟩
 obtain ⟨k,h1,h2⟩:=hex
 refine ⟨k,h1,fun i hi hr hP => ?_⟩
 have hzi:=hz i hi
 have hlt:r (z i) < k:=Nat.not_le.1 fun hle => C.top i (z i) hi hzi (by omega) hP
 obtain ⟨j, hj, e⟩ := inj_onto (S := (List.range n).filter fun j => decide (r j < k)) (f := x) (List.nodup_range.filter _) (fun a ha => by
  simp only [List.mem_filter,List.mem_range,decide_eq_true_eq] at ha ⊢
  exact ⟨C.inn a ha.1,by rw [C.rnd a ha.1]; exact ha.2⟩) (fun a ha b hb e => by
  simp only [List.mem_filter,List.mem_range] at ha hb
  exact C.inj a b ha.1 hb.1 e) (z i) (by
  simp only [List.mem_filter,List.mem_range,decide_eq_true_eq]
  exact ⟨hzi,hlt⟩)
 simp only [List.mem_filter,List.mem_range,decide_eq_true_eq] at hj
 have:=h2 (r j) hj.2 j hj.1 rfl
 rw [← this] at e
 have:=zinj j i hj.1 hi e
 subst this; omega
end
end Go.Proofs.Ytllcbempbdibhaa
