/- Own work: contracts of functions. No condition beyond those that each theorem names. -/
import Derived.Test.YtllcbempbdibhaaProg
import Derived.Test.YtllcbempbdibhaaCore
namespace Go.Proofs.Ytllcbempbdibhaa
open Go Go.Vc
set_option maxRecDepth 100000
set_option linter.unusedSimpArgs false
set_option linter.unusedVariables false
structure Lk (n : Nat) (P : Nat → Nat → Nat → Prop) : Prop where
 irr:∀ i a,¬ P i a a
 trans:∀ i a b c,P i a b → P i b c → P i a c
 tot:∀ i a b,i < n → a < n → b < n → P i a b ∨ a = b ∨ P i b a
theorem Lk.asym {n:Nat} {P:Nat → Nat → Nat → Prop} (L:Lk n P) {i a b:Nat} (h:P i a b):¬ P i b a:=fun h2 => L.irr i a (L.trans i a b a h h2)
structure Sm (n : Nat) (P Q : Nat → Nat → Nat → Prop) (μ : Nat → Nat) : Prop where
 inn:∀ i,i < n → μ i < n
 inj:∀ i j,i < n → j < n → μ i = μ j → i = j
 st:∀ i j,i < n → j < n → P i (μ j) (μ i) → ¬ Q (μ j) i j
section
variable {n:Nat} {P Q:Nat → Nat → Nat → Prop} {μ ν:Nat → Nat}
theorem range_onto {f : Nat → Nat} (inn : ∀ i, i < n → f i < n) (inj : ∀ i j, i < n → j < n → f i = f j → i = j) {w : Nat} (hw : w < n) : ∃ i, i < n ∧ f i = w := by
 obtain ⟨k,hk,e⟩:=inj_onto (S:=List.range n) (f:=f) List.nodup_range (fun a ha => List.mem_range.2 (inn a (List.mem_range.1 ha))) (fun a ha b hb e => inj a b (List.mem_range.1 ha) (List.mem_range.1 hb) e) w (List.mem_range.2 hw)
 exact ⟨k,List.mem_range.1 hk,e⟩
theorem Sm.onto (S:Sm n P Q μ) {w:Nat} (hw:w < n):∃ i,i < n ∧ μ i = w:=range_onto S.inn S.inj hw
theorem opp (hP : Lk n P) (hQ : Lk n Q) (A : Sm n P Q μ) (B : Sm n P Q ν) {i j : Nat} (hi : i < n) (hj : j < n) (h : P i (μ i) (ν i)) (e : ν j = μ i) : Q (μ i) j i ∧ P j (μ j) (ν j) := by
 have hne:j ≠ i:=by rintro rfl; rw [e] at h; exact hP.irr _ _ h
 have h1:¬ Q (μ i) i j:=by rw [← e]; exact B.st i j hi hj (by rw [e]; exact h)
 have h2 : Q (μ i) j i := by
  rcases hQ.tot (μ i) i j (A.inn i hi) hi hj with h3 | h3 | h3
  ·exact absurd h3 h1
  ·exact absurd h3.symm hne
  ·exact h3
 refine ⟨h2,?_⟩
 rcases hP.tot j (μ j) (ν j) hj (A.inn j hj) (B.inn j hj) with h3 | h3 | h3
 ·exact h3
 ·rw [e] at h3
  exact absurd (A.inj j i hj hi h3) hne
 ·rw [e] at h3
  exact absurd h2 (A.st j i hj hi h3)
theorem opp_onto (hP : Lk n P) (hQ : Lk n Q) (A : Sm n P Q μ) (B : Sm n P Q ν) {j : Nat} (hj : j < n) (h : P j (μ j) (ν j)) : ∃ i, i < n ∧ P i (μ i) (ν i) ∧ μ i = ν j := by
 classical
 obtain ⟨k, hk⟩ := Classical.axiomOfChoice (fun i : Nat => show ∃ k, i < n → k < n ∧ ν k = μ i by
  by_cases hi : i < n
  ·obtain ⟨k,h1,h2⟩:=B.onto (A.inn i hi)
   exact ⟨k,fun _ => ⟨h1,h2⟩⟩
  ·exact ⟨0,fun h => absurd h hi⟩)
 obtain ⟨i, hi, e⟩ := inj_onto (S := (List.range n).filter fun i => decide (P i (μ i) (ν i))) (f := k) (List.nodup_range.filter _) (fun a ha => by
  simp only [List.mem_filter,List.mem_range,decide_eq_true_eq] at ha ⊢
  obtain ⟨h1,h2⟩:=hk a ha.1
  exact ⟨h1,(opp hP hQ A B ha.1 h1 ha.2 h2).2⟩) (fun a ha b hb e => by
  simp only [List.mem_filter,List.mem_range] at ha hb
  have h1:=(hk a ha.1).2
  have h2:=(hk b hb.1).2
  rw [e,h2] at h1
  exact (A.inj b a hb.1 ha.1 h1).symm) j (by simp [hj,h])
 simp only [List.mem_filter,List.mem_range,decide_eq_true_eq] at hi
 exact ⟨i,hi.1,hi.2,by rw [← (hk i hi.1).2,e]⟩
open Classical in
noncomputable def joinM (P:Nat → Nat → Nat → Prop) (μ ν:Nat → Nat) (i:Nat):Nat:=if P i (μ i) (ν i) then μ i else ν i
open Classical in
noncomputable def meetM (P:Nat → Nat → Nat → Prop) (μ ν:Nat → Nat) (i:Nat):Nat:=if P i (μ i) (ν i) then ν i else μ i
theorem join_sm (hP : Lk n P) (hQ : Lk n Q) (A : Sm n P Q μ) (B : Sm n P Q ν) : Sm n P Q (joinM P μ ν) := by
 have cases' : ∀ i, (P i (μ i) (ν i) ∧ joinM P μ ν i = μ i) ∨ (¬ P i (μ i) (ν i) ∧ joinM P μ ν i = ν i) := fun i => by
  unfold joinM
  by_cases h : P i (μ i) (ν i)
  ·rw [if_pos h]; exact .inl ⟨h,rfl⟩
  ·rw [if_neg h]; exact .inr ⟨h,rfl⟩
 have mix:∀ i j,i < n → j < n → P i (μ i) (ν i) → ¬ P j (μ j) (ν j) → μ i ≠ ν j:=fun i j hi hj h1 h2 e => h2 (opp hP hQ A B hi hj h1 e.symm).2
 have wk : ∀ i w, i < n → w < n → P i w (joinM P μ ν i) → P i w (μ i) ∧ P i w (ν i) := fun i w hi hw h => by
  rcases cases' i with ⟨h1, e⟩ | ⟨h1, e⟩ <;> rw [e] at h
  ·exact ⟨h,hP.trans _ _ _ _ h h1⟩
  ·refine ⟨?_,h⟩
   rcases hP.tot i (μ i) (ν i) hi (A.inn i hi) (B.inn i hi) with h2 | h2 | h2
   ·exact absurd h2 h1
   ·rw [h2]; exact h
   ·exact hP.trans _ _ _ _ h h2
 refine ⟨fun i hi => ?_, fun i j hi hj e => ?_, fun i j hi hj h => ?_⟩
 ·rcases cases' i with ⟨_, e⟩ | ⟨_, e⟩ <;> rw [e]
  ·exact A.inn i hi
  ·exact B.inn i hi
 ·rcases cases' i with ⟨h1, e1⟩ | ⟨h1, e1⟩ <;> rcases cases' j with ⟨h2, e2⟩ | ⟨h2, e2⟩ <;> rw [e1, e2] at e
  ·exact A.inj i j hi hj e
  ·exact absurd e (mix i j hi hj h1 h2)
  ·exact absurd e.symm (mix j i hj hi h2 h1)
  ·exact B.inj i j hi hj e
 ·rcases cases' j with ⟨h2, e2⟩ | ⟨h2, e2⟩ <;> rw [e2] at h ⊢
  ·exact A.st i j hi hj (wk i _ hi (A.inn j hj) h).1
  ·exact B.st i j hi hj (wk i _ hi (B.inn j hj) h).2
theorem meet_sm (hP : Lk n P) (hQ : Lk n Q) (A : Sm n P Q μ) (B : Sm n P Q ν) : Sm n P Q (meetM P μ ν) := by
 have cases' : ∀ i, (P i (μ i) (ν i) ∧ meetM P μ ν i = ν i) ∨ (¬ P i (μ i) (ν i) ∧ meetM P μ ν i = μ i) := fun i => by
  unfold meetM
  by_cases h : P i (μ i) (ν i)
  ·rw [if_pos h]; exact .inl ⟨h,rfl⟩
  ·rw [if_neg h]; exact .inr ⟨h,rfl⟩
 have mix : ∀ i j, i < n → j < n → P i (μ i) (ν i) → ¬ P j (μ j) (ν j) → ν i ≠ μ j := fun i j hi hj h1 h2 e => by
  obtain ⟨k,hk,h3,e3⟩:=opp_onto hP hQ A B hi h1
  rw [e] at e3
  have:=A.inj k j hk hj e3
  subst this; exact h2 h3
 have best : ∀ j k, j < n → k < n → (μ k = meetM P μ ν j ∨ ν k = meetM P μ ν j) → k = j ∨ Q (meetM P μ ν j) j k := fun j k hj hk h => by
  rcases cases' j with ⟨h2, e2⟩ | ⟨h2, e2⟩ <;> rw [e2] at h ⊢
  ·rcases h with h | h
   ·
    right
    obtain ⟨k',hk',h3,e3⟩:=opp_onto hP hQ A B hj h2
    have:k' = k:=A.inj k' k hk' hk (by rw [e3,h])
    subst this
    rw [← e3]
    exact (opp hP hQ A B hk' hj h3 e3.symm).1
   ·exact .inl (B.inj k j hk hj h)
  ·rcases h with h | h
   ·exact .inl (A.inj k j hk hj h)
   ·
    by_cases hkj : k = j
    ·exact .inl hkj
    right
    have h3 : P j (ν j) (μ j) := by
     rcases hP.tot j (μ j) (ν j) hj (A.inn j hj) (B.inn j hj) with h4 | h4 | h4
     ·exact absurd h4 h2
     ·rw [h4] at h; exact absurd (B.inj k j hk hj h) hkj
     ·exact h4
    obtain ⟨k',hk',h5,e5⟩:=opp_onto hP hQ B A hj h3
    have:k' = k:=B.inj k' k hk' hk (by rw [e5,h])
    subst this
    rw [← e5]
    exact (opp hP hQ B A hk' hj h5 e5.symm).1
 refine ⟨fun i hi => ?_, fun i j hi hj e => ?_, fun i j hi hj h hQ2 => ?_⟩
 ·rcases cases' i with ⟨_, e⟩ | ⟨_, e⟩ <;> rw [e]
  ·exact B.inn i hi
  ·exact A.inn i hi
 ·rcases cases' i with ⟨h1, e1⟩ | ⟨h1, e1⟩ <;> rcases cases' j with ⟨h2, e2⟩ | ⟨h2, e2⟩ <;> rw [e1, e2] at e
  ·exact B.inj i j hi hj e
  ·exact absurd e (mix i j hi hj h1 h2)
  ·exact absurd e.symm (mix j i hj hi h2 h1)
  ·exact A.inj i j hi hj e
 ·have hwn : meetM P μ ν j < n := by
   rcases cases' j with ⟨_, e⟩ | ⟨_, e⟩ <;> rw [e]
   ·exact B.inn j hj
   ·exact A.inn j hj
  rcases cases' i with ⟨h1, e1⟩ | ⟨h1, e1⟩ <;> rw [e1] at h
  ·
   obtain ⟨k,hk,ek⟩:=B.onto hwn
   have h5:=B.st i k hi hk (by rw [ek]; exact h)
   rw [ek] at h5
   rcases best j k hj hk (.inr ek) with e | h6
   ·subst e; exact h5 hQ2
   ·exact h5 (hQ.trans _ _ _ _ hQ2 h6)
  ·obtain ⟨k,hk,ek⟩:=A.onto hwn
   have h5:=A.st i k hi hk (by rw [ek]; exact h)
   rw [ek] at h5
   rcases best j k hj hk (.inl ek) with e | h6
   ·subst e; exact h5 hQ2
   ·exact h5 (hQ.trans _ _ _ _ hQ2 h6)
end
end Go.Proofs.Ytllcbempbdibhaa
