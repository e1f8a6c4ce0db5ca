/- Own work: contracts of functions that the claim reaches. No condition beyond those that each theorem names. -/
import Derived.Test.YtfdoddeccnjcmaaProg
import Derived.Test.YtfdoddeccnjcmaaBase
namespace Go.Proofs.Ytfdoddeccnjcmaa
open Go Go.Vc
set_option maxRecDepth 100000
set_option linter.unusedSimpArgs false
set_option linter.unusedVariables false
/-! The exchange by cycles: its core, of plain functions. Houses and people are the numbers below n. -/
/-- An injective map of a finite list into itself meets every member. -/
theorem inj_onto : ∀ {S : List Nat} {f : Nat → Nat}, S.Nodup → (∀ a ∈ S, f a ∈ S) → (∀ a ∈ S, ∀ b ∈ S, f a = f b → a = b) → ∀ h ∈ S, ∃ k ∈ S, f k = h := by
  intro S f hn hf hi h hh
  have hm : (S.map f).Nodup := by
    rw [List.Nodup, List.pairwise_map]
    exact hn.imp_of_mem fun ha hb hne e => hne (hi _ ha _ hb e)
  refine Classical.byContradiction fun hno => ?_
  have h2 : (h :: S.map f).Nodup := List.nodup_cons.2 ⟨fun hm => by obtain ⟨k, hk, e⟩ := List.mem_map.1 hm; exact hno ⟨k, hk, e⟩, hm⟩
  have sub : ∀ {xs ys : List Nat}, xs.Nodup → (∀ x ∈ xs, x ∈ ys) → xs.length ≤ ys.length := by
    intro xs
    induction xs with
    | nil => intro ys _ _; simp
    | cons x xs ih =>
      intro ys hn hs
      rw [List.nodup_cons] at hn
      have hx := hs x (by simp)
      have h1 := ih (ys := ys.erase x) hn.2 fun y hy => (List.mem_erase_of_ne (by rintro rfl; exact hn.1 hy)).2 (hs y (by simp [hy]))
      rw [List.length_erase_of_mem hx] at h1
      have : 0 < ys.length := List.length_pos_of_mem hx
      simp only [List.length_cons]; omega
  have := sub (xs := h :: S.map f) (ys := S) h2 fun y hy => by
    rcases List.mem_cons.1 hy with rfl | hy
    · exact hh
    · obtain ⟨k, hk, rfl⟩ := List.mem_map.1 hy; exact hf k hk
  simp at this
  omega
/-- x: the exchange; r: the round in which one leaves; P i a b: i likes a better than b. -/
structure Core (n : Nat) (P : Nat → Nat → Nat → Prop) (x r : Nat → Nat) : Prop where
  inn : ∀ i, i < n → x i < n
  inj : ∀ i j, i < n → j < n → x i = x j → i = j
  rnd : ∀ i, i < n → r (x i) = r i
  top : ∀ i h, i < n → h < n → r i ≤ r h → ¬ P i h (x i)
  tot : ∀ i a b, i < n → a < n → b < n → P i a b ∨ a = b ∨ P i b a
section
variable {n : Nat} {P : Nat → Nat → Nat → Prop} {x r : Nat → Nat}
/-- Nobody in a coalition T can do better by an exchange o of T's own houses in which none does worse. -/
theorem Core.keep (C : Core n P x r) {T : Nat → Prop} {o : Nat → Nat} (hT : ∀ i, T i → i < n) (ho : ∀ i, T i → T (o i)) (hinj : ∀ i j, T i → T j → o i = o j → i = j) (hw : ∀ i, T i → ¬ P i (x i) (o i)) : ∀ (k i : Nat), r i ≤ k → T i → o i = x i := by
  intro k
  induction k using Nat.strongRecOn with
  | _ k ih =>
    intro i hi hTi
    have hin := hT i hTi
    have hon := hT _ (ho i hTi)
    rcases C.tot i (o i) (x i) hin hon (C.inn i hin) with h | h | h
    · exfalso
      have hr : r (o i) < r i := Nat.not_le.1 fun hle => C.top i (o i) hin hon hle h
      classical
      obtain ⟨j, hj, e⟩ := inj_onto (S := (List.range n).filter fun j => decide (T j ∧ r j < r i)) (f := o) (List.nodup_range.filter _) (fun a ha => by
        simp only [List.mem_filter, List.mem_range, decide_eq_true_eq] at ha ⊢
        have hx := ih (r a) (by omega) a (Nat.le_refl _) ha.2.1
        have := C.rnd a ha.1
        exact ⟨hT _ (ho a ha.2.1), ho a ha.2.1, by rw [hx, this]; exact ha.2.2⟩) (fun a ha b hb e => by
        simp only [List.mem_filter, decide_eq_true_eq] at ha hb
        exact hinj a b ha.2.1 hb.2.1 e) (o i) (by
        simp only [List.mem_filter, List.mem_range, decide_eq_true_eq]
        exact ⟨hon, ho i hTi, hr⟩)
      simp only [List.mem_filter, decide_eq_true_eq] at hj
      have := hinj j i hj.2.1 hTi e
      rw [this] at hj; omega
    · exact h
    · exact absurd h (hw i hTi)
/-- Any other exchange is blocked by those who leave in some one round: they do better by x among themselves. -/
theorem Core.block (C : Core n P x r) {z : Nat → Nat} (hz : ∀ i, i < n → z i < n) (zinj : ∀ i j, i < n → j < n → z i = z j → i = j) (hne : ∃ i, i < n ∧ z i ≠ x i) :
    ∃ k, (∃ i, i < n ∧ r i = k ∧ z i ≠ x i) ∧ ∀ i, i < n → r i = k → ¬ P i (z i) (x i) := by
  obtain ⟨i0, hi0, hd⟩ := hne
  have hex : ∃ k, (∃ i, i < n ∧ r i = k ∧ z i ≠ x i) ∧ ∀ k', k' < k → ∀ i, i < n → r i = k' → z i = x i := by
    have : ∀ k, (∃ i, i < n ∧ r i = k ∧ z i ≠ x i) → ∃ k, (∃ i, i < n ∧ r i = k ∧ z i ≠ x i) ∧ ∀ k', k' < k → ∀ i, i < n → r i = k' → z i = x i := by
      intro k
      induction k using Nat.strongRecOn with
      | _ k ih =>
        intro h
        by_cases hk : ∃ k', k' < k ∧ ∃ i, i < n ∧ r i = k' ∧ z i ≠ x i
        · obtain ⟨k', h1, h2⟩ := hk; exact ih k' h1 h2
        · refine ⟨k, h, fun k' hk' i hi hr => Classical.byContradiction fun hne => hk ⟨k', hk', i, hi, hr, hne⟩⟩
    exact this (r i0) ⟨i0, hi0, rfl, hd⟩
  obtain ⟨k, h1, h2⟩ := hex
  refine ⟨k, h1, fun i hi hr hP => ?_⟩
  have hzi := hz i hi
  have hlt : r (z i) < k := Nat.not_le.1 fun hle => C.top i (z i) hi hzi (by omega) hP
  obtain ⟨j, hj, e⟩ := inj_onto (S := (List.range n).filter fun j => decide (r j < k)) (f := x) (List.nodup_range.filter _) (fun a ha => by
    simp only [List.mem_filter, List.mem_range, decide_eq_true_eq] at ha ⊢
    exact ⟨C.inn a ha.1, by rw [C.rnd a ha.1]; exact ha.2⟩) (fun a ha b hb e => by
    simp only [List.mem_filter, List.mem_range] at ha hb
    exact C.inj a b ha.1 hb.1 e) (z i) (by
    simp only [List.mem_filter, List.mem_range, decide_eq_true_eq]
    exact ⟨hzi, hlt⟩)
  simp only [List.mem_filter, List.mem_range, decide_eq_true_eq] at hj
  have := h2 (r j) hj.2 j hj.1 rfl
  rw [← this] at e
  have := zinj j i hj.1 hi e
  subst this; omega
end
/-- One after another takes the best of what is left: nobody can do better if nobody does worse. -/
theorem ser_keep {n : Nat} {P : Nat → Nat → Nat → Prop} {o y w : Nat → Nat} (ho : ∀ t, t < n → o t < n) (hy : ∀ i, i < n → y i < n) (hw : ∀ i, i < n → w i < n) (winj : ∀ i j, i < n → j < n → w i = w j → i = j) (oinj : ∀ s t, s < n → t < n → o s = o t → s = t)
    (tot : ∀ i a b, i < n → a < n → b < n → P i a b ∨ a = b ∨ P i b a) (best : ∀ t h, t < n → h < n → (∀ s, s < t → y (o s) ≠ h) → ¬ P (o t) h (y (o t))) (hno : ∀ i, i < n → ¬ P i (y i) (w i)) : ∀ t, t < n → w (o t) = y (o t) := by
  intro t
  induction t using Nat.strongRecOn with
  | _ t ih =>
    intro ht
    rcases tot (o t) (w (o t)) (y (o t)) (ho t ht) (hw _ (ho t ht)) (hy _ (ho t ht)) with h | h | h
    · exfalso
      refine best t (w (o t)) ht (hw _ (ho t ht)) (fun s hs e => ?_) h
      rw [← ih s hs (by omega)] at e
      have := oinj s t (by omega) ht (winj _ _ (ho s (by omega)) (ho t ht) e)
      omega
    · exact h
    · exact absurd h (hno _ (ho t ht))
theorem nsub_len : ∀ {xs ys : List Nat}, xs.Nodup → (∀ x ∈ xs, x ∈ ys) → xs.length ≤ ys.length
  | [], _, _, _ => by simp
  | x :: xs, ys, hn, hs => by
    rw [List.nodup_cons] at hn
    have hx := hs x (by simp)
    have h1 := nsub_len (xs := xs) (ys := ys.erase x) hn.2 fun y hy => (List.mem_erase_of_ne (by rintro rfl; exact hn.1 hy)).2 (hs y (by simp [hy]))
    rw [List.length_erase_of_mem hx] at h1
    have : 0 < ys.length := List.length_pos_of_mem hx
    simp only [List.length_cons]; omega
/-- A map of a finite list into itself is injective on some part of it that it maps into itself. -/
theorem closed_inj {f : Nat → Nat} : ∀ (k : Nat) {S : List Nat}, S.length = k → S ≠ [] → S.Nodup → (∀ a ∈ S, f a ∈ S) → ∃ T : List Nat, T ≠ [] ∧ T.Nodup ∧ (∀ a ∈ T, a ∈ S) ∧ (∀ a ∈ T, f a ∈ T) ∧ ∀ a ∈ T, ∀ b ∈ T, f a = f b → a = b := by
  intro k
  induction k using Nat.strongRecOn with
  | _ k ih =>
    intro S hk hne hn hf
    classical
    by_cases honto : ∀ h ∈ S, ∃ a ∈ S, f a = h
    · refine ⟨S, hne, hn, fun a h => h, hf, fun a ha b hb e => Classical.byContradiction fun hab => ?_⟩
      have hlt : ((S.erase a).map f).length < S.length := by
        rw [List.length_map, List.length_erase_of_mem ha]
        have : 0 < S.length := List.length_pos_of_mem ha
        omega
      have := nsub_len hn (ys := (S.erase a).map f) fun h hh => by
        obtain ⟨c, hc, rfl⟩ := honto h hh
        by_cases hca : c = a
        · subst hca
          exact List.mem_map.2 ⟨b, (List.mem_erase_of_ne (Ne.symm hab)).2 hb, e.symm⟩
        · exact List.mem_map.2 ⟨c, (List.mem_erase_of_ne hca).2 hc, rfl⟩
      omega
    · simp only [Classical.not_forall] at honto
      obtain ⟨h, hh, hno⟩ := honto
      obtain ⟨a, ha⟩ := List.exists_mem_of_ne_nil S hne
      have hin : ∀ c, c ∈ S.filter (fun h => decide (∃ a ∈ S, f a = h)) ↔ c ∈ S ∧ ∃ a ∈ S, f a = c := fun c => by simp
      have hlt : (S.filter fun h => decide (∃ a ∈ S, f a = h)).length < k := by
        rw [← hk]
        refine Nat.lt_of_le_of_ne (List.length_filter_le _ _) fun e => ?_
        have := (List.length_filter_eq_length_iff.1 e) h hh
        simp only [decide_eq_true_eq] at this
        exact hno this
      obtain ⟨T, t1, t2, t3, t4, t5⟩ := ih _ hlt (S := S.filter fun h => decide (∃ a ∈ S, f a = h)) rfl (List.ne_nil_of_mem ((hin (f a)).2 ⟨hf a ha, a, ha, rfl⟩)) (hn.filter _) fun c hc => (hin _).2 ⟨hf c ((hin c).1 hc).1, c, ((hin c).1 hc).1, rfl⟩
      exact ⟨T, t1, t2, fun c hc => ((hin c).1 (t3 c hc)).1, t4, t5⟩
/-- If no exchange improves z, someone of any group has the best of what the group has. -/
theorem first_pick {n : Nat} {P : Nat → Nat → Nat → Prop} {z : Nat → Nat} (hz : ∀ i, i < n → z i < n) (zinj : ∀ i j, i < n → j < n → z i = z j → i = j) (asym : ∀ i a b, P i a b → ¬ P i b a)
    (hno : ∀ w : Nat → Nat, (∀ i, i < n → w i < n) → (∀ i j, i < n → j < n → w i = w j → i = j) → (∀ i, i < n → ¬ P i (z i) (w i)) → ∀ i, i < n → w i = z i)
    {S : List Nat} (hne : S ≠ []) (hn : S.Nodup) (hS : ∀ a ∈ S, a < n) : ∃ i ∈ S, ∀ j ∈ S, ¬ P i (z j) (z i) := by
  refine Classical.byContradiction fun hcon => ?_
  have hex : ∀ i, ∃ j, i ∈ S → j ∈ S ∧ P i (z j) (z i) := fun i => by
    by_cases hi : i ∈ S
    · have : ¬ ∀ j ∈ S, ¬ P i (z j) (z i) := fun h => hcon ⟨i, hi, h⟩
      simp only [Classical.not_forall, Classical.not_not] at this
      obtain ⟨j, hj, hp⟩ := this
      exact ⟨j, fun _ => ⟨hj, hp⟩⟩
    · exact ⟨0, fun h => absurd h hi⟩
  obtain ⟨f, hf⟩ := Classical.axiomOfChoice hex
  obtain ⟨T, t1, t2, t3, t4, t5⟩ := closed_inj _ rfl hne hn fun a ha => (hf a ha).1
  obtain ⟨a, ha⟩ := List.exists_mem_of_ne_nil T t1
  classical
  have tn : ∀ i ∈ T, i < n := fun i hi => hS i (t3 i hi)
  have hw := hno (fun i => if i ∈ T then z (f i) else z i) (fun i hi => by
    by_cases h : i ∈ T
    · simp only [if_pos h]; exact hz _ (tn _ (t4 i h))
    · simp only [if_neg h]; exact hz i hi) (fun i j hi hj e => by
    by_cases h : i ∈ T <;> by_cases h' : j ∈ T
    · simp only [if_pos h, if_pos h'] at e
      exact t5 i h j h' (zinj _ _ (tn _ (t4 i h)) (tn _ (t4 j h')) e)
    · simp only [if_pos h, if_neg h'] at e
      have := zinj _ _ (tn _ (t4 i h)) hj e
      exact absurd (this ▸ t4 i h) h'
    · simp only [if_neg h, if_pos h'] at e
      have := zinj _ _ hi (tn _ (t4 j h')) e
      exact absurd (this ▸ t4 j h') h
    · simp only [if_neg h, if_neg h'] at e
      exact zinj _ _ hi hj e) (fun i hi => by
    by_cases h : i ∈ T
    · simp only [if_pos h]; exact asym _ _ _ (hf i (t3 i h)).2
    · simp only [if_neg h]; exact fun hp => asym _ _ _ hp hp) a (tn a ha)
  simp only [if_pos ha] at hw
  have hp := (hf a (t3 a ha)).2
  rw [hw] at hp
  exact asym _ _ _ hp hp

end Go.Proofs.Ytfdoddeccnjcmaa
