/- Own work: contracts of functions that the claim reaches. No condition beyond those that each theorem names. -/
import Derived.Test.YtfdoddeccnjcmaaProg
import Derived.Test.YtfdoddeccnjcmaaShifts
namespace Go.Proofs.Ytfdoddeccnjcmaa
open Go Go.Vc
set_option maxRecDepth 100000
set_option linter.unusedSimpArgs false
set_option linter.unusedVariables false
/-! The greatest remainders: what each gets. -/
def sumF (f : Nat → Int) : Nat → Int
  | 0 => 0
  | j + 1 => sumF f j + f j
theorem sumN_F {xs : List Int} : ∀ {j : Nat}, sumN xs j = sumF (fun i => xs.getD i 0) j
  | 0 => rfl
  | j + 1 => by simp only [sumN, sumF]; rw [sumN_F]
theorem sumF_le {f g : Nat → Int} : ∀ {j : Nat}, (∀ i, i < j → f i ≤ g i) → sumF f j ≤ sumF g j
  | 0, _ => Int.le_refl _
  | j + 1, h => by
    have := sumF_le (f := f) (g := g) (j := j) fun i hi => h i (by omega)
    have := h j (by omega)
    simp only [sumF]; omega
theorem sumF_eq {f g : Nat → Int} : ∀ {j : Nat}, (∀ i, i < j → f i = g i) → sumF f j = sumF g j
  | 0, _ => rfl
  | j + 1, h => by
    simp only [sumF]; rw [sumF_eq fun i hi => h i (by omega), h j (by omega)]
theorem sumF_lin {f g : Nat → Int} {a b : Int} : ∀ {j : Nat}, sumF (fun i => a * f i + b * g i) j = a * sumF f j + b * sumF g j
  | 0 => by simp [sumF]
  | j + 1 => by simp only [sumF]; rw [sumF_lin]; grind
theorem fill_at {ss O : List Int} (hn : O.Nodup) (hb : ∀ x ∈ O, 0 ≤ x ∧ x < ss.length) {i : Nat} (hi : i < ss.length) : ∀ {t : Nat}, t ≤ O.length → (fillN ss O t).getD i 0 = ss.getD i 0 + if (i : Int) ∈ O.take t then 1 else 0
  | 0, _ => by simp [fillN]
  | t + 1, ht => by
    have ih := fill_at hn hb hi (t := t) (by omega)
    have hm : O.getD t 0 ∈ O := getD_mem (by omega)
    have b := hb _ hm
    have l := fillN_len (ss := ss) (O := O) (j := t)
    have nt : ¬ O.getD t 0 ∈ O.take t := fun h => by
      rw [← List.take_append_drop t O, drop_getD 0 (show t < O.length by omega)] at hn
      have := (List.nodup_append.1 hn).2.2 _ h (O.getD t 0) (by simp)
      exact this rfl
    rw [take_getD 0 (show t < O.length by omega)]
    simp only [fillN, List.mem_append, List.mem_singleton]
    by_cases e : O.getD t 0 = i
    · have : (fillN ss O t).getD (O.getD t 0).toNat 0 = (fillN ss O t).getD i 0 := by rw [e]; rfl
      rw [if_pos (.inr e.symm)]
      rw [if_neg (by rw [← e]; exact nt)] at ih
      have e2 : (O.getD t 0).toNat = i := by omega
      rw [e2, List.getD, List.getElem?_set_self (by omega), Option.getD_some, ih]; omega
    · have e2 : (O.getD t 0).toNat ≠ i := by omega
      rw [List.getD, List.getElem?_set_ne e2, ← List.getD, ih]
      have : ((i : Int) ∈ O.take t ∨ (i : Int) = O.getD t 0) ↔ (i : Int) ∈ O.take t := ⟨fun h => h.resolve_right fun h => e h.symm, .inl⟩
      simp only [this]
theorem tdivmod {a b : Int} (ha : 0 ≤ a) (hb : 0 < b) : a.tdiv b * b + a.tmod b = a ∧ 0 ≤ a.tmod b ∧ a.tmod b < b := by
  refine ⟨?_, Int.tmod_nonneg _ ha, Int.tmod_lt_of_pos _ hb⟩
  rw [Int.mul_comm]; exact Int.mul_tdiv_add_tmod _ _
theorem quot_uniq {q q' r r' b : Int} (h : q * b + r = q' * b + r') (r0 : 0 ≤ r) (r1 : r < b) (s0 : 0 ≤ r') (s1 : r' < b) : q = q' ∧ r = r' := by
  have hq : q = q' := by
    rcases Int.lt_trichotomy q q' with h1 | h1 | h1
    · have := Int.mul_le_mul_of_nonneg_right (show q + 1 ≤ q' by omega) (show 0 ≤ b by omega)
      rw [Int.add_mul, Int.one_mul] at this; omega
    · exact h1
    · have := Int.mul_le_mul_of_nonneg_right (show q' + 1 ≤ q by omega) (show 0 ≤ b by omega)
      rw [Int.add_mul, Int.one_mul] at this; omega
  subst hq
  exact ⟨rfl, by omega⟩
/-- What one party's numbers are. -/
structure Quo (cs : List Int) (n : Int) (i : Nat) : Prop where
  eq : (quoF lowO cs n).getD i 0 * sumL cs + (quoF remO cs n).getD i 0 = cs.getD i 0 * n
  r0 : 0 ≤ (quoF remO cs n).getD i 0
  rS : (quoF remO cs n).getD i 0 < sumL cs
  l0 : 0 ≤ (quoF lowO cs n).getD i 0
  up : (quoF uppO cs n).getD i 0 = (quoF lowO cs n).getD i 0 + if (quoF remO cs n).getD i 0 = 0 then 0 else 1
theorem quo_at {cs : List Int} {n : Int} (h : askB cs n = true) {i : Nat} (hi : i < cs.length) : Quo cs n i := by
  have A := ask_of h
  have hp := A.pos
  have b := A.bd _ (getD_mem (d := 0) hi)
  have m0 := (mul_bd b.1 b.2 A.n0 A.n1).1
  have g : ∀ op : Int → Int → Int, (quoF op cs n).getD i 0 = op (cs.getD i 0 * n) (sumL cs) := fun op => by
    unfold quoF
    rw [if_pos h, getD_map0 hi]
  obtain ⟨e1, e2, e3⟩ := tdivmod m0 hp
  obtain ⟨f1, f2, f3⟩ := tdivmod (a := cs.getD i 0 * n + sumL cs - 1) (by omega) hp
  refine ⟨by rw [g, g]; exact e1, by rw [g]; exact e2, by rw [g]; exact e3, by rw [g]; exact Int.tdiv_nonneg m0 (by omega), ?_⟩
  rw [g, g, g]
  unfold uppO lowO remO
  generalize sumL cs = S at *
  generalize cs.getD i 0 * n = x at *
  generalize x.tdiv S = q at *
  generalize x.tmod S = r at *
  generalize (x + S - 1).tdiv S = q' at *
  generalize (x + S - 1).tmod S = r' at *
  by_cases h0 : r = 0
  · rw [if_pos h0, Int.add_zero]
    exact (quot_uniq (q := q') (q' := q) (r := r') (r' := S - 1) (b := S) (by omega) f2 f3 (by omega) (by omega)).1
  · rw [if_neg h0]
    exact (quot_uniq (q := q') (q' := q + 1) (r := r') (r' := r - 1) (b := S) (by rw [Int.add_mul, Int.one_mul]; omega) f2 f3 (by omega) (by omega)).1
theorem ham_sum {cs : List Int} {n : Int} (h : askB cs n = true) : sumL (hamF cs n) = n := by
  have A := ask_of h
  obtain ⟨k1, k2⟩ := ham_k A h
  have ql := quo_len (op := lowO) h
  unfold hamF
  rw [if_pos h, fillN_sum (fun j hj => ?_) (by omega)]
  · exact k2.symm
  · rw [ql] at hj ⊢
    have hm : (ordR (quoF remO cs n) cs.length).getD j 0 ∈ ordR (quoF remO cs n) cs.length := getD_mem (by rw [ordR_len]; omega)
    exact upto_mem.1 (ordR_perm.mem_iff.1 hm)
/-- A remainder that parts those who get one more from the others. -/
theorem ham_theta {cs : List Int} {n : Int} (h : askB cs n = true) : ∃ z, 0 ≤ z ∧ z ≤ sumL cs ∧ ∀ i, i < cs.length → ((hamF cs n).getD i 0 = (quoF lowO cs n).getD i 0 ∧ (quoF remO cs n).getD i 0 ≤ z) ∨ ((hamF cs n).getD i 0 = (quoF lowO cs n).getD i 0 + 1 ∧ z ≤ (quoF remO cs n).getD i 0) := by
  have A := ask_of h
  obtain ⟨k1, k2⟩ := ham_k A h
  have ql := quo_len (op := lowO) h
  have hp := A.pos
  have op := ordR_perm (rs := quoF remO cs n) (n := cs.length)
  have ol := ordR_len (rs := quoF remO cs n) (n := cs.length)
  have os := ordR_sorted (rs := quoF remO cs n) (n := cs.length)
  have on : (ordR (quoF remO cs n) cs.length).Nodup := List.Pairwise.imp (fun {a b} (hab : betR (quoF remO cs n) a b) => show a ≠ b from fun e => by subst e; exact betR_irr hab) os
  have ob : ∀ x ∈ ordR (quoF remO cs n) cs.length, 0 ≤ x ∧ x < cs.length := fun x hx => upto_mem.1 (op.mem_iff.1 hx)
  have at' : ∀ i, i < cs.length → (hamF cs n).getD i 0 = (quoF lowO cs n).getD i 0 + if (i : Int) ∈ (ordR (quoF remO cs n) cs.length).take (hamK cs n) then 1 else 0 := fun i hi => by
    unfold hamF
    rw [if_pos h, fill_at on (by rw [ql]; exact ob) (by omega) (by omega)]
  have place : ∀ i : Nat, i < cs.length → ∃ p, p < cs.length ∧ (ordR (quoF remO cs n) cs.length).getD p 0 = i := fun i hi => by
    obtain ⟨p, hp, e⟩ := mem_getD 0 (op.mem_iff.2 (upto_mem.2 (show 0 ≤ (i : Int) ∧ (i : Int) < cs.length by omega)))
    exact ⟨p, by omega, e⟩
  have mono : ∀ p q, p ≤ q → q < cs.length → (quoF remO cs n).getD ((ordR (quoF remO cs n) cs.length).getD q 0).toNat 0 ≤ (quoF remO cs n).getD ((ordR (quoF remO cs n) cs.length).getD p 0).toNat 0 := fun p q hpq hq => by
    by_cases e : p = q
    · subst e; exact Int.le_refl _
    · rw [List.pairwise_iff_getElem] at os
      have := os p q (by omega) (by omega) (by omega)
      have e1 : (ordR (quoF remO cs n) cs.length).getD p 0 = (ordR (quoF remO cs n) cs.length)[p]'(by omega) := by simp [List.getD, show p < (ordR (quoF remO cs n) cs.length).length by omega]
      have e2 : (ordR (quoF remO cs n) cs.length).getD q 0 = (ordR (quoF remO cs n) cs.length)[q]'(by omega) := by simp [List.getD, show q < (ordR (quoF remO cs n) cs.length).length by omega]
      rw [e1, e2]
      unfold betR at this; omega
  have inT : ∀ p, p < cs.length → ((ordR (quoF remO cs n) cs.length).getD p 0 ∈ (ordR (quoF remO cs n) cs.length).take (hamK cs n) ↔ p < hamK cs n) := fun p hp => by
    constructor
    · intro hm
      obtain ⟨q, hq, e⟩ := mem_getD 0 hm
      rw [List.length_take] at hq
      have e2 : ((ordR (quoF remO cs n) cs.length).take (hamK cs n)).getD q 0 = (ordR (quoF remO cs n) cs.length).getD q 0 := by simp only [List.getD, List.getElem?_take]; rw [if_pos (by omega)]
      rw [e2] at e
      have : q = p := by
        rw [List.Nodup, List.pairwise_iff_getElem] at on
        simp only [List.getD, List.getElem?_eq_getElem (show q < (ordR (quoF remO cs n) cs.length).length by omega), List.getElem?_eq_getElem (show p < (ordR (quoF remO cs n) cs.length).length by omega), Option.getD_some] at e
        rcases Nat.lt_trichotomy q p with hlt | heq | hlt
        · exact absurd e (on q p (by omega) (by omega) hlt)
        · exact heq
        · exact absurd e.symm (on p q (by omega) (by omega) hlt)
      omega
    · intro hlt
      have e2 : ((ordR (quoF remO cs n) cs.length).take (hamK cs n)).getD p 0 = (ordR (quoF remO cs n) cs.length).getD p 0 := by simp only [List.getD, List.getElem?_take]; rw [if_pos (by omega)]
      rw [← e2]; exact getD_mem (by rw [List.length_take]; omega)
  by_cases hK : hamK cs n < cs.length
  · refine ⟨(quoF remO cs n).getD ((ordR (quoF remO cs n) cs.length).getD (hamK cs n) 0).toNat 0, ?_, ?_, fun i hi => ?_⟩
    · have := ob _ (getD_mem (d := 0) (show hamK cs n < (ordR (quoF remO cs n) cs.length).length by omega))
      exact (quo_at h (show ((ordR (quoF remO cs n) cs.length).getD (hamK cs n) 0).toNat < cs.length by omega)).r0
    · have := ob _ (getD_mem (d := 0) (show hamK cs n < (ordR (quoF remO cs n) cs.length).length by omega))
      have := (quo_at h (show ((ordR (quoF remO cs n) cs.length).getD (hamK cs n) 0).toNat < cs.length by omega)).rS
      omega
    · obtain ⟨p, hp, e⟩ := place i hi
      have ip := inT p hp
      rw [e] at ip
      rw [at' i hi]
      by_cases hlt : p < hamK cs n
      · right
        have := mono p (hamK cs n) (by omega) hK
        rw [e, Int.toNat_natCast] at this
        rw [if_pos (ip.2 hlt)]; exact ⟨rfl, this⟩
      · left
        have := mono (hamK cs n) p (by omega) hp
        rw [e, Int.toNat_natCast] at this
        rw [if_neg (fun h => hlt (ip.1 h)), Int.add_zero]; exact ⟨rfl, this⟩
  · refine ⟨0, Int.le_refl _, by omega, fun i hi => ?_⟩
    obtain ⟨p, hp, e⟩ := place i hi
    have ip := inT p hp
    rw [e] at ip
    right
    rw [at' i hi, if_pos (ip.2 (by omega))]
    exact ⟨rfl, (quo_at h hi).r0⟩
theorem sumL_F {xs : List Int} {k : Nat} (h : xs.length = k) : sumL xs = sumF (fun i => xs.getD i 0) k := by unfold sumL; rw [h]; exact sumN_F
theorem quo_sum {cs : List Int} {n : Int} (h : askB cs n = true) : sumL (quoF lowO cs n) * sumL cs + sumL (quoF remO cs n) = n * sumL cs := by
  have h1 := sumF_eq (f := fun i => sumL cs * (quoF lowO cs n).getD i 0 + 1 * (quoF remO cs n).getD i 0) (g := fun i => n * cs.getD i 0 + 0 * cs.getD i 0) (j := cs.length) fun i hi => by
    have := (quo_at h hi).eq
    grind
  rw [sumF_lin, sumF_lin] at h1
  rw [sumL_F (quo_len (op := lowO) h), sumL_F (quo_len (op := remO) h)]
  have e : sumL cs = sumF (fun i => cs.getD i 0) cs.length := sumL_F rfl
  rw [← e] at h1
  grind
/-- Who gets one more has a remainder. -/
theorem ham_top {cs : List Int} {n : Int} (h : askB cs n = true) {i : Nat} (hi : i < cs.length) (h1 : (hamF cs n).getD i 0 = (quoF lowO cs n).getD i 0 + 1) : 0 < (quoF remO cs n).getD i 0 := by
  have A := ask_of h
  refine Int.not_le.1 fun hle => ?_
  obtain ⟨z, z0, z1, hz⟩ := ham_theta h
  have zz : z = 0 := by
    have := (quo_at h hi).r0
    rcases hz i hi with h2 | h2 <;> omega
  -- each remainder is at most (S - 1) times what one gets more
  have h2 := sumF_le (f := fun i => 1 * (quoF remO cs n).getD i 0 + (sumL cs - 1) * (quoF lowO cs n).getD i 0) (g := fun i => (sumL cs - 1) * (hamF cs n).getD i 0 + 0 * (hamF cs n).getD i 0) (j := cs.length) fun k hk => by
    have Q := quo_at h hk
    have q1 := Q.rS
    have q0 := Q.r0
    rcases hz k hk with ⟨e, h3⟩ | ⟨e, h3⟩
    · rw [e]; omega
    · simp only [e, Int.mul_add]; omega
  rw [sumF_lin, sumF_lin, ← sumL_F (quo_len (op := lowO) h), ← sumL_F (quo_len (op := remO) h), ← sumL_F (hamF_len h), ham_sum h] at h2
  have h3 := quo_sum h
  -- so no seat is left
  have hs : n ≤ sumL (quoF lowO cs n) := by
    generalize sumL (quoF lowO cs n) = L at *
    generalize sumL (quoF remO cs n) = R at *
    generalize sumL cs = S at *
    have : (n - L) * S = R := by grind
    grind
  have h4 := sumF_le (f := fun i => (quoF lowO cs n).getD i 0) (g := fun i => (hamF cs n).getD i 0) (j := cs.length) fun k hk => by rcases hz k hk with ⟨e, _⟩ | ⟨e, _⟩ <;> rw [e] <;> omega
  have h5 := ham_sum h
  rw [sumL_F (hamF_len h)] at h5
  rw [sumL_F (quo_len (op := lowO) h)] at hs
  -- strict at i
  have strict : ∀ j, i < j → j ≤ cs.length → sumF (fun i => (quoF lowO cs n).getD i 0) j + 1 ≤ sumF (fun i => (hamF cs n).getD i 0) j := by
    intro j
    induction j with
    | zero => intro h; omega
    | succ j ih =>
      intro h6 h7
      simp only [sumF]
      by_cases e : i = j
      · subst e
        have := sumF_le (f := fun i => (quoF lowO cs n).getD i 0) (g := fun i => (hamF cs n).getD i 0) (j := i) fun k hk => by rcases hz k (by omega) with ⟨e, _⟩ | ⟨e, _⟩ <;> rw [e] <;> omega
        omega
      · have := ih (by omega) (by omega)
        have : (quoF lowO cs n).getD j 0 ≤ (hamF cs n).getD j 0 := by rcases hz j (by omega) with ⟨e, _⟩ | ⟨e, _⟩ <;> rw [e] <;> omega
        omega
  have := strict cs.length hi (Nat.le_refl _)
  omega
theorem ham_quota {cs : List Int} {n : Int} (h : askB cs n = true) {i : Nat} (hi : i < cs.length) : (quoF lowO cs n).getD i 0 ≤ (hamF cs n).getD i 0 ∧ (hamF cs n).getD i 0 ≤ (quoF uppO cs n).getD i 0 := by
  obtain ⟨z, z0, z1, hz⟩ := ham_theta h
  have Q := quo_at h hi
  have up := Q.up
  rcases hz i hi with ⟨e, _⟩ | ⟨e, _⟩
  · rw [e, up]; split <;> omega
  · have := ham_top h hi e
    rw [e, up, if_neg (by omega)]; omega
theorem brk_none {cs : List Int} {n : Int} : brkF 0 cs n = -1 := by
  unfold brkF
  by_cases h : giveB 0 cs n = true
  · rw [if_pos h]
    have h' : askB cs n = true := h
    refine firstP_no fun i hi => ?_
    have := ham_quota h' hi
    unfold brkP giveF
    rw [if_pos rfl, Bool.not_eq_false']
    simp only [inI, Bool.and_eq_true, decide_eq_true_eq]
    exact this
  · rw [if_neg h]
theorem fst_ham : fstF 0 [6, 6, 2] 20 = 3 := by decide +kernel

end Go.Proofs.Ytfdoddeccnjcmaa
