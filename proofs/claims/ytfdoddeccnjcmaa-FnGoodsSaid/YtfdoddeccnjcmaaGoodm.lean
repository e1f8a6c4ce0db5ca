/- Own work: contracts of functions that the claim reaches. No condition beyond those that each theorem names. -/
import Derived.Test.YtfdoddeccnjcmaaProg
import Derived.Test.YtfdoddeccnjcmaaMostp
import Derived.Test.YtfdoddeccnjcmaaFullm
namespace Go.Proofs.Ytfdoddeccnjcmaa
open Go Go.Vc
set_option maxRecDepth 100000
set_option linter.unusedSimpArgs false
set_option linter.unusedVariables false
/-! Little envy: that one good would end. -/
def lit1 (vs : List (List Int)) (l : List Int) (i k : Nat) : Prop := wo vs l i k ≤ wo vs l i i ∨ ∃ g, g < l.length ∧ l.getD g 0 = k ∧ wo vs l i k - (vs.getD i []).getD g 0 ≤ wo vs l i i
def Ef1 (vs : List (List Int)) (l : List Int) : Prop := ∀ i k, i < vs.length → k < vs.length → lit1 vs l i k
theorem set_getD {l : List Int} {g h : Nat} {y : Int} (hg : g < l.length) : (l.set g y).getD h 0 = if g = h then y else l.getD h 0 := by
  by_cases e : g = h
  · subst e; simp [List.getD, hg]
  · simp [List.getD, e]
theorem worthL_set {r l : List Int} {k y : Int} {g : Nat} (hg : g < l.length) : ∀ {j : Nat}, worthL r (l.set g y) k j = worthL r l k j + if g < j then (if y = k then r.getD g 0 else 0) - (if l.getD g 0 = k then r.getD g 0 else 0) else 0
  | 0 => by simp [worthL]
  | j + 1 => by
    simp only [worthL]
    rw [worthL_set hg, set_getD hg]
    by_cases e : g = j
    · subst e
      rw [if_neg (Nat.lt_irrefl _), if_pos (Nat.lt_succ_self _), if_pos rfl]; omega
    · rw [if_neg e]
      by_cases h : g < j
      · rw [if_pos h, if_pos (show g < j + 1 by omega), Int.add_right_comm]
      · rw [if_neg h, if_neg (show ¬ g < j + 1 by omega), Int.add_right_comm]
theorem wo_set {vs : List (List Int)} {l : List Int} {i : Nat} {k y : Int} {g : Nat} (hg : g < l.length) : wo vs (l.set g y) i k = wo vs l i k + (if y = k then (vs.getD i []).getD g 0 else 0) - (if l.getD g 0 = k then (vs.getD i []).getD g 0 else 0) := by
  unfold wo
  rw [List.length_set, worthL_set hg, if_pos hg]; omega
theorem worth_ge {r l : List Int} {k : Int} (hr : ∀ g, g < l.length → 0 ≤ r.getD g 0) : ∀ {j : Nat}, j ≤ l.length → 0 ≤ worthL r l k j ∧ ∀ g, g < j → l.getD g 0 = k → r.getD g 0 ≤ worthL r l k j
  | 0, _ => ⟨by simp [worthL], fun g h => by omega⟩
  | j + 1, h => by
    obtain ⟨h1, h2⟩ := worth_ge (k := k) hr (j := j) (by omega)
    have hj := hr j (by omega)
    simp only [worthL]
    refine ⟨by split <;> omega, fun g hg e => ?_⟩
    by_cases hgj : g = j
    · subst hgj; rw [if_pos e]; omega
    · have := h2 g (by omega) e
      split <;> omega
theorem ratio {v w l : List Int} {k b S : Int} (hS : 0 ≤ S) : ∀ {j : Nat}, (∀ g, g < j → l.getD g 0 = k → 0 ≤ v.getD g 0 ∧ 0 ≤ w.getD g 0 ∧ (0 < v.getD g 0 → v.getD g 0 * b < w.getD g 0 * S)) →
    worthL v l k j * b ≤ worthL w l k j * S ∧ (0 < worthL v l k j → worthL v l k j * b < worthL w l k j * S)
  | 0, _ => by simp [worthL]
  | j + 1, h => by
    obtain ⟨h1, h2⟩ := ratio hS (v := v) (w := w) (l := l) (k := k) (b := b) (j := j) fun g hg => h g (by omega)
    simp only [worthL]
    by_cases e : l.getD j 0 = k
    · rw [if_pos e, if_pos e, Int.add_mul, Int.add_mul]
      obtain ⟨q1, q2, q3⟩ := h j (by omega) e
      by_cases hv : 0 < v.getD j 0
      · have := q3 hv
        exact ⟨by omega, fun _ => by omega⟩
      · have hv0 : v.getD j 0 = 0 := by omega
        have := Int.mul_nonneg q2 hS
        rw [hv0]
        simp only [Int.zero_mul, Int.add_zero]
        exact ⟨by omega, fun h => by have := h2 h; omega⟩
    · rw [if_neg e, if_neg e, Int.add_zero, Int.add_zero]
      exact ⟨h1, h2⟩
def mF (f : Nat → Int) : Nat → Int
  | 0 => 0
  | j + 1 => if 0 < f j then mF f j + 1 else mF f j
def pF (f : Nat → Int) : Nat → Int
  | 0 => 1
  | j + 1 => if 0 < f j then pF f j * f j else pF f j
def qF (f : Nat → Int) (i k : Nat) : Nat → Int
  | 0 => 1
  | j + 1 => if 0 < f j ∧ j ≠ i ∧ j ≠ k then qF f i k j * f j else qF f i k j
theorem many_mF {vs : List (List Int)} {l : List Int} : ∀ {j : Nat}, manyN vs l j = mF (fun a => wo vs l a a) j
  | 0 => rfl
  | j + 1 => by simp only [manyN, mF]; rw [many_mF]
theorem prod_pF {vs : List (List Int)} {l : List Int} : ∀ {j : Nat}, prodN vs l j = pF (fun a => wo vs l a a) j
  | 0 => rfl
  | j + 1 => by simp only [prodN, pF]; rw [prod_pF]
theorem mF_up {f f' : Nat → Int} {i : Nat} (hi : ¬ 0 < f i) (hi' : 0 < f' i) : ∀ {j : Nat}, (∀ a, a < j → a ≠ i → 0 < f a → 0 < f' a) → mF f j + (if i < j then 1 else 0) ≤ mF f' j
  | 0, _ => by simp [mF]
  | j + 1, h => by
    have ih := mF_up hi hi' (j := j) fun a ha => h a (by omega)
    simp only [mF]
    by_cases e : i = j
    · subst e
      rw [if_neg (Nat.lt_irrefl _)] at ih
      rw [if_neg hi, if_pos hi', if_pos (Nat.lt_succ_self _)]; omega
    · have hj := h j (by omega) (Ne.symm e)
      have e2 : (if i < j + 1 then (1 : Int) else 0) = if i < j then 1 else 0 := by
        by_cases h : i < j
        · rw [if_pos h, if_pos (by omega)]
        · rw [if_neg h, if_neg (by omega)]
      rw [e2]
      by_cases hf : 0 < f j
      · rw [if_pos hf, if_pos (hj hf)]; omega
      · rw [if_neg hf]; split <;> omega
theorem mF_eq {f f' : Nat → Int} : ∀ {j : Nat}, (∀ a, a < j → (0 < f a ↔ 0 < f' a)) → mF f j = mF f' j
  | 0, _ => rfl
  | j + 1, h => by
    have ih := mF_eq (j := j) fun a ha => h a (by omega)
    have hj := h j (by omega)
    simp only [mF]
    by_cases hf : 0 < f j
    · rw [if_pos hf, if_pos (hj.1 hf), ih]
    · rw [if_neg hf, if_neg fun h => hf (hj.2 h), ih]
def pos1 (x : Int) : Int := if 0 < x then x else 1
theorem pF_q {f : Nat → Int} {i k : Nat} (hik : i ≠ k) : ∀ {j : Nat}, pF f j = qF f i k j * (if i < j then pos1 (f i) else 1) * (if k < j then pos1 (f k) else 1)
  | 0 => by simp [pF, qF]
  | j + 1 => by
    have ih := pF_q (f := f) hik (j := j)
    simp only [pF, qF]
    by_cases e : j = i
    · subst e
      rw [if_neg (Nat.lt_irrefl _), Int.mul_one] at ih
      have c : ¬ (0 < f j ∧ j ≠ j ∧ j ≠ k) := fun h => h.2.1 rfl
      rw [if_neg c, if_pos (Nat.lt_succ_self _)]
      have e2 : (if k < j + 1 then pos1 (f k) else 1) = if k < j then pos1 (f k) else 1 := by
        by_cases h : k < j
        · rw [if_pos h, if_pos (by omega)]
        · rw [if_neg h, if_neg (by omega)]
      rw [e2, ih]
      unfold pos1
      by_cases hf : 0 < f j
      · rw [if_pos hf, if_pos hf]; rw [Int.mul_right_comm]
      · rw [if_neg hf, if_neg hf, Int.mul_one]
    · have e1 : (if i < j + 1 then pos1 (f i) else 1) = if i < j then pos1 (f i) else 1 := by
        by_cases h : i < j
        · rw [if_pos h, if_pos (by omega)]
        · rw [if_neg h, if_neg (by omega)]
      rw [e1]
      by_cases e' : j = k
      · subst e'
        rw [if_neg (Nat.lt_irrefl _), Int.mul_one] at ih
        have c : ¬ (0 < f j ∧ j ≠ i ∧ j ≠ j) := fun h => h.2.2 rfl
        rw [if_neg c, if_pos (Nat.lt_succ_self _), ih]
        unfold pos1
        by_cases hf : 0 < f j
        · rw [if_pos hf, if_pos hf]
        · rw [if_neg hf, if_neg hf, Int.mul_one]
      · have e2 : (if k < j + 1 then pos1 (f k) else 1) = if k < j then pos1 (f k) else 1 := by
          by_cases h : k < j
          · rw [if_pos h, if_pos (by omega)]
          · rw [if_neg h, if_neg (by omega)]
        rw [e2]
        by_cases hf : 0 < f j
        · rw [if_pos hf, if_pos ⟨hf, e, e'⟩, ih, Int.mul_right_comm, Int.mul_right_comm (qF f i k j)]
        · have c : ¬ (0 < f j ∧ j ≠ i ∧ j ≠ k) := fun h => hf h.1
          rw [if_neg hf, if_neg c, ih]
theorem qF_pos {f : Nat → Int} {i k : Nat} : ∀ {j : Nat}, 0 < qF f i k j
  | 0 => by simp [qF]
  | j + 1 => by
    have := qF_pos (f := f) (i := i) (k := k) (j := j)
    simp only [qF]
    split
    · rename_i h; exact Int.mul_pos this h.1
    · exact this
theorem qF_congr {f f' : Nat → Int} {i k : Nat} (h : ∀ a, a ≠ i → a ≠ k → f a = f' a) : ∀ {j : Nat}, qF f i k j = qF f' i k j
  | 0 => rfl
  | j + 1 => by
    simp only [qF]
    rw [qF_congr h]
    by_cases e : j ≠ i ∧ j ≠ k
    · rw [h j e.1 e.2]
    · rw [if_neg fun h => e h.2, if_neg fun h => e h.2]

/-- What is best by (how many have something, the product) has little envy. -/
theorem best_ef1 {vs : List (List Int)} {l : List Int} {m : Nat} (V : Vals vs m) (hl : l.length = m) (own : ∀ x ∈ l, 0 ≤ x ∧ x < vs.length)
    (hb : ∀ l' : List Int, l'.length = m → (∀ x ∈ l', 0 ≤ x ∧ x < vs.length) → ¬ (manyN vs l vs.length < manyN vs l' vs.length ∨ (manyN vs l vs.length = manyN vs l' vs.length ∧ prodN vs l vs.length < prodN vs l' vs.length))) : Ef1 vs l := by
  intro i k hi hk
  refine Classical.byContradiction fun hno => ?_
  simp only [lit1, not_or, Int.not_le] at hno
  obtain ⟨h1, h2⟩ := hno
  have h2 : ∀ g, g < l.length → l.getD g 0 = k → wo vs l i i < wo vs l i k - (vs.getD i []).getD g 0 := fun g hg e => by
    refine Int.not_le.1 fun hle => h2 ⟨g, hg, e, hle⟩
  have hik : i ≠ k := fun e => by subst e; omega
  have nn : ∀ a g, a < vs.length → g < l.length → 0 ≤ (vs.getD a []).getD g 0 := fun a g ha hg => (V.bd a g ha (by omega)).1
  have wnn : ∀ a (b : Int), a < vs.length → 0 ≤ wo vs l a b := fun a b ha => (worth_ge (fun g hg => nn a g ha hg) (Nat.le_refl _)).1
  have wge : ∀ a (b : Int) g, a < vs.length → g < l.length → l.getD g 0 = b → (vs.getD a []).getD g 0 ≤ wo vs l a b := fun a b g ha hg e => (worth_ge (fun g hg => nn a g ha hg) (Nat.le_refl _)).2 g hg e
  obtain ⟨a, ha⟩ : ∃ a, a = wo vs l i i := ⟨_, rfl⟩
  obtain ⟨b, hbb⟩ : ∃ b, b = wo vs l k k := ⟨_, rfl⟩
  obtain ⟨S, hS⟩ : ∃ S, S = wo vs l i k := ⟨_, rfl⟩
  have a0 : 0 ≤ a := by rw [ha]; exact wnn i i hi
  have b0 : 0 ≤ b := by rw [hbb]; exact wnn k k hk
  rw [← ha, ← hS] at h1
  -- moving g from k to i
  have mv : ∀ g, g < l.length → l.getD g 0 = k → (∀ c, c ≠ i → c ≠ k → wo vs (l.set g i) c c = wo vs l c c) ∧ wo vs (l.set g i) i i = a + (vs.getD i []).getD g 0 ∧ wo vs (l.set g i) k k = b - (vs.getD k []).getD g 0 := fun g hg e => by
    refine ⟨fun c hci hck => ?_, ?_, ?_⟩
    · rw [wo_set hg, e, if_neg (by omega), if_neg (by omega)]; omega
    · rw [wo_set hg, e, if_pos rfl, if_neg (by omega), ← ha]; omega
    · rw [wo_set hg, e, if_neg (by omega), if_pos rfl, ← hbb]; omega
  have best : ∀ g, g < l.length → l.getD g 0 = k → ¬ (manyN vs l vs.length < manyN vs (l.set g i) vs.length ∨ (manyN vs l vs.length = manyN vs (l.set g i) vs.length ∧ prodN vs l vs.length < prodN vs (l.set g i) vs.length)) := fun g hg e =>
    hb _ (by rw [List.length_set]; exact hl) fun x hx => by
      rcases List.mem_or_eq_of_mem_set hx with h | h
      · exact own x h
      · subst h; omega
  -- the good that costs k least for what it gives i
  obtain ⟨g, hg, e, hv, hr⟩ : ∃ g, g < l.length ∧ l.getD g 0 = k ∧ 0 < (vs.getD i []).getD g 0 ∧ (vs.getD k []).getD g 0 * S ≤ (vs.getD i []).getD g 0 * b := by
    refine Classical.byContradiction fun hno => ?_
    have := ratio (v := vs.getD i []) (w := vs.getD k []) (l := l) (k := k) (b := b) (S := S) (by omega) (j := l.length) fun g hg e => ⟨nn i g hi hg, nn k g hk hg, fun hv => Int.not_le.1 fun hle => hno ⟨g, hg, e, hv, hle⟩⟩
    have h3 := this.2 (by show 0 < wo vs l i k; omega)
    have e1 : worthL (vs.getD i []) l k l.length = S := hS.symm
    have e2 : worthL (vs.getD k []) l k l.length = b := hbb.symm
    rw [e1, e2, Int.mul_comm S b] at h3
    omega
  obtain ⟨m1, m2, m3⟩ := mv g hg e
  have hlt := h2 g hg e
  rw [← ha, ← hS] at hlt
  have hw0 := nn k g hk hg
  have hwb := wge k k g hk hg e
  rw [← hbb] at hwb
  obtain ⟨v, hve⟩ : ∃ v, v = (vs.getD i []).getD g 0 := ⟨_, rfl⟩
  obtain ⟨w, hwe⟩ : ∃ w, w = (vs.getD k []).getD g 0 := ⟨_, rfl⟩
  rw [← hve] at hv hr hlt m2
  rw [← hwe] at hr hw0 hwb m3
  have hB := best g hg e
  have mu : ∀ {j : Nat}, (0 < b → 0 < b - w) → ∀ c, c < j → c ≠ i → 0 < wo vs l c c → 0 < wo vs (l.set g i) c c := fun {j} hbw c _ hci h => by
    by_cases hck : c = k
    · subst hck; rw [m3]; rw [← hbb] at h; exact hbw h
    · rw [m1 c hci hck]; exact h
  have R : qF (fun a => wo vs l a a) i k vs.length = qF (fun a => wo vs (l.set g i) a a) i k vs.length := qF_congr fun c h1 h2 => (m1 c h1 h2).symm
  have Rp := qF_pos (f := fun a => wo vs l a a) (i := i) (k := k) (j := vs.length)
  have P1 : prodN vs l vs.length = qF (fun a => wo vs l a a) i k vs.length * pos1 a * pos1 b := by
    rw [prod_pF, pF_q hik, if_pos hi, if_pos hk, ← ha, ← hbb]
  have P2 : prodN vs (l.set g i) vs.length = qF (fun a => wo vs l a a) i k vs.length * pos1 (a + v) * pos1 (b - w) := by
    rw [prod_pF, pF_q hik, if_pos hi, if_pos hk, m2, m3, R]
  by_cases hb0 : b = 0
  · have hw : w = 0 := by omega
    by_cases ha0 : a = 0
    · refine hB (.inl ?_)
      have := mF_up (f := fun a => wo vs l a a) (f' := fun a => wo vs (l.set g i) a a) (i := i) (by show ¬ 0 < wo vs l i i; omega) (by show 0 < wo vs (l.set g i) i i; rw [m2]; omega) (j := vs.length) (mu fun h => by omega)
      rw [if_pos hi, ← many_mF, ← many_mF] at this
      omega
    · refine hB (.inr ⟨?_, ?_⟩)
      · rw [many_mF, many_mF]
        refine mF_eq fun c hc => ?_
        show 0 < wo vs l c c ↔ 0 < wo vs (l.set g i) c c
        by_cases hci : c = i
        · subst hci; rw [m2, ← ha]; omega
        · by_cases hck : c = k
          · subst hck; rw [m3, ← hbb]; omega
          · rw [m1 c hci hck]
      · rw [P1, P2, hw, hb0]
        have e1 : pos1 (0 - 0 : Int) = 1 := by simp [pos1]
        have e2 : pos1 (0 : Int) = 1 := by simp [pos1]
        have e3 : pos1 a = a := if_pos (by omega)
        have e4 : pos1 (a + v) = a + v := if_pos (by omega)
        rw [e1, e2, e3, e4, Int.mul_one, Int.mul_one]
        exact Int.mul_lt_mul_of_pos_left (by omega) Rp
  · by_cases ha0 : a = 0
    · -- another good of k's that i likes
      by_cases hbw : 0 < b - w
      · refine hB (.inl ?_)
        have := mF_up (f := fun a => wo vs l a a) (f' := fun a => wo vs (l.set g i) a a) (i := i) (by show ¬ 0 < wo vs l i i; omega) (by show 0 < wo vs (l.set g i) i i; rw [m2]; omega) (j := vs.length) (mu fun _ => hbw)
        rw [if_pos hi, ← many_mF, ← many_mF] at this
        omega
      · -- then w = b, and w * S ≤ v * b gives S ≤ v
        exfalso
        have hwb' : w = b := by omega
        rw [hwb', Int.mul_comm v b] at hr
        have := Int.le_of_mul_le_mul_left hr (by omega)
        omega
    · have key : a * b < (a + v) * (b - w) := by
        have e1 : (a + v) * (b - w) = a * b + v * b - (a + v) * w := by
          rw [Int.mul_sub, Int.add_mul]
        rw [e1]
        have : (a + v) * w < v * b := by
          by_cases hw : w = 0
          · rw [hw, Int.mul_zero]; exact Int.mul_pos hv (by omega)
          · have h3 : (a + v) * w < S * w := Int.mul_lt_mul_of_pos_right (by omega) (by omega)
            rw [Int.mul_comm S w] at h3
            omega
        omega
      have hab : 0 < a * b := Int.mul_pos (by omega) (by omega)
      have hbw : 0 < b - w := by
        refine Int.not_le.1 fun hle => ?_
        have := Int.mul_nonneg (show 0 ≤ a + v by omega) (show 0 ≤ -(b - w) by omega)
        rw [Int.mul_neg] at this
        omega
      refine hB (.inr ⟨?_, ?_⟩)
      · rw [many_mF, many_mF]
        refine mF_eq fun c hc => ?_
        show 0 < wo vs l c c ↔ 0 < wo vs (l.set g i) c c
        by_cases hci : c = i
        · subst hci; rw [m2, ← ha]; omega
        · by_cases hck : c = k
          · subst hck; rw [m3, ← hbb]; omega
          · rw [m1 c hci hck]
      · have e1 : pos1 a = a := if_pos (by omega)
        have e2 : pos1 b = b := if_pos (by omega)
        have e3 : pos1 (a + v) = a + v := if_pos (by omega)
        have e4 : pos1 (b - w) = b - w := if_pos hbw
        rw [P1, P2, e1, e2, e3, e4, Int.mul_assoc, Int.mul_assoc]
        exact Int.mul_lt_mul_of_pos_left key Rp

end Go.Proofs.Ytfdoddeccnjcmaa
