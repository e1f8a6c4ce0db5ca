/- Own work: contracts of functions that the claim reaches. No condition beyond those that each theorem names. -/
import Derived.Test.YtfdoddeccnjcmaaProg
import Derived.Test.YtfdoddeccnjcmaaTake
import Derived.Test.YtfdoddeccnjcmaaGoodg
import Derived.Test.YtfdoddeccnjcmaaRankn
namespace Go.Proofs.Ytfdoddeccnjcmaa
open Go Go.Vc
set_option maxRecDepth 100000
set_option linter.unusedSimpArgs false
set_option linter.unusedVariables false
/-! Turns leave little envy. -/
theorem tkbN_max {o row : List Int} : ∀ {k g : Nat}, g < k → o.getD g 0 < 0 → row.getD g 0 ≤ row.getD (tkbN o row k).toNat 0
  | 0, g, h, _ => by omega
  | k + 1, g, h, hn => by
    simp only [tkbN]
    by_cases e : g = k
    · subst e
      by_cases hc : o.getD g 0 < 0 ∧ (tkbN o row g < 0 ∨ row.getD (tkbN o row g).toNat 0 < row.getD g 0)
      · rw [if_pos hc, Int.toNat_natCast]; exact Int.le_refl _
      · rw [if_neg hc]
        refine Int.not_lt.1 fun hlt => hc ⟨hn, .inr hlt⟩
    · have ih := tkbN_max (row := row) (k := k) (g := g) (by omega) hn
      have hx := tkbN_ex (row := row) (k := k) (g := g) (by omega) hn
      by_cases hc : o.getD k 0 < 0 ∧ (tkbN o row k < 0 ∨ row.getD (tkbN o row k).toNat 0 < row.getD k 0)
      · rw [if_pos hc, Int.toNat_natCast]
        rcases hc.2 with h' | h' <;> omega
      · rw [if_neg hc]; exact ih
/-- One turn: a takes b, the best of what is left. -/
structure Turn (vs : List (List Int)) (A A' : List Int) (a : Nat) (b m : Nat) : Prop where
  bm : b < m
  fr : A.getD b 0 < 0
  eq : A' = A.set b a
  mx : ∀ g, g < m → A.getD g 0 < 0 → (vs.getD a []).getD g 0 ≤ (vs.getD a []).getD b 0
/-- F is forgiven; kn: it is k's turn before i's. -/
def Fair (vs : List (List Int)) (A : List Int) (m i k : Nat) (F : Int) (kn : Prop) : Prop :=
  wo vs A i k - F ≤ wo vs A i i ∧ (kn → ∀ g, g < m → A.getD g 0 < 0 → wo vs A i k - F + (vs.getD i []).getD g 0 ≤ wo vs A i i)
theorem turn_wo {vs : List (List Int)} {A A' : List Int} {a b m : Nat} (hl : A.length = m) (T : Turn vs A A' a b m) (i k : Nat) : wo vs A' i k = wo vs A i k + if a = k then (vs.getD i []).getD b 0 else 0 := by
  rw [T.eq, wo_set (by rw [hl]; exact T.bm), if_neg (show ¬ A.getD b 0 = (k : Int) by have := T.fr; omega)]
  by_cases h : a = k
  · rw [if_pos h, if_pos (by omega)]; omega
  · rw [if_neg h, if_neg (by omega)]; omega
theorem turn_left {vs : List (List Int)} {A A' : List Int} {a b m : Nat} (hl : A.length = m) (T : Turn vs A A' a b m) {g : Nat} (h : A'.getD g 0 < 0) : A.getD g 0 < 0 := by
  rw [T.eq, set_getD (by rw [hl]; exact T.bm)] at h
  by_cases e : b = g
  · rw [if_pos e] at h; omega
  · rwa [if_neg e] at h
theorem fair_step {vs : List (List Int)} {A A' : List Int} {a b m i k : Nat} {F : Int} {kn kn' : Prop} (V : Vals vs m) (hi : i < vs.length) (hl : A.length = m) (hik : i ≠ k) (T : Turn vs A A' a b m) (J : Fair vs A m i k F kn)
    (h1 : a = k → kn ∧ ¬ kn') (h2 : a ≠ i → kn' → kn) : Fair vs A' m i k F kn' := by
  obtain ⟨j1, j2⟩ := J
  have hr := (V.bd i b hi T.bm).1
  unfold Fair
  rw [turn_wo hl T, turn_wo hl T]
  by_cases ha : a = i
  · subst ha
    rw [if_pos rfl, if_neg hik]
    refine ⟨by omega, fun _ g hg hn => ?_⟩
    have := T.mx g hg (turn_left hl T hn)
    omega
  · rw [if_neg ha]
    by_cases hk : a = k
    · obtain ⟨q1, q2⟩ := h1 hk
      have := j2 q1 b T.bm T.fr
      rw [if_pos hk]
      exact ⟨by omega, fun h => absurd h q2⟩
    · rw [if_neg hk]
      refine ⟨by omega, fun h g hg hn => ?_⟩
      have := j2 (h2 ha h) g hg (turn_left hl T hn)
      omega
theorem mod_succ {t n : Nat} (hn : 0 < n) : (t + 1) % n = if t % n + 1 = n then 0 else t % n + 1 := by
  have h := Nat.mod_lt t hn
  rw [Nat.add_mod]
  by_cases h1 : n = 1
  · subst h1; simp [Nat.mod_one]
  · rw [Nat.mod_eq_of_lt (show 1 < n by omega)]
    by_cases e : t % n + 1 = n
    · rw [if_pos e, e, Nat.mod_self]
    · rw [if_neg e, Nat.mod_eq_of_lt (by omega)]
theorem tak_turn {vs : List (List Int)} {l : List Int} {m : Nat} (K : Tk vs l m) {t : Nat} (h : t < m) : Turn vs (takN vs l m t) (takN vs l m (t + 1)) (l.getD (t % l.length) 0).toNat (tkbN (takN vs l m t) (vs.getD (l.getD (t % l.length) 0).toNat []) m).toNat m := by
  obtain ⟨b0, b1⟩ := tak_best K h
  have hb := (tkbN_bd (o := takN vs l m t) (row := vs.getD (l.getD (t % l.length) 0).toNat []) (k := m)).resolve_left (by omega)
  refine ⟨by omega, hb.2.2, ?_, fun g hg hn => tkbN_max hg hn⟩
  rw [Int.toNat_of_nonneg (tak_at K).1]; rfl
theorem tak_zero {vs : List (List Int)} {l : List Int} {m i k : Nat} : wo vs (takN vs l m 0) i k = 0 := by
  have : ∀ j, j ≤ m → worthL (vs.getD i []) (List.replicate m (-1)) k j = 0 := fun j => by
    induction j with
    | zero => intro _; rfl
    | succ j ih =>
      intro hj
      simp only [worthL]
      rw [ih (by omega), if_neg]
      · rfl
      · intro e
        rw [List.getD, List.getElem?_replicate, if_pos (show j < m by omega), Option.getD_some] at e
        omega
  unfold wo
  show worthL _ (List.replicate m (-1)) _ (List.replicate m (-1)).length = 0
  rw [List.length_replicate]
  exact this m (Nat.le_refl _)
section
variable {vs : List (List Int)} {l : List Int} {m p q : Nat}
/-- i comes before k. -/
theorem turns_lt (K : Tk vs l m) (nd : ∀ p q, p < vs.length → q < vs.length → l.getD p 0 = l.getD q 0 → p = q) (hpq : p < q) (hq : q < vs.length) : ∀ {t : Nat}, t ≤ m → Fair vs (takN vs l m t) m (l.getD p 0).toNat (l.getD q 0).toNat 0 (p < t % vs.length ∧ t % vs.length ≤ q)
  | 0, _ => by
    unfold Fair
    rw [tak_zero, tak_zero]
    exact ⟨by omega, fun h => by rw [Nat.zero_mod] at h; omega⟩
  | t + 1, h => by
    have n1 := K.V.n1
    have hlt := Nat.mod_lt t (show 0 < vs.length by omega)
    have hp := K.lb p (by rw [K.ll]; omega)
    have hqb := K.lb q (by rw [K.ll]; omega)
    have hc := K.lb (t % vs.length) (by rw [K.ll]; exact hlt)
    have T := tak_turn K (t := t) (by omega)
    rw [K.ll] at T
    have ne : p ≠ q := by omega
    refine fair_step K.V (by omega) takN_len (fun e => ne (nd p q (by omega) hq (by omega))) T (turns_lt K nd hpq hq (t := t) (by omega)) (fun e => ?_) fun e => ?_
    · have : t % vs.length = q := nd _ q hlt hq (by omega)
      rw [mod_succ (by omega)]
      split <;> omega
    · have : t % vs.length ≠ p := fun h => e (by rw [h])
      rw [mod_succ (by omega)]
      split <;> omega
theorem turns_gt (K : Tk vs l m) (nd : ∀ p q, p < vs.length → q < vs.length → l.getD p 0 = l.getD q 0 → p = q) (hpq : q < p) (hp : p < vs.length) : ∀ {t : Nat}, t ≤ m →
    (t ≤ q ∧ wo vs (takN vs l m t) (l.getD p 0).toNat (l.getD q 0).toNat = 0) ∨
    (q < t ∧ ∃ f, f < m ∧ (takN vs l m t).getD f 0 = ((l.getD q 0).toNat : Nat) ∧ Fair vs (takN vs l m t) m (l.getD p 0).toNat (l.getD q 0).toNat ((vs.getD (l.getD p 0).toNat []).getD f 0) (¬ (q < t % vs.length ∧ t % vs.length ≤ p)))
  | 0, _ => .inl ⟨by omega, tak_zero⟩
  | t + 1, h => by
    have n1 := K.V.n1
    have hlt := Nat.mod_lt t (show 0 < vs.length by omega)
    have hpb := K.lb p (by rw [K.ll]; omega)
    have hqb := K.lb q (by rw [K.ll]; omega)
    have hc := K.lb (t % vs.length) (by rw [K.ll]; exact hlt)
    have T := tak_turn K (t := t) (by omega)
    rw [K.ll] at T
    have ne : q ≠ p := by omega
    have hi : (l.getD p 0).toNat < vs.length := by omega
    have hik : (l.getD p 0).toNat ≠ (l.getD q 0).toNat := fun e => ne (nd q p (by omega) hp (by omega))
    rcases turns_gt K nd hpq hp (t := t) (by omega) with ⟨h1, h2⟩ | ⟨h1, f, f1, f2, J⟩
    · have tm : t % vs.length = t := Nat.mod_eq_of_lt (by omega)
      by_cases e : t = q
      · right
        subst e
        rw [tm] at T
        refine ⟨by omega, _, T.bm, by rw [T.eq, set_getD (by rw [takN_len]; exact T.bm), if_pos rfl], ?_, fun h => ?_⟩
        · rw [turn_wo takN_len T, turn_wo takN_len T, if_pos rfl, h2, if_neg (Ne.symm hik)]
          have := (worth_ge (r := vs.getD (l.getD p 0).toNat []) (l := takN vs l m t) (k := ((l.getD p 0).toNat : Nat)) (fun g hg => (K.V.bd _ g hi (by rw [takN_len] at hg; exact hg)).1) (Nat.le_refl _)).1
          have h3 : 0 ≤ wo vs (takN vs l m t) (l.getD p 0).toNat ((l.getD p 0).toNat : Nat) := this
          omega
        · exfalso
          rw [Nat.mod_eq_of_lt (show t + 1 < vs.length by omega)] at h
          omega
      · left
        refine ⟨by omega, ?_⟩
        rw [turn_wo takN_len T, h2, if_neg]
        · rfl
        · intro e2
          rw [tm] at e2 hc
          exact e (nd t q (by omega) (by omega) (by omega))
    · right
      refine ⟨by omega, f, f1, ?_, ?_⟩
      · rw [T.eq, set_getD (by rw [takN_len]; exact T.bm), if_neg, f2]
        intro e; have := T.fr; rw [e, f2] at this; omega
      · refine fair_step K.V hi takN_len hik T J (fun e => ?_) fun e => ?_
        · have : t % vs.length = q := nd _ q hlt (by omega) (by omega)
          rw [mod_succ (by omega)]
          split <;> omega
        · have : t % vs.length ≠ p := fun h => e (by rw [h])
          rw [mod_succ (by omega)]
          split <;> omega
end
theorem turns_ef1 {vs : List (List Int)} {l : List Int} {m : Nat} (K : Tk vs l m) (hr : rankB vs.length l = true) : Ef1 vs (takN vs l m m) := by
  have nd : ∀ p q, p < vs.length → q < vs.length → l.getD p 0 = l.getD q 0 → p = q := fun p q hp hq e => nd_inj (rank_nodup hr) (by rw [K.ll]; exact hp) (by rw [K.ll]; exact hq) e
  intro i k hi hk
  obtain ⟨p, hp, ep⟩ := mem_getD 0 (rank_all hr (a := (i : Int)) (by omega) (by omega))
  obtain ⟨q, hq, eq⟩ := mem_getD 0 (rank_all hr (a := (k : Int)) (by omega) (by omega))
  rw [K.ll] at hp hq
  have e1 : (l.getD p 0).toNat = i := by rw [ep]; rfl
  have e2 : (l.getD q 0).toNat = k := by rw [eq]; rfl
  rcases Nat.lt_trichotomy p q with h | h | h
  · have := (turns_lt K nd h hq (t := m) (Nat.le_refl _)).1
    rw [e1, e2] at this
    left; omega
  · subst h
    have : i = k := by omega
    subst this; left; exact Int.le_refl _
  · rcases turns_gt K nd h hp (t := m) (Nat.le_refl _) with ⟨_, h2⟩ | ⟨_, f, f1, f2, J, _⟩
    · rw [e1, e2] at h2
      left; rw [h2]; exact (worth_ge (fun g hg => (K.V.bd _ g hi (by rw [takN_len] at hg; exact hg)).1) (Nat.le_refl _)).1
    · rw [e1, e2] at J; rw [e2] at f2
      right; exact ⟨f, by rw [takN_len]; exact f1, f2, J⟩
theorem turns_full {vs : List (List Int)} {l : List Int} {m : Nat} (K : Tk vs l m) : ∀ x ∈ takN vs l m m, 0 ≤ x ∧ x < vs.length := by
  have hb : ∀ t, ∀ x ∈ takN vs l m t, x = -1 ∨ (0 ≤ x ∧ x < vs.length) := fun t => by
    induction t with
    | zero => intro x hx; left; exact (List.mem_replicate.1 hx).2
    | succ t ih =>
      intro x hx
      simp only [takN] at hx
      rcases List.mem_or_eq_of_mem_set hx with h | h
      · exact ih x h
      · subst h; exact .inr (tak_at K)
  have hf := tak_free K (t := m) (Nat.le_refl _)
  intro x hx
  rcases hb m x hx with h | h
  · exfalso
    have : 0 < freeN (takN vs l m m) := List.countP_pos_iff.2 ⟨x, hx, by rw [h]; rfl⟩
    omega
  · exact h

end Go.Proofs.Ytfdoddeccnjcmaa
