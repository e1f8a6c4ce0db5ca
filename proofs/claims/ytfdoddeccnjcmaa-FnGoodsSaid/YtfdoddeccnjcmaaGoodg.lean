/- Own work: contracts of functions that the claim reaches. No condition beyond those that each theorem names. -/
import Derived.Test.YtfdoddeccnjcmaaProg
import Derived.Test.YtfdoddeccnjcmaaGord0
import Derived.Test.YtfdoddeccnjcmaaGoodm
namespace Go.Proofs.Ytfdoddeccnjcmaa
open Go Go.Vc
set_option maxRecDepth 100000
set_option linter.unusedSimpArgs false
set_option linter.unusedVariables false
/-! Gifts in order leave little envy. -/
theorem wo_nn {vs : List (List Int)} {l : List Int} {m i : Nat} {k : Int} (V : Vals vs m) (hl : l.length = m) (hi : i < vs.length) : 0 ≤ wo vs l i k :=
  (worth_ge (fun g hg => (V.bd i g hi (by omega)).1) (Nat.le_refl _)).1
theorem give_ef1 {vs : List (List Int)} {l : List Int} {m g u : Nat} (V : Vals vs m) (hl : l.length = m) (hg : g < m) (h0 : l.getD g 0 < 0) (hu : ∀ i, i < vs.length → wo vs l i u ≤ wo vs l i i) (hE : Ef1 vs l) : Ef1 vs (l.set g u) := by
  intro i k hi hk
  have hg' : g < l.length := by omega
  have hr := (V.bd i g hi hg).1
  have ws : ∀ b : Nat, wo vs (l.set g u) i b = wo vs l i b + if (u : Int) = b then (vs.getD i []).getD g 0 else 0 := fun b => by
    rw [wo_set hg', if_neg (show ¬ l.getD g 0 = b by omega)]; omega
  have hown : wo vs l i i ≤ wo vs (l.set g u) i i := by rw [ws]; split <;> omega
  by_cases e : u = k
  · subst e
    refine .inr ⟨g, by rw [List.length_set]; exact hg', by rw [set_getD hg', if_pos rfl], ?_⟩
    have := hu i hi
    rw [ws u, if_pos rfl]; omega
  · have hk' : wo vs (l.set g u) i k = wo vs l i k := by rw [ws, if_neg (by omega)]; omega
    rcases hE i k hi hk with h | ⟨q, h1, h2, h3⟩
    · left; omega
    · right
      refine ⟨q, by rw [List.length_set]; exact h1, ?_, by omega⟩
      rw [set_getD hg', if_neg, h2]
      intro e; subst e; omega
theorem pass_ef1 {vs : List (List Int)} {l : List Int} {f : Int → Int} {c : List Int} (C : Cy f vs.length c) (hown : ∀ i, i < vs.length → wo vs l i i ≤ wo vs (passL l c) i i) (hE : Ef1 vs l) : Ef1 vs (passL l c) := by
  intro i k hi hk
  obtain ⟨k0, h0, hb⟩ : ∃ k0 : Nat, k0 < vs.length ∧ ∀ g, g < l.length → ((passL l c).getD g 0 = k ↔ l.getD g 0 = k0) := by
    by_cases h : (k : Int) ∈ c
    · obtain ⟨t, ht, et⟩ := mem_getD 0 h
      have hp := C.pos
      obtain ⟨q, hq, hqt⟩ : ∃ q, q < c.length ∧ (q + 1) % c.length = t := by
        by_cases e : t = 0
        · exact ⟨c.length - 1, by omega, by rw [Nat.sub_add_cancel hp, Nat.mod_self, e]⟩
        · exact ⟨t - 1, by omega, by rw [Nat.sub_add_cancel (by omega), Nat.mod_eq_of_lt ht]⟩
      have hin := C.inn _ (getD_mem0 hq)
      refine ⟨(c.getD q 0).toNat, by omega, fun g hg => ?_⟩
      rw [pass_get hg, Int.toNat_of_nonneg hin.1, ← et, ← hqt]
      exact pass1_in C hq
    · exact ⟨k, hk, fun g hg => by rw [pass_get hg]; exact pass1_out C h⟩
  have hw : wo vs (passL l c) i k = wo vs l i k0 := by
    unfold wo
    rw [pass_len]
    exact worthL_congr fun g hg => hb g hg
  have := hown i hi
  rcases hE i k0 hi h0 with h | ⟨q, h1, h2, h3⟩
  · left; omega
  · right
    exact ⟨q, by rw [pass_len]; exact h1, (hb q h1).2 h2, by omega⟩
/-- Goods before g have owners, the others have none. -/
def Upto (n : Nat) (l : List Int) (g : Nat) : Prop := ∀ h, h < l.length → (h < g → 0 ≤ l.getD h 0 ∧ l.getD h 0 < n) ∧ (g ≤ h → l.getD h 0 = -1)
theorem pass1_rng {f : Int → Int} {n : Nat} {c : List Int} (C : Cy f n c) {x : Int} (h : 0 ≤ x ∧ x < n) : 0 ≤ pass1 c x ∧ pass1 c x < n := by
  unfold pass1
  split
  · exact h
  · exact C.inn _ (getD_mem0 (Nat.mod_lt _ C.pos))
theorem pass1_no {f : Int → Int} {n : Nat} {c : List Int} (C : Cy f n c) : pass1 c (-1) = -1 := (pass1_out C fun h => by have := (C.inn _ h).1; omega).2 rfl
theorem step_ok {vs : List (List Int)} {l : List Int} {g : Nat} (hn : 1 ≤ vs.length) (hU : unvF vs l < 0) (hE : Ef1 vs l) (hB : Upto vs.length l g) : Ef1 vs (stepG vs l) ∧ Upto vs.length (stepG vs l) g := by
  have C := cyc_ok hn hU
  refine ⟨pass_ef1 C (fun i hi => (step_wo hn hU hi).1) hE, fun h hh => ?_⟩
  rw [step_len] at hh
  obtain ⟨h1, h2⟩ := hB h hh
  unfold stepG
  rw [pass_get hh]
  exact ⟨fun e => pass1_rng C (h1 e), fun e => by rw [h2 e]; exact pass1_no C⟩
theorem setN_ok {vs : List (List Int)} {g : Nat} (hn : 1 ≤ vs.length) : ∀ {k : Nat} {l : List Int}, Ef1 vs l → Upto vs.length l g → Ef1 vs (setN vs k l) ∧ Upto vs.length (setN vs k l) g ∧ (unvF vs (setN vs k l) < 0 → phi vs l + k ≤ phi vs (setN vs k l))
  | 0, l, hE, hB => ⟨hE, hB, fun _ => by simp [setN]⟩
  | k + 1, l, hE, hB => by
    simp only [setN]
    by_cases hU : unvF vs l < 0
    · rw [if_pos hU]
      obtain ⟨h1, h2⟩ := step_ok hn hU hE hB
      obtain ⟨h3, h4, h5⟩ := setN_ok hn (k := k) h1 h2
      refine ⟨h3, h4, fun h => ?_⟩
      have := h5 h
      have := phi_step hn hU
      omega
    · rw [if_neg hU]
      exact ⟨hE, hB, fun h => absurd h hU⟩
theorem unv_at {vs : List (List Int)} {l : List Int} (h : ¬ unvF vs l < 0) : 0 ≤ unvF vs l ∧ unvF vs l < vs.length ∧ ∀ i : Nat, i < vs.length → wo vs l i (unvF vs l) ≤ wo vs l i i := by
  unfold unvF at h ⊢
  rcases fsI_cases (unB vs l) vs.length with ⟨h1, h2, h3⟩ | ⟨_, h2⟩
  · refine ⟨h1, h2, fun i hi => ?_⟩
    simp only [unB, Bool.not_eq_true', List.any_eq_false] at h3
    have := h3 i (upto_mem.2 ⟨by omega, by omega⟩)
    simp only [evB, decide_eq_true_eq, Int.toNat_natCast] at this
    omega
  · omega
theorem giv_ok {vs : List (List Int)} {m : Nat} (V : Vals vs m) : ∀ {g : Nat}, g ≤ m → Ef1 vs (givN vs m g) ∧ Upto vs.length (givN vs m g) g
  | 0, _ => by
    have hw : ∀ i k, k < vs.length → wo vs (givN vs m 0) i k = 0 := fun i k hk => by
      have : ∀ j, j ≤ m → worthL (vs.getD i []) (List.replicate m (-1)) k j = 0 := fun j => by
        induction j with
        | zero => intro _; rfl
        | succ j ih =>
          intro hj
          simp only [worthL]
          rw [ih (by omega), if_neg]
          · rfl
          · intro e
            rw [List.getD, List.getElem?_replicate, if_pos (show j < m by omega), Option.getD_some] at e
            omega
      unfold wo
      show worthL _ (List.replicate m (-1)) _ (List.replicate m (-1)).length = 0
      rw [List.length_replicate]
      exact this m (Nat.le_refl _)
    refine ⟨fun i k hi hk => .inl (by rw [hw i k hk, hw i i hi]; exact Int.le_refl _), fun h hh => ⟨fun h => by omega, fun _ => ?_⟩⟩
    simp only [givN, List.length_replicate] at hh
    simp [givN, List.getD, hh]
  | g + 1, hg => by
    obtain ⟨h1, h2⟩ := giv_ok V (g := g) (by omega)
    obtain ⟨h3, h4, h5⟩ := setN_ok V.n1 (k := 1801) h1 h2
    have hl : (setN vs 1801 (givN vs m g)).length = m := by rw [setN_len, givN_len]
    have hU : ¬ unvF vs (setN vs 1801 (givN vs m g)) < 0 := fun h => by
      have a := h5 h
      have b := phi_bd (vs := vs) (l := givN vs m g) (by rw [givN_len]; exact V)
      have c := phi_bd (vs := vs) (l := setN vs 1801 (givN vs m g)) (by rw [hl]; exact V)
      omega
    obtain ⟨u0, u1, u2⟩ := unv_at hU
    simp only [givN]
    unfold setl
    generalize setN vs 1801 (givN vs m g) = L at h3 h4 hl hU u0 u1 u2
    obtain ⟨u, hu⟩ : ∃ u : Nat, (u : Int) = unvF vs L := ⟨(unvF vs L).toNat, by omega⟩
    rw [← hu] at u0 u1 u2 ⊢
    have hno := (h4 g (by omega)).2 (Nat.le_refl _)
    refine ⟨give_ef1 V hl (by omega) (by omega) u2 h3, fun h hh => ?_⟩
    rw [List.length_set] at hh
    rw [set_getD (by omega)]
    obtain ⟨q1, q2⟩ := h4 h hh
    by_cases e : g = h
    · rw [if_pos e]; exact ⟨fun _ => ⟨u0, u1⟩, fun h' => by omega⟩
    · rw [if_neg e]; exact ⟨fun h' => q1 (by omega), fun h' => q2 (by omega)⟩

end Go.Proofs.Ytfdoddeccnjcmaa
