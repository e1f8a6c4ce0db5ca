/- Own work: contracts of functions that the claim reaches. No condition beyond those that each theorem names. -/
import Derived.Test.YtfdoddeccnjcmaaProg
import Derived.Test.YtfdoddeccnjcmaaSort
import Derived.Test.YtfdoddeccnjcmaaLowq
import Derived.Test.YtfdoddeccnjcmaaConcat
namespace Go.Proofs.Ytfdoddeccnjcmaa
open Go Go.Vc
set_option maxRecDepth 100000
set_option linter.unusedSimpArgs false
set_option linter.unusedVariables false
/-- Has a more left than b, or as much and the lesser index? -/
def betR (rs : List Int) (a b : Int) : Prop := rs.getD b.toNat 0 < rs.getD a.toNat 0 ∨ (rs.getD a.toNat 0 = rs.getD b.toNat 0 ∧ a < b)
theorem betR_trans {rs : List Int} {a b c : Int} (h1 : betR rs a b) (h2 : betR rs b c) : betR rs a c := by
  unfold betR at *; omega
theorem betR_irr {rs : List Int} {a : Int} : ¬ betR rs a a := by unfold betR; omega
def cmpR (rs : List Int) (a b : Int) : Int := rs.getD b.toNat 0 - rs.getD a.toNat 0
def ordR (rs : List Int) (n : Nat) : List Int := preP (cmpR rs) (upto n) n
theorem upto_get {n k : Nat} (h : k < n) : (upto n).getD k 0 = k := by simp [upto, List.getD, h]
theorem upto_take {n k : Nat} (h : k ≤ n) : (upto n).take k = upto k := by
  apply List.ext_getElem
  · simp [upto]; omega
  · intro i h1 h2; simp [upto]
theorem upto_mem {n : Nat} {x : Int} : x ∈ upto n ↔ 0 ≤ x ∧ x < n := by
  simp only [upto, List.mem_map, List.mem_range]
  constructor
  · rintro ⟨a, h, rfl⟩; omega
  · intro h; exact ⟨x.toNat, by omega, by omega⟩
theorem preR_sorted {rs : List Int} {n : Nat} : ∀ {i : Nat}, i ≤ n → (preP (cmpR rs) (upto n) i).Pairwise (betR rs)
  | 0, _ => by simp [preP]
  | i + 1, hi => by
    have ih := preR_sorted (rs := rs) (n := n) (i := i) (by omega)
    have hp := preP_perm (cmp := cmpR rs) (xs := upto n) (i := i) (by rw [upto_len]; omega)
    rw [upto_take (by omega)] at hp
    have hl := preP_len (cmp := cmpR rs) (xs := upto n) (i := i)
    have hlt : ∀ y ∈ preP (cmpR rs) (upto n) i, 0 ≤ y ∧ y < i := fun y hy => upto_mem.1 (hp.mem_iff.1 hy)
    have hst := stopP_le (cmp := cmpR rs) (P := preP (cmpR rs) (upto n) i) (x := (i : Int)) (j := i)
    obtain ⟨s1, s2⟩ := stopP_spec (cmp := cmpR rs) (P := preP (cmpR rs) (upto n) i) (x := (i : Int)) (j := i) (by omega)
    rw [preP, upto_get (by omega)]
    generalize preP (cmpR rs) (upto n) i = P at *
    generalize stopP (cmpR rs) P (i : Int) i = j at *
    refine pairwise_contP ih (fun y hy => ?_) fun y hy => ?_
    · -- behind the stop: at the stop y' is no worse, and all ahead of y' are better
      rcases s2 with h0 | h0
      · rw [h0] at hy; simp at hy
      · by_cases hj0 : j = 0
        · rw [hj0] at hy; simp at hy
        have hjm : j - 1 < P.length := by omega
        have hq := hlt _ (getD_mem (d := 0) hjm)
        have hb : betR rs (P.getD (j - 1) 0) i := by unfold cmpR at h0; unfold betR; rw [Int.toNat_natCast] at *; omega
        obtain ⟨k, hk, e⟩ := mem_getD 0 hy
        rw [List.length_take] at hk
        have e' : (P.take j).getD k 0 = P.getD k 0 := by simp only [List.getD, List.getElem?_take]; rw [if_pos (by omega)]
        rw [e'] at e
        by_cases hkj : k = j - 1
        · rw [← e, hkj]; exact hb
        · rw [List.pairwise_iff_getElem] at ih
          have := ih k (j - 1) (by omega) (by omega) (by omega)
          have g1 : P.getD k 0 = P[k] := by simp [List.getD, show k < P.length by omega]
          have g2 : P.getD (j - 1) 0 = P[j - 1] := by simp [List.getD, hjm]
          rw [← g1, ← g2, e] at this
          exact betR_trans this hb
    · obtain ⟨k, hk, e⟩ := mem_getD 0 hy
      rw [List.length_drop] at hk
      have e' : (P.drop j).getD k 0 = P.getD (j + k) 0 := by simp only [List.getD, List.getElem?_drop]
      rw [e'] at e
      have := s1 (j + k) (by omega) (by omega)
      rw [e] at this
      unfold cmpR at this; unfold betR; rw [Int.toNat_natCast] at *; omega
theorem ordR_sorted {rs : List Int} {n : Nat} : (ordR rs n).Pairwise (betR rs) := preR_sorted (Nat.le_refl n)
theorem ordR_perm {rs : List Int} {n : Nat} : (ordR rs n).Perm (upto n) := by
  have := preP_perm (cmp := cmpR rs) (xs := upto n) (i := n) (by rw [upto_len]; exact Nat.le_refl _)
  rwa [upto_take (Nat.le_refl n)] at this
theorem ordR_len {rs : List Int} {n : Nat} : (ordR rs n).length = n := by rw [ordR_perm.length_eq, upto_len]
def K_impl_filled : List Nat := [0, 1, 2, 4, 6, 7, 9, 21, 22, 23, 1004]
def C_impl_filled : C :=
  let ks := K_impl_filled
  (.seq
   (.rg 0 [(none, .box 4 (.s 1)), (none, .mkn 6)])
   (.cl ks (.seq
   (.rg 0 [(none, .v 10 .mv [.s 0]), (none, .v 11 .len [.s 10]), (none, .co 12 91 [.s 11]), (none, .tk 7 12)])
   (.cl ks (.seq
   (.rg 0 [(none, .v 13 .mv [.s 7]), (none, .v 14 (.clo 134) [.s 4]), (none, .cox (some 15) 133 [.s 13, .s 14] 0)])
   (.cl ks (.seq
   (.seq
   (.rg 0 [(none, .v 16 .mv [.s 7]), (none, .v 17 .mv [.s 2]), (none, .v 18 .mv [.s 0]), (none, .co 19 77 [.s 18]), (none, .v 20 (.bin .sub) [.s 17, .s 19]), (none, .v 21 (.sub false true) [.s 16, .s 20]), (none, .v 22 .len [.s 21]), (none, .v 23 .mv [.k (.i 0)])])
   (.cl ks (.block 0
   (.loop
   (.seq
   (.rg 0 [(none, .v 24 (.bin .lss) [.s 23, .s 22])])
   (.seq
   (.cond (.s 24)
   .skip
   (.exit 0))
   (.cl ks (.seq
   (.block 1
   (.seq
   (.rg 0 [(none, .v 25 .idx [.s 21, .s 23]), (none, .v 26 .ld [.s 25]), (none, .tk 9 26)])
   (.cl ks (.rg 0 [(none, .v 27 .mv [.s 0]), (none, .v 28 .mv [.s 9]), (none, .v 29 .idx [.s 27, .s 28]), (none, .v 30 .ld [.s 29]), (none, .v 31 (.bin .add) [.s 30, .k (.i 1)]), (none, .v 32 .idx [.s 27, .s 28]), (none, .st (.s 32) (.s 31))]))))
   (.cl ks (.rg 0 [(none, .v 33 (.bin .add) [.s 23, .k (.i 1)]), (none, .v 23 .mv [.s 33])]))))))))))
   (.cl ks (.seq
   (.rg 0 [(none, .v 34 .mv [.s 0]), (none, .tk 6 34)])
   .ret)))))))))

theorem chk_impl_filled : ∃ b, Try.f76.body = some b ∧ chk Try.prog Try.f76.ntmps false C_impl_filled b = true := ⟨_, rfl, by kernel_rfl⟩
def K_impl_filled_1 : List Nat := [0, 1, 2, 5]
def C_impl_filled_1 : C :=
  let ks := K_impl_filled_1
  (.seq
   (.rg 0 [(none, .v 5 .mv [.k (.i 0)])])
   (.cl ks (.seq
   (.rg 8 [(none, .v 6 .ld [.s 2]), (none, .v 7 .mv [.s 1]), (none, .v 8 .idx [.s 6, .s 7]), (none, .v 9 .ld [.s 8]), (none, .v 10 .ld [.s 2]), (none, .v 11 .mv [.s 0]), (none, .v 12 .idx [.s 10, .s 11]), (none, .v 13 .ld [.s 12]), (none, .v 14 (.bin .sub) [.s 9, .s 13]), (none, .tk 5 14)])
   .ret)))

theorem chk_impl_filled_1 : ∃ b, Try.f134.body = some b ∧ chk Try.prog Try.f134.ntmps true C_impl_filled_1 b = true := ⟨_, rfl, by kernel_rfl⟩
/-- One more for each of the first j of O. -/
def fillN (ss O : List Int) : Nat → List Int
  | 0 => ss
  | j + 1 => (fillN ss O j).set (O.getD j 0).toNat ((fillN ss O j).getD (O.getD j 0).toNat 0 + 1)
theorem fillN_len {ss O : List Int} : ∀ {j : Nat}, (fillN ss O j).length = ss.length
  | 0 => rfl
  | j + 1 => by simp only [fillN, List.length_set, fillN_len]
theorem fillN_bd {ss O : List Int} {B : Int} (h : ∀ x ∈ ss, 0 ≤ x ∧ x ≤ B) : ∀ {j : Nat}, ∀ x ∈ fillN ss O j, 0 ≤ x ∧ x ≤ B + j
  | 0, x, hx => by have := h x hx; omega
  | j + 1, x, hx => by
    simp only [fillN] at hx
    by_cases hlt : (O.getD j 0).toNat < (fillN ss O j).length
    · rcases List.mem_or_eq_of_mem_set hx with hx | rfl
      · have := fillN_bd h (j := j) x hx; omega
      · have := fillN_bd h (j := j) _ (getD_mem (d := 0) hlt); omega
    · rw [List.set_eq_of_length_le (by omega)] at hx
      have := fillN_bd h (j := j) x hx; omega
theorem filled1_ok {n1 : Option Bool} (rs : List Int) (hb : ∀ x ∈ rs, 0 ≤ x ∧ x ≤ 1000000000) (a b : Int) (ha : 0 ≤ a ∧ a < rs.length) (hb' : 0 ≤ b ∧ b < rs.length) : CallOk Try.prog 134 [.i a, .i b, .q [.s n1 (ii rs)] 0] [(0, .i (cmpR rs a b))] := by
  obtain ⟨code0, hcd1, hcd2⟩ := chk_impl_filled_1; refine callOk_of Try.func134 hcd1 mo Try.call134 (rs := [5]) (by kernel_rfl) hcd2 (by rw [Try.ntmps134]; simp) (by simp) (by decide) ?_; unfold C_impl_filled_1 K_impl_filled_1; simp (config := { maxSteps := 2000000 }) only [go_sem, Nat.reduceBEq, Nat.reduceAdd, Nat.reduceMul, Nat.reduceMod, Nat.reduceLT, Nat.reduceDiv, Nat.reduceSub, Nat.reduceLeDiff, Int.reduceToNat, Int.reduceLT, Int.reduceLE, reduceCtorEq, List.take_nil, List.drop_nil]
  have h1 := hb _ (getD_mem (d := 0) (show a.toNat < rs.length by omega))
  have h2 := hb _ (getD_mem (d := 0) (show b.toNat < rs.length by omega))
  exact ⟨by omega, by omega, by omega, by omega, by omega, by omega, inR_of (by omega) (by omega), rfl⟩
theorem impl_filled_ok {n1 n2 : Option Bool} (ss rs : List Int) (n : Int) (h0 : 0 < ss.length) (h6 : ss.length ≤ 6) (hl : rs.length = ss.length) (hs : ∀ x ∈ ss, 0 ≤ x ∧ x ≤ 1000000000) (hr : ∀ x ∈ rs, 0 ≤ x ∧ x ≤ 1000000000) (k : Nat) (hk : k ≤ ss.length) (hn : n = sumL ss + k) :
    CallC Try.prog 76 [0] [.s n1 (ii ss), .s n2 (ii rs), .i n] [(0, .own 1 none (ii (fillN ss (ordR rs ss.length) k)))] := by
  obtain ⟨code0, hcd1, hcd2⟩ := chk_impl_filled; refine callC_of Try.func76 hcd1 mo Try.call76 (r := 6) (is := [0]) (by kernel_rfl) hcd2 (by rw [Try.ntmps76]; simp) (by simp) (by decide) ?_; unfold C_impl_filled K_impl_filled; simp (config := { maxSteps := 2000000 }) only [go_sem, Nat.reduceBEq, Nat.reduceAdd, Nat.reduceMul, Nat.reduceMod, Nat.reduceLT, Nat.reduceDiv, Nat.reduceSub, Nat.reduceLeDiff, Int.reduceToNat, Int.reduceLT, Int.reduceLE, reduceCtorEq, List.take_nil, List.drop_nil]
  have hO := ordR_perm (rs := rs) (n := ss.length)
  have hOl := ordR_len (rs := rs) (n := ss.length)
  refine ⟨_, indices_ok (ss.length : Int) (by omega) (by omega), ?_⟩; simp (config := { maxSteps := 2000000 }) only [go_sem, Nat.reduceBEq, Nat.reduceAdd, Nat.reduceMul, Nat.reduceMod, Nat.reduceLT, Nat.reduceDiv, Nat.reduceSub, Nat.reduceLeDiff, Int.reduceToNat, Int.reduceLT, Int.reduceLE, reduceCtorEq, List.take_nil, List.drop_nil]
  have hsort := sortStable_ok (some false) (upto ss.length) 134 [.q [.s n2 (ii rs)] 0] (cmpR rs) (by rw [upto_len]; exact h0) (by rw [upto_len]; omega) (fun x hx y hy => filled1_ok rs hr x y (by have := upto_mem.1 hx; omega) (by have := upto_mem.1 hy; omega))
  rw [upto_len] at hsort
  refine ⟨_, _, _, hsort, ?_⟩; simp (config := { maxSteps := 2000000 }) only [go_sem, Nat.reduceBEq, Nat.reduceAdd, Nat.reduceMul, Nat.reduceMod, Nat.reduceLT, Nat.reduceDiv, Nat.reduceSub, Nat.reduceLeDiff, Int.reduceToNat, Int.reduceLT, Int.reduceLE, reduceCtorEq, List.take_nil, List.drop_nil]
  refine ⟨_, impl_sumOf_ok ss (by omega) hs, ?_⟩; simp (config := { maxSteps := 2000000 }) only [go_sem, Nat.reduceBEq, Nat.reduceAdd, Nat.reduceMul, Nat.reduceMod, Nat.reduceLT, Nat.reduceDiv, Nat.reduceSub, Nat.reduceLeDiff, Int.reduceToNat, Int.reduceLT, Int.reduceLE, reduceCtorEq, List.take_nil, List.drop_nil]
  have eO : preP (cmpR rs) (upto ss.length) ss.length = ordR rs ss.length := rfl
  rw [eO]
  generalize ordR rs ss.length = O at *
  have hm : ∀ j, j < ss.length → 0 ≤ O.getD j 0 ∧ O.getD j 0 < ss.length := fun j hj => upto_mem.1 (hO.mem_iff.1 (getD_mem (d := 0) (by omega)))
  have hk' : (n - sumL ss).toNat = k := by omega
  have hS := (sumN_bd hs (Nat.le_refl ss.length))
  have hS2 : 0 ≤ sumL ss ∧ sumL ss ≤ 6000000000 := by unfold sumL; omega
  refine ⟨inR_of (by omega) (by omega), by unfold subOk; omega, ?_⟩
  rw [hk', List.drop_zero]
  refine loopN k (fun j => [(0, .own 1 n1 (ii (fillN ss O j))), (7, .own 1 (some false) (ii O)), (21, .t (.sp 7) (.s (some false) (ii (O.take k)))), (22, .i k), (23, .i (j : Nat))]) (fun _ => True) ⟨trivial, by simp (config := { maxSteps := 2000000 }) only [go_sem, Nat.reduceBEq, Nat.reduceAdd, Nat.reduceMul, Nat.reduceMod, Nat.reduceLT, Nat.reduceDiv, Nat.reduceSub, Nat.reduceLeDiff, Int.reduceToNat, Int.reduceLT, Int.reduceLE, reduceCtorEq, List.take_nil, List.drop_nil]; simp [fillN]; omega⟩ fun j hj _ => ?_
  simp (config := { maxSteps := 2000000 }) only [go_sem, Nat.reduceBEq, Nat.reduceAdd, Nat.reduceMul, Nat.reduceMod, Nat.reduceLT, Nat.reduceDiv, Nat.reduceSub, Nat.reduceLeDiff, Int.reduceToNat, Int.reduceLT, Int.reduceLE, reduceCtorEq, List.take_nil, List.drop_nil]
  refine ⟨fun hlt => ?_, fun hge => ?_⟩
  · have hj' : j < k := by omega
    have e1 : (O.take k).getD j 0 = O.getD j 0 := by simp only [List.getD, List.getElem?_take]; rw [if_pos hj']
    have e2 : (O.take k).length = k := by rw [List.length_take]; omega
    have hmj := hm j (by omega)
    have hb := fillN_bd (O := O) hs (j := j) _ (getD_mem (d := 0) (show (O.getD j 0).toNat < (fillN ss O j).length by rw [fillN_len]; omega))
    rw [e1, e2, fillN_len]
    exact ⟨by omega, hj', hj', by omega, by omega, by omega, inR_of (by omega) (by omega), by omega, by omega, by omega, inR_of (by omega) (by omega), hj', rfl, by simp⟩
  · have : j = k := by omega
    subst this
    rfl
theorem sumN_set {xs : List Int} {i : Nat} {v : Int} (hi : i < xs.length) : ∀ {j : Nat}, j ≤ xs.length → sumN (xs.set i v) j = sumN xs j + if i < j then v - xs.getD i 0 else 0
  | 0, _ => by simp [sumN]
  | j + 1, hj => by
    simp only [sumN]
    rw [sumN_set hi (by omega)]
    have e : (xs.set i v).getD j 0 = if i = j then v else xs.getD j 0 := by
      simp only [List.getD, List.getElem?_set]
      by_cases h : i = j
      · subst h; simp [hi]
      · simp [h]
    rw [e]
    by_cases h : i = j
    · subst h; simp; omega
    · rw [if_neg h]
      by_cases h2 : i < j
      · rw [if_pos h2, if_pos (by omega)]; omega
      · rw [if_neg h2, if_neg (by omega)]; omega
theorem fillN_sum {ss O : List Int} (hO : ∀ j, j < ss.length → 0 ≤ O.getD j 0 ∧ O.getD j 0 < ss.length) : ∀ {t : Nat}, t ≤ ss.length → sumL (fillN ss O t) = sumL ss + t
  | 0, _ => by simp [fillN]
  | t + 1, ht => by
    have ih := fillN_sum hO (t := t) (by omega)
    have hm := hO t (by omega)
    unfold sumL at ih ⊢
    simp only [fillN, List.length_set]
    rw [sumN_set (by rw [fillN_len]; omega) (Nat.le_refl _), if_pos (by rw [fillN_len]; omega)]
    omega
/-- The first of the best that are not used, among the first j. -/
def bestS (used : Nat → Bool) (rs : List Int) : Nat → Int
  | 0 => -1
  | j + 1 => if used j = false ∧ (bestS used rs j < 0 ∨ rs.getD (bestS used rs j).toNat 0 < rs.getD j 0) then j else bestS used rs j
theorem bestS_spec {used : Nat → Bool} {rs : List Int} : ∀ {j : Nat}, (bestS used rs j = -1 ∧ ∀ i, i < j → used i = true) ∨
    ∃ b : Nat, bestS used rs j = b ∧ b < j ∧ used b = false ∧ ∀ i : Nat, i < j → used i = false → i ≠ b → betR rs b i
  | 0 => .inl ⟨rfl, fun i h => by omega⟩
  | j + 1 => by
    simp only [bestS]
    rcases bestS_spec (used := used) (rs := rs) (j := j) with ⟨e, h⟩ | ⟨b, e, hb, hu, h⟩
    · rw [e]
      cases hj : used j with
      | true =>
        rw [if_neg (by simp)]
        exact .inl ⟨rfl, fun i hi => by
          by_cases e : i = j
          · rw [e]; exact hj
          · exact h i (by omega)⟩
      | false =>
        rw [if_pos (by simp)]
        exact .inr ⟨j, rfl, by omega, hj, fun i hi hu hne => by have := h i (by omega); rw [hu] at this; cases this⟩
    · rw [e, Int.toNat_natCast]
      right
      by_cases hc : used j = false ∧ ((b : Int) < 0 ∨ rs.getD b 0 < rs.getD j 0)
      · rw [if_pos hc]
        refine ⟨j, rfl, by omega, hc.1, fun i hi hui hne => ?_⟩
        have hlt : rs.getD b 0 < rs.getD j 0 := hc.2.resolve_left (by omega)
        have hjb : betR rs j b := by unfold betR; rw [Int.toNat_natCast, Int.toNat_natCast]; exact .inl hlt
        by_cases e : i = b
        · rw [e]; exact hjb
        · exact betR_trans hjb (h i (by omega) hui e)
      · rw [if_neg hc]
        refine ⟨b, rfl, by omega, hu, fun i hi hui hne => ?_⟩
        by_cases e : i = j
        · subst e
          have : ¬ (rs.getD b 0 < rs.getD i 0) := fun h => hc ⟨hui, .inr h⟩
          unfold betR; rw [Int.toNat_natCast, Int.toNat_natCast]; omega
        · exact h i (by omega) hui hne
def usedO (O : List Int) (t i : Nat) : Bool := (O.take t).any fun y => decide ((i : Int) = y)
theorem bestS_ord {rs : List Int} {n t : Nat} (ht : t < n) : bestS (usedO (ordR rs n) t) rs n = (ordR rs n).getD t 0 := by
  have hp := ordR_perm (rs := rs) (n := n)
  have hs := ordR_sorted (rs := rs) (n := n)
  have hl := ordR_len (rs := rs) (n := n)
  generalize ordR rs n = O at *
  have ho : 0 ≤ O.getD t 0 ∧ O.getD t 0 < n := upto_mem.1 (hp.mem_iff.1 (getD_mem (by omega)))
  obtain ⟨q, hq⟩ : ∃ q : Nat, O.getD t 0 = q := ⟨(O.getD t 0).toNat, by omega⟩
  have srt : ∀ i j, i < j → j < n → betR rs (O.getD i 0) (O.getD j 0) := fun i j hij hj => by
    rw [List.pairwise_iff_getElem] at hs
    have := hs i j (by omega) (by omega) hij
    simpa [List.getD, show i < O.length by omega, show j < O.length by omega] using this
  have tk : ∀ i, usedO O t i = true ↔ ∃ k, k < t ∧ O.getD k 0 = i := by
    intro i
    simp only [usedO, List.any_eq_true, decide_eq_true_eq]
    constructor
    · rintro ⟨y, hy, e⟩
      obtain ⟨k, hk, e'⟩ := mem_getD 0 hy
      rw [List.length_take] at hk
      refine ⟨k, by omega, ?_⟩
      rw [e, ← e']; simp only [List.getD, List.getElem?_take]; rw [if_pos (by omega)]
    · rintro ⟨k, hk, e⟩
      refine ⟨O.getD k 0, ?_, e.symm⟩
      rw [List.getD, List.getElem?_eq_getElem (by omega), Option.getD_some]
      exact List.mem_take_iff_getElem.2 ⟨k, by omega, rfl⟩
  have uq : usedO O t q = false := by
    cases h : usedO O t q with
    | false => rfl
    | true =>
      obtain ⟨k, hk, e⟩ := (tk q).1 h
      have := srt k t hk ht
      rw [e, hq] at this
      exact absurd this betR_irr
  rcases bestS_spec (used := usedO O t) (rs := rs) (j := n) with ⟨_, h⟩ | ⟨b, e, hb, hu, h⟩
  · rw [h q (by omega)] at uq; cases uq
  · rw [e, hq]
    by_cases hbq : q = b
    · rw [hbq]
    · have h1 := h q (by omega) uq hbq
      have hbm : (b : Int) ∈ O := hp.mem_iff.2 (upto_mem.2 ⟨by omega, by omega⟩)
      obtain ⟨k, hk, e'⟩ := mem_getD 0 hbm
      have hkt : t ≤ k := by
        refine Nat.le_of_not_lt fun hlt => ?_
        rw [(tk b).2 ⟨k, hlt, e'⟩] at hu; cases hu
      by_cases e2 : k = t
      · rw [e2, hq] at e'; exact absurd (Int.ofNat.inj e') hbq
      · have h2 := srt t k (by omega) (by omega)
        rw [e', hq] at h2
        exact absurd (betR_trans h1 h2) betR_irr

end Go.Proofs.Ytfdoddeccnjcmaa
