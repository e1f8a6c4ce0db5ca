/- Own work: contracts of functions that the claim reaches. No condition beyond those that each theorem names. -/
import Derived.Test.YtfdoddeccnjcmaaProg
import Derived.Test.YtfdoddeccnjcmaaClm
import Derived.Test.YtfdoddeccnjcmaaTable
import Derived.Test.YtfdoddeccnjcmaaGrowth
import Derived.Test.YtfdoddeccnjcmaaNewp
import Derived.Test.YtfdoddeccnjcmaaSplit
namespace Go.Proofs.Ytfdoddeccnjcmaa
open Go Go.Vc
set_option maxRecDepth 100000
set_option linter.unusedSimpArgs false
set_option linter.unusedVariables false
/-! A divisor never takes a seat. -/
/-- What a divisor's seats are like. -/
structure Div (m : Int) (cs : List Int) (n : Int) (ss : List Int) : Prop where
  len : ss.length = cs.length
  bd : ∀ x ∈ ss, 0 ≤ x ∧ x ≤ 100
  fair : Fair m cs ss
  sum : sumL ss = n
theorem okB_m {m : Int} {cs : List Int} {n : Int} (h : okB m cs n = true) : 1 ≤ m ∧ m ≤ 5 := by
  simp only [okB, inI, Bool.and_eq_true, decide_eq_true_eq] at h; exact h.1
theorem giveB_ok {m : Int} {cs : List Int} {n : Int} (hm : 1 ≤ m ∧ m ≤ 5) : giveB m cs n = okB m cs n := by unfold giveB; rw [if_neg (by omega)]
theorem giveF_ord {m : Int} {cs : List Int} {n : Int} (h : okB m cs n = true) : giveF m cs n = (ordS m cs n.toNat).2 := by
  have := okB_m h
  unfold giveF byF
  rw [if_neg (by omega), if_pos h]
theorem div_of {m : Int} {cs : List Int} {n : Int} (h : okB m cs n = true) : Div m cs n (giveF m cs n) := by
  have A := okB_ask h
  rw [giveF_ord h]
  refine ⟨ordS_len.2, fun x hx => ?_, ord_fair (okB_m h) (fun x hx => (A.bd x hx).1) A.l1 (by have := A.n0; have := A.n1; omega), ?_⟩
  · have := ordS_bd x hx
    have := A.n0
    have := A.n1
    omega
  · rw [ord_sum A.l1]; have := A.n0; omega
theorem okB_to {m : Int} {cs : List Int} {n k : Int} (h : okB m cs n = true) (h0 : 0 ≤ k) (h1 : k ≤ 100) : okB m cs k = true := by
  simp only [okB, askB, inI, Bool.and_eq_true, decide_eq_true_eq] at h ⊢
  exact ⟨h.1, h.2.1, h0, h1⟩
theorem los_none {m : Int} {cs : List Int} {n : Int} (h : okB m cs n = true) (hn : n < 100) : losF m cs n = -1 := by
  have A := okB_ask h
  have n0 := A.n0
  have hm := okB_m h
  have h' := okB_to h (k := n + 1) (by omega) (by omega)
  have ew : wrI (n + 1) = n + 1 := wrI_in (inR_of (by omega) (by omega))
  unfold losF
  rw [ew, giveB_ok hm, giveB_ok hm, if_pos ⟨h, h'⟩]
  refine firstP_no fun i hi => ?_
  unfold losP
  rw [ew, giveF_ord h, giveF_ord h', show (n + 1).toNat = n.toNat + 1 by omega]
  have hl := (ordS_len (m := m) (cs := cs) (t := n.toNat)).2
  have tb := topS_bd (m := m) (cs := cs) (ss := (ordS m cs n.toNat).2) (j := cs.length)
  have e2 : (ordS m cs (n.toNat + 1)).2 = incL (ordS m cs n.toNat).2 (topS m cs (ordS m cs n.toNat).2 cs.length) := rfl
  have l1 := A.l1
  rw [e2, incL_get (by omega)]
  simp only [decide_eq_false_iff_not]
  split <;> omega
theorem fst_none {m : Int} {cs : List Int} (h : okB m cs 0 = true) : fstF m cs 20 = -1 := by
  unfold fstF
  rw [if_pos (by decide)]
  refine firstP_no fun i hi => ?_
  have : i < 20 := hi
  unfold fstP
  rw [los_none (okB_to h (by omega) (by omega)) (by omega)]
  rfl
theorem gro_none {m : Int} {bs cs : List Int} {n : Int} (hm : 1 ≤ m ∧ m ≤ 5) : groA m bs cs n = -1 ∧ groK m bs cs n = -1 := by
  by_cases h : giveB m bs n = true ∧ giveB m cs n = true ∧ bs.length = cs.length
  · refine gro_end h fun i hi => gro_row fun k hk => ?_
    obtain ⟨h1, h2, h3⟩ := h
    rw [giveB_ok hm] at h1 h2
    have D := div_of h1
    have E := div_of h2
    have A := okB_ask h1
    have B := okB_ask h2
    unfold groP groB
    by_cases g1 : (giveF m cs n).getD i 0 < (giveF m bs n).getD i 0
    case neg => simp [g1, -List.getD_eq_getElem?_getD]
    by_cases g2 : (giveF m bs n).getD k 0 < (giveF m cs n).getD k 0
    case neg => simp [g2, -List.getD_eq_getElem?_getD]
    by_cases g3 : bs.getD i 0 ≤ cs.getD i 0
    case neg => simp [g3, -List.getD_eq_getElem?_getD]
    by_cases g4 : cs.getD k 0 ≤ bs.getD k 0
    case neg => simp [g4, -List.getD_eq_getElem?_getD]
    exfalso
    have hne : i ≠ k := by rintro rfl; omega
    have a1 := A.bd _ (getD_mem (d := 0) hi)
    have a2 := A.bd _ (getD_mem (d := 0) hk)
    have b1 := B.bd _ (getD_mem (d := 0) (show i < cs.length by omega))
    have b2 := B.bd _ (getD_mem (d := 0) (show k < cs.length by omega))
    have d1 := D.bd _ (getD_mem (d := 0) (show i < (giveF m bs n).length by rw [D.len]; exact hi))
    have d2 := D.bd _ (getD_mem (d := 0) (show k < (giveF m bs n).length by rw [D.len]; exact hk))
    have e1 := E.bd _ (getD_mem (d := 0) (show i < (giveF m cs n).length by rw [E.len]; omega))
    have e2 := E.bd _ (getD_mem (d := 0) (show k < (giveF m cs n).length by rw [E.len]; omega))
    have f1 := D.fair i k hi hk hne (by omega)
    have f2 := E.fair k i (by omega) (by omega) (Ne.symm hne) (by omega)
    have w1 := clm_trans a2.1 a2.1 b2.1 d2.1 (by omega) (show 0 ≤ (giveF m cs n).getD k 0 - 1 by omega) (by omega) (show 0 ≤ (giveF m cs n).getD k 0 - 1 by omega) (by omega) (clm_dec hm a2.1 d2.1 (by omega) (by omega)) (clm_mono b2.1 g4 (by omega) (by omega))
    have w2 := clm_trans b1.1 a1.1 a1.1 e1.1 (by omega) e1.1 (by omega) (show 0 ≤ (giveF m bs n).getD i 0 - 1 by omega) (by omega) (clm_mono a1.1 g3 (by omega) (by omega)) (clm_dec hm a1.1 e1.1 (by omega) (by omega))
    exact bt_ring a1.1 a2.1 b2.1 b1.1 (by omega) (by omega) (by omega) (by omega) (by omega) (by omega) (by omega) (by omega) f1 w1 f2 w2
  · exact gro_no h
theorem app_get_l {xs ys : List Int} {i : Nat} (h : i < xs.length) : (xs ++ ys).getD i 0 = xs.getD i 0 := by
  simp only [List.getD]; rw [List.getElem?_append_left h]
theorem take_get {xs : List Int} {i j : Nat} (h : i < j) : (xs.take j).getD i 0 = xs.getD i 0 := by
  simp only [List.getD, List.getElem?_take]; rw [if_pos h]
theorem sumN_take {xs : List Int} {j : Nat} : ∀ {k : Nat}, k ≤ j → sumN (xs.take j) k = sumN xs k
  | 0, _ => rfl
  | k + 1, h => by simp only [sumN]; rw [sumN_take (by omega), take_get (by omega)]
theorem new_none {m : Int} {cs : List Int} {n c q : Int} (hm : 1 ≤ m ∧ m ≤ 5) : newB m cs n c q = false := by
  refine Bool.eq_false_iff.2 fun h => ?_
  simp only [newB, Bool.and_eq_true, decide_eq_true_eq, Bool.not_eq_true', decide_eq_false_iff_not] at h
  obtain ⟨⟨⟨⟨⟨h1, _⟩, _⟩, h2⟩, h3⟩, h4⟩ := h
  rw [giveB_ok hm] at h1 h2
  have D := div_of h1
  have E := div_of h2
  have A := okB_ask h1
  have el := E.len
  rw [List.length_append] at el
  have el : (giveF m (cs ++ [c]) (n + q)).length = cs.length + 1 := by simpa using el
  refine h4 (fair_uniq hm (fun x hx => (A.bd x hx).1) D.bd (fun x hx => E.bd x (List.mem_of_mem_take hx)) D.len (by rw [List.length_take]; omega) D.fair (fun i k hi hk hne h1 => ?_) ?_)
  · rw [take_get hi] at h1 ⊢
    rw [take_get hk]
    have := E.fair i k (by simp; omega) (by simp; omega) hne h1
    rwa [app_get_l hi, app_get_l hk] at this
  · have s2 := E.sum
    unfold sumL at s2
    rw [el] at s2
    simp only [sumN] at s2
    rw [h3] at s2
    have : sumL ((giveF m (cs ++ [c]) (n + q)).take cs.length) = sumN (giveF m (cs ++ [c]) (n + q)) cs.length := by
      unfold sumL
      rw [List.length_take, el, Nat.min_eq_left (by omega), sumN_take (Nat.le_refl _)]
    rw [D.sum, this]; omega
/-- The party of the last seat. -/
def lastP (m : Int) (cs : List Int) (n : Int) : Nat := ((orderF m cs n).getD (n.toNat - 1) 0).toNat
def tiedB (m : Int) (cs : List Int) (n : Int) : Bool := okB m cs n && decide (n ≠ 0) && (List.range cs.length).any fun i => decide (i ≠ lastP m cs n) && decide (clmS m (cs.getD i 0) ((giveF m cs n).getD i 0) (cs.getD (lastP m cs n) 0) ((giveF m cs n).getD (lastP m cs n) 0 - 1) = 0)
/-- The last seat's claim is the least. -/
theorem last_least {m : Int} {cs : List Int} {n : Int} (h : okB m cs n = true) (hn : 0 < n) : lastP m cs n < cs.length ∧ 1 ≤ (giveF m cs n).getD (lastP m cs n) 0 ∧ ∀ j, j < cs.length → 1 ≤ (giveF m cs n).getD j 0 → 0 ≤ clmS m (cs.getD j 0) ((giveF m cs n).getD j 0 - 1) (cs.getD (lastP m cs n) 0) ((giveF m cs n).getD (lastP m cs n) 0 - 1) := by
  have A := okB_ask h
  have l1 := A.l1
  have n1 := A.n1
  have hm := okB_m h
  obtain ⟨t, rfl⟩ : ∃ t : Nat, n = (t + 1 : Nat) := ⟨n.toNat - 1, by omega⟩
  have hl := (ordS_len (m := m) (cs := cs) (t := t)).2
  have hb := ordS_bd (m := m) (cs := cs) (t := t)
  have tb := topS_bd (m := m) (cs := cs) (ss := (ordS m cs t).2) (j := cs.length)
  have e2 : giveF m cs ((t + 1 : Nat) : Int) = incL (ordS m cs t).2 (topS m cs (ordS m cs t).2 cs.length) := giveF_ord h
  have e3 : lastP m cs ((t + 1 : Nat) : Int) = (topS m cs (ordS m cs t).2 cs.length).toNat := by
    unfold lastP orderF
    rw [if_pos h, Int.toNat_natCast, ordS_get (by omega)]; rfl
  have F := ord_fair (m := m) hm (fun x hx => (A.bd x hx).1) l1 (t := t) (by omega)
  rw [e2, e3]
  generalize topS m cs (ordS m cs t).2 cs.length = b at *
  generalize (ordS m cs t).2 = ss at *
  have hb' : b.toNat < ss.length := by omega
  have b1 := hb _ (getD_mem (d := 0) hb')
  rw [incL_get hb', if_pos rfl, Int.add_sub_cancel]
  refine ⟨by omega, by omega, fun j hj h1 => ?_⟩
  rw [incL_get hb'] at h1 ⊢
  by_cases e : j = b.toNat
  · rw [if_pos e, Int.add_sub_cancel, e, clm_refl]; exact Int.le_refl _
  · rw [if_neg e] at h1 ⊢
    exact bt_ge (F j b.toNat hj (by omega) e h1)
/-- A tie with the least claim. -/
theorem tied_of {m : Int} {cs : List Int} {n : Int} (h : okB m cs n = true) (hn : 0 < n) {i k : Nat} (hi : i < cs.length) (hk : k < cs.length) (hik : i ≠ k) (hc : 0 < cs.getD i 0) (h1 : 1 ≤ (giveF m cs n).getD k 0)
    (he : clmS m (cs.getD k 0) ((giveF m cs n).getD k 0 - 1) (cs.getD i 0) ((giveF m cs n).getD i 0) = 0) : tiedB m cs n = true := by
  obtain ⟨l1, l2, l3⟩ := last_least h hn
  have A := okB_ask h
  have D := div_of h
  have hm := okB_m h
  have c1 := A.bd _ (getD_mem (d := 0) hi)
  have c2 := A.bd _ (getD_mem (d := 0) hk)
  have c3 := A.bd _ (getD_mem (d := 0) l1)
  have s1 := D.bd _ (getD_mem (d := 0) (show i < (giveF m cs n).length by rw [D.len]; exact hi))
  have s2 := D.bd _ (getD_mem (d := 0) (show k < (giveF m cs n).length by rw [D.len]; exact hk))
  have s3 := D.bd _ (getD_mem (d := 0) (show lastP m cs n < (giveF m cs n).length by rw [D.len]; exact l1))
  have m1 := l3 k hk h1
  have ne : i ≠ lastP m cs n := fun e => by
    -- the last seat of i has more than its next one, which is as much as that of k
    rw [← e] at m1 l2
    have b1 := clm_less hm hc (show 0 ≤ (giveF m cs n).getD i 0 - 1 by omega) (show (giveF m cs n).getD i 0 - 1 < (giveF m cs n).getD i 0 by omega) s1.2
    have e1 := clm_anti (m := m) (x := cs.getD k 0) (a := (giveF m cs n).getD k 0 - 1) (y := cs.getD i 0) (b := (giveF m cs n).getD i 0)
    have e2 := clm_anti (m := m) (x := cs.getD i 0) (a := (giveF m cs n).getD i 0 - 1) (y := cs.getD i 0) (b := (giveF m cs n).getD i 0)
    have := clm_trans c1.1 c2.1 c1.1 s1.1 (by omega) (show 0 ≤ (giveF m cs n).getD k 0 - 1 by omega) (by omega) (show 0 ≤ (giveF m cs n).getD i 0 - 1 by omega) (by omega) (by omega) m1
    omega
  have f1 := bt_ge (D.fair (lastP m cs n) i l1 hi (Ne.symm ne) l2)
  have e1 := clm_anti (m := m) (x := cs.getD k 0) (a := (giveF m cs n).getD k 0 - 1) (y := cs.getD i 0) (b := (giveF m cs n).getD i 0)
  have m2 := clm_trans c1.1 c2.1 c3.1 s1.1 (by omega) (show 0 ≤ (giveF m cs n).getD k 0 - 1 by omega) (by omega) (show 0 ≤ (giveF m cs n).getD (lastP m cs n) 0 - 1 by omega) (by omega) (by omega) m1
  have e2 := clm_anti (m := m) (x := cs.getD i 0) (a := (giveF m cs n).getD i 0) (y := cs.getD (lastP m cs n) 0) (b := (giveF m cs n).getD (lastP m cs n) 0 - 1)
  unfold tiedB
  simp only [Bool.and_eq_true, decide_eq_true_eq, List.any_eq_true, List.mem_range]
  exact ⟨⟨h, by omega⟩, i, hi, ne, by omega⟩
theorem clm5 {x a y b : Int} (x0 : 0 ≤ x) (y0 : 0 ≤ y) (a0 : 0 ≤ a) (a1 : a ≤ 100) (b0 : 0 ≤ b) (b1 : b ≤ 100) : 0 ≤ clmS 5 x a y b ↔ y * (a + 1) ≤ x * (b + 1) := by
  rw [clm_ge x0 y0 a0 a1 b0 b1]
  have p : ∀ z : Int, postP 5 z = z + 1 := fun z => by simp [postP]
  have t : ∀ w z : Int, topC 5 w z = w := fun w z => by simp [topC, postQ]
  rw [p, p, t, t]
  have h1 : 0 < y → 0 < y * (a + 1) := fun h => Int.mul_pos h (by omega)
  have h2 : x = 0 → x * (b + 1) = 0 := fun h => by rw [h]; simp
  have h3 : y = 0 → y * (a + 1) = 0 := fun h => by rw [h]; simp
  have h4 := Int.mul_nonneg x0 (show 0 ≤ b + 1 by omega)
  generalize y * (a + 1) = L at *
  generalize x * (b + 1) = R at *
  omega
theorem clm1 {x a y b : Int} (x0 : 0 ≤ x) (y0 : 0 < y) (a0 : 0 ≤ a) (a1 : a ≤ 100) (b0 : 0 ≤ b) (b1 : b ≤ 100) (hb : 0 < b) (h : 0 ≤ clmS 1 x a y b) : 0 < x ∧ y * a ≤ x * b := by
  rw [clm_ge x0 (by omega) a0 a1 b0 b1] at h
  have p : ∀ z : Int, postP 1 z = z := fun z => by simp [postP]
  have t : ∀ w z : Int, topC 1 w z = w := fun w z => by simp [topC, postQ]
  rw [p, p, t, t] at h
  have h4 := Int.mul_nonneg x0 b0
  have h5 : a = 0 → y * a = 0 := fun h => by rw [h]; simp
  generalize y * a = L at *
  generalize x * b = R at *
  omega
/-- With a party parted: the seats of both parts, and of a third one. -/
theorem split_third {cs ss uu : List Int} {a : Nat} {n : Int} (ha : a < cs.length) (ls : ss.length = cs.length) (lu : uu.length = cs.length + 1) (e1 : sumL ss = n) (e2 : sumL uu = n) :
    (ss.getD a 0 < uu.getD a 0 + uu.getD cs.length 0 → ∃ k, k < cs.length ∧ k ≠ a ∧ uu.getD k 0 < ss.getD k 0) ∧ (uu.getD a 0 + uu.getD cs.length 0 < ss.getD a 0 → ∃ k, k < cs.length ∧ k ≠ a ∧ ss.getD k 0 < uu.getD k 0) := by
  unfold sumL at e1 e2
  rw [ls] at e1
  rw [lu] at e2
  simp only [sumN] at e2
  constructor
  · intro h
    refine Classical.byContradiction fun hno => ?_
    have := sum_other (xs := ss) (ys := uu) (i := a) (j := cs.length) fun k hk hne => Int.not_lt.1 fun h => hno ⟨k, hk, hne, h⟩
    rw [if_pos ha, if_pos ha] at this
    omega
  · intro h
    refine Classical.byContradiction fun hno => ?_
    have := sum_other (xs := uu) (ys := ss) (i := a) (j := cs.length) fun k hk hne => Int.not_lt.1 fun h => hno ⟨k, hk, hne, h⟩
    rw [if_pos ha, if_pos ha] at this
    omega
theorem splt_get {cs : List Int} {a : Nat} {p : Int} (ha : a < cs.length) : (spltL cs a p).getD a 0 = p ∧ (spltL cs a p).getD cs.length 0 = cs.getD a 0 - p ∧ ∀ k, k < cs.length → k ≠ a → (spltL cs a p).getD k 0 = cs.getD k 0 := by
  unfold spltL
  rw [Int.toNat_natCast]
  refine ⟨?_, ?_, fun k hk hne => ?_⟩
  · simp only [List.getD]
    rw [List.getElem?_set_self (by simp; omega)]; rfl
  · simp only [List.getD]
    rw [List.getElem?_set_ne (by omega), List.getElem?_append_right (Nat.le_refl _)]
    simp
  · simp only [List.getD]
    rw [List.getElem?_set_ne (fun e => hne e.symm), List.getElem?_append_left hk]
/-- By Jefferson no split gains, but by a tie. -/
theorem split_jeff {cs : List Int} {n : Int} {a : Nat} {p : Int} (h : okB 5 cs n = true) (hn : 0 < n) (hs : splB 5 cs n a p = true) (hx : 0 < splV 5 cs n a p) : tiedB 5 cs n = true := by
  have hg := splt_give hs
  have hs' := hs
  rw [giveB_ok (by omega)] at hg
  simp only [splB, inI, Bool.and_eq_true, decide_eq_true_eq, Int.toNat_natCast] at hs
  obtain ⟨⟨⟨_, hi⟩, _⟩, hp⟩ := hs
  have ha : a < cs.length := by omega
  have D := div_of h
  have E := div_of hg
  have A := okB_ask h
  have B := okB_ask hg
  have el := E.len
  rw [splt_len] at el
  unfold splV at hx
  rw [if_pos hs', Int.toNat_natCast] at hx
  obtain ⟨g1, g2, g3⟩ := splt_get (cs := cs) (p := p) ha
  obtain ⟨k, hk, hka, hlt⟩ := (split_third ha D.len el D.sum E.sum).1 (by omega)
  have ca := A.bd _ (getD_mem (d := 0) ha)
  have ck := A.bd _ (getD_mem (d := 0) hk)
  have sa := D.bd _ (getD_mem (d := 0) (show a < (giveF 5 cs n).length by rw [D.len]; exact ha))
  have sk := D.bd _ (getD_mem (d := 0) (show k < (giveF 5 cs n).length by rw [D.len]; exact hk))
  have ua := E.bd _ (getD_mem (d := 0) (show a < (giveF 5 (spltL cs a p) n).length by rw [el]; omega))
  have uk := E.bd _ (getD_mem (d := 0) (show k < (giveF 5 (spltL cs a p) n).length by rw [el]; omega))
  have ul := E.bd _ (getD_mem (d := 0) (show cs.length < (giveF 5 (spltL cs a p) n).length by rw [el]; omega))
  have fE := fun i (hi : i < cs.length + 1) (hne : i ≠ k) (h1 : 1 ≤ (giveF 5 (spltL cs a p) n).getD i 0) => bt_ge (E.fair i k (by rw [splt_len]; exact hi) (by rw [splt_len]; omega) hne h1)
  have fD := bt_ge (D.fair k a hk ha hka (by omega))
  have f1 := fE a (by omega) (Ne.symm hka)
  have f2 := fE cs.length (by omega) (by omega)
  rw [g1, g3 k hk hka] at f1
  rw [g2, g3 k hk hka] at f2
  have key : clmS 5 (cs.getD k 0) ((giveF 5 cs n).getD k 0 - 1) (cs.getD a 0) ((giveF 5 cs n).getD a 0) = 0 ∧ 0 < cs.getD a 0 := by
    have zk : 0 < cs.getD k 0 := by
      obtain ⟨j, hj, hpj⟩ := sum_pos_ex A.pos
      exact fair_zero (fun x hx => (A.bd x hx).1) D.fair hk hj hpj (by omega)
    generalize cs.getD a 0 = c at *
    generalize cs.getD k 0 = d at *
    generalize (giveF 5 cs n).getD a 0 = s at *
    generalize (giveF 5 cs n).getD k 0 = t at *
    generalize (giveF 5 (spltL cs a p) n).getD a 0 = u at *
    generalize (giveF 5 (spltL cs a p) n).getD k 0 = w at *
    generalize (giveF 5 (spltL cs a p) n).getD cs.length 0 = v at *
    have e1 : d * u ≤ p * t := by
      by_cases h0 : 1 ≤ u
      · have := (clm5 hp.1 ck.1 (by omega) (by omega) uk.1 (by omega)).1 (f1 h0)
        have h3 := Int.mul_le_mul_of_nonneg_left (show w + 1 ≤ t by omega) hp.1
        rw [Int.sub_add_cancel] at this
        omega
      · have : u = 0 := by omega
        rw [this, Int.mul_zero]; exact Int.mul_nonneg hp.1 (by omega)
    have e2 : d * v ≤ (c - p) * t := by
      by_cases h0 : 1 ≤ v
      · have := (clm5 (show 0 ≤ c - p by omega) ck.1 (by omega) (by omega) uk.1 (by omega)).1 (f2 h0)
        have h3 := Int.mul_le_mul_of_nonneg_left (show w + 1 ≤ t by omega) (show 0 ≤ c - p by omega)
        rw [Int.sub_add_cancel] at this
        omega
      · have : v = 0 := by omega
        rw [this, Int.mul_zero]; exact Int.mul_nonneg (by omega) (by omega)
    have e3 := (clm5 ck.1 ca.1 (show 0 ≤ t - 1 by omega) (by omega) sa.1 (by omega)).1 fD
    rw [Int.sub_add_cancel] at e3
    have e4 : d * (s + 1) ≤ c * t := by
      have h3 := Int.mul_le_mul_of_nonneg_left (show s + 1 ≤ u + v by omega) ck.1
      grind
    have e5 := (clm5 ca.1 ck.1 sa.1 (by omega) (show 0 ≤ t - 1 by omega) (by omega)).2 (by rw [Int.sub_add_cancel]; exact e4)
    have e6 := clm_anti (m := 5) (x := c) (a := s) (y := d) (b := t - 1)
    refine ⟨by omega, ?_⟩
    refine Int.not_le.1 fun hc => ?_
    have : c = 0 := by omega
    rw [this, Int.zero_mul] at e4
    have := Int.mul_pos zk (show 0 < s + 1 by omega)
    omega
  exact tied_of h hn ha hk (Ne.symm hka) key.2 (by omega) key.1
theorem sumN_le1 {xs : List Int} (h : ∀ j, j < xs.length → xs.getD j 0 ≤ 1) : ∀ {j : Nat}, j ≤ xs.length → sumN xs j ≤ j
  | 0, _ => by simp [sumN]
  | j + 1, hj => by
    have h1 := sumN_le1 h (j := j) (by omega)
    have h2 := h j (by omega)
    simp only [sumN]; omega
/-- By Adams all get a seat if there are enough. -/
theorem adams_one {cs : List Int} {n : Int} (h : okB 1 cs n = true) (hn : (cs.length : Int) ≤ n) {k : Nat} (hk : k < cs.length) (hc : 0 < cs.getD k 0) : 1 ≤ (giveF 1 cs n).getD k 0 := by
  have D := div_of h
  have A := okB_ask h
  refine Int.not_lt.1 fun hlt => ?_
  have sk := D.bd _ (getD_mem (d := 0) (show k < (giveF 1 cs n).length by rw [D.len]; exact hk))
  have z : (giveF 1 cs n).getD k 0 = 0 := by omega
  have all : ∀ j, j < (giveF 1 cs n).length → (giveF 1 cs n).getD j 0 ≤ 1 := fun j hj => by
    rw [D.len] at hj
    have sj := D.bd _ (getD_mem (d := 0) (show j < (giveF 1 cs n).length by rw [D.len]; exact hj))
    refine Int.not_lt.1 fun h2 => ?_
    have hne : j ≠ k := by rintro rfl; omega
    have f := bt_ge (D.fair j k hj hk hne (by omega))
    have cj := A.bd _ (getD_mem (d := 0) hj)
    rw [z, clm_ge cj.1 (by omega) (by omega) (by omega) (by omega) (by omega)] at f
    have p : ∀ z : Int, postP 1 z = z := fun z => by simp [postP]
    rw [p, p] at f
    omega
  have hs := D.sum
  have hl := D.len
  have o := sum_other (xs := giveF 1 cs n) (ys := List.replicate cs.length 1) (i := k) (j := cs.length) (fun j hj _ => by
    have := all j (by omega)
    have e : (List.replicate cs.length (1 : Int)).getD j 0 = 1 := by simp [List.getD, hj]
    omega)
  rw [if_pos hk, if_pos hk] at o
  have e : (List.replicate cs.length (1 : Int)).getD k 0 = 1 := by simp [List.getD, hk]
  have o2 := sumN_le1 (xs := List.replicate cs.length 1) (fun j hj => by
    have : j < cs.length := by simpa using hj
    have e : (List.replicate cs.length (1 : Int)).getD j 0 = 1 := by simp [List.getD, this]
    omega) (j := cs.length) (by simp)
  unfold sumL at hs
  rw [hl] at hs
  omega
/-- By Adams no split loses, but by a tie. -/
theorem split_adams {cs : List Int} {n : Int} {a : Nat} {p : Int} (h : okB 1 cs n = true) (hn : 6 ≤ n) (hs : splB 1 cs n a p = true) (hx : splV 1 cs n a p < 0) : tiedB 1 cs n = true := by
  have hg := splt_give hs
  have hs' := hs
  rw [giveB_ok (by omega)] at hg
  simp only [splB, inI, Bool.and_eq_true, decide_eq_true_eq, Int.toNat_natCast] at hs
  obtain ⟨⟨⟨_, hi⟩, _⟩, hp⟩ := hs
  have ha : a < cs.length := by omega
  have D := div_of h
  have E := div_of hg
  have A := okB_ask h
  have B := okB_ask hg
  have el := E.len
  rw [splt_len] at el
  unfold splV at hx
  rw [if_pos hs', Int.toNat_natCast] at hx
  obtain ⟨g1, g2, g3⟩ := splt_get (cs := cs) (p := p) ha
  obtain ⟨k, hk, hka, hlt⟩ := (split_third ha D.len el D.sum E.sum).2 (by omega)
  have ca := A.bd _ (getD_mem (d := 0) ha)
  have ck := A.bd _ (getD_mem (d := 0) hk)
  have sa := D.bd _ (getD_mem (d := 0) (show a < (giveF 1 cs n).length by rw [D.len]; exact ha))
  have sk := D.bd _ (getD_mem (d := 0) (show k < (giveF 1 cs n).length by rw [D.len]; exact hk))
  have ua := E.bd _ (getD_mem (d := 0) (show a < (giveF 1 (spltL cs a p) n).length by rw [el]; omega))
  have uk := E.bd _ (getD_mem (d := 0) (show k < (giveF 1 (spltL cs a p) n).length by rw [el]; omega))
  have ul := E.bd _ (getD_mem (d := 0) (show cs.length < (giveF 1 (spltL cs a p) n).length by rw [el]; omega))
  have zk : 0 < cs.getD k 0 := by
    obtain ⟨j, hj, hpj⟩ := sum_pos_ex B.pos
    have := fair_zero (fun x hx => (B.bd x hx).1) E.fair (i := k) (by rw [splt_len]; omega) hj hpj (by omega)
    rwa [g3 k hk hka] at this
  have za : 0 < cs.getD a 0 := by
    obtain ⟨j, hj, hpj⟩ := sum_pos_ex A.pos
    exact fair_zero (fun x hx => (A.bd x hx).1) D.fair ha hj hpj (by omega)
  have l6 := A.l6
  have l6' := B.l6
  rw [splt_len] at l6'
  have k1 := adams_one h (by omega) hk zk
  have fE := fun i (hi : i < cs.length + 1) (hne : k ≠ i) => bt_ge (E.fair k i (by rw [splt_len]; omega) (by rw [splt_len]; exact hi) hne (by omega))
  have fD := bt_ge (D.fair a k ha hk (Ne.symm hka) (by omega))
  have f1 := fE a (by omega) hka
  have f2 := fE cs.length (by omega) (by omega)
  have o1 := fun hc => adams_one hg (by rw [splt_len]; omega) (k := a) (by rw [splt_len]; omega) hc
  have o2 := fun hc => adams_one hg (by rw [splt_len]; omega) (k := cs.length) (by rw [splt_len]; omega) hc
  rw [g1, g3 k hk hka] at f1
  rw [g2, g3 k hk hka] at f2
  rw [g1] at o1
  rw [g2] at o2
  have key : clmS 1 (cs.getD a 0) ((giveF 1 cs n).getD a 0 - 1) (cs.getD k 0) ((giveF 1 cs n).getD k 0) = 0 := by
    generalize cs.getD a 0 = c at *
    generalize cs.getD k 0 = d at *
    generalize (giveF 1 cs n).getD a 0 = s at *
    generalize (giveF 1 cs n).getD k 0 = t at *
    generalize (giveF 1 (spltL cs a p) n).getD a 0 = u at *
    generalize (giveF 1 (spltL cs a p) n).getD k 0 = w at *
    generalize (giveF 1 (spltL cs a p) n).getD cs.length 0 = v at *
    have e1 : p * t ≤ d * u := by
      by_cases h0 : 0 < p
      · have h1 := o1 h0
        have := (clm1 ck.1 h0 (show 0 ≤ w - 1 by omega) (by omega) ua.1 (by omega) (by omega) f1).2
        have h3 := Int.mul_le_mul_of_nonneg_left (show t ≤ w - 1 by omega) hp.1
        omega
      · have : p = 0 := by omega
        rw [this, Int.zero_mul]; exact Int.mul_nonneg ck.1 ua.1
    have e2 : (c - p) * t ≤ d * v := by
      by_cases h0 : 0 < c - p
      · have h1 := o2 h0
        have := (clm1 ck.1 h0 (show 0 ≤ w - 1 by omega) (by omega) ul.1 (by omega) (by omega) f2).2
        have h3 := Int.mul_le_mul_of_nonneg_left (show t ≤ w - 1 by omega) (show 0 ≤ c - p by omega)
        omega
      · have : c - p = 0 := by omega
        rw [this, Int.zero_mul]; exact Int.mul_nonneg ck.1 ul.1
    have e3 : 1 ≤ u + v := by
      by_cases h0 : 0 < p
      · have := o1 h0; omega
      · have := o2 (by omega); omega
    have e4 : c * t ≤ d * (s - 1) := by
      have h3 := Int.mul_le_mul_of_nonneg_left (show u + v ≤ s - 1 by omega) ck.1
      grind
    have p1 : ∀ z : Int, postP 1 z = z := fun z => by simp [postP]
    have t1 : ∀ w z : Int, topC 1 w z = w := fun w z => by simp [topC, postQ]
    have e5 : 0 ≤ clmS 1 d t c (s - 1) := by
      rw [clm_ge ck.1 ca.1 sk.1 (by omega) (by omega) (by omega), p1, p1, t1, t1]
      exact .inr ⟨zk, za, .inr ⟨by omega, by omega, e4⟩⟩
    have e6 := clm_anti (m := 1) (x := c) (a := s - 1) (y := d) (b := t)
    omega
  exact tied_of h (by omega) hk ha hka zk (by omega) key

end Go.Proofs.Ytfdoddeccnjcmaa
