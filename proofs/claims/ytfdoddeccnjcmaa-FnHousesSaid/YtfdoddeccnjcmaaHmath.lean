/- Own work: contracts of functions that the claim reaches. No condition beyond those that each theorem names. -/
import Derived.Test.YtfdoddeccnjcmaaProg
import Derived.Test.YtfdoddeccnjcmaaCore2
import Derived.Test.YtfdoddeccnjcmaaBlocking
import Derived.Test.YtfdoddeccnjcmaaUnimp
namespace Go.Proofs.Ytfdoddeccnjcmaa
open Go Go.Vc
set_option maxRecDepth 100000
set_option linter.unusedSimpArgs false
set_option linter.unusedVariables false
/-! Exchanges of houses: what the functions say of exchanges as maps. -/
section
variable {ls : List (List Int)} {n : Nat}
/-- Does i like a better than b? -/
def Pf (ls : List (List Int)) (i a b : Nat) : Prop := prefB (ls.getD i []) (a : Int) (b : Int) = true
/-- A list as a map. -/
def mp (z : List Int) (i : Nat) : Nat := (z.getD i 0).toNat
theorem mp_get {z : List Int} (hz : rankB n z = true) {i : Nat} (hi : i < n) : (mp z i : Int) = z.getD i 0 := by
  have h := rank_len hz
  have := rank_bd hz (i := i) (by omega)
  unfold mp; omega
theorem mp_lt {z : List Int} (hz : rankB n z = true) {i : Nat} (hi : i < n) : mp z i < n := by
  have h := rank_len hz
  have := rank_bd hz (i := i) (by omega)
  unfold mp; omega
theorem mp_inj {z : List Int} (hz : rankB n z = true) {i j : Nat} (hi : i < n) (hj : j < n) (e : mp z i = mp z j) : i = j := by
  have h := rank_len hz
  have h1 := mp_get hz hi
  have h2 := mp_get hz hj
  exact nodup_inj (rank_nodup hz) (by omega) (by omega) (by rw [← h1, ← h2, e])
theorem getD_eq {x y : List Int} (hl : x.length = y.length) (h : ∀ i, i < x.length → x.getD i 0 = y.getD i 0) : x = y := by
  refine List.ext_getElem hl fun i h1 h2 => ?_
  have := h i h1
  simpa [List.getD, h1, h2] using this
theorem mp_ext {x z : List Int} (hx : rankB n x = true) (hz : rankB n z = true) (h : ∀ i, i < n → mp x i = mp z i) : x = z := by
  have h1 := rank_len hx
  have h2 := rank_len hz
  refine getD_eq (by omega) fun i hi => ?_
  rw [← mp_get hx (i := i) (by omega), ← mp_get hz (i := i) (by omega), h i (by omega)]
/-- A map as a list. -/
def asL (n : Nat) (w : Nat → Nat) : List Int := (List.range n).map fun i => (w i : Int)
theorem asL_len {w : Nat → Nat} : (asL n w).length = n := by simp [asL]
theorem asL_get {w : Nat → Nat} {i : Nat} (hi : i < n) : (asL n w).getD i 0 = w i := by simp [asL, List.getD, hi]
theorem asL_mp {w : Nat → Nat} {i : Nat} (hi : i < n) : mp (asL n w) i = w i := by unfold mp; rw [asL_get hi]; rfl
theorem asL_rank {w : Nat → Nat} (h1 : 1 ≤ n) (h5 : n ≤ 5) (hw : ∀ i, i < n → w i < n) (hi : ∀ i j, i < n → j < n → w i = w j → i = j) : rankB n (asL n w) = true := by
  have hn : (asL n w).Nodup := nodup_getD fun i j hij hj => by
    rw [asL_len] at hj
    rw [asL_get (by omega), asL_get hj]
    intro e
    have := hi i j (by omega) hj (by omega)
    omega
  refine rank_of_perm h1 h5 (perm_of_sub hn (fun x hx => ?_) (by rw [upto_len, asL_len]; exact Nat.le_refl _))
  obtain ⟨i, hi, rfl⟩ := List.mem_map.1 hx
  have := hw i (List.mem_range.1 hi)
  exact mem_upto.2 ⟨by omega, by omega⟩
theorem P_irr {i a : Nat} : ¬ Pf ls i a a := fun h => by
  unfold Pf at h
  rw [pref_self] at h; cases h
theorem P_asym {i a b : Nat} (h : Pf ls i a b) : ¬ Pf ls i b a := fun h2 => by
  unfold Pf at h h2
  simp only [prefB, Bool.and_eq_true, decide_eq_true_eq] at h h2
  omega
theorem P_tot (H : Hs ls n) (i a b : Nat) (hi : i < n) (ha : a < n) (hb : b < n) : Pf ls i a b ∨ a = b ∨ Pf ls i b a := by
  rcases pref_tot (H.rk i hi) (a := (a : Int)) (b := (b : Int)) ⟨by omega, by omega⟩ ⟨by omega, by omega⟩ with h | h | h
  · exact .inl h
  · exact .inr (.inl (by omega))
  · exact .inr (.inr h)
/-- No exchange improves it. -/
theorem unimpr_iff {z : List Int} (H : Hs ls n) (hz : rankB n z = true) : unimprB ls z n = true ↔ ∀ w : Nat → Nat, (∀ i, i < n → w i < n) → (∀ i j, i < n → j < n → w i = w j → i = j) → (∀ i, i < n → ¬ Pf ls i (mp z i) (w i)) → ∀ i, i < n → w i = mp z i := by
  have hu : ∀ k, k < n → ((upto n).getD k 0).toNat = k := fun k hk => by rw [upto_getD hk]; rfl
  unfold unimprB
  rw [Bool.not_eq_true', List.any_eq_false]
  constructor
  · intro h w hw winj hno i hi
    have hr := asL_rank H.n1 H.n5 hw winj
    refine Classical.byContradiction fun hne => h _ (rank_allRank hr) ?_
    unfold imprI
    rw [Bool.and_eq_true, upto_len]
    refine ⟨all_range fun k hk => ?_, anyR_iff.2 ⟨i, hi, ?_⟩⟩
    · have := hno k hk
      unfold Pf at this
      rw [mp_get hz hk] at this
      unfold worseI
      rw [hu k hk, asL_get hk]
      simpa [-List.getD_eq_getElem?_getD] using this
    · unfold newI
      rw [hu i hi, asL_get hi, ← mp_get hz hi]
      simp; omega
  · intro h o ho hI
    have hr : rankB n o = true := allRank_rank ho
    unfold imprI at hI
    rw [Bool.and_eq_true, upto_len] at hI
    obtain ⟨h1, h2⟩ := hI
    rw [all_range_iff] at h1
    obtain ⟨i, hi, h3⟩ := anyR_iff.1 h2
    have := h (mp o) (fun i hi => mp_lt hr hi) (fun i j hi hj e => mp_inj hr hi hj e) (fun i hi hp => by
      have := h1 i hi
      unfold worseI at this
      rw [hu i hi] at this
      unfold Pf at hp
      rw [mp_get hz hi, mp_get hr hi] at hp
      rw [hp] at this; cases this) i hi
    unfold newI at h3
    rw [hu i hi, ← mp_get hr hi, ← mp_get hz hi, this] at h3
    simp at h3
/-- The number of a set of five. -/
def setN (T : Nat → Bool) : Int := (if T 0 then 1 else 0) + (if T 1 then 2 else 0) + (if T 2 then 4 else 0) + (if T 3 then 8 else 0) + (if T 4 then 16 else 0)
theorem setN_bit {T : Nat → Bool} {i : Nat} (hi : i < 5) : bitI (setN T) i = T i := by
  have key : ∀ a b c d e : Bool, ∀ i : Fin 5, bitI ((if a then 1 else 0) + (if b then 2 else 0) + (if c then 4 else 0) + (if d then 8 else 0) + (if e then 16 else 0)) i.val = [a, b, c, d, e].getD i.val false := by decide
  have h := key (T 0) (T 1) (T 2) (T 3) (T 4) ⟨i, hi⟩
  unfold setN; rw [h]
  have : i = 0 ∨ i = 1 ∨ i = 2 ∨ i = 3 ∨ i = 4 := by omega
  rcases this with rfl | rfl | rfl | rfl | rfl <;> rfl
theorem setN_bd {T : Nat → Bool} (h5 : n ≤ 5) (hT : ∀ i, n ≤ i → T i = false) : 0 ≤ setN T ∧ setN T < 2 ^ n := by
  have key : ∀ n : Fin 6, ∀ a b c d e : Bool, (∀ i : Fin 5, n.val ≤ i.val → [a, b, c, d, e].getD i.val false = false) → 0 ≤ (if a then (1 : Int) else 0) + (if b then 2 else 0) + (if c then 4 else 0) + (if d then 8 else 0) + (if e then 16 else 0) ∧ (if a then (1 : Int) else 0) + (if b then 2 else 0) + (if c then 4 else 0) + (if d then 8 else 0) + (if e then 16 else 0) < 2 ^ n.val := by decide
  refine key ⟨n, by omega⟩ (T 0) (T 1) (T 2) (T 3) (T 4) fun i hi => ?_
  have := hT i.val hi
  obtain ⟨i, h⟩ := i
  have : i = 0 ∨ i = 1 ∨ i = 2 ∨ i = 3 ∨ i = 4 := by omega
  rcases this with rfl | rfl | rfl | rfl | rfl <;> assumption
theorem firstOf_zero {p : Int → Bool} : ∀ {k : Nat} {s : Int}, 1 ≤ s → (firstOf p k s = 0 ↔ ∀ j : Nat, j < k → p (s + j) = false)
  | 0, s, _ => by simp [firstOf]
  | k + 1, s, hs => by
    by_cases h : p s = true
    · rw [firstOf_hit (by omega) h]
      constructor
      · intro e; omega
      · intro e
        have := e 0 (by omega)
        rw [Int.natCast_zero, Int.add_zero, h] at this; cases this
    · have h : p s = false := by simpa using h
      rw [firstOf_miss (by omega) h, Nat.add_sub_cancel, firstOf_zero (by omega)]
      constructor
      · intro e j hj
        cases j with
        | zero => simpa using h
        | succ j => have := e j (by omega); rw [show s + ((j + 1 : Nat) : Int) = s + 1 + j by omega]; exact this
      · intro e j hj
        have := e (j + 1) (by omega)
        rw [show s + ((j + 1 : Nat) : Int) = s + 1 + j by omega] at this; exact this
/-- No set of owners can do better. -/
theorem blk_zero {z : List Int} (hh : housesB ls = true) (hz : rankB ls.length z = true) : blkF ls z = 0 ↔ ∀ (T : Nat → Bool) (o : List Int), (∀ i, ls.length ≤ i → T i = false) → rankB ls.length o = true → (∀ i, i < ls.length → T i = true → T (mp o i) = true) → (∀ i, i < ls.length → T i = true → ¬ Pf ls i (mp z i) (mp o i)) → ∀ i, i < ls.length → T i = true → ¬ Pf ls i (mp o i) (mp z i) := by
  have H := hs_of hh
  have h5 := H.n5
  have p2 := pow2n h5
  have hle : ∀ s : Int, 0 ≤ s → s < 2 ^ ls.length → (blkI ls z s = false ↔ ∀ o, rankB ls.length o = true → ¬ (ownB o s = true ∧ imprS ls z o s ls.length = true)) := fun s s0 s1 => by
    rw [← blk_eq H hz s0 s1]
    unfold blkS
    rw [List.any_eq_false]
    constructor
    · intro h o ho hc
      exact h o (rank_allRank ho) (by rw [hc.1, hc.2]; rfl)
    · intro h o ho hc
      rw [Bool.and_eq_true] at hc
      exact h o (allRank_rank ho) hc
  unfold blkF
  rw [if_pos (by simp [exchB, hh, hz]), firstOf_zero (by omega)]
  constructor
  · intro h T o hT ho own now i hi hTi hP
    have b := setN_bd h5 hT
    have bit : ∀ k, k < ls.length → bitI (setN T) k = T k := fun k hk => setN_bit (by omega)
    have pos : 1 ≤ setN T := by
      refine Classical.byContradiction fun hn => ?_
      have e0 : setN T = 0 := by omega
      have := bit i hi
      rw [e0, hTi] at this
      have h0 : bitI 0 i = false := by simp [bitI]
      rw [h0] at this; cases this
    have hb := h (setN T - 1).toNat (by omega)
    rw [show (1 : Int) + ((setN T - 1).toNat : Int) = setN T by omega, hle _ b.1 b.2] at hb
    refine hb o ho ⟨?_, ?_⟩
    · have hlo := rank_len ho
      unfold ownB
      refine all_range fun k hk => ?_
      have hk' : k < ls.length := by omega
      unfold ownAt
      rw [bit k hk']
      cases e : T k with
      | false => rfl
      | true =>
        have := own k hk' e
        have hm := mp_lt ho hk'
        rw [show (o.getD k 0).toNat = mp o k from rfl, bit _ hm, this]; rfl
    · unfold imprS
      rw [Bool.and_eq_true]
      refine ⟨all_range fun k hk => ?_, anyR_iff.2 ⟨i, hi, ?_⟩⟩
      · unfold worseS
        rw [bit k hk]
        cases e : T k with
        | false => rfl
        | true =>
          have := now k hk e
          unfold Pf at this
          rw [mp_get hz hk, mp_get ho hk] at this
          simpa [-List.getD_eq_getElem?_getD] using this
      · unfold betS
        unfold Pf at hP
        rw [mp_get hz hi, mp_get ho hi] at hP
        rw [bit i hi, hTi, hP]; rfl
  · intro h j hj
    have s1 : (1 : Int) + j < 2 ^ ls.length := by
      have : ((2 ^ ls.length : Nat) : Int) = 2 ^ ls.length := p2.2.2
      omega
    rw [hle _ (by omega) s1]
    rintro o ho ⟨hown, himp⟩
    unfold imprS at himp
    rw [Bool.and_eq_true, all_range_iff] at himp
    obtain ⟨h1, h2⟩ := himp
    obtain ⟨i, hi, h3⟩ := anyR_iff.1 h2
    unfold betS at h3
    rw [Bool.and_eq_true] at h3
    have hlo := rank_len ho
    unfold ownB at hown
    rw [all_range_iff] at hown
    refine h (fun i => decide (i < ls.length) && bitI (1 + j) i) o (fun i hi => by simp; omega) ho (fun k hk hT => ?_) (fun k hk hT hp => ?_) i hi (by simp [hi, h3.1]) ?_
    · simp only [Bool.and_eq_true, decide_eq_true_eq] at hT ⊢
      have := hown k (by omega)
      unfold ownAt at this
      rw [hT.2] at this
      exact ⟨mp_lt ho hk, by simpa [-List.getD_eq_getElem?_getD, mp] using this⟩
    · simp only [Bool.and_eq_true, decide_eq_true_eq] at hT
      have := h1 k hk
      unfold worseS at this
      unfold Pf at hp
      rw [mp_get hz hk, mp_get ho hk] at hp
      rw [hT.2, hp] at this; cases this
    · unfold Pf
      rw [mp_get hz hi, mp_get ho hi]
      exact h3.2
end
section
variable {ls : List (List Int)}
/-- The exchange by cycles: a ranking, with the core's properties. -/
theorem ex_core (hh : housesB ls = true) : rankB ls.length (exF ls) = true ∧ ∃ r, Core ls.length (Pf ls) (mp (exF ls)) r := by
  have H := hs_of hh
  have e1 : topsF ls = (tcS ls ls.length).2 := if_pos hh
  have e2 : exF ls = exR ls.length (tcS ls ls.length).2 (tcS ls ls.length).2.length := by unfold exF; rw [if_pos hh, e1]
  have e3 : mp (exF ls) = exX ls := by funext i; rw [e2]; rfl
  obtain ⟨r, C⟩ := core_hs H
  have hl : (exF ls).length = ls.length := by rw [e2]; exact exR_len
  have hb : ∀ i, i < ls.length → 0 ≤ (exF ls).getD i 0 := fun i hi => by
    obtain ⟨j, hj, h1, h2⟩ := tc_round H (a := (i : Int)) (by omega) (by omega)
    obtain ⟨k1, k2⟩ := ex_at H hj h2
    rw [Int.toNat_natCast] at k1
    rw [e2, k1]
    exact (tcS_lf.bd _ ((flat_ok H tcS_lf (Nat.le_refl _)).2 _ k2)).1
  have ha : exF ls = asL ls.length (exX ls) := getD_eq (by rw [hl, asL_len]) fun i hi => by
    have := hb i (by omega)
    rw [asL_get (by omega), ← e3]; unfold mp; omega
  refine ⟨?_, r, by rw [e3]; exact C⟩
  rw [ha]
  exact asL_rank H.n1 H.n5 C.inn C.inj
theorem ex_keeps (hh : housesB ls = true) : keepsB ls (exF ls) = true := by
  have H := hs_of hh
  obtain ⟨hx, r, C⟩ := ex_core hh
  unfold keepsB
  rw [Bool.and_eq_true]
  refine ⟨by simp [exchB, hh, hx], all_range fun i hi => ?_⟩
  cases e : prefB (ls.getD i []) i ((exF ls).getD i 0) with
  | false => rfl
  | true =>
    exfalso
    have hp : Pf ls i i (mp (exF ls) i) := by unfold Pf; rw [mp_get hx hi]; exact e
    have := C.keep (T := fun k => k = i) (o := id) (fun k hk => by omega) (fun k hk => hk) (fun a b ha hb _ => by omega) (fun k hk => by subst hk; exact P_asym hp) (r i) i (Nat.le_refl _) rfl
    rw [← show i = mp (exF ls) i from this] at hp
    exact P_irr hp
theorem ex_unimpr (hh : housesB ls = true) : unimprF ls (exF ls) = true := by
  have H := hs_of hh
  obtain ⟨hx, r, C⟩ := ex_core hh
  unfold unimprF
  rw [Bool.and_eq_true]
  refine ⟨by simp [exchB, hh, hx], (unimpr_iff H hx).2 fun w hw winj hno i hi => ?_⟩
  exact C.keep (T := fun k => k < ls.length) (o := w) (fun k hk => hk) hw winj hno (r i) i (Nat.le_refl _) hi
/-- It alone is blocked by nobody. -/
theorem ex_blk (hh : housesB ls = true) {z : List Int} (hz : rankB ls.length z = true) : blkF ls z = 0 ↔ z = exF ls := by
  have H := hs_of hh
  obtain ⟨hx, r, C⟩ := ex_core hh
  rw [blk_zero hh hz]
  constructor
  · intro h
    refine Classical.byContradiction fun hne => ?_
    have hd : ∃ i, i < ls.length ∧ mp z i ≠ mp (exF ls) i := Classical.byContradiction fun hno => hne (mp_ext hz hx fun i hi => Classical.byContradiction fun e => hno ⟨i, hi, e⟩)
    obtain ⟨k, ⟨i, hi, hr, hd⟩, hw⟩ := C.block (fun i hi => mp_lt hz hi) (fun i j hi hj e => mp_inj hz hi hj e) hd
    have := h (fun a => decide (a < ls.length) && decide (r a = k)) (exF ls) (fun a ha => by simp; omega) hx (fun a ha hT => by
      simp only [Bool.and_eq_true, decide_eq_true_eq] at hT ⊢
      exact ⟨C.inn a ha, by rw [C.rnd a ha]; exact hT.2⟩) (fun a ha hT => by
      simp only [Bool.and_eq_true, decide_eq_true_eq] at hT
      exact hw a ha hT.2) i hi (by simp [hi, hr])
    rcases P_tot H i (mp z i) (mp (exF ls) i) hi (mp_lt hz hi) (mp_lt hx hi) with h1 | h1 | h1
    · exact hw i hi hr h1
    · exact hd h1
    · exact this h1
  · rintro rfl T o hT ho own now i hi hTi hP
    have := C.keep (T := fun a => T a = true) (o := mp o) (fun a ha => Nat.not_le.1 fun hle => by rw [hT a hle] at ha; cases ha) (fun a ha => own a (Nat.not_le.1 fun hle => by rw [hT a hle] at ha; cases ha) ha) (fun a b ha hb e => mp_inj ho (Nat.not_le.1 fun hle => by rw [hT a hle] at ha; cases ha) (Nat.not_le.1 fun hle => by rw [hT b hle] at hb; cases hb) e) (fun a ha => now a (Nat.not_le.1 fun hle => by rw [hT a hle] at ha; cases ha) ha) (r i) i (Nat.le_refl _) hTi
    rw [this] at hP
    exact P_irr hP
/-- What a serial choice gives. -/
theorem ser_at {l : List Int} (H : Hs ls ls.length) (hl : rankB ls.length l = true) : ∀ {j : Nat}, j ≤ ls.length → ∀ t, t < j → (serS ls l j).2.getD (mp l t) 0 = fstL (serS ls l t).1 (ls.getD (mp l t) [])
  | 0, _, t, h => by omega
  | j + 1, hj, t, ht => by
    obtain ⟨_, _, _, d⟩ := serS_facts H hl (j := j) (by omega)
    simp only [serS]
    rw [show (l.getD j 0).toNat = mp l j from rfl]
    by_cases e : t = j
    · subst e
      exact getD_set_eq (by rw [d]; exact mp_lt hl (by omega))
    · have hne : mp l j ≠ mp l t := fun h => e (mp_inj hl (by omega) (by omega) h.symm)
      rw [set_ne_getD hne]
      exact ser_at H hl (by omega) t (by omega)
theorem ser_left {l : List Int} (H : Hs ls ls.length) (hl : rankB ls.length l = true) : ∀ {j : Nat}, j ≤ ls.length → ∀ x : Int, x ∈ (serS ls l j).1 ↔ (0 ≤ x ∧ x < ls.length) ∧ ∀ t, t < j → fstL (serS ls l t).1 (ls.getD (mp l t) []) ≠ x
  | 0, _, x => by simp [serS, mem_upto]
  | j + 1, hj, x => by
    simp only [serS, List.mem_filter]
    rw [ser_left H hl (j := j) (by omega) x, show (l.getD j 0).toNat = mp l j from rfl]
    simp only [Bool.not_eq_true', decide_eq_false_iff_not]
    constructor
    · rintro ⟨⟨h1, h2⟩, h3⟩
      refine ⟨h1, fun t ht => ?_⟩
      by_cases e : t = j
      · subst e; exact fun h => h3 h.symm
      · exact h2 t (by omega)
    · rintro ⟨h1, h2⟩
      exact ⟨⟨h1, fun t ht => h2 t (by omega)⟩, fun h => h2 j (by omega) h.symm⟩
theorem ser_in {l : List Int} (H : Hs ls ls.length) (hl : rankB ls.length l = true) {j : Nat} (hj : j < ls.length) : fstL (serS ls l j).1 (ls.getD (mp l j) []) ∈ (serS ls l j).1 := by
  obtain ⟨_, b, c, _⟩ := serS_facts H hl (j := j) (by omega)
  exact (fst_of (H.rk (mp l j) (mp_lt hl hj)) b (by omega)).2.2
theorem ser_rank (hh : housesB ls = true) {l : List Int} (hl : rankB ls.length l = true) : rankB ls.length (serF ls l) = true := by
  have H := hs_of hh
  have e : serF ls l = (serS ls l ls.length).2 := if_pos (by simp [exchB, hh, hl])
  have hat := ser_at H hl (Nat.le_refl _)
  have hlen := (serS_facts H hl (j := ls.length) (Nat.le_refl _)).2.2.2
  have onto : ∀ i, i < ls.length → ∃ t, t < ls.length ∧ mp l t = i := fun i hi => by
    obtain ⟨t, ht, e⟩ := mem_getD 0 (rank_all hl (a := (i : Int)) (by omega) (by omega))
    have := rank_len hl
    refine ⟨t, by omega, ?_⟩
    have := mp_get hl (i := t) (by omega)
    omega
  rw [e]
  have hbd : ∀ t, t < ls.length → 0 ≤ (serS ls l ls.length).2.getD (mp l t) 0 ∧ (serS ls l ls.length).2.getD (mp l t) 0 < ls.length := fun t ht => by
    rw [hat t ht]
    exact (serS_facts H hl (j := t) (by omega)).2.1 _ (ser_in H hl ht)
  have key : (serS ls l ls.length).2 = asL ls.length (mp (serS ls l ls.length).2) := getD_eq (by rw [hlen, asL_len]) fun i hi => by
    obtain ⟨t, ht, rfl⟩ := onto i (by omega)
    have := hbd t ht
    rw [asL_get (by omega)]
    unfold mp at this ⊢; omega
  rw [key]
  refine asL_rank H.n1 H.n5 (fun i hi => ?_) fun i j hi hj e => ?_
  · obtain ⟨t, ht, rfl⟩ := onto i hi
    have := hbd t ht
    unfold mp at this ⊢; omega
  · obtain ⟨s, hs, rfl⟩ := onto i hi
    obtain ⟨t, ht, rfl⟩ := onto j hj
    have h1 := hbd s hs
    have h2 := hbd t ht
    have e : (serS ls l ls.length).2.getD (mp l s) 0 = (serS ls l ls.length).2.getD (mp l t) 0 := by
      unfold mp at e h1 h2 ⊢; omega
    rw [hat s hs, hat t ht] at e
    rcases Nat.lt_trichotomy s t with h | h | h
    · have := ((ser_left H hl (j := t) (by omega) _).1 (ser_in H hl ht)).2 s h
      exact absurd e this
    · rw [h]
    · have := ((ser_left H hl (j := s) (by omega) _).1 (ser_in H hl hs)).2 t h
      exact absurd e.symm this
theorem ser_best (hh : housesB ls = true) {l : List Int} (hl : rankB ls.length l = true) {t h : Nat} (ht : t < ls.length) (h1 : h < ls.length) (hno : ∀ s, s < t → mp (serF ls l) (mp l s) ≠ h) : ¬ Pf ls (mp l t) h (mp (serF ls l) (mp l t)) := by
  have H := hs_of hh
  have e : serF ls l = (serS ls l ls.length).2 := if_pos (by simp [exchB, hh, hl])
  have hat := ser_at H hl (Nat.le_refl _)
  have hr := ser_rank hh hl
  have hin : (h : Int) ∈ (serS ls l t).1 := (ser_left H hl (by omega) _).2 ⟨⟨by omega, by omega⟩, fun s hs e2 => hno s hs (by
    have := mp_get hr (i := mp l s) (mp_lt hl (by omega))
    rw [e, hat s (by omega), e2] at this
    rw [e]; omega)⟩
  have := top_best (row := ls.getD (mp l t) []) hin
  intro hp
  unfold Pf at hp
  rw [mp_get hr (mp_lt hl ht), e, hat t ht, this] at hp
  cases hp
theorem ser_unimpr (hh : housesB ls = true) {l : List Int} (hl : rankB ls.length l = true) : unimprF ls (serF ls l) = true := by
  have H := hs_of hh
  have hr := ser_rank hh hl
  unfold unimprF
  rw [Bool.and_eq_true]
  refine ⟨by simp [exchB, hh, hr], (unimpr_iff H hr).2 fun w hw winj hno i hi => ?_⟩
  obtain ⟨t, ht, e⟩ := mem_getD 0 (rank_all hl (a := (i : Int)) (by omega) (by omega))
  have hll := rank_len hl
  have e2 : mp l t = i := by have := mp_get hl (i := t) (by omega); omega
  have := ser_keep (o := mp l) (y := mp (serF ls l)) (w := w) (fun t ht => mp_lt hl ht) (fun i hi => mp_lt hr hi) hw winj (fun s t hs ht e => mp_inj hl hs ht e) (P_tot H) (fun t h ht h1 hno => ser_best hh hl ht h1 hno) hno t (by omega)
  rw [e2] at this; exact this
/-- What nothing improves comes from a serial choice. -/
theorem unimpr_ser (hh : housesB ls = true) {z : List Int} (hz : rankB ls.length z = true) (hu : unimprB ls z ls.length = true) : ∃ l, rankB ls.length l = true ∧ serF ls l = z := by
  have H := hs_of hh
  have hno := (unimpr_iff H hz).1 hu
  have step : ∀ k, k ≤ ls.length → ∃ o : Nat → Nat, (∀ t, t < k → o t < ls.length) ∧ (∀ s t, s < k → t < k → o s = o t → s = t) ∧ ∀ t h, t < k → h < ls.length → (∀ s, s < t → mp z (o s) ≠ h) → ¬ Pf ls (o t) h (mp z (o t)) := by
    intro k
    induction k with
    | zero => exact fun _ => ⟨id, fun t h => by omega, fun s t h => by omega, fun t h ht => by omega⟩
    | succ k ih =>
      intro hk
      obtain ⟨o, o1, o2, o3⟩ := ih (by omega)
      obtain ⟨i, hi, hb⟩ := first_pick (P := Pf ls) (z := mp z) (S := (List.range ls.length).filter fun a => decide (¬ ∃ s, s < k ∧ o s = a)) (fun i hi => mp_lt hz hi) (fun i j hi hj e => mp_inj hz hi hj e) (fun i a b h => P_asym h) hno (by
        intro he
        have hsub : ∀ a ∈ List.range ls.length, a ∈ (List.range k).map o := fun a ha => by
          refine Classical.byContradiction fun hna => ?_
          have : a ∈ (List.range ls.length).filter fun a => decide (¬ ∃ s, s < k ∧ o s = a) := List.mem_filter.2 ⟨ha, by
            simp only [decide_eq_true_eq]
            rintro ⟨s, hs, e⟩
            exact hna (List.mem_map.2 ⟨s, List.mem_range.2 hs, e⟩)⟩
          rw [he] at this; cases this
        have := nsub_len List.nodup_range hsub
        simp at this; omega) (List.nodup_range.filter _) (fun a ha => List.mem_range.1 (List.mem_filter.1 ha).1)
      simp only [List.mem_filter, List.mem_range, decide_eq_true_eq] at hi hb
      refine ⟨fun t => if t = k then i else o t, fun t ht => ?_, fun s t hs ht e => ?_, fun t h ht hh1 hne => ?_⟩
      · by_cases e : t = k
        · simp only [if_pos e]; exact hi.1
        · simp only [if_neg e]; exact o1 t (by omega)
      · by_cases e1 : s = k <;> by_cases e2 : t = k
        · omega
        · simp only [if_pos e1, if_neg e2] at e
          exact absurd ⟨t, by omega, e.symm⟩ hi.2
        · simp only [if_neg e1, if_pos e2] at e
          exact absurd ⟨s, by omega, e⟩ hi.2
        · simp only [if_neg e1, if_neg e2] at e
          exact o2 s t (by omega) (by omega) e
      · have hne' : ∀ s, s < t → mp z (o s) ≠ h := fun s hs => by
          have := hne s hs
          simp only [if_neg (show s ≠ k by omega)] at this
          exact this
        by_cases e : t = k
        · simp only [if_pos e]
          subst e
          obtain ⟨j, hj, ej⟩ := mem_getD 0 (rank_all hz (a := (h : Int)) (by omega) (by omega))
          have hzl := rank_len hz
          have e2 : mp z j = h := by have := mp_get hz (i := j) (by omega); omega
          rw [← e2]
          exact hb j ⟨by omega, fun ⟨s, hs, es⟩ => hne' s hs (by rw [es]; exact e2)⟩
        · simp only [if_neg e]
          exact o3 t h (by omega) hh1 hne'
  obtain ⟨o, o1, o2, o3⟩ := step ls.length (Nat.le_refl _)
  have hl := asL_rank H.n1 H.n5 o1 o2
  have hr := ser_rank hh hl
  refine ⟨asL ls.length o, hl, ?_⟩
  have same : ∀ t, t < ls.length → mp (serF ls (asL ls.length o)) (o t) = mp z (o t) := by
    intro t
    induction t using Nat.strongRecOn with
    | _ t ih =>
      intro ht
      have ot := o1 t ht
      have b1 := ser_best hh hl (t := t) (h := mp z (o t)) ht (mp_lt hz ot) (fun s hs e => by
        rw [asL_mp (show s < ls.length by omega), ih s hs (by omega)] at e
        have := o2 s t (by omega) ht (mp_inj hz (o1 s (by omega)) ot e)
        omega)
      rw [asL_mp ht] at b1
      have b2 := o3 t (mp (serF ls (asL ls.length o)) (o t)) ht (mp_lt hr ot) (fun s hs e => by
        rw [← ih s hs (by omega)] at e
        have := o2 s t (by omega) ht (mp_inj hr (o1 s (by omega)) ot e)
        omega)
      rcases P_tot H (o t) _ _ ot (mp_lt hr ot) (mp_lt hz ot) with h | h | h
      · exact absurd h b2
      · exact h
      · exact absurd h b1
  refine mp_ext hr hz fun i hi => ?_
  obtain ⟨t, ht, e⟩ := mem_getD 0 (rank_all hl (a := (i : Int)) (by omega) (by omega))
  rw [asL_len] at ht
  rw [asL_get ht] at e
  have := same t ht
  rwa [show o t = i by omega] at this
/-- What the cycles are like. -/
theorem tops_row (hh : housesB ls = true) {c : List Int} (hc : c ∈ topsF ls) : 0 < c.length ∧ c.length ≤ ls.length ∧ (∀ x ∈ c, 0 ≤ x ∧ x < ls.length ∧ c.getD 0 0 ≤ x) ∧ ∀ q, q < c.length → (exF ls).getD (c.getD q 0).toNat 0 = c.getD ((q + 1) % c.length) 0 := by
  have H := hs_of hh
  have e1 : topsF ls = (tcS ls ls.length).2 := if_pos hh
  have e2 : exF ls = exR ls.length (tcS ls ls.length).2 (tcS ls ls.length).2.length := by unfold exF; rw [if_pos hh, e1]
  rw [e1] at hc
  obtain ⟨h1, h2, h3⟩ := tcS_in H c hc
  have low : ∀ j, c ∈ (tcS ls j).2 → ∀ x ∈ c, c.getD 0 0 ≤ x := by
    intro j
    induction j with
    | zero => intro h; simp [tcS] at h
    | succ j ih =>
      intro h
      simp only [tcS, List.mem_append] at h
      rcases h with h | h
      · exact ih h
      · obtain ⟨a, _, ha⟩ := List.mem_flatMap.1 h
        obtain ⟨_, hC, hl⟩ := row_mem ha
        rw [hC.hd]; exact hl
  have lowc := low _ hc
  refine ⟨h1, h2, fun x hx => ⟨(h3 x hx).1, (h3 x hx).2, lowc x hx⟩, fun q hq => ?_⟩
  obtain ⟨s, hs, es⟩ := mem_getD [] hc
  obtain ⟨t1, t2⟩ := tc_flat H (j := ls.length)
  have key := exR_at (n := ls.length) t1 (fun x hx => ((t2 x).1 hx).1) (t := (tcS ls ls.length).2.length) (s := s) (q := q) (Nat.le_refl _) hs (by rw [es]; exact hq)
  rw [es] at key
  rw [e2]; exact key
theorem tops_tot (hh : housesB ls = true) : tot (topsF ls) = ls.length := by
  have H := hs_of hh
  have e1 : topsF ls = (tcS ls ls.length).2 := if_pos hh
  obtain ⟨t1, t2⟩ := tc_flat H (j := ls.length)
  have hp : (tcS ls ls.length).2.flatten.Perm (upto ls.length) := by
    refine perm_of_sub t1 (fun x hx => mem_upto.2 ((t2 x).1 hx).1) ?_
    refine nodup_sub_len upto_nodup fun x hx => (t2 x).2 ⟨mem_upto.1 hx, by rw [tc_end H]; simp⟩
  have := hp.length_eq
  rw [List.length_flatten, upto_len] at this
  rw [e1]; exact this
end

end Go.Proofs.Ytfdoddeccnjcmaa
