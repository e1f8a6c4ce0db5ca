/- Own work: contracts of functions that the claim reaches. No condition beyond those that each theorem names. -/
import Derived.Test.YtelblnfnfeoapaaProg
import Derived.Test.YtelblnfnfeoapaaGoods
import Derived.Test.YtelblnfnfeoapaaConcat
import Derived.Test.YtelblnfnfeoapaaRepeat
import Derived.Test.YtelblnfnfeoapaaRanks
namespace Go.Proofs.Ytelblnfnfeoapaa
open Go Go.Vc
set_option maxRecDepth 100000
set_option linter.unusedSimpArgs false
set_option linter.unusedVariables false
/-! Gifts in order: the plain law. -/
theorem upto_get {n i : Nat} (h : i < n) : (upto n).getD i 0 = i := by simp [upto, List.getD, h]
theorem upto_mem {n : Nat} {x : Int} : x ∈ upto n ↔ 0 ≤ x ∧ x < n := by
  simp only [upto, List.mem_map, List.mem_range]
  constructor
  · rintro ⟨i, hi, rfl⟩; omega
  · intro h; exact ⟨x.toNat, by omega, by omega⟩
/-- The first of n that has it, or -1. -/
def fsI (p : Int → Bool) (n : Nat) : Int := idxP p (upto n)
theorem fsI_hit {p : Int → Bool} {n j : Nat} (hj : j < n) (hp : p j = true) (hb : ∀ i : Nat, i < j → p i = false) : fsI p n = j :=
  idxP_hit (d := 0) (by rw [upto_len]; exact hj) (by rw [upto_get hj]; exact hp) (fun i hi => by rw [upto_get (by omega)]; exact hb i hi)
theorem fsI_miss {p : Int → Bool} {n : Nat} (hb : ∀ i : Nat, i < n → p i = false) : fsI p n = -1 :=
  idxP_miss (d := 0) fun i hi => by rw [upto_len] at hi; rw [upto_get hi]; exact hb i hi
theorem fsI_cases (p : Int → Bool) (n : Nat) : (0 ≤ fsI p n ∧ fsI p n < n ∧ p (fsI p n) = true) ∨ ((∀ x : Int, 0 ≤ x → x < n → p x = false) ∧ fsI p n = -1) := by
  rcases idxP_cases 0 p (upto n) with ⟨j, h1, h2, _, h4⟩ | ⟨h1, h2⟩
  · rw [upto_len] at h1
    rw [upto_get h1] at h2
    left
    unfold fsI
    rw [h4]; exact ⟨by omega, by omega, h2⟩
  · exact .inr ⟨fun x a b => h1 x (upto_mem.2 ⟨a, b⟩), h2⟩
theorem nd_sub_len : ∀ {xs ys : List Int}, xs.Nodup → (∀ x ∈ xs, x ∈ ys) → xs.length ≤ ys.length
  | [], _, _, _ => by simp
  | x :: xs, ys, hn, h => by
    have h1 := List.nodup_cons.1 hn
    have hx := h x (by simp)
    have := nd_sub_len (xs := xs) (ys := ys.erase x) h1.2 fun y hy => by
      have hne : y ≠ x := fun e => h1.1 (e ▸ hy)
      exact (List.mem_erase_of_ne hne).2 (h y (by simp [hy]))
    have e := List.length_erase_of_mem hx
    have := List.length_pos_of_mem hx
    simp only [List.length_cons]; omega
theorem nd_inj {xs : List Int} (h : xs.Nodup) {i j : Nat} (hi : i < xs.length) (hj : j < xs.length) (e : xs.getD i 0 = xs.getD j 0) : i = j := by
  refine Classical.byContradiction fun hne => ?_
  rw [List.Nodup, List.pairwise_iff_getElem] at h
  simp only [List.getD, List.getElem?_eq_getElem hi, List.getElem?_eq_getElem hj, Option.getD_some] at e
  rcases Nat.lt_or_gt_of_ne hne with h1 | h1
  · exact h i j hi hj h1 e
  · exact h j i hj hi h1 e.symm
theorem getD_mem0 {xs : List Int} {i : Nat} (h : i < xs.length) : xs.getD i 0 ∈ xs := getD_mem h
/-- Where it lies, or before it. -/
theorem place_cases (l : List Int) (a : Int) : (∃ j, j < l.length ∧ l.getD j 0 = a ∧ placeI l a = j) ∨ (a ∉ l ∧ placeI l a = -1) := by
  unfold placeI
  rcases idxP_cases 0 (fun x => decide (x = a)) l with ⟨j, h1, h2, _, h4⟩ | ⟨h1, h2⟩
  · exact .inl ⟨j, h1, by simpa using h2, h4⟩
  · exact .inr ⟨fun hm => by have := h1 a hm; simp at this, h2⟩
theorem place_nd {l : List Int} (h : l.Nodup) {j : Nat} (hj : j < l.length) : placeI l (l.getD j 0) = j := by
  rcases place_cases l (l.getD j 0) with ⟨i, h1, h2, h3⟩ | ⟨h1, _⟩
  · rw [h3, nd_inj h h1 hj h2]
  · exact absurd (getD_mem0 hj) h1
/-! ### A way, and its cycle -/
def itE (f : Int → Int) (a : Int) : Nat → Int
  | 0 => a
  | k + 1 => f (itE f a k)
def ptE (f : Int → Int) (a : Int) (j : Nat) : List Int := (List.range j).map (itE f a)
def enF (f : Int → Int) : Nat → Nat → List Int
  | 0, _ => []
  | k + 1, j => if placeI (ptE f 0 j) (itE f 0 j) < 0 then enF f k (j + 1) else (ptE f 0 j).drop (placeI (ptE f 0 j) (itE f 0 j)).toNat
structure Cy (f : Int → Int) (n : Nat) (c : List Int) : Prop where
  pos : 0 < c.length
  nd : c.Nodup
  inn : ∀ x ∈ c, 0 ≤ x ∧ x < n
  nx : ∀ q, q < c.length → c.getD ((q + 1) % c.length) 0 = f (c.getD q 0)
section
variable {f : Int → Int} {a : Int} {n : Nat}
theorem ptE_len {j : Nat} : (ptE f a j).length = j := by simp [ptE]
theorem ptE_s {j : Nat} : ptE f a (j + 1) = ptE f a j ++ [itE f a j] := by simp [ptE, List.range_succ]
theorem ptE_get {i j : Nat} (h : i < j) : (ptE f a j).getD i 0 = itE f a i := by simp [ptE, List.getD, h]
theorem itE_in (hf : ∀ x : Int, 0 ≤ x → x < n → 0 ≤ f x ∧ f x < n) (h0 : 0 ≤ a) (h1 : a < n) : ∀ {k : Nat}, 0 ≤ itE f a k ∧ itE f a k < n
  | 0 => ⟨h0, h1⟩
  | k + 1 => by
    have := itE_in hf h0 h1 (k := k)
    exact hf _ this.1 this.2
theorem ptE_mem {j : Nat} {x : Int} (h : x ∈ ptE f a j) : ∃ i, i < j ∧ x = itE f a i := by
  obtain ⟨i, hi, e⟩ := List.mem_map.1 h
  exact ⟨i, by simpa using hi, e.symm⟩
theorem ptE_le (hf : ∀ x : Int, 0 ≤ x → x < n → 0 ≤ f x ∧ f x < n) (h0 : 0 ≤ a) (h1 : a < n) {j : Nat} (hn : (ptE f a j).Nodup) : j ≤ n := by
  have := nd_sub_len hn (ys := upto n) fun x hx => by
    obtain ⟨i, _, rfl⟩ := ptE_mem hx
    exact upto_mem.2 (itE_in hf h0 h1)
  rwa [ptE_len, upto_len] at this
theorem ptE_nd {j : Nat} (hn : (ptE f a j).Nodup) (h : itE f a j ∉ ptE f a j) : (ptE f a (j + 1)).Nodup := by
  rw [ptE_s, List.nodup_append]
  exact ⟨hn, by simp, fun x hx y hy e => h (by rw [← List.mem_singleton.1 hy, ← e]; exact hx)⟩
theorem enF_go {k j : Nat} (h : placeI (ptE f 0 j) (itE f 0 j) < 0) : enF f (k + 1) j = enF f k (j + 1) := by simp only [enF]; rw [if_pos h]
theorem enF_at {k j : Nat} (h : ¬ placeI (ptE f 0 j) (itE f 0 j) < 0) : enF f (k + 1) j = (ptE f 0 j).drop (placeI (ptE f 0 j) (itE f 0 j)).toNat := by simp only [enF]; rw [if_neg h]
theorem cy_ok (hf : ∀ x : Int, 0 ≤ x → x < n → 0 ≤ f x ∧ f x < n) (hn : 0 < n) : ∀ {k j : Nat}, (ptE f 0 j).Nodup → n < j + k → Cy f n (enF f k j)
  | 0, j, hd, h => by
    have := ptE_le hf (by omega) (by omega) hd; omega
  | k + 1, j, hd, h => by
    rcases place_cases (ptE f 0 j) (itE f 0 j) with ⟨p, h1, h2, h3⟩ | ⟨h1, h2⟩
    · rw [enF_at (by omega), h3, Int.toNat_natCast]
      rw [ptE_len] at h1
      rw [ptE_get h1] at h2
      have gl : ((ptE f 0 j).drop p).length = j - p := by rw [List.length_drop, ptE_len]
      have gg : ∀ q, q < j - p → ((ptE f 0 j).drop p).getD q 0 = itE f 0 (p + q) := fun q hq => by
        have := ptE_get (f := f) (a := 0) (i := p + q) (j := j) (by omega)
        rw [← this]; simp [List.getD]
      refine ⟨by omega, hd.sublist (List.drop_sublist _ _), fun x hx => ?_, fun q hq => ?_⟩
      · obtain ⟨i, _, rfl⟩ := ptE_mem (List.mem_of_mem_drop hx)
        exact itE_in hf (by omega) (by omega)
      · rw [gl] at hq ⊢
        rw [gg q hq]
        by_cases e : q + 1 < j - p
        · rw [Nat.mod_eq_of_lt e, gg _ e]; rfl
        · have : q + 1 = j - p := by omega
          rw [this, Nat.mod_self, gg 0 (by omega), Nat.add_zero, h2, show j = p + q + 1 by omega]; rfl
    · rw [enF_go (by omega)]
      exact cy_ok hf hn (ptE_nd hd h1) (by omega)
end
/-! ### The goods go on -/
def pass1 (c : List Int) (x : Int) : Int := if placeI c x < 0 then x else c.getD (((placeI c x).toNat + 1) % c.length) 0
def passL (l c : List Int) : List Int := l.map (pass1 c)
theorem pass_len {l c : List Int} : (passL l c).length = l.length := by simp [passL]
theorem pass_get {l c : List Int} {g : Nat} (h : g < l.length) : (passL l c).getD g 0 = pass1 c (l.getD g 0) := by simp [passL, List.getD, h]
section
variable {f : Int → Int} {n : Nat} {c : List Int}
theorem pass1_in (C : Cy f n c) {q : Nat} (hq : q < c.length) {x : Int} : pass1 c x = c.getD ((q + 1) % c.length) 0 ↔ x = c.getD q 0 := by
  have hp := C.pos
  have hm := Nat.mod_lt (q + 1) hp
  unfold pass1
  rcases place_cases c x with ⟨p, h1, h2, h3⟩ | ⟨h1, h2⟩
  · rw [if_neg (by omega), h3, Int.toNat_natCast]
    constructor
    · intro e
      have := nd_inj C.nd (Nat.mod_lt _ hp) hm e
      have : p = q := by
        by_cases e1 : p + 1 < c.length <;> by_cases e2 : q + 1 < c.length
        · rw [Nat.mod_eq_of_lt e1, Nat.mod_eq_of_lt e2] at this; omega
        · rw [Nat.mod_eq_of_lt e1, show q + 1 = c.length by omega, Nat.mod_self] at this; omega
        · rw [Nat.mod_eq_of_lt e2, show p + 1 = c.length by omega, Nat.mod_self] at this; omega
        · omega
      rw [← h2, this]
    · intro e
      rw [← h2] at e
      rw [nd_inj C.nd h1 hq e]
  · rw [if_pos (by omega)]
    constructor
    · intro e; exact absurd (e ▸ getD_mem0 hm) h1
    · intro e; exact absurd (e ▸ getD_mem0 hq) h1
theorem pass1_out (C : Cy f n c) {i x : Int} (hi : i ∉ c) : pass1 c x = i ↔ x = i := by
  have hp := C.pos
  unfold pass1
  rcases place_cases c x with ⟨p, h1, h2, h3⟩ | ⟨h1, h2⟩
  · rw [if_neg (by omega)]
    constructor
    · intro e; exact absurd (e ▸ getD_mem0 (Nat.mod_lt _ hp)) hi
    · intro e; rw [← h2] at e; exact absurd (e ▸ getD_mem0 h1) hi
  · rw [if_pos (by omega)]
end
theorem worthL_congr {r l l' : List Int} {k k' : Int} : ∀ {g : Nat}, (∀ t, t < g → (l'.getD t 0 = k' ↔ l.getD t 0 = k)) → worthL r l' k' g = worthL r l k g
  | 0, _ => rfl
  | g + 1, h => by
    simp only [worthL]
    rw [worthL_congr fun t ht => h t (by omega)]
    have := h g (by omega)
    by_cases e : l.getD g 0 = k
    · rw [if_pos e, if_pos (this.2 e)]
    · rw [if_neg e, if_neg fun h => e (this.1 h)]
/-- Person i envies k. -/
def evB (vs : List (List Int)) (l : List Int) (k i : Int) : Bool := decide (wo vs l i.toNat i < wo vs l i.toNat k)
/-- Nobody envies k. -/
def unB (vs : List (List Int)) (l : List Int) (k : Int) : Bool := !((upto vs.length).any fun i => evB vs l k i)
def unvF (vs : List (List Int)) (l : List Int) : Int := fsI (unB vs l) vs.length
def nvF (vs : List (List Int)) (l : List Int) (k : Int) : Int := fsI (fun i => evB vs l k i) vs.length
def cycF (vs : List (List Int)) (l : List Int) : List Int := enF (nvF vs l) (vs.length + 1) 0
theorem nv_next {vs : List (List Int)} {l : List Int} (hU : unvF vs l < 0) {k : Int} (h0 : 0 ≤ k) (h1 : k < vs.length) : 0 ≤ nvF vs l k ∧ nvF vs l k < vs.length ∧ evB vs l k (nvF vs l k) = true := by
  rcases fsI_cases (fun i => evB vs l k i) vs.length with h | ⟨h, _⟩
  · exact h
  · rcases fsI_cases (unB vs l) vs.length with h' | ⟨h', _⟩
    · unfold unvF at hU; omega
    · have := h' k h0 h1
      simp only [unB, Bool.not_eq_false', List.any_eq_true] at this
      obtain ⟨i, hi, he⟩ := this
      have hi := upto_mem.1 hi
      rw [h i hi.1 hi.2] at he; cases he
theorem cyc_ok {vs : List (List Int)} {l : List Int} (hn : 1 ≤ vs.length) (hU : unvF vs l < 0) : Cy (nvF vs l) vs.length (cycF vs l) :=
  cy_ok (fun x a b => by have := nv_next hU a b; exact ⟨this.1, this.2.1⟩) (by omega) (by simp [ptE]) (by omega)
def stepG (vs : List (List Int)) (l : List Int) : List Int := passL l (cycF vs l)
theorem step_len {vs : List (List Int)} {l : List Int} : (stepG vs l).length = l.length := pass_len
theorem step_wo {vs : List (List Int)} {l : List Int} (hn : 1 ≤ vs.length) (hU : unvF vs l < 0) {i : Nat} (hi : i < vs.length) :
    wo vs l i i ≤ wo vs (stepG vs l) i i ∧ ((i : Int) ∈ cycF vs l → wo vs l i i < wo vs (stepG vs l) i i) := by
  have C := cyc_ok hn hU
  by_cases h : (i : Int) ∈ cycF vs l
  · obtain ⟨t, ht, et⟩ := mem_getD 0 h
    obtain ⟨q, hq, hqt⟩ : ∃ q, q < (cycF vs l).length ∧ (q + 1) % (cycF vs l).length = t := by
      by_cases e : t = 0
      · exact ⟨(cycF vs l).length - 1, by have := C.pos; omega, by have := C.pos; rw [Nat.sub_add_cancel this, Nat.mod_self, e]⟩
      · exact ⟨t - 1, by omega, by rw [Nat.sub_add_cancel (by omega), Nat.mod_eq_of_lt ht]⟩
    have hx := C.nx q hq
    rw [hqt, et] at hx
    have hin := C.inn _ (getD_mem0 hq)
    have hev := (nv_next hU hin.1 hin.2).2.2
    rw [← hx] at hev
    simp only [evB, decide_eq_true_eq, Int.toNat_natCast] at hev
    have he : wo vs (stepG vs l) i i = wo vs l i ((cycF vs l).getD q 0) := by
      unfold wo
      rw [step_len]
      refine worthL_congr fun g hg => ?_
      unfold stepG
      rw [pass_get hg, ← pass1_in C hq, hqt, et]
    rw [he]
    exact ⟨by omega, fun _ => hev⟩
  · have he : wo vs (stepG vs l) i i = wo vs l i i := by
      unfold wo
      rw [step_len]
      refine worthL_congr fun g hg => ?_
      unfold stepG
      rw [pass_get hg]; exact pass1_out C h
    exact ⟨by omega, fun h' => absurd h' h⟩
def sumE (f : Nat → Int) : Nat → Int
  | 0 => 0
  | n + 1 => sumE f n + f n
theorem sumE_le {f g : Nat → Int} : ∀ {n : Nat}, (∀ i, i < n → f i ≤ g i) → sumE f n ≤ sumE g n
  | 0, _ => by simp [sumE]
  | n + 1, h => by
    have := sumE_le (n := n) fun i hi => h i (by omega)
    have := h n (by omega)
    simp only [sumE]; omega
theorem sumE_lt {f g : Nat → Int} : ∀ {n : Nat}, (∀ i, i < n → f i ≤ g i) → (∃ i, i < n ∧ f i < g i) → sumE f n < sumE g n
  | 0, _, h => by obtain ⟨i, h, _⟩ := h; omega
  | n + 1, h, ⟨i, hi, hl⟩ => by
    have h1 := sumE_le (n := n) (f := f) (g := g) fun i hi => h i (by omega)
    have h2 := h n (by omega)
    simp only [sumE]
    by_cases e : i = n
    · subst e; omega
    · have := sumE_lt (n := n) (f := f) (g := g) (fun i hi => h i (by omega)) ⟨i, by omega, hl⟩; omega
def phi (vs : List (List Int)) (l : List Int) : Int := sumE (fun i => wo vs l i i) vs.length
theorem phi_bd {vs : List (List Int)} {l : List Int} (V : Vals vs l.length) : 0 ≤ phi vs l ∧ phi vs l ≤ 1800 := by
  have : ∀ n, n ≤ vs.length → 0 ≤ sumE (fun i => wo vs l i i) n ∧ sumE (fun i => wo vs l i i) n ≤ 600 * n := by
    intro n
    induction n with
    | zero => simp [sumE]
    | succ n ih =>
      intro h
      have := ih (by omega)
      have := wo_bd V (i := n) (by omega) (k := (n : Int))
      simp only [sumE]; omega
  have := this _ (Nat.le_refl _)
  have := V.n3
  unfold phi; omega
theorem phi_step {vs : List (List Int)} {l : List Int} (hn : 1 ≤ vs.length) (hU : unvF vs l < 0) : phi vs l < phi vs (stepG vs l) := by
  have C := cyc_ok hn hU
  have h0 := C.inn _ (getD_mem0 C.pos)
  refine sumE_lt (fun i hi => (step_wo hn hU hi).1) ⟨((cycF vs l).getD 0 0).toNat, by omega, (step_wo hn hU (by omega)).2 ?_⟩
  rw [Int.toNat_of_nonneg h0.1]
  exact getD_mem0 C.pos
def setN (vs : List (List Int)) : Nat → List Int → List Int
  | 0, l => l
  | k + 1, l => if unvF vs l < 0 then setN vs k (stepG vs l) else l
def itG (vs : List (List Int)) (l : List Int) : Nat → List Int
  | 0 => l
  | j + 1 => stepG vs (itG vs l j)
def setl (vs : List (List Int)) (l : List Int) : List Int := setN vs 1801 l
theorem itG_len {vs : List (List Int)} {l : List Int} : ∀ {j : Nat}, (itG vs l j).length = l.length
  | 0 => rfl
  | j + 1 => by simp only [itG]; rw [step_len]; exact itG_len
theorem setN_len {vs : List (List Int)} : ∀ {k : Nat} {l : List Int}, (setN vs k l).length = l.length
  | 0, l => rfl
  | k + 1, l => by
    simp only [setN]
    split
    · rw [setN_len, step_len]
    · rfl
/-- What is known after j rounds. -/
structure Rnd (vs : List (List Int)) (l : List Int) (j : Nat) : Prop where
  ph : (j : Int) ≤ phi vs (itG vs l j)
  st : setN vs (1801 - j) (itG vs l j) = setl vs l
theorem rnd_0 {vs : List (List Int)} {l : List Int} (V : Vals vs l.length) : Rnd vs l 0 := ⟨by have := phi_bd V; exact this.1, rfl⟩
theorem rnd_le {vs : List (List Int)} {l : List Int} {j : Nat} (V : Vals vs l.length) (R : Rnd vs l j) : j ≤ 1800 := by
  have := phi_bd (vs := vs) (l := itG vs l j) (by rw [itG_len]; exact V)
  have := R.ph
  omega
theorem rnd_s {vs : List (List Int)} {l : List Int} {j : Nat} (V : Vals vs l.length) (R : Rnd vs l j) (hU : unvF vs (itG vs l j) < 0) : Rnd vs l (j + 1) ∧ j < 1800 := by
  have h1 := rnd_le V R
  have h2 := phi_step V.n1 hU
  have h3 := R.ph
  have h4 : (j : Int) + 1 ≤ phi vs (itG vs l (j + 1)) := by show _ ≤ phi vs (stepG vs (itG vs l j)); omega
  have h5 := phi_bd (vs := vs) (l := itG vs l (j + 1)) (by rw [itG_len]; exact V)
  refine ⟨⟨by omega, ?_⟩, by omega⟩
  rw [← R.st, show 1801 - j = (1801 - (j + 1)) + 1 by omega]
  simp only [setN]; rw [if_pos hU]; rfl
theorem rnd_end {vs : List (List Int)} {l : List Int} {j : Nat} (V : Vals vs l.length) (R : Rnd vs l j) (hU : ¬ unvF vs (itG vs l j) < 0) : itG vs l j = setl vs l := by
  have h1 := rnd_le V R
  rw [← R.st, show 1801 - j = (1800 - j) + 1 by omega]
  simp only [setN]; rw [if_neg hU]
def givN (vs : List (List Int)) (m : Nat) : Nat → List Int
  | 0 => List.replicate m (-1)
  | g + 1 => (setl vs (givN vs m g)).set g (unvF vs (setl vs (givN vs m g)))
theorem givN_len {vs : List (List Int)} {m : Nat} : ∀ {g : Nat}, (givN vs m g).length = m
  | 0 => by simp [givN]
  | g + 1 => by simp only [givN, List.length_set]; unfold setl; rw [setN_len]; exact givN_len
def givF (vs : List (List Int)) : List Int := if rectB vs 3 6 100 = true then givN vs (vs.getD 0 []).length (vs.getD 0 []).length else []
theorem givF_len {vs : List (List Int)} : (givF vs).length ≤ 1048576 := by
  unfold givF
  split
  · rename_i h
    have := (vals_of h).m6
    rw [givN_len]; omega
  · simp

end Go.Proofs.Ytelblnfnfeoapaa
