/- Own work: contracts of functions that the claim reaches. No condition beyond those that each theorem names. -/
import Derived.Test.YtfdoddeccnjcmaaProg
import Derived.Test.YtfdoddeccnjcmaaGoods
namespace Go.Proofs.Ytfdoddeccnjcmaa
open Go Go.Vc
set_option maxRecDepth 100000
set_option linter.unusedSimpArgs false
set_option linter.unusedVariables false
/-! Allocations without envy up to any good: pure lists. A good: what it is worth to each person. -/
abbrev Good := Nat → Int
/-- What the goods of k are worth to i. -/
def zs (Z : List (Good × Nat)) (i k : Nat) : Int := (Z.map fun p => if p.2 = k then p.1 i else 0).sum
def efx (A : List Nat) (Z : List (Good × Nat)) : Prop := ∀ i ∈ A, ∀ p ∈ Z, p.2 ≠ i → zs Z i p.2 - p.1 i ≤ zs Z i i
def Efx (A : List Nat) (L : List Good) : Prop := ∃ Z, Z.map (·.1) = L ∧ (∀ p ∈ Z, p.2 ∈ A) ∧ efx A Z
theorem isum_perm {a b : List Int} (h : a.Perm b) : a.sum = b.sum := by
  induction h with
  | nil => rfl
  | cons x _ ih => simp [ih]
  | swap x y l => simp; omega
  | trans _ _ i1 i2 => exact i1.trans i2
theorem zs_perm {Z Z' : List (Good × Nat)} (h : Z.Perm Z') (i k : Nat) : zs Z i k = zs Z' i k := isum_perm (h.map _)
theorem efx_perm {A : List Nat} {Z Z' : List (Good × Nat)} (h : Z.Perm Z') (e : efx A Z) : efx A Z' := fun i hi p hp hn => by
  rw [← zs_perm h, ← zs_perm h]; exact e i hi p (h.mem_iff.2 hp) hn
theorem lift_perm {L L' : List Good} (h : L.Perm L') : ∀ {Z : List (Good × Nat)}, Z.map (·.1) = L → ∃ Z', Z'.map (·.1) = L' ∧ Z.Perm Z' := by
  induction h with
  | nil => intro Z hZ; exact ⟨Z, hZ, .refl _⟩
  | cons x _ ih =>
    intro Z hZ
    cases Z with
    | nil => simp at hZ
    | cons p Z =>
      simp only [List.map_cons, List.cons.injEq] at hZ
      obtain ⟨Z', h1, h2⟩ := ih hZ.2
      exact ⟨p :: Z', by simp [h1, hZ.1], h2.cons p⟩
  | swap x y l =>
    intro Z hZ
    match Z, hZ with
    | p :: q :: Z, hZ =>
      simp only [List.map_cons, List.cons.injEq] at hZ
      exact ⟨q :: p :: Z, by simp [hZ.1, hZ.2.1, hZ.2.2], .swap q p Z⟩
  | trans _ _ i1 i2 =>
    intro Z hZ
    obtain ⟨Z1, h1, h2⟩ := i1 hZ
    obtain ⟨Z2, h3, h4⟩ := i2 h1
    exact ⟨Z2, h3, h2.trans h4⟩
theorem Efx_perm {A : List Nat} {L L' : List Good} (h : L.Perm L') : Efx A L → Efx A L'
  | ⟨Z, h1, h2, h3⟩ => by
    obtain ⟨Z', h4, h5⟩ := lift_perm h h1
    exact ⟨Z', h4, fun p hp => h2 p (h5.mem_iff.2 hp), efx_perm h5 h3⟩
/-- The best good comes first. -/
theorem top_perm (f : Good → Int) : ∀ {L : List Good}, L ≠ [] → ∃ g R, L.Perm (g :: R) ∧ ∀ h ∈ R, f h ≤ f g
  | [], h => absurd rfl h
  | [x], _ => ⟨x, [], .refl _, by simp⟩
  | x :: y :: L, _ => by
    obtain ⟨g, R, h1, h2⟩ := top_perm f (L := y :: L) (by simp)
    by_cases hx : f x ≤ f g
    · exact ⟨g, x :: R, (h1.cons x).trans (.swap g x R), fun h hh => by rcases List.mem_cons.1 hh with rfl | hh; exact hx; exact h2 h hh⟩
    · exact ⟨x, g :: R, h1.cons x, fun h hh => by rcases List.mem_cons.1 hh with rfl | hh; omega; have := h2 h hh; omega⟩
theorem sort4 (f : Good → Int) {L : List Good} (h : L.length = 4) : ∃ a b c d, L.Perm [a, b, c, d] ∧ f b ≤ f a ∧ f c ≤ f b ∧ f d ≤ f c := by
  obtain ⟨a, R, h1, h2⟩ := top_perm f (L := L) (by intro e; simp [e] at h)
  have l1 := h1.length_eq
  obtain ⟨b, R2, h3, h4⟩ := top_perm f (L := R) (by intro e; simp [e] at l1; omega)
  have l2 := h3.length_eq
  obtain ⟨c, R3, h5, h6⟩ := top_perm f (L := R2) (by intro e; simp [e] at l1 l2; omega)
  have l3 := h5.length_eq
  simp only [List.length_cons] at l1 l2 l3
  match R3, (show R3.length = 1 by omega) with
  | [d], _ =>
    exact ⟨a, b, c, d, h1.trans ((h3.trans (h5.cons b)).cons a), h2 b (h3.mem_iff.2 (by simp)), h4 c (h5.mem_iff.2 (by simp)), h6 d (by simp)⟩
theorem sort3 (f : Good → Int) {L : List Good} (h : L.length = 3) : ∃ a b c, L.Perm [a, b, c] ∧ f b ≤ f a ∧ f c ≤ f b := by
  obtain ⟨a, R, h1, h2⟩ := top_perm f (L := L) (by intro e; simp [e] at h)
  have l1 := h1.length_eq
  obtain ⟨b, R2, h3, h4⟩ := top_perm f (L := R) (by intro e; simp [e] at l1; omega)
  have l2 := h3.length_eq
  simp only [List.length_cons] at l1 l2
  match R2, (show R2.length = 1 by omega) with
  | [c], _ => exact ⟨a, b, c, h1.trans (h3.cons a), h2 b (h3.mem_iff.2 (by simp)), h4 c (by simp)⟩
section three
variable {i j k : Nat} (hij : i ≠ j) (hik : i ≠ k) (hjk : j ≠ k)
include hij hik hjk
/-- i has g, the best of all to i; j cuts the rest (its best good is worth no more than the next two), k picks. -/
theorem cut_pick {g a b c d : Good} (p : ∀ x ∈ [g, a, b, c, d], ∀ q, 0 ≤ x q) (hg : ∀ x ∈ [a, b, c, d], x i ≤ g i) (h1 : b j ≤ a j) (h2 : c j ≤ b j) (h3 : d j ≤ c j) (h4 : a j ≤ b j + c j) : Efx [i, j, k] [g, a, b, c, d] := by
  simp only [List.mem_cons, List.not_mem_nil, or_false, forall_eq_or_imp, forall_eq] at p hg
  obtain ⟨pg, pa, pb, pc, pd⟩ := p
  have hji := hij.symm; have hki := hik.symm; have hkj := hjk.symm
  have := pg i; have := pa i; have := pb i; have := pc i; have := pd i
  have := pg j; have := pa j; have := pb j; have := pc j; have := pd j
  have := pg k; have := pa k; have := pb k; have := pc k; have := pd k
  by_cases hk : b k + c k ≤ a k + d k
  · refine ⟨[(g, i), (a, k), (b, j), (c, j), (d, k)], rfl, by simp, ?_⟩
    simp [efx, zs, hij, hik, hjk, hji, hki, hkj]
    omega
  · refine ⟨[(g, i), (a, j), (b, k), (c, k), (d, j)], rfl, by simp, ?_⟩
    simp [efx, zs, hij, hik, hjk, hji, hki, hkj]
    omega
/-- i has g, the best of all to i; the best of the rest are two: a to j, b to k. -/
theorem two_tops {g a b c d : Good} (p : ∀ x ∈ [g, a, b, c, d], ∀ q, 0 ≤ x q) (hg : ∀ x ∈ [a, b, c, d], x i ≤ g i) (h1 : ∀ x ∈ [b, c, d], x j ≤ a j) (h2 : ∀ x ∈ [a, c, d], x k ≤ b k) : Efx [i, j, k] [g, a, b, c, d] := by
  simp only [List.mem_cons, List.not_mem_nil, or_false, forall_eq_or_imp, forall_eq] at p hg h1 h2
  obtain ⟨pg, pa, pb, pc, pd⟩ := p
  have hji := hij.symm; have hki := hik.symm; have hkj := hjk.symm
  have := pg i; have := pa i; have := pb i; have := pc i; have := pd i
  have := pg j; have := pa j; have := pb j; have := pc j; have := pd j
  have := pg k; have := pa k; have := pb k; have := pc k; have := pd k
  refine ⟨[(g, i), (a, j), (b, k), (c, j), (d, k)], rfl, by simp, ?_⟩
  simp [efx, zs, hij, hik, hjk, hji, hki, hkj]
  omega
/-- i has g, j has a, k has the rest. -/
theorem one_rest {g a b c d : Good} (p : ∀ x ∈ [g, a, b, c, d], ∀ q, 0 ≤ x q) (h1 : b i + c i ≤ g i ∧ b i + d i ≤ g i ∧ c i + d i ≤ g i) (h2 : b j + c j ≤ a j ∧ b j + d j ≤ a j ∧ c j + d j ≤ a j) : Efx [i, j, k] [g, a, b, c, d] := by
  simp only [List.mem_cons, List.not_mem_nil, or_false, forall_eq_or_imp, forall_eq] at p
  obtain ⟨pg, pa, pb, pc, pd⟩ := p
  have hji := hij.symm; have hki := hik.symm; have hkj := hjk.symm
  have := pg i; have := pa i; have := pb i; have := pc i; have := pd i
  have := pg j; have := pa j; have := pb j; have := pc j; have := pd j
  have := pg k; have := pa k; have := pb k; have := pc k; have := pd k
  refine ⟨[(g, i), (a, j), (b, k), (c, k), (d, k)], rfl, by simp, ?_⟩
  simp [efx, zs, hij, hik, hjk, hji, hki, hkj]
  omega
end three
theorem Efx_agents {A B : List Nat} {L : List Good} (h : ∀ i, i ∈ A ↔ i ∈ B) : Efx A L → Efx B L
  | ⟨Z, h1, h2, h3⟩ => ⟨Z, h1, fun p hp => (h _).1 (h2 p hp), fun i hi p hp hn => h3 i ((h i).2 hi) p hp hn⟩
theorem nonneg_perm {L L' : List Good} (h : L.Perm L') (p : ∀ x ∈ L, ∀ q, 0 ≤ x q) : ∀ x ∈ L', ∀ q, 0 ≤ x q := fun x hx => p x (h.mem_iff.2 hx)
theorem best_perm {L L' : List Good} {f : Good → Int} {m : Int} (h : L.Perm L') (p : ∀ x ∈ L, f x ≤ m) : ∀ x ∈ L', f x ≤ m := fun x hx => p x (h.mem_iff.2 hx)
/-- cut_pick, whatever the order of the rest. -/
theorem cut_pick' {i j k : Nat} (hij : i ≠ j) (hik : i ≠ k) (hjk : j ≠ k) {g : Good} {R : List Good} {a b c d : Good} (hR : R.Perm [a, b, c, d]) (p : ∀ x ∈ g :: R, ∀ q, 0 ≤ x q) (hg : ∀ x ∈ R, x i ≤ g i) (h1 : b j ≤ a j) (h2 : c j ≤ b j) (h3 : d j ≤ c j) (h4 : a j ≤ b j + c j) : Efx [i, j, k] (g :: R) :=
  Efx_perm (hR.cons g).symm (cut_pick hij hik hjk (nonneg_perm (hR.cons g) p) (best_perm hR hg) h1 h2 h3 h4)
theorem pair_le {x y z b c d : Int} (h : [x, y, z].Perm [b, c, d]) (h1 : c ≤ b) (h2 : d ≤ c) : x + y ≤ b + c := by
  have hs := isum_perm h
  have hz : z ∈ [b, c, d] := h.mem_iff.1 (by simp)
  simp at hs hz
  omega
/-- Three people, five goods. -/
theorem three_efx {i j k : Nat} (hij : i ≠ j) (hik : i ≠ k) (hjk : j ≠ k) {L : List Good} (h5 : L.length = 5) (p : ∀ x ∈ L, ∀ q, 0 ≤ x q) : Efx [i, j, k] L := by
  obtain ⟨g, R, hL, hg⟩ := top_perm (fun x => x i) (L := L) (by intro e; simp [e] at h5)
  have hl := hL.length_eq
  simp only [List.length_cons] at hl
  refine Efx_perm hL.symm ?_
  have p := nonneg_perm hL p
  obtain ⟨a, b, c, d, hR, s1, s2, s3⟩ := sort4 (fun x => x j) (L := R) (by omega)
  try simp only at s1 s2 s3
  by_cases c1 : a j ≤ b j + c j
  · exact cut_pick' hij hik hjk hR p hg s1 s2 s3 c1
  obtain ⟨a', b', c', d', hR', t1, t2, t3⟩ := sort4 (fun x => x k) (L := R) (by omega)
  try simp only at t1 t2 t3
  by_cases c2 : a' k ≤ b' k + c' k
  · exact Efx_agents (fun x => by simp; omega) (cut_pick' hik hij hjk.symm hR' p hg t1 t2 t3 c2)
  have hgR := best_perm hR hg
  have pR := nonneg_perm (hR.cons g) p
  -- the best good of k, among those of j's order
  have hperm := hR.symm.trans hR'
  have hmem : a' ∈ [a, b, c, d] := hperm.mem_iff.2 (by simp)
  have kbest : ∀ x ∈ [a, b, c, d], x k ≤ a' k := fun x hx => by
    have := hperm.mem_iff.1 hx
    simp only [List.mem_cons, List.not_mem_nil, or_false] at this
    rcases this with rfl | rfl | rfl | rfl <;> omega
  have jrest : ∀ x ∈ [b, c, d], x j ≤ a j := fun x hx => by
    simp only [List.mem_cons, List.not_mem_nil, or_false] at hx
    rcases hx with rfl | rfl | rfl <;> omega
  refine Efx_perm (hR.cons g).symm ?_
  -- k's best good is another one: each takes their own
  have other : ∀ {u v w : Good}, [a, b, c, d].Perm [a, u, v, w] → (∀ x ∈ [a, v, w], x k ≤ u k) → Efx [i, j, k] [g, a, b, c, d] := fun {u v w} hp hk =>
    Efx_perm (hp.symm.cons g) (two_tops hij hik hjk (nonneg_perm (hp.cons g) pR) (best_perm hp hgR) (fun x hx => by
      have hb : [b, c, d].Perm [u, v, w] := (List.perm_cons a).1 hp
      exact jrest x (hb.mem_iff.2 hx)) hk)
  have kq : ∀ x ∈ [a, b, c, d], ∀ q, a' = q → x k ≤ q k := fun x hx q hq => hq ▸ kbest x hx
  simp only [List.mem_cons, List.not_mem_nil, or_false] at hmem
  by_cases ha : ¬ a' k ≤ a k
  · rcases hmem with h | h | h | h
    · subst h; exact absurd (Int.le_refl _) ha
    · exact other (.refl _) fun x hx => kq x (by simp only [List.mem_cons, List.not_mem_nil, or_false] at hx ⊢; rcases hx with h | h | h <;> simp [h]) b h
    · exact other (u := c) (v := b) (w := d) (List.Perm.cons a (.swap c b [d])) fun x hx => kq x (by simp only [List.mem_cons, List.not_mem_nil, or_false] at hx ⊢; rcases hx with h | h | h <;> simp [h]) c h
    · exact other (u := d) (v := b) (w := c) (List.Perm.cons a ((List.Perm.cons b (.swap d c [])).trans (.swap d b [c]))) fun x hx => kq x (by simp only [List.mem_cons, List.not_mem_nil, or_false] at hx ⊢; rcases hx with h | h | h <;> simp [h]) d h
  -- a is the best of the rest to both, and worth more than any two others
  simp only [Decidable.not_not] at ha
  have hak : a k = a' k := Int.le_antisymm (kbest a (by simp)) ha
  have kl : [b k, c k, d k].Perm [b' k, c' k, d' k] := by
    have := hperm.map (fun x : Good => x k)
    simp only [List.map_cons, List.map_nil] at this
    rw [hak] at this
    exact (List.perm_cons _).1 this
  have kpair : ∀ {x y z : Good}, [b, c, d].Perm [x, y, z] → x k + y k < a k := fun {x y z} h => by
    have h1 := (h.symm.map (fun x : Good => x k))
    simp only [List.map_cons, List.map_nil] at h1
    have := pair_le (h1.trans kl) t2 t3
    omega
  have jpair : ∀ {x y z : Good}, [b, c, d].Perm [x, y, z] → x j + y j < a j := fun {x y z} h => by
    have h1 := (h.symm.map (fun x : Good => x j))
    simp only [List.map_cons, List.map_nil] at h1
    have := pair_le h1 s2 s3
    omega
  have hbcd : [b, c, d].Perm [b, d, c] := List.Perm.cons b (.swap d c [])
  have hcdb : [b, c, d].Perm [c, d, b] := (List.perm_append_comm (l₁ := [b]) (l₂ := [c, d]))
  by_cases hb : b i + c i ≤ g i ∧ b i + d i ≤ g i ∧ c i + d i ≤ g i
  · exact one_rest hij hik hjk pR hb ⟨Int.le_of_lt (jpair (.refl _)), Int.le_of_lt (jpair hbcd), Int.le_of_lt (jpair hcdb)⟩
  obtain ⟨x, y, w, hxy, hsum⟩ : ∃ x y w, [b, c, d].Perm [x, y, w] ∧ g i < x i + y i := by
    by_cases q1 : b i + c i ≤ g i
    · by_cases q2 : b i + d i ≤ g i
      · exact ⟨c, d, b, hcdb, by omega⟩
      · exact ⟨b, d, c, hbcd, by omega⟩
    · exact ⟨b, c, d, .refl _, by omega⟩
  refine Efx_perm ((hxy.cons a).cons g).symm ?_
  have pX := nonneg_perm ((hxy.cons a).cons g) pR
  have gX := best_perm (hxy.cons a) hgR
  have jX : ∀ t ∈ [x, y, w], t j ≤ a j := fun t ht => jrest t (hxy.mem_iff.2 ht)
  have kX : ∀ t ∈ [a, x, y, w], t k ≤ a k := fun t ht => by have := kbest t ((hxy.cons a).mem_iff.2 ht); omega
  have hji := hij.symm
  by_cases hA : g j ≤ a j
  · obtain ⟨u, v, z, hu, u1, u2⟩ := sort3 (fun x => x i) (L := [x, y, w]) rfl
    try simp only at u1 u2
    have hp := (hu.symm.map (fun x : Good => x i)).symm
    simp only [List.map_cons, List.map_nil] at hp
    have hle := pair_le hp u1 u2
    have key := cut_pick' (g := a) (R := [g, x, y, w]) hji hjk hik (hu.cons g) (nonneg_perm (.swap a g _) pX) (fun t ht => by
      rcases List.mem_cons.1 ht with rfl | ht; exact hA; exact jX t ht) (by have := gX u (List.mem_cons_of_mem _ (hu.mem_iff.2 (by simp))); exact this) u1 u2 (by omega)
    exact Efx_agents (fun x => by simp; omega) (Efx_perm (.swap g a _) key)
  · obtain ⟨t, s, r, q, ht, v1, v2, v3⟩ := sort4 (fun x => x i) (L := [a, x, y, w]) rfl
    try simp only at v1 v2 v3
    have gj : ∀ e ∈ [a, x, y, w], e j ≤ g j := fun e he => by
      rcases List.mem_cons.1 he with rfl | he
      · omega
      · have := jX e he; omega
    by_cases c5 : t i ≤ s i + r i
    · exact Efx_agents (fun x => by simp; omega) (cut_pick' hji hjk hik ht pX gj v1 v2 v3 c5)
    have tbest : ∀ e ∈ [a, x, y, w], e i ≤ t i := fun e he => by
      have := ht.mem_iff.1 he
      simp only [List.mem_cons, List.not_mem_nil, or_false] at this
      rcases this with rfl | rfl | rfl | rfl <;> omega
    have hat : a i < t i := by
      refine Int.not_le.1 fun hle => ?_
      have e : a i = t i := Int.le_antisymm (tbest a (by simp)) hle
      have := ht.map (fun x : Good => x i)
      simp only [List.map_cons, List.map_nil] at this
      rw [e] at this
      have := pair_le ((List.perm_cons _).1 this) v2 v3
      have := gX a (by simp)
      omega
    have tq : ∀ e ∈ [a, x, y, w], ∀ q, t = q → e i ≤ q i := fun e he q hq => hq ▸ tbest e he
    have fin : ∀ {u v z : Good}, t = u → [x, y, w].Perm [u, v, z] → Efx [i, j, k] [g, a, x, y, w] := fun {u v z} hu hp => by
      have h1 : [a, x, y, w].Perm [u, a, v, z] := (hp.cons a).trans (.swap u a _)
      have key := two_tops (g := g) hji hjk hik (nonneg_perm (h1.cons g) pX) (best_perm h1 gj) (fun e he => tq e (h1.mem_iff.2 (by simp only [List.mem_cons, List.not_mem_nil, or_false] at he ⊢; rcases he with h | h | h <;> simp [h])) u hu)
        (fun e he => kX e (h1.mem_iff.2 (by simp only [List.mem_cons, List.not_mem_nil, or_false] at he ⊢; rcases he with h | h | h <;> simp [h])))
      exact Efx_agents (fun x => by simp; omega) (Efx_perm (h1.cons g).symm key)
    have hmem : t ∈ [a, x, y, w] := ht.mem_iff.2 (by simp)
    simp only [List.mem_cons, List.not_mem_nil, or_false] at hmem
    rcases hmem with h | h | h | h
    · subst h; exact absurd hat (Int.lt_irrefl _)
    · exact fin h (.refl _)
    · exact fin (u := y) (v := x) (z := w) h (.swap y x _)
    · exact fin (u := w) (v := x) (z := y) h ((List.Perm.cons x (.swap w y [])).trans (.swap w x [y]))

/-! Two people. -/
/-- One and the same person cuts. -/
theorem cut_two (f : Good → Int) : ∀ (n : Nat) (L : List Good), L.length = n → (∀ x ∈ L, 0 ≤ f x) → ∃ Z : List (Good × Nat), Z.map (·.1) = L ∧ (∀ p ∈ Z, p.2 = 0 ∨ p.2 = 1) ∧
    ∀ k, k = 0 ∨ k = 1 → ∀ p ∈ Z, p.2 = k → (Z.map fun p => if p.2 = k then f p.1 else 0).sum - f p.1 ≤ (Z.map fun p => if p.2 = 1 - k then f p.1 else 0).sum
  | 0, L, h, _ => by
    have := List.eq_nil_of_length_eq_zero h
    subst this
    exact ⟨[], rfl, by simp, by simp⟩
  | n + 1, L, h, p => by
    obtain ⟨g, R, hL, hg⟩ := top_perm (fun x => - f x) (L := L) (by intro e; simp [e] at h)
    have hl := hL.length_eq
    simp only [List.length_cons] at hl
    obtain ⟨Z, h1, h2, h3⟩ := cut_two f n R (by omega) fun x hx => p x (hL.mem_iff.2 (by simp [hx]))
    have pg : 0 ≤ f g := p g (hL.mem_iff.2 (by simp))
    have pR : ∀ q ∈ Z, f g ≤ f q.1 := fun q hq => by
      have := hg q.1 (by rw [← h1]; exact List.mem_map_of_mem hq)
      omega
    obtain ⟨A, hA⟩ : ∃ A, A = (Z.map fun p => if p.2 = 0 then f p.1 else 0).sum := ⟨_, rfl⟩
    obtain ⟨B, hB⟩ : ∃ B, B = (Z.map fun p => if p.2 = 1 then f p.1 else 0).sum := ⟨_, rfl⟩
    have a0 := h3 0 (.inl rfl)
    have a1 := h3 1 (.inr rfl)
    simp only [Nat.sub_zero, Nat.sub_self] at a0 a1
    rw [← hA, ← hB] at a0 a1
    have key : ∃ Z' : List (Good × Nat), Z'.map (·.1) = g :: R ∧ (∀ p ∈ Z', p.2 = 0 ∨ p.2 = 1) ∧
        ∀ k, k = 0 ∨ k = 1 → ∀ p ∈ Z', p.2 = k → (Z'.map fun p => if p.2 = k then f p.1 else 0).sum - f p.1 ≤ (Z'.map fun p => if p.2 = 1 - k then f p.1 else 0).sum := by
      by_cases hAB : A ≤ B
      · refine ⟨(g, 0) :: Z, by simp [h1], by simpa using h2, fun k hk q hq hk' => ?_⟩
        rcases hk with rfl | rfl
        · simp [← hA, ← hB]
          rcases List.mem_cons.1 hq with rfl | hq
          · simp only; omega
          · have := pR q hq; omega
        · simp [← hA, ← hB]
          rcases List.mem_cons.1 hq with rfl | hq
          · simp at hk'
          · have := a1 q hq hk'; omega
      · refine ⟨(g, 1) :: Z, by simp [h1], by simpa using h2, fun k hk q hq hk' => ?_⟩
        rcases hk with rfl | rfl
        · simp [← hA, ← hB]
          rcases List.mem_cons.1 hq with rfl | hq
          · simp at hk'
          · have := a0 q hq hk'; omega
        · simp [← hA, ← hB]
          rcases List.mem_cons.1 hq with rfl | hq
          · simp only; omega
          · have := pR q hq; omega
    obtain ⟨Z', k1, k2, k3⟩ := key
    obtain ⟨Z2, e1, e2⟩ := lift_perm hL.symm k1
    refine ⟨Z2, e1, fun q hq => k2 q (e2.mem_iff.2 hq), fun k hk q hq hk' => ?_⟩
    rw [← isum_perm (e2.map _), ← isum_perm (e2.map _)]
    exact k3 k hk q (e2.mem_iff.2 hq) hk'
theorem two_efx {L : List Good} (p : ∀ x ∈ L, ∀ q, 0 ≤ x q) : Efx [0, 1] L := by
  obtain ⟨Z, h1, h2, h3⟩ := cut_two (fun x => x 0) L.length L rfl fun x hx => p x hx 0
  have pZ : ∀ q ∈ Z, ∀ i, 0 ≤ q.1 i := fun q hq i => p q.1 (by rw [← h1]; exact List.mem_map_of_mem hq) i
  by_cases hc : zs Z 1 0 ≤ zs Z 1 1
  · refine ⟨Z, h1, fun q hq => by have := h2 q hq; simp; exact this, fun i hi q hq hn => ?_⟩
    simp only [List.mem_cons, List.not_mem_nil, or_false] at hi
    rcases hi with rfl | rfl
    · have e : q.2 = 1 := by have := h2 q hq; omega
      have := h3 1 (.inr rfl) q hq e
      rw [e]; exact this
    · have e : q.2 = 0 := by have := h2 q hq; omega
      have := pZ q hq 1
      rw [e]; omega
  · obtain ⟨Z', hZ'⟩ : ∃ Z' : List (Good × Nat), Z' = Z.map fun q => (q.1, 1 - q.2) := ⟨_, rfl⟩
    have fl : ∀ (i k : Nat), k = 0 ∨ k = 1 → zs Z' i k = zs Z i (1 - k) := fun i k hk => by
      unfold zs
      rw [hZ', List.map_map]
      congr 1
      refine List.map_congr_left fun q hq => ?_
      simp only [Function.comp_apply]
      have := h2 q hq
      by_cases e : 1 - q.2 = k
      · rw [if_pos e, if_pos (by omega)]
      · rw [if_neg e, if_neg (by omega)]
    refine ⟨Z', by rw [hZ', List.map_map]; exact h1, fun q hq => ?_, fun i hi q hq hn => ?_⟩
    · rw [hZ'] at hq
      obtain ⟨r, hr, rfl⟩ := List.mem_map.1 hq
      have := h2 r hr; simp; omega
    · have hq' := hq
      rw [hZ'] at hq'
      obtain ⟨r, hr, e0⟩ := List.mem_map.1 hq'
      have hr2 := h2 r hr
      have eq1 : q.1 = r.1 := by rw [← e0]
      have eq2 : q.2 = 1 - r.2 := by rw [← e0]
      simp only [List.mem_cons, List.not_mem_nil, or_false] at hi
      rcases hi with rfl | rfl
      · have e : r.2 = 0 := by omega
        have := h3 0 (.inl rfl) r hr e
        rw [eq2, e, fl 0 _ (.inr rfl), fl 0 0 (.inl rfl), eq1]; exact this
      · have e : r.2 = 1 := by omega
        have := pZ r hr 1
        rw [eq2, e, fl 1 _ (.inl rfl), fl 1 1 (.inr rfl), eq1]
        show zs Z 1 1 - r.1 1 ≤ zs Z 1 0
        omega
theorem one_efx {L : List Good} : Efx [0] L := ⟨L.map fun g => (g, 0), by simp [Function.comp_def], fun p hp => by obtain ⟨g, _, rfl⟩ := List.mem_map.1 hp; simp, fun i hi p hp hn => by
  obtain ⟨g, _, rfl⟩ := List.mem_map.1 hp
  simp at hi; subst hi; exact absurd rfl hn⟩
/-! Every list of values has an allocation that is nearly free of envy. -/
theorem worthL_map {r l : List Int} {k : Int} : ∀ {j : Nat}, worthL r l k j = ((List.range j).map fun g => if l.getD g 0 = k then r.getD g 0 else 0).sum
  | 0 => rfl
  | j + 1 => by rw [List.range_succ, List.map_append, List.sum_append, ← worthL_map]; simp [worthL]
theorem range_pad {F : Nat → Int} {m : Nat} : ∀ {d : Nat}, (∀ g, m ≤ g → F g = 0) → ((List.range (m + d)).map F).sum = ((List.range m).map F).sum
  | 0, _ => rfl
  | d + 1, h => by
    rw [← Nat.add_assoc, List.range_succ, List.map_append, List.sum_append, range_pad h]; simp [h (m + d) (by omega)]
theorem map_range {α : Type} (d : α) (l : List α) : l = (List.range l.length).map fun g => l.getD g d := by
  refine List.ext_getElem (by simp) fun i h1 h2 => ?_
  simp [List.getD, h1]
theorem near_ex {vs : List (List Int)} {m : Nat} (V : Vals vs m) (m5 : m ≤ 5) : ∃ l : List Int, l.length = m ∧ (∀ x ∈ l, 0 ≤ x ∧ x < vs.length) ∧ nearB vs l = true := by
  obtain ⟨L, hL⟩ : ∃ L : List Good, L = (List.range 5).map fun g => fun i => (vs.getD i []).getD g 0 := ⟨_, rfl⟩
  have hval : ∀ (i g : Nat), 0 ≤ (vs.getD i []).getD g 0 ∧ (m ≤ g → (vs.getD i []).getD g 0 = 0) := fun i g => by
    by_cases hi : i < vs.length
    · by_cases hg : g < m
      · exact ⟨(V.bd i g hi hg).1, fun h => by omega⟩
      · have : (vs.getD i []).getD g 0 = 0 := by rw [List.getD, List.getElem?_eq_none (by rw [V.len i hi]; omega)]; rfl
        rw [this]; exact ⟨Int.le_refl _, fun _ => rfl⟩
    · have : vs.getD i [] = [] := by rw [List.getD, List.getElem?_eq_none (by omega)]; rfl
      rw [this]; simp
  have pL : ∀ x ∈ L, ∀ q, 0 ≤ x q := fun x hx q => by
    rw [hL] at hx
    obtain ⟨g, _, rfl⟩ := List.mem_map.1 hx
    exact (hval q g).1
  have hE : Efx (List.range vs.length) L := by
    have n1 := V.n1
    have n3 := V.n3
    obtain h | h | h : vs.length = 1 ∨ vs.length = 2 ∨ vs.length = 3 := by omega
    · rw [h]; exact one_efx
    · rw [h]; exact two_efx pL
    · rw [h]; exact three_efx (i := 0) (j := 1) (k := 2) (by omega) (by omega) (by omega) (by rw [hL]; rfl) pL
  obtain ⟨Z, h1, h2, h3⟩ := hE
  have lZ : Z.length = 5 := by have := congrArg List.length h1; rw [hL] at this; simpa using this
  obtain ⟨l, hl⟩ : ∃ l : List Int, l = (List.range m).map fun g => ((Z.getD g (fun _ => 0, 0)).2 : Int) := ⟨_, rfl⟩
  have ll : l.length = m := by rw [hl]; simp
  have lg : ∀ g, g < m → l.getD g 0 = ((Z.getD g (fun _ => 0, 0)).2 : Int) := fun g hg => by rw [hl]; simp [List.getD, hg]
  have zg : ∀ g, g < 5 → (Z.getD g (fun _ => 0, 0)) ∈ Z ∧ (Z.getD g (fun _ => 0, 0)).1 = fun i => (vs.getD i []).getD g 0 := fun g hg => by
    have e : Z.getD g (fun _ => 0, 0) = Z[g]'(by omega) := by simp [List.getD, lZ, hg]
    refine ⟨by rw [e]; exact List.getElem_mem _, ?_⟩
    have : (Z.map (·.1))[g]? = L[g]? := by rw [h1]
    rw [hL] at this
    simp [lZ, hg] at this
    rw [e, this]; rfl
  have hw : ∀ (i k : Nat), wo vs l i k = zs Z i k := fun i k => by
    unfold wo zs
    rw [worthL_map, ll]
    have e : Z.map (fun p => if p.2 = k then p.1 i else 0) = (List.range 5).map fun g => if (Z.getD g (fun _ => 0, 0)).2 = k then (vs.getD i []).getD g 0 else 0 := by
      conv => lhs; rw [map_range (fun _ => 0, 0) Z, List.map_map, lZ]
      refine List.map_congr_left fun g hg => ?_
      have hg := List.mem_range.1 hg
      simp only [Function.comp_apply]
      rw [(zg g hg).2]
    rw [e, show (5 : Nat) = m + (5 - m) by omega, range_pad fun g hg => by rw [(hval i g).2 hg]; simp]
    congr 1
    refine List.map_congr_left fun g hg => ?_
    have hg := List.mem_range.1 hg
    rw [lg g hg]
    by_cases c : (Z.getD g (fun _ => 0, 0)).2 = k
    · rw [if_pos c, if_pos (by omega)]
    · rw [if_neg c, if_neg (by omega)]
  refine ⟨l, ll, fun x hx => ?_, ?_⟩
  · rw [hl] at hx
    obtain ⟨g, hg, rfl⟩ := List.mem_map.1 hx
    have hg := List.mem_range.1 hg
    have := h2 _ (zg g (by omega)).1
    have := List.mem_range.1 this
    omega
  · simp only [nearB, List.all_eq_true, List.mem_range]
    intro i hi g hg
    rw [ll] at hg
    have hz := zg g (by omega)
    have key := h3 i (List.mem_range.2 hi) _ hz.1
    rw [hz.2] at key
    have key : (Z.getD g (fun _ => 0, 0)).2 ≠ i → zs Z i (Z.getD g (fun _ => 0, 0)).2 - (vs.getD i []).getD g 0 ≤ zs Z i i := key
    simp only [nearAt, Bool.not_eq_true', Bool.and_eq_false_iff, decide_eq_false_iff_not]
    rw [lg g hg]
    by_cases c : (Z.getD g (fun _ => 0, 0)).2 = i
    · left; right; omega
    · right
      have := key c
      rw [hw, hw]
      omega

end Go.Proofs.Ytfdoddeccnjcmaa
