/-
  Own work, laid by a program of the author's: effects keep what a state says. No condition.
-/
import Derived.Test.YtelblnfnfeoapaaV2
import Derived.Laws.CopyRow

set_option linter.unusedSimpArgs false
set_option linter.unusedVariables false
/-
  append: what it does to a slice that is owned.
-/
namespace Go.Vc
open Go

section
variable {P : Program} {lo : Nat} {Xb : Nat → Prop} {par : Nat → Option Value} {ow ow' : Ow} {tm : Array Value} {a : Act} {w w' : World} {s s' : St}

/-- What append leaves. -/
def AppRes (w w' : World) (b0 : Option Nat) (xs news : List Value) (u : Value) : Prop :=
  (u = .slice none 0 0 ∧ xs ++ news = [] ∧ b0 = none ∧ w' = w) ∨
  ∃ b cap arr ty, u = .slice (some ⟨b, 0, none⟩) (xs ++ news).length cap ∧ w'.heap[b]? = some (.cells arr ty (0, 0)) ∧ arr.size = cap ∧ (xs ++ news).length ≤ cap ∧ cap ≤ maxLen ∧ arr.toList.take (xs ++ news).length = xs ++ news ∧
    ((b0 = some b ∧ Grow (fun k => k = b) w w' ∧ w'.heap.size = w.heap.size) ∨ (b = w.heap.size ∧ news ≠ [] ∧ Grow (fun _ => False) w w' ∧ w'.heap.size = w.heap.size + 1))

theorem run_app {t e : TypeId} {ty0 : TypeId} {i : TypeInfo} {z : Value} (ht : P.underlying t = some (.slice e)) (hi : P.info? e = some i) (hz : i.zero = some z) (hs : i.size = 1) (hby : i.bytes ≤ 64) (hzs : z.cells.size = 1)
    {hdr xv : Value} {b0 : Option Nat} {xs news : List Value}
    (hh : (hdr = .slice none 0 0 ∧ xs = [] ∧ b0 = none) ∨ ∃ b cap arr ty, hdr = .slice (some ⟨b, 0, none⟩) xs.length cap ∧ b0 = some b ∧ w.heap[b]? = some (.cells arr ty (0, 0)) ∧ arr.size = cap ∧ xs.length ≤ cap ∧ cap ≤ maxLen ∧ arr.toList.take xs.length = xs)
    (hx : (xv = .slice none 0 0 ∧ news = []) ∨ ∃ ad c, xv = .slice (some ad) news.length c ∧ ∀ j v, news[j]? = some v → w.cell? (ad.add j) = some v)
    (h1 : ∀ v ∈ news, v.oneCell' = true) (hlen : xs.length + news.length ≤ 1099511627776) :
    ∃ u w', (Builtin.append_ #[t, t] ty0 #[hdr, xv]).run P w = .ok u w' ∧ AppRes w w' b0 xs news u := by
  have hml : ∀ n, n ≤ 1099511627776 → n ≤ maxLen := fun n hn => by simp only [maxLen]; omega
  have hzc : ∀ n, (Builtin.zeroCells z.cells n).size = n := fun n => by rw [size_zeroCells, hzs]; omega
  -- what is appended
  have fcx : ∀ w1 : World, w1.heap = w.heap → (Builtin.firstCells 1 news.length xv).run P w1 = .ok news.toArray w1 := by
    intro w1 hw1
    rcases hx with ⟨rfl, rfl⟩ | ⟨ad, c, rfl, hc⟩
    · simp [Builtin.firstCells]
    · exact run_firstCells_some (P := P) w1 1 news.length ad news.length c news (by omega) fun j v hj => by
        rw [World.cell?_of_block (w := w) (by rw [hw1])]; exact hc j v hj
  have lenx : (Builtin.lenOf xv).run P w = .ok news.length w := by
    rcases hx with ⟨rfl, rfl⟩ | ⟨ad, c, rfl, hc⟩ <;> simp [Builtin.lenOf]
  have shape : ∀ {k cap : Nat} {a0 : Option Addr}, hdr = .slice a0 k cap → k + news.length ≤ cap → (Builtin.append_ #[t, t] ty0 #[hdr, xv]).run P w =
      (do (if let some a := a0 then storeCells (a.add (k * 1)) news else pure ()); pure (.slice a0 (k + news.length) cap) : Sem Value).run P w := by
    intro k cap a0 hd hroom
    subst hd
    cases a0 <;> simp [Builtin.append_, run_underlying ht, sizeOf, typeInfo, hi, hs, lenx, hroom, fcx w rfl]
  have grow : ∀ {k cap : Nat} {a0 : Option Addr}, hdr = .slice a0 k cap → xs.length = k → k ≤ cap → cap < k + news.length → (∀ w1 : World, w1.heap = w.heap → (Builtin.firstCells 1 k hdr).run P w1 = .ok xs.toArray w1) →
      ∃ u w', (Builtin.append_ #[t, t] ty0 #[hdr, xv]).run P w = .ok u w' ∧ AppRes w w' b0 xs news u := by
    intro k cap a0 hd hk hkc hroom hold
    subst hk
    have hge := grownCap_ge w (xs.length + news.length) cap e
    have hle := grownCap_le_maxLen w (xs.length + news.length) cap e (hml _ hlen)
    refine ⟨.slice (some ⟨w.heap.size, 0, none⟩) (xs.length + news.length) (grownCap w (xs.length + news.length) cap e),
      w.drew.alloc (.cells (xs.toArray ++ news.toArray ++ Builtin.zeroCells z.cells (grownCap w (xs.length + news.length) cap e - (xs.length + news.length))) e), ?_, .inr ⟨w.heap.size, _, _, e, by simp, heap_alloc_new w.drew _, ?_, by simpa using hge, hle, ?_, .inr ⟨rfl, (by rintro rfl; simp at hroom; omega), ?_, by simp⟩⟩⟩
    · have h63' : ¬ (9223372036854775807 < ((xs.length : Int) + (news.length : Int))) := by omega
      have hn : ¬ (xs.length + news.length ≤ cap) := by omega
      have h48 : Builtin.nextslicecap (xs.length + news.length) cap * i.bytes ≤ 281474976710656 := growslice_fits hroom (by
        calc (xs.length + news.length) * i.bytes ≤ 1099511627776 * 64 := Nat.mul_le_mul hlen hby
          _ ≤ 140737488355328 := by decide)
      have h48' : ¬ (281474976710656 < Builtin.nextslicecap (xs.length + news.length) cap * i.bytes) := by omega
      have f1 := fcx w.drew rfl
      have f2 := hold w.drew rfl
      subst hd
      simp [Builtin.append_, run_underlying ht, sizeOf, typeInfo, zeroValue, hi, hz, hs, lenx, hn, h63', h48', Question.forced, f1, f2, newRow, grownCap]
      congr 2
      apply Array.ext'
      simp [List.append_assoc]
    · simp only [Array.size_append, List.size_toArray, hzc]; omega
    · simp only [Array.toList_append, List.append_assoc]
      rw [← List.append_assoc]
      exact List.take_left
    · exact (Grow.drew _ w).trans (Grow.alloc _ w.drew _)
  rcases hh with ⟨rfl, rfl, rfl⟩ | ⟨b, cap, arr, ty, rfl, rfl, hb, hsz, hle, hm, ht'⟩
  · by_cases h0 : news.length = 0
    · have : news = [] := List.eq_nil_of_length_eq_zero h0
      subst this
      refine ⟨.slice none 0 0, w, ?_, .inl ⟨rfl, rfl, rfl, rfl⟩⟩
      rw [shape (k := 0) (cap := 0) (a0 := none) rfl (by simp)]
      simp
    · exact grow (k := 0) (cap := 0) (a0 := none) rfl rfl (Nat.le_refl _) (by omega) fun w1 _ => by simp [Builtin.firstCells]
  · by_cases hroom : xs.length + news.length ≤ cap
    · refine ⟨.slice (some ⟨b, 0, none⟩) (xs.length + news.length) cap, w.setRow b (arr.toList.take xs.length ++ news ++ arr.toList.drop (xs.length + news.length)).toArray, ?_,
        .inr ⟨b, cap, _, ty, by simp, setRow_heap w b arr _ ty _ hb, ?_, by simpa using hroom, hm, ?_, .inl ⟨rfl, ⟨rfl, rfl, rfl, by simp, fun k _ hk => setRow_other w b k _ hk⟩, by simp⟩⟩⟩
      · rw [shape (k := xs.length) (cap := cap) (a0 := some ⟨b, 0, none⟩) rfl hroom]
        have hst := run_storeCells_at P b xs.length ty news 0 arr w hb (by omega) h1
        simp only [Nat.add_zero] at hst
        have hadd : (⟨b, 0, none⟩ : Addr).add (xs.length * 1) = ⟨b, xs.length, none⟩ := by
          rw [Nat.mul_one]; unfold Addr.add; split
          · rename_i h; rw [h]
          · simp
        simp only [hadd, Sem.run_bind, hst, Result.andThen_ok, Sem.run_pure]
      · simp; omega
      · rw [ht']
        simp only [List.append_assoc]
        rw [← List.append_assoc]
        exact List.take_left
    · refine grow (k := xs.length) (cap := cap) (a0 := some ⟨b, 0, none⟩) rfl rfl hle (by omega) fun w1 hw1 => ?_
      exact run_firstCells_some (P := P) w1 1 xs.length ⟨b, 0, none⟩ xs.length cap xs (by omega) fun j v hj => by
        rw [World.cell?_of_block (w := w) (by rw [hw1])]
        have : (⟨b, 0, none⟩ : Addr).add j = ⟨b, j, none⟩ := by
          unfold Addr.add; split
          · rename_i h; rw [h]
          · simp
        rw [this, cell_of_row w b j arr ty (0, 0) hb]
        have hj' : j < xs.length := (List.getElem?_eq_some_iff.1 hj).1
        rw [← ht', List.getElem?_take, if_pos (by omega)] at hj
        simpa using hj

end
end Go.Vc

/-
  Names absorbed into a newly made one.
-/
namespace Go.Vc
open Go

def St.rtL : List Nat → Nat → St → St
  | [], _, s => s
  | z :: zs, d, s => St.rtL zs d (s.rt z d)

def owL : List Nat → Nat → Ow → Ow
  | [], _, ow => ow
  | z :: zs, d, ow => owL zs d (owMove ow z d)

section
variable {P : Program} {lo : Nat} {Xb : Nat → Prop} {par : Nat → Option Value} {ow ow' : Ow} {tm : Array Value} {a : Act} {w w' : World} {s s' : St}

theorem owL_none {zs : List Nat} {d b : Nat} : ∀ {ow : Ow}, owL zs d ow b = none ↔ ow b = none := by
  induction zs with
  | nil => intro ow; rfl
  | cons z zs ih => intro ow; simp only [owL]; rw [ih, owMove_none]

theorem owL_ne {zs : List Nat} {d b y r : Nat} (hz : ∀ z ∈ zs, hangs z y = false) : ∀ {ow : Ow}, ow b = some (y, r) → owL zs d ow b = some (y, r) := by
  induction zs with
  | nil => intro ow h; exact h
  | cons z zs ih =>
    intro ow h
    simp only [owL]
    exact ih (fun z' h' => hz z' (by simp [h'])) (owMove_ne h (hz z (by simp)))

theorem owL_d {zs : List Nat} {d b r : Nat} (hz : ∀ z ∈ zs, hangs z d = false) {ow : Ow} (h : ow b = some (d, r)) : owL zs d ow b = some (d, r) := owL_ne hz h

theorem owL_mem {d b r : Nat} : ∀ {zs : List Nat} {x : Nat} {ow : Ow}, (∀ z ∈ zs, hangs z d = false) → (∀ z ∈ zs, z ≠ x → hangs z x = false) → x ∈ zs → ow b = some (x, r) → owL zs d ow b = some (d, r)
  | [], _, _, _, _, hx, _ => by simp at hx
  | z :: zs, x, ow, hz, hzx, hx, h => by
    simp only [owL]
    by_cases e : z = x
    · subst e
      exact owL_d (fun z' h' => hz z' (by simp [h'])) (owMove_self h)
    · have hx' : x ∈ zs := by
        rcases List.mem_cons.1 hx with h | h
        · exact absurd h.symm e
        · exact h
      exact owL_mem (fun z' h' => hz z' (by simp [h'])) (fun z' h' => hzx z' (by simp [h'])) hx' (owMove_ne h (hzx z (by simp) e))

theorem owL_some {zs : List Nat} {d b : Nat} {p : Nat × Nat} (h : owL zs d ow b = some p) : ∃ q, ow b = some q := by
  cases e : ow b with
  | none => rw [owL_none.2 e] at h; cases h
  | some q => exact ⟨q, rfl⟩

theorem tag_owL {zs : List Nat} {d : Nat} {g : G} (hg : ∀ z ∈ zs, g.on z = false) (b : Nat) (h : okG lo ow g b) : okG lo (owL zs d ow) g b := by
  cases g with
  | arg => exact owL_none.2 h
  | fr => exact ⟨owL_none.2 h.1, h.2⟩
  | rw y => exact owL_ne hg h
  | sp y =>
    rcases h with h | h | h
    · exact .inl (owL_ne hg h)
    · exact .inr (.inl (owL_ne hg h))
    · exact .inr (.inr (owL_none.2 h))

theorem rt_any {x d : Nat} : V.rt x d .any = .any := by simp [V.rt, V.on, G.on]

/-- What becomes of an entry. -/
theorem rtL_get {d y : Nat} : ∀ {zs : List Nat} {s : St}, (∀ z ∈ zs, hangs z d = false) → (∀ z ∈ zs, hangs z y = false) →
    ((St.rtL zs d s).get y).isAny = true ∨ ((St.rtL zs d s).get y = s.get y ∧ ∀ z ∈ zs, (s.get y).on z = false) ∨ (∃ x r, (x ∈ zs ∨ x = d) ∧ s.get y = .t (.rw x) r ∧ (St.rtL zs d s).get y = .t (.rw d) r)
  | [], s, _, _ => .inr (.inl ⟨rfl, by simp⟩)
  | z :: zs, s, hd, hy => by
    simp only [St.rtL]
    have hzy := hy z (by simp)
    have e : (s.rt z d).get y = (s.get y).rt z d := by rw [get_rt, hzy]; simp
    have ih := rtL_get (d := d) (y := y) (zs := zs) (s := s.rt z d) (fun z' h' => hd z' (by simp [h'])) (fun z' h' => hy z' (by simp [h']))
    rw [e] at ih
    rcases rt_cases (x := z) (d := d) (v := s.get y) with h | ⟨h, h'⟩ | ⟨r, h, h'⟩
    · left
      obtain ⟨g, e'⟩ := isAny_eq h
      rw [e'] at ih
      rcases ih with ih | ⟨ih, _⟩ | ⟨x, r, _, e1, e2⟩
      · exact ih
      · rw [ih]; rfl
      · rw [e2]; cases e1; rfl
    · rw [h] at ih
      rcases ih with ih | ⟨ih, ih'⟩ | ⟨x, r, hx, e1, e2⟩
      · exact .inl ih
      · exact .inr (.inl ⟨ih, fun z' hz' => by rcases List.mem_cons.1 hz' with rfl | hz'; exact h'; exact ih' z' hz'⟩)
      · exact .inr (.inr ⟨x, r, by rcases hx with hx | hx; exact .inl (by simp [hx]); exact .inr hx, e1, e2⟩)
    · rw [h'] at ih
      rcases ih with ih | ⟨ih, ih'⟩ | ⟨x, r', hx, e1, e2⟩
      · exact .inl ih
      · exact .inr (.inr ⟨z, r, .inl (by simp), h, ih⟩)
      · cases e1
        exact .inr (.inr ⟨z, r, .inl (by simp), h, e2⟩)

theorem rtL_hang {d y : Nat} : ∀ {zs : List Nat} {s : St}, (∃ z ∈ zs, hangs z y = true) ∨ (s.get y).isAny = true → ((St.rtL zs d s).get y).isAny = true
  | [], s, h => by
    rcases h with ⟨z, hz, _⟩ | h
    · simp at hz
    · exact h
  | z :: zs, s, h => by
    simp only [St.rtL]
    refine rtL_hang ?_
    by_cases hzy : hangs z y = true
    · right; rw [get_rt, if_pos hzy]; rfl
    · rcases h with ⟨z', hz', hh⟩ | h
      · rcases List.mem_cons.1 hz' with rfl | hz'
        · exact absurd hh hzy
        · exact .inl ⟨z', hz', hh⟩
      · right
        rw [get_rt, if_neg hzy]
        obtain ⟨g, e⟩ := isAny_eq h
        rw [e]
        cases g <;> simp only [V.rt]
        · rfl
        · rfl
        · rename_i q; cases q == z <;> cases hangs z q <;> rfl
        · rename_i q; simp only [V.on, G.on]; cases hangs z q <;> rfl

/-- **What is kept where slot d absorbs the names zs**, with at most one of their blocks written to, and at most one block new. -/
theorem Keeps.absorb {d : Nat} {zs : List Nat} {E : St} {tm' : Array Value} (h : Gam lo Xb par ow s tm w) (hzd : ∀ z ∈ zs, hangs d z = false) (hzd' : ∀ z ∈ zs, hangs z d = false)
    (hzz : ∀ z ∈ zs, ∀ z' ∈ zs, z ≠ z' → hangs z z' = false) (hE : ∀ p ∈ E, hangs d p.1 = true) (htm : ∀ y, hangs d y = false → ∀ w1, nmv tm' w1 y = nmv tm w1 y)
    (hsize : w.heap.size ≤ w'.heap.size) (ho : ∀ b, b < w.heap.size → ow' b = owL zs d ow b)
    (hw : ∀ b, b < w.heap.size → (∀ z ∈ zs, ow b ≠ some (z, 0)) → w'.heap[b]? = w.heap[b]?) : Keeps lo (d :: zs) ow ow' tm tm' w w' s (E ++ St.rtL zs d (s.kill d)) := by
  have hh : ∀ y, ¬ Hg (d :: zs) y → hangs d y = false ∧ ∀ z ∈ zs, hangs z y = false := fun y hy => by
    constructor
    · rw [← Bool.not_eq_true]; exact fun h => hy ⟨d, by simp, h⟩
    · intro z hz; rw [← Bool.not_eq_true]; exact fun h => hy ⟨z, by simp [hz], h⟩
  have nz : ∀ {y z : Nat}, hangs z y = false → y ≠ z := fun h e => by subst e; rw [hangs_self] at h; cases h
  refine ⟨hsize, fun y hy => ?_, fun y hy hl u hu => ?_, fun y hy b hb r hk => ?_, fun g hg b hb hk => ?_⟩
  · obtain ⟨h1, h2⟩ := hh y hy
    have e : (E ++ St.rtL zs d (s.kill d)).get y = (St.rtL zs d (s.kill d)).get y := get_app fun p hp he => by
      have := hE p hp; rw [he, h1] at this; cases this
    rw [e]
    have ek : (s.kill d).get y = if (s.get y).on d = true then .any else s.get y := by rw [get_kill, h1]; simp
    rcases rtL_get (d := d) (y := y) (zs := zs) (s := s.kill d) hzd' h2 with h | ⟨h, h'⟩ | ⟨x, r, hx, e1, e2⟩
    · exact .inl h
    · rw [ek] at h h'
      by_cases hon : (s.get y).on d = true
      · left; rw [h, if_pos hon]; rfl
      · rw [if_neg hon] at h h'
        refine .inr (.inl ⟨h, fun z hz => ?_⟩)
        rcases List.mem_cons.1 hz with rfl | hz
        · simpa using hon
        · exact h' z hz
    · rw [ek] at e1
      by_cases hon : (s.get y).on d = true
      · rw [if_pos hon] at e1; cases e1
      · rw [if_neg hon] at e1
        refine .inr (.inr ⟨x, d, r, e1, e2, fun b hb hk => ?_⟩)
        have hx0 : ∀ z ∈ zs, ow b ≠ some (z, 0) := fun z _ e => by rw [hk] at e; cases e
        refine ⟨?_, hw b hb hx0⟩
        rw [ho b hb]
        rcases hx with hx | rfl
        · exact owL_mem hzd' (fun z hz hne => hzz z hz x hx hne) hx hk
        · exact owL_d hzd' hk
  · obtain ⟨h1, h2⟩ := hh y hy
    rw [htm y h1]
    refine h.nmKeep hl (fun b hb hk h1000 => hw b hb fun z hz e => ?_) hu
    rw [hk] at e
    have : y % 1000 = z := by cases e; rfl
    have := h2 z hz
    rw [hangs_false] at this
    exact this.2 (by omega) (by omega)
  · obtain ⟨h1, h2⟩ := hh y hy
    exact ⟨by rw [ho b hb]; exact owL_ne h2 hk, hw b hb fun z hz e => by rw [hk] at e; cases e; exact nz (h2 _ hz) rfl⟩
  · have hgz : ∀ z ∈ zs, g.on z = false := fun z hz => hg z (by simp [hz])
    have k1 : okG lo (owL zs d ow) g b := tag_owL hgz b hk
    refine ⟨?_, hw b hb fun z hz e => ?_⟩
    · cases g <;> simp only [okG, ho b hb] at k1 ⊢ <;> exact k1
    · cases g with
      | arg => simp only [okG] at hk; rw [e] at hk; cases hk
      | fr => simp only [okG] at hk; rw [e] at hk; cases hk.1
      | rw q => simp only [okG] at hk; rw [e] at hk; cases hk
      | sp q =>
        simp only [okG] at hk
        rw [e] at hk
        rcases hk with hk | hk | hk
        · have : z = q := by cases hk; rfl
          subst this
          have := hgz z hz
          simp only [G.on] at this
          rw [hangs_self] at this; cases this
        · cases hk
        · cases hk

/-- The one entry of the new name. -/
theorem Gam.absorb {d : Nat} {zs : List Nat} {m : Nat} {nl : Option Bool} {cs : List T} {u : Value} (h : Gam lo Xb par ow s tm w) (hd : d < 1000) (hsz : d < tm.size) (hzd : ∀ z ∈ zs, hangs d z = false) (hzd' : ∀ z ∈ zs, hangs z d = false)
    (hzz : ∀ z ∈ zs, ∀ z' ∈ zs, z ≠ z' → hangs z z' = false) (hsize : w.heap.size ≤ w'.heap.size) (ho : ∀ b, b < w.heap.size → ow' b = owL zs d ow b)
    (hn : ∀ b p, w.heap.size ≤ b → ow' b = some p → b < w'.heap.size ∧ (lo ≤ b ∨ Xb b)) (hw : ∀ b, b < w.heap.size → (∀ z ∈ zs, ow b ≠ some (z, 0)) → w'.heap[b]? = w.heap[b]?)
    (hO : OwnAt lo par ow' w' d m nl cs u) : Gam lo Xb par ow' ((d, .own m nl cs) :: St.rtL zs d (s.kill d)) (tm.setIfInBounds d u) w' := by
  have K : Keeps lo (d :: zs) ow ow' tm (tm.setIfInBounds d u) w w' s ([(d, V.own m nl cs)] ++ St.rtL zs d (s.kill d)) :=
    Keeps.absorb h hzd hzd' hzz (fun p hp => by simp at hp; subst hp; exact hangs_self d) (fun y hy w1 => nmv_put hy hd) hsize ho hw
  refine Gam.next (ds := d :: zs) h K (fun b p hp => ?_) fun y hy hl hny => ?_
  · by_cases hlt : b < w.heap.size
    · rw [ho b hlt] at hp
      obtain ⟨q, hq⟩ := owL_some hp
      obtain ⟨_, h2⟩ := h.base b q hq
      exact ⟨Nat.lt_of_lt_of_le hlt hsize, h2⟩
    · exact hn b p (by omega) hp
  · by_cases hyd : y = d
    · subst hyd
      refine ⟨u, by rw [nmv_slot hd]; simp [hsz], ?_⟩
      rw [get_top]
      exact hO
    · exfalso
      rw [get_top_ne hyd] at hny
      obtain ⟨x, hx, hh⟩ := hy
      have : ((St.rtL zs d (s.kill d)).get y).isAny = true := by
        refine rtL_hang ?_
        rcases List.mem_cons.1 hx with rfl | hx
        · right; rw [get_kill, if_pos (.inl hh)]; rfl
        · exact .inl ⟨x, hx, hh⟩
      rw [this] at hny; cases hny

end
end Go.Vc

/-
  What is made, and what the run of each such operation is.
-/
namespace Go.Vc
open Go

section
variable {P : Program} {lo : Nat} {Xb : Nat → Prop} {par : Nat → Option Value} {ow ow' : Ow} {tm tm' : Array Value} {a : Act} {w w' : World} {s s' : St}

/-- What a step keeps that drops all that hangs on ds. -/
theorem Keeps.drop {ds : List Nat} {E s1 : St} (hE : ∀ p ∈ E, Hg ds p.1) (hsz : w.heap.size ≤ w'.heap.size)
    (hs : ∀ y, ¬ Hg ds y → (s1.get y).isAny = true ∨ (s1.get y = s.get y ∧ ∀ x ∈ ds, (s.get y).on x = false) ∨ (∃ x r, s.get y = .t (.rw x) r ∧ s1.get y = .t (.rw x) r))
    (hrw : ∀ x b, b < w.heap.size → ow b = some (x, 1) → ow' b = some (x, 1) ∧ w'.heap[b]? = w.heap[b]?)
    (hnm : ∀ y, ¬ Hg ds y → s.lv y = true → ∀ u, nmv tm w y = some u → nmv tm' w' y = some u)
    (hown : ∀ y, ¬ Hg ds y → ∀ b, b < w.heap.size → ∀ r, ow b = some (y, r) → ow' b = some (y, r) ∧ w'.heap[b]? = w.heap[b]?)
    (hnone : ∀ b, b < w.heap.size → ow b = none → ow' b = none ∧ w'.heap[b]? = w.heap[b]?) : Keeps lo ds ow ow' tm tm' w w' s (E ++ s1) := by
  refine ⟨hsz, fun y hy => ?_, hnm, hown, fun g hg b hb hk => ?_⟩
  · have e : (E ++ s1).get y = s1.get y := get_app fun p hp he => hy (he ▸ hE p hp)
    rw [e]
    rcases hs y hy with h | h | ⟨x, r, h1, h2⟩
    · exact .inl h
    · exact .inr (.inl h)
    · exact .inr (.inr ⟨x, x, r, h1, h2, fun b hb hk => hrw x b hb hk⟩)
  · have hz : ∀ z, (∀ x ∈ ds, hangs x z = false) → ¬ Hg ds z := fun z h ⟨x, hx, hh⟩ => by rw [h x hx] at hh; cases hh
    cases g with
    | arg => obtain ⟨h1, h2⟩ := hnone b hb hk; exact ⟨h1, h2⟩
    | fr => obtain ⟨h1, h2⟩ := hnone b hb hk.1; exact ⟨⟨h1, hk.2⟩, h2⟩
    | rw z => obtain ⟨h1, h2⟩ := hown z (hz z hg) b hb 1 hk; exact ⟨h1, h2⟩
    | sp z =>
      rcases hk with hk | hk | hk
      · obtain ⟨h1, h2⟩ := hown z (hz z hg) b hb 0 hk; exact ⟨.inl h1, h2⟩
      · obtain ⟨h1, h2⟩ := hown z (hz z hg) b hb 1 hk; exact ⟨.inr (.inl h1), h2⟩
      · obtain ⟨h1, h2⟩ := hnone b hb hk; exact ⟨.inr (.inr h1), h2⟩

/-- All that hangs on y may be forgotten. -/
theorem Gam.kill (h : Gam lo Xb par ow s tm w) (y : Nat) : Gam lo Xb par ow (s.kill y) tm w := by
  have K : Keeps lo [y] ow ow tm tm w w s ([] ++ s.kill y) := Keeps.drop (by simp) (Nat.le_refl _) (fun z hz => by
      have hh : hangs y z = false := by rw [← Bool.not_eq_true]; exact fun h => hz ⟨y, by simp, h⟩
      rw [get_kill]
      by_cases hon : (s.get z).on y = true
      · left; simp [hon]; rfl
      · simp only [Bool.not_eq_true] at hon
        right; left; simp [hh, hon]) (fun _ _ _ h => ⟨h, rfl⟩) (fun _ _ _ _ h => h) (fun _ _ _ _ _ h => ⟨h, rfl⟩) (fun _ _ h => ⟨h, rfl⟩)
  refine Gam.next h K h.base fun z ⟨x, hx, hh⟩ hl hn => ?_
  simp at hx; subst hx
  rw [get_kill, if_pos (.inl hh)] at hn; cases hn

/-- Nothing hangs on d, and what mentions it mentions its rows only. -/
def Kd (d : Nat) (s : St) : Prop := ∀ y, (hangs d y = true → (s.get y).isAny = true) ∧ ((s.get y).on d = true → ∃ z r, s.get y = .t (.rw z) r)

theorem Kd.kill (d : Nat) (s : St) : Kd d (s.kill d) := fun y => by
  rw [get_kill]
  refine ⟨fun h => by rw [if_pos (.inl h)]; rfl, fun h => ?_⟩
  split at h
  · cases h
  · rename_i hq; simp only [not_or] at hq; exact absurd h hq.2

theorem rt_or {x e : Nat} {v : V} : V.rt x e v = .any ∨ V.rt x e v = v ∨ ∃ r, V.rt x e v = .t (.rw e) r := by
  cases v with
  | t g r =>
    cases g <;> simp only [V.rt]
    · exact .inr (.inl rfl)
    · exact .inr (.inl rfl)
    · rename_i q
      cases q == x <;> cases hangs x q <;> simp
    · rename_i q
      simp only [V.on, G.on]; cases hangs x q <;> simp
  | _ => simp only [V.rt]; generalize V.on x _ = c; cases c <;> simp

theorem Kd.rt {d x e : Nat} (h : Kd d s) : Kd d (s.rt x e) := fun y => by
  rw [get_rt]
  obtain ⟨h1, h2⟩ := h y
  split
  · exact ⟨fun _ => rfl, fun h => by cases h⟩
  · refine ⟨fun hh => ?_, fun hh => ?_⟩
    · obtain ⟨g, hg⟩ := isAny_eq (h1 hh)
      rw [hg]
      cases g <;> simp only [V.rt]
      · rfl
      · rfl
      · rename_i q; cases q == x <;> cases hangs x q <;> rfl
      · rename_i q; simp only [V.on, G.on]; cases hangs x q <;> rfl
    · rcases rt_or (x := x) (e := e) (v := s.get y) with h | h | ⟨r, h⟩
      · rw [h] at hh; cases hh
      · rw [h] at hh ⊢; exact h2 hh
      · exact ⟨e, r, h⟩

/-- **A name is made** in slot d, in memory that has grown. -/
theorem Gam.make {d : Nat} {E : St} {u : Value} (h : Gam lo Xb par ow s tm w) (hk : Kd d s) (hd : d < 1000) (hg : Grow (fun _ => False) w w')
    (ho : ∀ b, b < w.heap.size → ow' b = ow b) (hb : ∀ b p, w.heap.size ≤ b → ow' b = some p → b < w'.heap.size ∧ (lo ≤ b ∨ Xb b)) (hE : ∀ p ∈ E, hangs d p.1 = true)
    (he : ∀ y, hangs d y = true → (∃ p ∈ E, p.1 = y) → St.lv (E ++ s) y = true → (E.get y).isAny = false → ∃ x, nmv (tm.setIfInBounds d u) w' y = some x ∧ Rep lo par ow' (tm.setIfInBounds d u) w' (E ++ s) y (E.get y) x) :
    Gam lo Xb par ow' (E ++ s) (tm.setIfInBounds d u) w' := by
  have hh : ∀ y, ¬ Hg [d] y → hangs d y = false := fun y hy => by
    rw [← Bool.not_eq_true]; exact fun h => hy ⟨d, by simp, h⟩
  have K : Keeps lo [d] ow ow' tm (tm.setIfInBounds d u) w w' s (E ++ s) := Keeps.drop (fun p hp => ⟨d, by simp, hE p hp⟩) hg.size (fun y hy => by
      by_cases hon : (s.get y).on d = true
      · obtain ⟨z, r, e⟩ := (hk y).2 hon; exact .inr (.inr ⟨z, r, e, e⟩)
      · simp only [Bool.not_eq_true] at hon
        exact .inr (.inl ⟨rfl, by simpa using hon⟩)) (fun x b hb hk => ⟨by rw [ho b hb]; exact hk, hg.blk hb⟩)
    (fun y hy _ x hx => nmv_grow hg (by rw [nmv_put (hh y hy) hd]; exact hx)) (fun y _ b hb r hk => ⟨by rw [ho b hb]; exact hk, hg.blk hb⟩) (fun b hb hk => ⟨by rw [ho b hb]; exact hk, hg.blk hb⟩)
  refine Gam.next h K (fun b p hp => ?_) fun y hy hl hn => ?_
  · by_cases hlt : b < w.heap.size
    · obtain ⟨_, h2⟩ := h.base b p (by rw [← ho b hlt]; exact hp)
      exact ⟨Nat.lt_of_lt_of_le hlt hg.size, h2⟩
    · exact hb b p (by omega) hp
  · obtain ⟨x, hx, hx'⟩ := hy
    simp at hx; subst hx
    by_cases hex : ∃ p ∈ E, p.1 = y
    · rw [get_append_yes hex] at hn ⊢
      exact he y hx' hex hl hn
    · exfalso
      rw [get_app (fun p hp e => hex ⟨p, hp, e⟩), (hk y).1 hx'] at hn
      cases hn

/-- Of any name that lives. -/
theorem Gam.lookN (h : Gam lo Xb par ow s tm w) {x : Nat} {u : Value} (hl : s.lv x = true) (hu : nmv tm w x = some u) : RepW lo par ow tm w s (s.enr x (s.get x)) u := by
  by_cases hx : x < 1000
  · have := h.look hx
    rw [look_s] at this
    rw [nmv_slot hx] at hu
    rw [← Option.some.inj hu]; exact this
  by_cases ha : (s.get x).isAny = true
  · obtain ⟨g, e⟩ := isAny_eq ha; rw [e, enr_t]; simp [RepW, Fz]
  simp only [Bool.not_eq_true] at ha
  obtain ⟨u', e, hr⟩ := h.ent x hl ha
  rw [hu] at e; cases e
  cases hv : s.get x with
  | t g r => rw [hv] at hr; exact hr
  | own m nl cs => rw [hv] at hr; exact ⟨hv, hl, hu, hr⟩
  | fo z k nl cs => rw [hv] at hr; exact hr
  | bx k => rw [hv] at hr; exact absurd hr.1 hx
  | tp k => rw [enr_tp]; simp only [RepW]
  | ag k => rw [hv] at hr; exact absurd hr.1 hx
  | al z =>
    rw [hv] at hr
    rw [enr_al]
    cases hz : s.get z with
    | own m nl cs =>
      rw [alW_own]
      cases hlz : s.lv z with
      | false => simp only [cond_false, RepW]
      | true =>
        simp only [cond_true]
        obtain ⟨u', e', hr'⟩ := h.ent z hlz (by rw [hz]; rfl)
        have hc := hr (by simp [hz, hlz])
        rw [hc] at e'; cases e'
        rw [hz] at hr'
        exact ⟨hz, hlz, hc, hr'⟩
    | ag k =>
      rw [alW_ag]
      by_cases hz1 : z < 1000
      · simp only [hz1, decide_true, cond_true]
        have hc := hr (by simp [hz, hz1])
        have htm : tm.getD z undef = u := by rw [nmv_slot hz1] at hc; simpa using hc
        have := h.look hz1
        rw [look_s, hz, enr_ag, htm] at this
        exact this
      · simp only [hz1, decide_false, cond_false, RepW]
    | _ => simp only [alW, RepW]
  | pc z => rw [hv] at hr; rw [enr_pc]; exact h.pcW hr
  | pe z j =>
    rw [hv] at hr
    rw [enr_pe]
    cases hz : s.get z with
    | own m nl cs =>
      rw [peW_own]
      cases hlz : s.lv z with
      | false => simp only [cond_false, RepW]
      | true =>
        simp only [cond_true]
        obtain ⟨u', e', hr'⟩ := h.ent z hlz (by rw [hz]; rfl)
        obtain ⟨b, len, cap, f1, f2⟩ := hr (by simp [hz, hlz])
        rw [f1] at e'; cases e'
        rw [hz] at hr'
        exact ⟨hz, hlz, b, len, cap, f1, hr', f2⟩
    | _ => simp only [peW, RepW]
  | er z j =>
    rw [hv] at hr
    rw [enr_er]
    cases hz : s.get z with
    | own m nl cs =>
      rw [erW_own]
      cases hlz : s.lv z with
      | false => simp only [cond_false, RepW]
      | true =>
        simp only [cond_true]
        obtain ⟨u', e', hr'⟩ := h.ent z hlz (by rw [hz]; rfl)
        obtain ⟨b, len, cap, f1, _, f2⟩ := hr (by simp [hz, hlz])
        rw [f1] at e'; cases e'
        rw [hz] at hr'
        exact ⟨hz, hlz, b, len, cap, f1, hr', f2⟩
    | _ => simp only [erW, RepW]
  | sl z l h' =>
    rw [hv] at hr
    rw [enr_sl]
    cases hz : s.get z with
    | own m nl cs =>
      rw [slW_own]
      cases hlz : s.lv z with
      | false => simp only [cond_false, RepW]
      | true =>
        simp only [cond_true]
        obtain ⟨u', e', hr'⟩ := h.ent z hlz (by rw [hz]; rfl)
        obtain ⟨a0, len, cap, f1, f2⟩ := hr (by simp [hz, hlz])
        rw [f1] at e'; cases e'
        rw [hz] at hr'
        exact ⟨hz, hlz, a0, len, cap, f1, hr', f2⟩
    | _ => simp only [slW, RepW]
  | bv z =>
    rw [hv] at hr
    rw [enr_bv]
    cases hz : s.get z with
    | bx n =>
      rw [bvW_bx]
      obtain ⟨hz1, hr⟩ := hr
      simp only [hz1, decide_true, cond_true]
      obtain ⟨b, arr, ty, e1, e2, e3, e4, e5, _⟩ := h.box hz hz1
      obtain ⟨b', arr', ty', f1, _, f3, f4⟩ := hr (by simp [hz])
      rw [e1] at f1; cases f1
      rw [e2] at f3; cases f3
      exact ⟨hz, hz1, b, arr, ty, e1, e2, e3, e4, f4, e5⟩
    | _ => simp only [bvW, RepW]
  | clo f cp =>
    rw [hv] at hr
    rw [enr_clo]
    refine ⟨hr.y rfl, ?_⟩
    obtain ⟨xs, e1, e2, hc⟩ := hr
    refine ⟨xs, e1, FzL.of_get (by simpa using e2) fun k x hk => ?_⟩
    have hk' : k < cp.length := by rw [← e2]; exact (List.getElem?_eq_some_iff.1 hk).1
    have hcp : cp[k]? = some cp[k] := List.getElem?_eq_getElem hk'
    have hx := hc k _ x hcp hk
    rw [List.getD, List.getElem?_map, hcp]
    simp only [Option.map_some, Option.getD_some]
    revert hx
    cases cp[k] with
    | t g r => intro hx; exact Fz.mono (fun _ _ => trivial) hx
    | p z =>
      intro hx
      rw [capT_p]
      cases hz : s.get (z % 1000) with
      | bx n =>
        rw [capV_bx]
        obtain ⟨b, arr, ty, f1, f2, f3, f4, f5, f6⟩ := h.box hz (by omega)
        obtain ⟨b', g1, g2⟩ := hx (by simp [hz])
        rw [f1] at g1; cases g1
        simp only [Fz]
        refine ⟨b, 0, arr.toList, by simpa using g2, fun _ => trivial, f5, fun j y hj => ?_⟩
        rw [cell_of_row w b (0 + j) arr ty (0, 0) f2]; simpa using hj
      | _ => simp [capV, Fz]

end
end Go.Vc

/-
  The effects: what is made.
-/
namespace Go.Vc
open Go

section
variable {P : Program} {lo : Nat} {Xb : Nat → Prop} {par : Nat → Option Value} {ow ow' : Ow} {tm tm' : Array Value} {a : Act} {w w' : World} {s s' : St} {K : St → Prop} {oper : Oper}

/-- What is left to show of an effect. -/
def GoI (P : Program) (lo : Nat) (Xb : Nat → Prop) (par : Nat → Option Value) (a : Act) (w : World) (K : St → Prop) (oper : Oper) : Prop :=
  ∀ (next : Act → World → Prop) (Q : Exit → Act → World → Prop),
    (∀ s' a' w' ow', K s' → Grow (fun k => lo ≤ k ∨ Xb k) w w' → Gam lo Xb par ow' s' a'.tmps w' → a'.tmps.size = a.tmps.size → a'.defers = a.defers → next a' w') → oper.wp P a w next Q

theorem put_some {d : Nat} {u : Value} : (a.put (some d) u) = { a with tmps := a.tmps.setIfInBounds d u } := rfl

theorem goi_val {d : Nat} {u : Value} (hd : oper.dst = some d) (hr : (execOp a.eval oper).run P w = .ok (.value u) w') (hk : K s') (hg : Grow (fun k => lo ≤ k ∨ Xb k) w w')
    (hG : Gam lo Xb par ow' s' (a.tmps.setIfInBounds d u) w') : GoI P lo Xb par a w K oper := by
  intro next Q N
  unfold Oper.wp
  rw [hr]
  simp only [Oper.upon]
  rw [hd, put_some]
  exact N s' _ w' ow' hk hg hG (by simp) rfl

theorem Grow.any {X : Nat → Prop} (h : Grow (fun _ => False) w w') : Grow X w w' := h.mono fun _ _ h => h.elim

theorem get_mem {E : St} {y : Nat} (h : ∃ p ∈ E, p.1 = y) : ∃ p ∈ E, p.1 = y ∧ E.get y = p.2 := by
  induction E with
  | nil => obtain ⟨p, hp, _⟩ := h; simp at hp
  | cons q E ih =>
    obtain ⟨k, v⟩ := q
    rw [get_if]
    by_cases hk : k = y
    · exact ⟨(k, v), by simp, hk, by rw [if_pos hk]⟩
    · rw [if_neg hk]
      obtain ⟨p, hp, e⟩ := h
      have : p ∈ E := by
        rcases List.mem_cons.1 hp with rfl | hp
        · exact absurd e hk
        · exact hp
      obtain ⟨q, hq, e1, e2⟩ := ih ⟨p, this, e⟩
      exact ⟨q, by simp [hq], e1, e2⟩

theorem kOk1_row {t : T} {v : Value} (h : kOk1 t v = true) : rowBlk v = none := by
  unfold kOk1 at h; split at h <;> first | rfl | cases h

/-! ### mkn, mk, lit -/

theorem mkn_goi {d : Nat} (hG : Gam lo Xb par ow s a.tmps w) (hd : oper.dst = some d) (hd1 : d < 1000) (hsz : d < a.tmps.size)
    (ho : oper.op = .move (.const (.slice none 0 0)) ∨ oper.op = .assign (.const (.slice none 0 0))) (hk : wpI P (.mkn d) K s) : GoI P lo Xb par a w K oper := by
  rw [wpI_mkn] at hk
  refine goi_val (u := .slice none 0 0) hd (w' := w) ?_ hk (Grow.refl _ _) (Gam.createOwn hG hd1 hsz (Grow.refl _ _) (fun _ _ => rfl) (fun b p hb hp => absurd (hG.base b p hp).1 (by omega)) ?_)
  · rcases ho with ho | ho <;> simp [execOp, ho, Act.eval]
  · exact ⟨fun h => absurd h (by omega), .inl ⟨rfl, rfl, by simp⟩⟩

theorem mk_goi {d : Nat} {z : T} {l c : X} {l' c' : Operand} {t : TypeId} (hG : Gam lo Xb par ow s a.tmps w) (hd : oper.dst = some d) (hd1 : d < 1000) (hsz : d < a.tmps.size)
    (ho : oper.op = .makeSlice t l' c') (h1 : xOk l l' = true) (h2 : xOk c c' = true) (hz : (match P.underlying t with | some (.slice e) => zOk P e z | _ => false) = true) (hk : wpI P (.mk d z l c) K s) : GoI P lo Xb par a w K oper := by
  rw [wpI_mk] at hk
  have r1 := xOk_sound hG h1
  have r2 := xOk_sound hG h2
  generalize s.look l = wl at r1 hk
  generalize s.look c = wc at r2 hk
  cases wl with
  | t g r =>
    cases r with
    | i n =>
      cases wc with
      | t g' r' =>
        cases r' with
        | i k =>
          rw [mkK_e] at hk
          obtain ⟨k1, k2, k3, k4⟩ := hk
          obtain ⟨e1, _⟩ := repI r1
          obtain ⟨e2, _⟩ := repI r2
          split at hz
          · rename_i e he
            obtain ⟨i, zv, hi, hs1, hby, hzv, hone, hkk⟩ := zOk_spec hz
            have hcells := oneCell_cells hone
            have hb : (i.bytes : Int) * k ≤ 281474976710656 := by
              have : (i.bytes : Int) ≤ 64 := by omega
              calc (i.bytes : Int) * k ≤ 64 * k := Int.mul_le_mul_of_nonneg_right this (by omega)
                _ ≤ 281474976710656 := by omega
            have hr := run_make (P := P) w t e i zv he hi hzv .i64 .i64 n k k1 k2 hb (by omega)
            rw [hcells, hs1, Nat.mul_one] at hr
            refine goi_val hd (w' := w.alloc (.cells (madeCells #[zv] k.toNat) e)) (u := .slice (some ⟨w.heap.size, 0, none⟩) n.toNat k.toNat) ?_ k4 ((Grow.alloc _ w _)) ?_ (ow' := owNew ow w.heap.size d)
            · simp [execOp, ho, e1, e2, hr]
            · refine Gam.createOwn hG hd1 hsz (Grow.alloc _ w _) (fun b hb => owNew_old hb) (hG.hbNew _) ?_
              have hfz : FzL (okG lo (owNew ow w.heap.size d) (tagM 1 d)) (w.alloc (.cells (madeCells #[zv] k.toNat) e)) (List.replicate n.toNat z) (List.replicate n.toNat zv) := FzL.replicate (kOk1_sound hkk) _
              have := own_laid (lo := lo) (par := par) (ow' := owNew ow w.heap.size d) (d := d) (m := 1) (cs := List.replicate n.toNat z) (xs := List.replicate n.toNat zv) (e := e) (cap := k.toNat) (arr := madeCells #[zv] k.toNat) (w := w)
                owNew_new (by omega) (size_madeCells _ _) (by simp; omega) (by simp only [maxLen]; omega) (by rw [toList_madeCells_one]; simp; omega) hfz (fun _ => nilrow_deep fun x hx => by rw [(List.mem_replicate.1 hx).2]; exact kOk1_row hkk)
              simpa using this
          · cases hz
        | _ => exact hk.elim
      | _ => exact hk.elim
    | _ => exact hk.elim
  | _ => exact hk.elim

end
end Go.Vc

/-
  The effects: slices laid, boxes, new names out of calls.
-/
namespace Go.Vc
open Go

section
variable {P : Program} {lo : Nat} {Xb : Nat → Prop} {par : Nat → Option Value} {ow ow' : Ow} {tm tm' : Array Value} {a : Act} {w w' : World} {s s' : St} {K : St → Prop} {oper : Oper}

def litChk (P : Program) (xs : List X) (op : Op) : Bool := match op with
  | .buildSlice t n ps => tyS1 P t && n == xs.length && decide (n ≤ 1000) && litOk 0 xs ps.toList && tyZ P t
  | _ => false

/-- A row is given away to d: its one block is d's row now. -/
def owGive (ow : Ow) (x d : Nat) : Ow := fun b => if ow b = some (x, 0) then some (d, 1) else ow b

theorem owGive_none {x d b : Nat} : owGive ow x d b = none ↔ ow b = none := by
  unfold owGive; split
  · rename_i h; simp [h]
  · rfl

theorem owGive_ne {x d b : Nat} (h : ow b ≠ some (x, 0)) : owGive ow x d b = ow b := by unfold owGive; rw [if_neg h]

theorem goesI_lit {d k : Nat} {xs : List X} (hG : Gam lo Xb par ow s a.tmps w) (hd : oper.dst = some d) (hd1 : d < 1000) (hsz : d < a.tmps.size) (ho : litChk P xs oper.op = true)
    (hk : wpI P (.lit d xs k) K s) : GoI P lo Xb par a w K oper := by
  unfold litChk at ho
  split at ho
  case h_2 => cases ho
  rename_i t n ps hop
  simp only [Bool.and_eq_true, beq_iff_eq, decide_eq_true_eq] at ho
  obtain ⟨⟨⟨⟨h1, hn⟩, hn2⟩, h2⟩, hz⟩ := ho
  obtain ⟨g1, g2⟩ := litOk_spec (a := a) h2
  obtain ⟨l1, l2⟩ := xsOk_sound hG g1
  have hlen : ((ps.toList.map (·.2)).map a.eval).length = xs.length := by simpa using l1.symm
  rw [wpI_lit] at hk
  have lay : ∀ {g : G} {ts : List T} {m : Nat}, parts (xs.map s.look) = some (g, ts) → (m = 1 ∧ scalL ts) ∨ (m = 0 ∧ g = .fr) → K ((d, .own m (some false) ts) :: s.kill d) → GoI P lo Xb par a w K oper := by
    intro g ts m hp hm hK
    obtain ⟨f1, f2, f3, f4, f5⟩ := parts_spec l1 l2 hp
    obtain ⟨e, hr⟩ := lit_run (P := P) (w := w) hop h1 hn hn2 h2 hz f2 hlen
    have hts : ts.length = xs.length := by rw [← hlen]; exact f1.length.symm
    refine goi_val hd hr hK (Grow.alloc _ w _) (ow' := owNew ow w.heap.size d) (Gam.createOwn hG hd1 hsz (Grow.alloc _ w _) (fun b hb => owNew_old hb) (hG.hbNew _) ?_)
    have htake : (((ps.toList.map (·.2)).map a.eval).toArray.toList).take ts.length = (ps.toList.map (·.2)).map a.eval := by
      simp only [List.take_of_length_le, hts, hlen, Nat.le_refl]
    have hx : FzL (okG lo (owNew ow w.heap.size d) (tagM m d)) (w.alloc (.cells ((ps.toList.map (·.2)).map a.eval).toArray e)) ts ((ps.toList.map (·.2)).map a.eval) := by
      rcases hm with ⟨rfl, hs⟩ | ⟨rfl, rfl⟩
      · exact f1.scal hs
      · exact FzL.imp (fun b hb hk => ⟨hk.grow (fun b hb => owNew_old hb) hb, (Grow.alloc (fun _ => False) w _).blk hb⟩) _ _ f1
    have := own_laid (lo := lo) (par := par) (ow' := owNew ow w.heap.size d) (d := d) (m := m) (cs := ts) (e := e) (cap := n) (w := w)
      owNew_new (by omega) (by rw [List.size_toArray, hlen, hn]) (by omega) (by simp only [maxLen]; omega) htake hx (fun hm1 => by
        rcases hm with ⟨rfl, hs⟩ | ⟨rfl, rfl⟩
        · exact scal_deep hs f1
        · cases hm1)
    rw [hn, ← hts]
    rw [hn, ← hts] at this
    exact this
  match k with
  | 0 =>
    rw [litK_0] at hk
    cases hp : parts (xs.map s.look) with
    | none => simp [hp, optK] at hk
    | some p => obtain ⟨g, ts⟩ := p; rw [hp, optK_s] at hk; exact lay hp (.inl ⟨rfl, hk.1⟩) hk.2
  | 2 =>
    rw [litK_2] at hk
    cases hp : parts (xs.map s.look) with
    | none => simp [hp, optK] at hk
    | some p => obtain ⟨g, ts⟩ := p; rw [hp, optK_s] at hk; exact lay hp (.inr ⟨rfl, hk.1⟩) hk.2
  | k + 3 => cases hw : xs.map s.look <;> rw [hw] at hk <;> exact hk.elim
  | 1 =>
    -- one row of its own
    cases hw : xs.map s.look with
    | nil => rw [hw] at hk; exact hk.elim
    | cons wx ws =>
      cases ws with
      | cons _ _ => rw [hw] at hk; cases wx <;> exact hk.elim
      | nil =>
        rw [hw] at hk l1 l2
        cases wx with
        | own x m nl cs =>
          rw [litK_1] at hk
          obtain ⟨hdx, hm, hcs, hK⟩ := hk
          cases hps : (ps.toList.map (·.2)).map a.eval with
          | nil => rw [hps] at l1; simp at l1
          | cons u us =>
            have hus : us = [] := by rw [hps] at l1; simpa using l1.symm
            subst hus
            have hR : RepW lo par ow a.tmps w s (.own x m nl cs) u := l2 0 _ _ (by simp) (by rw [hps]; simp)
            obtain ⟨hx, hlx, hnx, hO⟩ := hR
            have hone : u.oneCell' = true := by
              rcases hO.2 with ⟨rfl, _⟩ | ⟨_, b, cap, arr, ty, zs, rfl, _⟩ <;> rfl
            have f2 : ∀ v ∈ (ps.toList.map (·.2)).map a.eval, v.oneCell' = true := by rw [hps]; simpa using hone
            obtain ⟨e, hr⟩ := lit_run (P := P) (w := w) hop h1 hn hn2 h2 hz f2 hlen
            rw [hps] at hr
            have hn1 : n = 1 := by rw [hn, ← hlen, hps]; rfl
            subst hn1
            have hg : Grow (fun _ => False) w (w.alloc (.cells #[u] e)) := Grow.alloc _ w _
            have hne : ∀ b, b < w.heap.size → ∀ p, ow b = some p → p ≠ (x, 0) → owNew (owGive ow x d) w.heap.size d b = some p := fun b hb p hp hne => by
              rw [owNew_old hb, owGive_ne (by rw [hp]; simpa using hne)]; exact hp
            have hng : ∀ b, b < w.heap.size → ow b = none → owNew (owGive ow x d) w.heap.size d b = none := fun b hb hp => by
              rw [owNew_old hb]; exact owGive_none.2 hp
            have hxd : hangs x d = false := by
              rw [hangs_false] at hdx ⊢
              refine ⟨fun e => hdx.1 e.symm, fun h => ?_⟩
              rw [Nat.mod_eq_of_lt hd1]; exact fun e => hdx.1 e.symm
            have hh : ∀ y, ¬ Hg [d, x] y → hangs d y = false ∧ hangs x y = false := fun y hy => by
              constructor
              · rw [← Bool.not_eq_true]; exact fun h => hy ⟨d, by simp, h⟩
              · rw [← Bool.not_eq_true]; exact fun h => hy ⟨x, by simp, h⟩
            have Kp : Keeps lo [d, x] ow (owNew (owGive ow x d) w.heap.size d) a.tmps (a.tmps.setIfInBounds d (.slice (some ⟨w.heap.size, 0, none⟩) 1 1)) w (w.alloc (.cells #[u] e)) s
                ([(d, .own 1 (some false) [.s nl cs]), (x, .t (.rw d) (.s nl cs))] ++ (s.kill d).kill x) := by
              refine Keeps.drop (fun p hp => ?_) hg.size (fun y hy => ?_) (fun z b hb hk => ⟨hne b hb _ hk (by simp), hg.blk hb⟩) (fun y hy _ u' hu => nmv_grow hg (by rw [nmv_put (hh y hy).1 hd1]; exact hu)) (fun y hy b hb r hk => ⟨hne b hb _ hk ?_, hg.blk hb⟩) (fun b hb hk => ⟨hng b hb hk, hg.blk hb⟩)
              · simp at hp
                rcases hp with rfl | rfl
                · exact ⟨d, by simp, hangs_self d⟩
                · exact ⟨x, by simp, hangs_self x⟩
              · obtain ⟨q1, q2⟩ := hh y hy
                rw [get_kill, get_kill]
                by_cases o1 : (s.get y).on d = true
                · left; simp [o1]; rfl
                · simp only [Bool.not_eq_true] at o1
                  simp only [q1, o1, Bool.false_eq_true, or_self, if_false, q2, false_or]
                  by_cases o2 : (s.get y).on x = true
                  · left; rw [if_pos o2]; rfl
                  · simp only [Bool.not_eq_true] at o2
                    right; left
                    rw [o2]; exact ⟨by simp, fun z hz => by simp at hz; rcases hz with rfl | rfl; exact o1; exact o2⟩
              · intro e; cases e; have := (hh x hy).2; rw [hangs_self] at this; cases this
            refine goi_val hd hr (by rw [take1_eq] at hK; exact hK) hg.any (ow' := owNew (owGive ow x d) w.heap.size d) (Gam.next hG Kp (fun b p hp => ?_) fun y hy hly hny => ?_)
            · by_cases hlt : b < w.heap.size
              · rw [owNew_old hlt] at hp
                have : ∃ q, ow b = some q := by
                  cases e : ow b with
                  | none => rw [owGive_none.2 e] at hp; cases hp
                  | some q => exact ⟨q, rfl⟩
                obtain ⟨q, hq⟩ := this
                obtain ⟨_, q2⟩ := hG.base b q hq
                exact ⟨Nat.lt_of_lt_of_le hlt hg.size, q2⟩
              · unfold owNew at hp
                split at hp
                · rename_i hb; subst hb; exact ⟨by simp, .inl hG.low⟩
                · unfold owGive at hp
                  rw [hG.owNone (by omega)] at hp; simp at hp
            · have hfx : Fz (okG lo (owNew (owGive ow x d) w.heap.size d) (.rw d)) (w.alloc (.cells #[u] e)) (.s nl cs) u := by
                rcases hO.2 with h | ⟨hnl, b, cap, arr, ty, zs, e1, ho', hb, hs', hl', hm', ht', hx', hd'⟩
                · simp only [Fz]; exact .inl h
                · have hbl : b < w.heap.size := (Array.getElem?_eq_some_iff.1 hb).1
                  simp only [Fz]
                  refine .inr ⟨hnl, b, 0, none, cap, zs, e1, hl', hm', fun _ => ⟨?_, rfl⟩, hx'.scal hcs, fun k v hk => ?_⟩
                  · simp only [okG]; rw [owNew_old hbl]; unfold owGive; rw [if_pos ho']
                  · rw [World.cell?_of_block (w := w) (hg.blk hbl), cell_of_row w b (0 + k) arr ty (0, 0) hb]
                    subst ht'
                    rw [List.getElem?_take] at hk
                    split at hk
                    · simpa using hk
                    · cases hk
              by_cases hyd : y = d
              · subst hyd
                refine ⟨.slice (some ⟨w.heap.size, 0, none⟩) 1 1, by rw [nmv_slot hd1]; simp [hsz], ?_⟩
                have : St.get ([(y, V.own 1 (some false) [T.s nl cs]), (x, V.t (.rw y) (.s nl cs))] ++ (s.kill y).kill x) y = .own 1 (some false) [T.s nl cs] := by
                  rw [List.cons_append, get_top]
                rw [this]
                have := own_laid (lo := lo) (par := par) (ow' := owNew (owGive ow x y) w.heap.size y) (d := y) (m := 1) (cs := [.s nl cs]) (xs := [u]) (e := e) (cap := 1) (arr := #[u]) (w := w)
                  owNew_new (by omega) rfl (by simp) (by decide) rfl (by simp only [FzL]; exact ⟨u, [], rfl, hfx, rfl⟩) (fun _ => by
                    refine ⟨fun i j b hi hj => ?_, fun i b hi => ?_⟩
                    · cases i with
                      | zero =>
                        cases j with
                        | zero => rfl
                        | succ j => simp at hj
                      | succ i => simp at hi
                    · cases i with
                      | succ i => simp at hi
                      | zero =>
                        simp at hi
                        rcases hO.2 with h | ⟨hnl, b', cap, arr, ty, zs, e1, ho', hb, hsz', _⟩
                        · rw [h.1] at hi; cases hi
                        · rw [e1] at hi; cases hi
                          have hbl : b' < w.heap.size := (Array.getElem?_eq_some_iff.1 hb).1
                          refine ⟨?_, arr, ty, cs.length, by rw [hg.blk hbl]; exact hb, by rw [hsz', e1]; rfl⟩
                          rw [owNew_old hbl]; unfold owGive; rw [if_pos ho'])
                exact this
              · by_cases hyx : y = x
                · subst hyx
                  refine ⟨u, nmv_grow hg (by rw [nmv_put (by rw [hangs_false] at hdx ⊢; exact hdx) hd1]; exact hnx), ?_⟩
                  have : St.get ([(d, V.own 1 (some false) [T.s nl cs]), (y, V.t (.rw d) (.s nl cs))] ++ (s.kill d).kill y) y = .t (.rw d) (.s nl cs) := by
                    rw [List.cons_append, get_top_ne hyd, List.cons_append, get_top]
                  rw [this]
                  exact hfx
                · exfalso
                  have e0 : St.get ([(d, V.own 1 (some false) [T.s nl cs]), (x, V.t (.rw d) (.s nl cs))] ++ (s.kill d).kill x) y = ((s.kill d).kill x).get y := by
                    rw [List.cons_append, get_top_ne hyd, List.cons_append, get_top_ne hyx]; rfl
                  rw [e0] at hny
                  obtain ⟨z, hz, hhz⟩ := hy
                  simp at hz
                  rcases hz with rfl | rfl
                  · rw [get_kill] at hny
                    split at hny
                    · cases hny
                    · rw [get_kill, if_pos (.inl hhz)] at hny; cases hny
                  · rw [get_kill, if_pos (.inl hhz)] at hny; cases hny
        | _ => exact hk.elim

end
end Go.Vc

/-
  The effects: boxes, moves, calls.
-/
namespace Go.Vc
open Go

section
variable {P : Program} {lo : Nat} {Xb : Nat → Prop} {par : Nat → Option Value} {ow ow' : Ow} {tm tm' : Array Value} {a : Act} {w w' : World} {s s' : St} {K : St → Prop} {oper : Oper}

/-- What a cell of a new box holds. -/
def CellRep (lo : Nat) (par : Nat → Option Value) (ow : Ow) (w : World) (y : Nat) : V → Value → Prop
  | .t g r, x => Fz (okG lo ow g) w r x
  | .own m nl cs, x => OwnAt lo par ow w y m nl cs x
  | _, _ => False

theorem Gam.mkBox {d n : Nat} {E : St} {arr : Array Value} {ty : TypeId} (h : Gam lo Xb par ow s tm w) (hk : Kd d s) (hd : d < 1000) (hsz : d < tm.size) (hn : arr.size = n)
    (hE : ∀ p ∈ E, ∃ j x, 1 + j < 100 ∧ p.1 = d + 1000 * (1 + j) ∧ arr[j]? = some x ∧ CellRep lo par ow w (d + 1000 * (1 + j)) p.2 x) :
    Gam lo Xb par (owNew ow w.heap.size d) ((d, .bx n) :: (E ++ s)) (tm.setIfInBounds d (.pointer (some ⟨w.heap.size, 0, none⟩))) (w.alloc (.cells arr ty)) := by
  have hg : Grow (fun _ => False) w (w.alloc (.cells arr ty)) := Grow.alloc _ w _
  have hh : ∀ j, hangs d (d + 1000 * (1 + j)) = true := fun j => hangs_iff.2 (.inr ⟨hd, by omega⟩)
  refine Gam.make (E := (d, .bx n) :: E) h hk hd hg (fun b hb => owNew_old hb) (h.hbNew _) (fun p hp => ?_) fun y hy hex hl hna => ?_
  · rcases List.mem_cons.1 hp with rfl | hp
    · exact hangs_self d
    · obtain ⟨j, x, _, e, _⟩ := hE p hp; rw [e]; exact hh j
  · by_cases hyd : y = d
    · subst hyd
      refine ⟨.pointer (some ⟨w.heap.size, 0, none⟩), by rw [nmv_slot hd]; simp [hsz], ?_⟩
      rw [get_top]
      exact ⟨hd, w.heap.size, arr, ty, rfl, owNew_new, heap_alloc_new w _, hn⟩
    · have hex' : ∃ p ∈ E, p.1 = y := by
        obtain ⟨p, hp, e⟩ := hex
        rcases List.mem_cons.1 hp with rfl | hp
        · exact absurd e.symm hyd
        · exact ⟨p, hp, e⟩
      obtain ⟨p, hp, e, hget⟩ := get_mem hex'
      obtain ⟨j, x, hj, e1, hx, hc⟩ := hE p hp
      rw [get_top_ne hyd, hget]
      refine ⟨x, ?_, ?_⟩
      · rw [← e, e1]
        unfold nmv
        rw [if_neg (by omega), show (d + 1000 * (1 + j)) % 1000 = d from by omega]
        have : (tm.setIfInBounds d (.pointer (some ⟨w.heap.size, 0, none⟩))).getD d undef = .pointer (some ⟨w.heap.size, 0, none⟩) := by simp [hsz]
        rw [this]
        simp only
        rw [show (d + 1000 * (1 + j)) / 1000 = 1 + j from by omega, if_pos hj, show 1 + j - 1 = j from by omega, cell_of_row _ _ j arr ty (0, 0) (heap_alloc_new w _)]
        exact hx
      · have tg : ∀ (g : G) (b : Nat), b < w.heap.size → okG lo ow g b → okG lo (owNew ow w.heap.size d) g b ∧ (w.alloc (.cells arr ty)).heap[b]? = w.heap[b]? := fun g b hb hk => ⟨hk.grow (fun b hb => owNew_old hb) hb, hg.blk hb⟩
        rw [← e, e1]
        cases hv : p.2 with
        | t g r => rw [hv] at hc; exact Fz.imp (tg g) r x hc
        | own m nl cs =>
          rw [hv] at hc
          exact OwnAt.imp (fun b hb hk => ⟨by rw [owNew_old hb]; exact hk, hg.blk hb⟩) (tg _) hc
        | _ => rw [hv] at hc; exact hc.elim

theorem Gam.congr (h : Gam lo Xb par ow s tm w) (e : ∀ y, s'.get y = s.get y) : Gam lo Xb par ow s' tm w := by
  have e' : St.get s' = St.get s := funext e
  have el : St.lv s' = St.lv s := by funext y; simp only [St.lv, e']
  refine ⟨h.base, h.low, fun y hl hn => ?_⟩
  rw [el] at hl
  rw [e'] at hn ⊢
  obtain ⟨u, h1, h2⟩ := h.ent y hl hn
  refine ⟨u, h1, ?_⟩
  cases hv : s.get y <;> rw [hv] at h2 <;> simp only [Rep, e', el] at h2 ⊢ <;> exact h2

def kOkA : List T → List Value → Bool
  | [], [] => true
  | t :: ts, v :: vs => (match t with | .any => true | t => kOk1 t v) && kOkA ts vs
  | _, _ => false

theorem kOkA_sound {ok : Nat → Prop} : ∀ {ts : List T} {vs : List Value}, kOkA ts vs = true → FzL ok w ts vs
  | [], [], _ => by simp [FzL]
  | t :: ts, v :: vs, h => by
    simp only [kOkA, Bool.and_eq_true] at h
    simp only [FzL]
    refine ⟨v, vs, rfl, ?_, kOkA_sound h.2⟩
    cases t with
    | any => simp [Fz]
    | _ => exact kOk1_sound h.1
  | [], _ :: _, h => by simp [kOkA] at h
  | _ :: _, [], h => by simp [kOkA] at h

def newChk (P : Program) (zs : List T) (op : Op) : Bool := match op with
  | .alloc e => (match P.info? e with | some i => (match i.zero with | some zv => kOkA zs zv.cells.toList && decide (zs.length < 90) | none => false) | none => false)
  | _ => false

theorem boxG_mem {g : G} {d : Nat} : ∀ {ts : List T} {j : Nat} {p : Nat × V}, p ∈ boxG g d j ts → ∃ i t, ts[i]? = some t ∧ p = (d + 1000 * (1 + (j + i)), V.mk g t)
  | [], _, _, h => by simp [boxG] at h
  | t :: ts, j, p, h => by
    simp only [boxG, List.mem_cons] at h
    rcases h with rfl | h
    · exact ⟨0, t, rfl, rfl⟩
    · obtain ⟨i, t', h1, h2⟩ := boxG_mem h
      exact ⟨i + 1, t', by simpa using h1, by rw [h2, show j + 1 + i = j + (i + 1) from by omega]⟩

theorem boxN_G {d : Nat} : ∀ {ts : List T} {j : Nat}, boxN d j ts = boxG .fr d j ts
  | [], _ => rfl
  | t :: ts, j => by simp only [boxN, boxG]; rw [boxN_G]

theorem mk_cell {g : G} {t : T} {y : Nat} {x : Value} (h : Fz (okG lo ow g) w t x) : CellRep lo par ow w y (V.mk g t) x := by
  cases t <;> simp only [V.mk, CellRep] <;> first | exact h | simpa [Fz] using h

theorem boxG_cells {g : G} {d : Nat} {ts : List T} {xs : List Value} (h : FzL (okG lo ow g) w ts xs) (hl : ts.length < 90) :
    ∀ p ∈ boxG g d 0 ts, ∃ j x, 1 + j < 100 ∧ p.1 = d + 1000 * (1 + j) ∧ xs.toArray[j]? = some x ∧ CellRep lo par ow w (d + 1000 * (1 + j)) p.2 x := by
  intro p hp
  obtain ⟨i, t, h1, rfl⟩ := boxG_mem hp
  have hi : i < ts.length := (List.getElem?_eq_some_iff.1 h1).1
  obtain ⟨x, hx, hf⟩ := h.get i hi
  refine ⟨i, x, by omega, by simp, by simpa using hx, ?_⟩
  have : ts.getD i .any = t := by rw [List.getD, h1]; rfl
  rw [this] at hf
  exact mk_cell hf

theorem new_goi {d : Nat} {zs : List T} (hG : Gam lo Xb par ow s a.tmps w) (hd : oper.dst = some d) (hd1 : d < 1000) (hsz : d < a.tmps.size) (ho : newChk P zs oper.op = true)
    (hk : wpI P (.new d zs) K s) : GoI P lo Xb par a w K oper := by
  rw [wpI_new] at hk
  unfold newChk at ho
  split at ho
  case h_2 => cases ho
  rename_i e hop
  split at ho
  case h_2 => cases ho
  rename_i i hi
  split at ho
  case h_2 => cases ho
  rename_i zv hz
  simp only [Bool.and_eq_true, decide_eq_true_eq] at ho
  have hf : FzL (okG lo ow .fr) w zs zv.cells.toList := kOkA_sound ho.1
  refine goi_val hd (u := .pointer (some ⟨w.heap.size, 0, none⟩)) (w' := w.alloc (.cells zv.cells e)) ?_ hk (Grow.alloc _ w _)
    (Gam.mkBox (hG.kill d) (Kd.kill d s) hd1 hsz (by rw [← hf.length]; simp) (by
      rw [boxN_G]
      have := boxG_cells (par := par) (d := d) hf ho.2
      simpa using this))
  simp [execOp, hop, Instr.alloc, zeroValue, typeInfo, hi, hz, newVar, newRow]

theorem box_goi {d : Nat} {x : X} {x' : Operand} {e : TypeId} (hG : Gam lo Xb par ow s a.tmps w) (hd : oper.dst = some d) (hd1 : d < 1000) (hsz : d < a.tmps.size) (ho : oper.op = .box e x') (hx : xOk x x' = true)
    (hna : ∀ y n ts, s.look x ≠ .ag y n ts) (hk : wpI P (.box d x) K s) : GoI P lo Xb par a w K oper := by
  have r1 := xOk_sound hG hx
  have hk : boxK d s K (s.look x) := by cases x <;> exact hk
  generalize s.look x = wx at r1 hk hna
  have fin : ∀ {E s1 : St} {ow1 : Ow} {n : Nat}, K ((d, .bx n) :: (E ++ s1)) → Gam lo Xb par ow1 s1 a.tmps w → Kd d s1 → (a.eval x').cells.size = n →
      (∀ p ∈ E, ∃ j v, 1 + j < 100 ∧ p.1 = d + 1000 * (1 + j) ∧ (a.eval x').cells[j]? = some v ∧ CellRep lo par ow1 w (d + 1000 * (1 + j)) p.2 v) → GoI P lo Xb par a w K oper := by
    intro E s1 ow1 n hK h1 hkd hn hE
    refine goi_val hd (u := .pointer (some ⟨w.heap.size, 0, none⟩)) (w' := w.alloc (.cells (a.eval x').cells e)) ?_ hK (Grow.alloc _ w _) (Gam.mkBox h1 hkd hd1 hsz hn hE)
    simp [execOp, ho, Instr.box, newVar, newRow]
  cases wx with
  | t g r =>
    have one : r.one = true → K ((d, .bx 1) :: (d + 1000, .t g r) :: s.kill d) → GoI P lo Xb par a w K oper := by
      intro h1 hK
      have hc := oneCell_cells (Fz.one (r1 : Fz _ _ _ _) (by cases r <;> simp [T.one] at h1 ⊢))
      refine fin (E := [(d + 1000, .t g r)]) hK (hG.kill d) (Kd.kill d s) (by rw [hc]; rfl) fun p hp => ?_
      simp at hp; subst hp
      exact ⟨0, a.eval x', by omega, rfl, by rw [hc]; rfl, r1⟩
    cases r with
    | a fs =>
      rw [boxK_a] at hk
      have hf : ∃ xs : List Value, a.eval x' = .agg xs.toArray ∧ FzL (okG lo ow g) w fs xs := r1
      obtain ⟨xs, e1, e2⟩ := hf
      refine fin hk.2 (hG.kill d) (Kd.kill d s) (by rw [e1]; simp [Value.cells, e2.length]) ?_
      rw [e1]
      exact boxG_cells e2 hk.1
    | any => simp [boxK, T.one] at hk
    | u vs => simp [boxK, T.one] at hk
    | i n => rw [boxK_i] at hk; exact one rfl hk
    | b n => rw [boxK_b] at hk; exact one rfl hk
    | s nl cs => rw [boxK_s] at hk; exact one rfl hk
    | q cs k => rw [boxK_q] at hk; exact one rfl hk
    | c f cs => rw [boxK_c] at hk; exact one rfl hk
    | w k n => exact one rfl (by simpa [boxK, T.one] using hk)
  | own z m nl cs =>
    rw [boxK_o] at hk
    obtain ⟨hdz, hm, hK⟩ := hk
    obtain ⟨hz, hlz, hnz, hO⟩ := r1
    have hone : (a.eval x').oneCell' = true := by
      rcases hO.2 with ⟨h, _⟩ | ⟨_, b, cap, arr, ty, zs, h, _⟩ <;> rw [h] <;> rfl
    have hc := oneCell_cells hone
    have hzd : hangs z d = false := by
      rw [hangs_false] at hdz ⊢
      exact ⟨fun e => hdz.1 e.symm, fun h => by rw [Nat.mod_eq_of_lt hd1]; exact fun e => hdz.1 e.symm⟩
    have hz2 : hangs z (d + 1000) = false := by
      rw [hangs_false] at hdz ⊢
      exact ⟨fun e => hdz.2 hd1 (by omega), fun h e => hdz.1 (by omega)⟩
    have hdz2 : hangs (d + 1000) z = false := by
      rw [hangs_false]
      exact ⟨fun e => by rw [hangs_false] at hdz; exact hdz.2 hd1 (by omega), fun h => by omega⟩
    have h1 := hG.kill d
    have Kp : Keeps lo [d + 1000, z] ow (owMove ow z (d + 1000)) a.tmps a.tmps w w (s.kill d) ([] ++ St.rtL [z] (d + 1000) ((s.kill d).kill (d + 1000))) :=
      Keeps.absorb h1 (by simpa using hdz2) (by simpa using hz2) (by simp) (by simp) (fun _ _ _ => rfl) (Nat.le_refl _) (fun _ _ => rfl) (fun _ _ _ => rfl)
    have kk : ∀ y, ((s.kill d).kill (d + 1000)).get y = (s.kill d).get y := by
      intro y
      rw [get_kill]
      split
      · rename_i hq
        rcases hq with hq | hq
        · rw [hangs_iff] at hq
          rcases hq with rfl | ⟨hq, _⟩
          · rw [get_kill, if_pos (.inl (hangs_iff.2 (.inr ⟨hd1, by omega⟩)))]
          · omega
        · exfalso
          rw [get_kill] at hq
          split at hq
          · cases hq
          · rename_i hq'
            simp only [not_or, Bool.not_eq_true] at hq'
            have : ∀ {c : Nat}, hangs (d + 1000) c = true → hangs d c = true := fun hc => by
              rw [hangs_iff] at hc ⊢; rcases hc with rfl | ⟨hc, _⟩
              · exact .inr ⟨hd1, by omega⟩
              · omega
            have hno := V.not_on hq'.2
            revert hq hno
            cases s.get y with
            | t g r => cases g <;> simp only [V.on, G.on, V.ment, Bool.false_eq_true, false_imp_iff] <;> intro h1 h2 <;> rw [this h1] at h2 <;> cases h2
            | al q => simp only [V.on, V.ment]; intro h1 h2; rw [this h1] at h2; cases h2
            | pc q => simp only [V.on, V.ment]; intro h1 h2; rw [this h1] at h2; cases h2
            | pe q j => simp only [V.on, V.ment]; intro h1 h2; rw [this h1] at h2; cases h2
            | er q j => simp only [V.on, V.ment]; intro h1 h2; rw [this h1] at h2; cases h2.1
            | sl q j h => simp only [V.on, V.ment]; intro h1 h2; rw [this h1] at h2; cases h2
            | bv q => simp only [V.on, V.ment]; intro h1 h2; rw [this h1] at h2; cases h2.1
            | fo q nl cs => simp only [V.on, V.ment, G.on]; intro h1 h2; rw [this h1] at h2; cases h2
            | clo f cp =>
              simp only [V.on, V.ment]
              intro h1 h2
              obtain ⟨c, hc, h1⟩ := List.any_eq_true.1 h1
              have h2 := h2 c hc
              cases c with
              | p q => simp only [Cap.on, Cap.ment] at h1 h2; rw [this h1] at h2; cases h2
              | t g r => cases g <;> simp only [Cap.on, Cap.ment, G.on, Bool.false_eq_true] at h1 h2 <;> rw [this h1] at h2 <;> cases h2
            | _ => simp [V.on]
      · rfl
    have h2 : Gam lo Xb par (owMove ow z (d + 1000)) (((s.kill d).kill (d + 1000)).rt z (d + 1000)) a.tmps w := by
      refine Gam.next (ds := [d + 1000, z]) h1 Kp (fun b p hp => ?_) fun y hy hl hn => ?_
      · obtain ⟨q, hq⟩ := owMove_some hp; exact hG.base b q hq
      · exfalso
        have : ((St.rtL [z] (d + 1000) ((s.kill d).kill (d + 1000))).get y).isAny = true := by
          refine rtL_hang ?_
          obtain ⟨q, hq, hh⟩ := hy
          simp at hq
          rcases hq with rfl | rfl
          · right; rw [get_kill, if_pos (.inl hh)]; rfl
          · exact .inl ⟨q, by simp, hh⟩
        exact absurd (this.symm.trans hn) (by simp)
    have h3 : Gam lo Xb par (owMove ow z (d + 1000)) ((s.kill d).rt z (d + 1000)) a.tmps w := h2.congr fun y => by rw [get_rt, get_rt, kk]
    refine fin (E := [(d + 1000, .own m nl cs)]) hK h3 (Kd.kill d s).rt (by rw [hc]; rfl) fun p hp => ?_
    simp at hp; subst hp
    exact ⟨0, a.eval x', by omega, rfl, by rw [hc]; rfl, OwnAt.ren hm (fun b r hb => owMove_self hb) (fun b hb => owMove_none.2 hb) hO⟩
  | ag y n ts => exact absurd rfl (hna y n ts)
  | _ => exact hk.elim


/-! ### Calls that make -/

theorem co_goi {d f : Nat} {ts : List T} {vs : List Value} {R : St} (hG : Gam lo Xb par ow s a.tmps w) (hd : oper.dst = some d) (hd1 : d < 1000) (hsz : d < a.tmps.size)
    (hr : (execOp a.eval oper).run P w = (callFunc f vs.toArray).run P w) (hc : CallOk P f ts R) (hv : FzL (fun _ => True) w ts vs) (hk : K (R.shift d ++ s.kill d)) : GoI P lo Xb par a w K oper := by
  intro next Q N
  unfold Oper.wp
  rw [hr, hc.1]
  simp only [Oper.upon]
  refine (hc.2 w vs hv).mono ?_
  rintro e w' ⟨u, rfl, hg, hRg, ow2, hR⟩
  simp only
  rw [hd, put_some]
  let ow' : Ow := fun b => if b < w.heap.size then ow b else (ow2 b).map fun p => (p.1 + d, p.2)
  have ho : ∀ b, b < w.heap.size → ow' b = ow b := fun b hb => if_pos hb
  have hnew : ∀ b, w.heap.size ≤ b → ow' b = (ow2 b).map fun p => (p.1 + d, p.2) := fun b hb => if_neg (by omega)
  have h2 : ∀ b p, ow2 b = some p → w.heap.size ≤ b ∧ b < w'.heap.size := fun b p hp => by
    obtain ⟨q1, q2⟩ := hR.base b p hp
    rcases q2 with q2 | q2
    · exact ⟨q2, q1⟩
    · exact q2.elim
  have h2n : ∀ b, ow2 b = none → w.heap.size ≤ b → ow' b = none := fun b hb hl => by rw [hnew b hl, hb]; rfl
  refine N _ _ w' ow' hk hg.any (Gam.make (hG.kill d) (Kd.kill d s) hd1 hg ho (fun b p hb hp => ?_) (fun p hp => ?_) fun y hy hex hl hna => ?_) (by simp) rfl
  · rw [hnew b hb] at hp
    cases e : ow2 b with
    | none => rw [e] at hp; cases hp
    | some q => exact ⟨(h2 b q e).2, .inl (Nat.le_trans hG.low hb)⟩
  · have hk : ∀ {R : St}, RGood R → ∀ p ∈ R.shift d, hangs d p.1 = true := by
      intro R
      induction R with
      | nil => intro _ p hp; simp [St.shift] at hp
      | cons q R ih =>
        intro hg p hp
        obtain ⟨k, v⟩ := q
        simp only [St.shift, List.mem_cons] at hp
        rcases hp with rfl | hp
        · have := (hg (k, v) (by simp)).1
          exact hangs_iff.2 (.inr ⟨hd1, by simp only at this ⊢; omega⟩)
        · exact ih (fun q hq => hg q (by simp [hq])) p hp
    exact hk hRg p hp
  · have hget : ∀ {R : St} {k : Nat}, (R.shift d).get (k + d) = R.get k := by
      intro R
      induction R with
      | nil => intro k; rfl
      | cons q R ih =>
        intro k
        obtain ⟨j, v⟩ := q
        simp only [St.shift]
        rw [get_if, get_if, ih]
        by_cases hjk : j = k
        · rw [if_pos hjk, if_pos (by omega)]
        · rw [if_neg hjk, if_neg (by omega)]
    obtain ⟨k, rfl⟩ : ∃ k, y = k + d := ⟨y - d, by have := hangs_le hy; omega⟩
    have hk1 : k % 1000 = 0 := by rw [hangs_iff] at hy; rcases hy with hy | ⟨_, hy⟩ <;> omega
    rw [hget] at hna ⊢
    have hin : ∃ p ∈ R, p.1 = k := by
      refine Classical.byContradiction fun hno => ?_
      rw [get_none (fun p hp e => hno ⟨p, hp, e⟩)] at hna; cases hna
    obtain ⟨p, hp, e1, e2⟩ := get_mem hin
    obtain ⟨_, hgood⟩ := hRg p hp
    -- is it live in the callee's state?
    have hlv : R.lv k = true := by
      rw [lv_iff] at hl ⊢
      rcases hl with hl | hl
      · exact .inl (by omega)
      · by_cases hk0 : k = 0
        · exact .inl (by omega)
        · rw [show (k + d) % 1000 = 0 + d from by omega] at hl
          by_cases h0 : ∃ p ∈ R, p.1 = 0
          · have : ∃ p ∈ R.shift d, p.1 = 0 + d := by
              clear hR hl hna e2 hp hk hc hgood hex hin hRg
              induction R with
              | nil => obtain ⟨p, hp, _⟩ := h0; simp at hp
              | cons q R ih =>
                obtain ⟨j, v⟩ := q
                simp only [St.shift]
                obtain ⟨p, hp, e⟩ := h0
                rcases List.mem_cons.1 hp with rfl | hp
                · exact ⟨_, by simp; left; rfl, by simp at e ⊢; omega⟩
                · obtain ⟨r, hr1, hr2⟩ := ih ⟨p, hp, e⟩
                  exact ⟨r, by simp [hr1], hr2⟩
            rw [get_append_yes this, hget] at hl
            right; rw [hk1]; exact hl
          · exfalso
            have : ∀ p ∈ R.shift d, p.1 ≠ 0 + d := by
              clear hR hl hna e2 hp hk hc hgood hex hin hRg
              induction R with
              | nil => intro p hp; simp [St.shift] at hp
              | cons q R ih =>
                obtain ⟨j, v⟩ := q
                intro p hp
                simp only [St.shift, List.mem_cons] at hp
                rcases hp with rfl | hp
                · intro e; exact h0 ⟨(j, v), by simp, by simp at e ⊢; omega⟩
                · exact ih (fun ⟨p, hp, e⟩ => h0 ⟨p, by simp [hp], e⟩) p hp
            rw [get_app this, get_kill, if_pos (.inl (by rw [Nat.zero_add]; exact hangs_self d))] at hl
            cases hl
    obtain ⟨x, hx, hr⟩ := hR.ent k hlv hna
    refine ⟨x, ?_, ?_⟩
    · unfold nmv at hx ⊢
      by_cases hk0 : k = 0
      · subst hk0
        simp only [Nat.zero_add, hd1, if_true]
        have : (0 : Nat) < 1000 := by omega
        rw [if_pos this] at hx
        have hx : u = x := by simpa using hx
        simp [hsz, hx]
      · rw [if_neg (by omega)] at hx ⊢
        rw [hk1] at hx
        rw [show (k + d) % 1000 = d from by omega, show (k + d) / 1000 = k / 1000 from by omega]
        have h1 : (a.tmps.setIfInBounds d u).getD d undef = u := by simp [hsz]
        have h2 : (#[u] : Array Value).getD 0 undef = u := rfl
        rw [h1]; rw [h2] at hx; exact hx
    · have tgf : ∀ b, b < w'.heap.size → okG w.heap.size ow2 .fr b → okG lo ow' .fr b ∧ w'.heap[b]? = w'.heap[b]? := fun b _ hb => ⟨⟨h2n b hb.1 hb.2, Nat.le_trans hG.low hb.2⟩, rfl⟩
      have own : ∀ b r, ow2 b = some (k, r) → ow' b = some (k + d, r) := fun b r hb => by rw [hnew b (h2 b _ hb).1, hb]; rfl
      rw [e2] at hr ⊢
      cases hv : p.2 with
      | t g r =>
        rw [hv] at hr hgood
        cases g with
        | fr => exact Fz.imp tgf r x hr
        | _ => exact hgood.elim
      | own m nl cs =>
        rw [hv] at hr hgood
        simp only at hgood
        refine ⟨fun h => absurd h (by omega), ?_⟩
        rcases hr.2 with h | ⟨hn, b, cap, arr, ty, xs, e, ho1, hb, hs, hl1, hmx, ht, hx1, hd2⟩
        · exact .inl h
        · refine .inr ⟨hn, b, cap, arr, ty, xs, e, own b 0 ho1, hb, hs, hl1, hmx, ht, ?_, fun hm1 => ?_⟩
          · have : m = 0 ∨ m = 1 := by omega
            rcases this with rfl | rfl
            · exact FzL.imp tgf cs xs hx1
            · exact FzL.imp (fun b _ hb => ⟨own b 1 hb, rfl⟩) cs xs hx1
          · obtain ⟨q1, q2⟩ := hd2 hm1
            exact ⟨q1, fun i b hi => by obtain ⟨z1, z2⟩ := q2 i b hi; exact ⟨own b 1 z1, z2⟩⟩
      | tp n => rw [hv] at hr; exact ⟨by have := hr.1; omega, hr.2⟩
      | ag n => rw [hv] at hr; exact ⟨by have := hr.1; omega, hr.2⟩
      | _ => rw [hv] at hgood; exact hgood.elim

end
end Go.Vc

/-
  The effects: append.
-/
namespace Go.Vc
open Go

section
variable {P : Program} {lo : Nat} {Xb : Nat → Prop} {par : Nat → Option Value} {ow ow' : Ow} {tm tm' : Array Value} {a : Act} {w w' : World} {s s' : St} {K : St → Prop} {oper : Oper}

/-- Two names of slices that live hang not on each other. -/
theorem own_apart {y z m m' : Nat} {nl nl' : Option Bool} {cs cs' : List T} (hy : s.get y = .own m nl cs) (hz : s.get z = .own m' nl' cs') (hl : s.lv z = true) (hne : y ≠ z) : hangs y z = false := by
  rw [hangs_false]
  refine ⟨fun e => hne e.symm, fun h1 e => ?_⟩
  rw [lv_iff] at hl
  rcases hl with hl | hl
  · omega
  · rw [e, hy] at hl; cases hl

theorem off_sym {d y : Nat} (hd : d < 1000) (h : hangs d y = false) : hangs y d = false := by
  rw [hangs_false] at h ⊢
  exact ⟨fun e => h.1 e.symm, fun h1 e => by rw [Nat.mod_eq_of_lt hd] at e; exact h.1 e.symm⟩

/-- What is appended: its cells. -/
theorem one_cells {ok : Nat → Prop} {xs : List T} {news : List Value} (h : FzL ok w xs news) (h1 : ∀ t ∈ xs, t.scal ∨ t.one = true) : ∀ v ∈ news, v.oneCell' = true := by
  intro v hv
  obtain ⟨k, hk, e⟩ := List.getElem_of_mem hv
  have hk' : k < xs.length := by rw [← h.length]; exact hk
  obtain ⟨x, hx, hf⟩ := h.get k hk'
  have : x = v := by rw [List.getElem?_eq_getElem hk, e] at hx; exact (Option.some.inj hx).symm
  subst this
  have hm : xs.getD k .any ∈ xs := by rw [List.getD, List.getElem?_eq_getElem hk']; exact List.getElem_mem hk'
  have hor := h1 _ hm
  revert hf hor
  generalize xs.getD k .any = t
  intro hf hor
  refine hf.one ?_
  rcases hor with h | h <;> cases t <;> simp [T.scal, T.one] at h ⊢

/-- What the run of append leaves, out of one slice that is owned or of none, and out of news; and the new state. -/
theorem Gam.app {d mr : Nat} {zs : List Nat} {nl : Option Bool} {cs xs : List T} {news olds : List Value} {u : Value} {b0 : Option Nat} (h : Gam lo Xb par ow s tm w) (hd : d < 1000) (hsz : d < tm.size)
    (hzd : ∀ z ∈ zs, hangs d z = false) (hzz : ∀ z ∈ zs, ∀ z' ∈ zs, z ≠ z' → hangs z z' = false) (hy : ∀ b, b0 = some b → ∃ z, z ∈ zs ∧ ow b = some (z, 0))
    (hr : AppRes w w' b0 olds news u) (hmr : mr < 10) (hl : olds.length = cs.length) (hxl : news.length = xs.length) (hnl : b0 = none → nl ≠ some false) (hb0 : ∀ b, b0 = some b → nl ≠ some true)
    (hold : ∀ {ow' : Ow} {w1 : World}, (∀ b, b < w.heap.size → ow' b = owL zs d ow b) → w.heap.size ≤ w1.heap.size → (∀ b, b < w.heap.size → (∀ z ∈ zs, ow b ≠ some (z, 0)) → w1.heap[b]? = w.heap[b]?) →
      FzL (okG lo ow' (tagM mr d)) w1 cs olds ∧ FzL (okG lo ow' (tagM mr d)) w1 xs news ∧ (mr % 10 = 1 → DeepR ow' d w1 (veil (cs ++ xs) (olds ++ news)))) :
    ∃ ow', Gam lo Xb par ow' ((d, .own mr (nlApp nl xs) (cs ++ xs)) :: St.rtL zs d (s.kill d)) (tm.setIfInBounds d u) w' ∧ Grow (fun k => lo ≤ k ∨ Xb k) w w' := by
  have hzd' : ∀ z ∈ zs, hangs z d = false := fun z hz => off_sym hd (hzd z hz)
  have hnl' : ∀ nl', (xs = [] → nl' = nl) → (xs ≠ [] → nl' = some false) → nlApp nl xs = nl' := fun nl' h1 h2 => by
    unfold nlApp
    cases xs with
    | nil => simpa using (h1 rfl).symm
    | cons x xs => simpa using (h2 (by simp)).symm
  rcases hr with ⟨hu, hnil, hbn, rfl⟩ | ⟨b, cap, arr, ty, hu, hb, hs, hle, hm, ht, hcase⟩
  · have h1 : olds = [] ∧ news = [] := List.append_eq_nil_iff.1 hnil
    have hcs : cs = [] := List.eq_nil_of_length_eq_zero (by rw [← hl, h1.1]; rfl)
    have hxs : xs = [] := List.eq_nil_of_length_eq_zero (by rw [← hxl, h1.2]; rfl)
    refine ⟨owL zs d ow, Gam.absorb h hd hsz hzd hzd' hzz (Nat.le_refl _) (fun _ _ => rfl) (fun b p hb hp => ?_) (fun _ _ _ => rfl) ⟨fun h => absurd h (by omega), .inl ⟨hu, by rw [hcs, hxs]; rfl, ?_⟩⟩, Grow.refl _ _⟩
    · obtain ⟨q, hq⟩ := owL_some hp
      exact absurd (h.base b q hq).1 (by omega)
    · rw [hnl' nl (fun _ => rfl) (fun h => absurd hxs h)]; exact hnl hbn
  · have hlen : (cs ++ xs).length = (olds ++ news).length := by simp [hl, hxl]
    have fin : ∀ ow' : Ow, (∀ b, b < w.heap.size → ow' b = owL zs d ow b) → ow' b = some (d, 0) → w.heap.size ≤ w'.heap.size → (∀ b, b < w.heap.size → (∀ z ∈ zs, ow b ≠ some (z, 0)) → w'.heap[b]? = w.heap[b]?) →
        OwnAt lo par ow' w' d mr (nlApp nl xs) (cs ++ xs) u := by
      intro ow' ho hbd hsize hw
      obtain ⟨f1, f2, f3⟩ := hold ho hsize hw
      refine ⟨fun h => absurd h (by omega), .inr ⟨?_, b, cap, arr, ty, olds ++ news, by rw [hu, hlen], hbd, hb, hs, by rw [hlen]; exact hle, hm, by rw [hlen]; exact ht, f1.app f2, f3⟩⟩
      cases xs with
      | nil =>
        rw [hnl' nl (fun _ => rfl) (fun h => absurd rfl h)]
        rcases hcase with ⟨h0, _⟩ | ⟨_, h0, _⟩
        · exact hb0 b h0
        · exact absurd (List.eq_nil_of_length_eq_zero (by rw [hxl]; rfl)) h0
      | cons x xs => simp [nlApp]
    rcases hcase with ⟨h0, hg, hsz'⟩ | ⟨hbn, _, hg, hsz'⟩
    · obtain ⟨z, hz, hbz⟩ := hy b h0
      have hblt : b < w.heap.size := (h.base b _ hbz).1
      have hw : ∀ b', b' < w.heap.size → (∀ z ∈ zs, ow b' ≠ some (z, 0)) → w'.heap[b']? = w.heap[b']? := fun b' hb' hno => hg.block b' hb' (by rintro rfl; exact hno z hz hbz)
      refine ⟨owL zs d ow, Gam.absorb h hd hsz hzd hzd' hzz hg.size (fun _ _ => rfl) (fun b p hb hp => ?_) hw (fin _ (fun _ _ => rfl) (owL_mem hzd' (fun z1 h1 hne => hzz z1 h1 z hz hne) hz hbz) hg.size hw), hg.mono fun k hk e => ?_⟩
      · obtain ⟨q, hq⟩ := owL_some hp
        exact absurd (h.base b q hq).1 (by omega)
      · rw [e]; exact (h.base b _ hbz).2
    · have hw : ∀ b', b' < w.heap.size → (∀ z ∈ zs, ow b' ≠ some (z, 0)) → w'.heap[b']? = w.heap[b']? := fun b' hb' _ => hg.blk hb'
      have ho : ∀ b', b' < w.heap.size → owNew (owL zs d ow) w.heap.size d b' = owL zs d ow b' := fun b' hb' => owNew_old hb'
      refine ⟨owNew (owL zs d ow) w.heap.size d, Gam.absorb h hd hsz hzd hzd' hzz hg.size ho (fun b' p hb' hp => ?_) hw (fin _ ho (by rw [hbn]; exact owNew_new) hg.size hw), hg.any⟩
      unfold owNew at hp
      split at hp
      · rename_i e; rw [e]; exact ⟨by rw [hsz']; omega, .inl h.low⟩
      · obtain ⟨q, hq⟩ := owL_some hp
        exact absurd (h.base b' q hq).1 (by omega)

end
end Go.Vc

/-
  The effects: append, by its kinds.
-/
namespace Go.Vc
open Go

section
variable {P : Program} {lo : Nat} {Xb : Nat → Prop} {par : Nat → Option Value} {ow ow' : Ow} {tm tm' : Array Value} {a : Act} {w w' w1 : World} {s s' : St} {K : St → Prop} {oper : Oper}

/-- The rows of a slice that is absorbed are the new one's. -/
theorem tag_app {zs : List Nat} {y d m : Nat} (hzd' : ∀ z ∈ zs, hangs z d = false) (hzz : ∀ z ∈ zs, ∀ z' ∈ zs, z ≠ z' → hangs z z' = false) (hy : y ∈ zs) (ho : ∀ b, b < w.heap.size → ow' b = owL zs d ow b)
    (hw : ∀ b, b < w.heap.size → (∀ z ∈ zs, ow b ≠ some (z, 0)) → w1.heap[b]? = w.heap[b]?) {b : Nat} (hb : b < w.heap.size) (hk : okG lo ow (tagM m y) b) : okG lo ow' (tagM (m % 10) d) b ∧ w1.heap[b]? = w.heap[b]? := by
  unfold tagM at hk ⊢
  rw [Nat.mod_mod]
  by_cases m1 : (m % 10 == 1) = true
  · simp only [m1, cond_true, okG] at hk ⊢
    rw [ho b hb]
    exact ⟨owL_mem hzd' (fun z hz hne => hzz z hz y hy hne) hy hk, hw b hb fun z _ e => by rw [hk] at e; cases e⟩
  · simp only [Bool.not_eq_true] at m1
    simp only [m1, cond_false] at hk ⊢
    by_cases m0 : (m % 10 == 0) = true
    · simp only [m0, cond_true, okG] at hk ⊢
      rw [ho b hb]
      exact ⟨⟨owL_none.2 hk.1, hk.2⟩, hw b hb fun z _ e => by rw [hk.1] at e; cases e⟩
    · simp only [Bool.not_eq_true] at m0
      simp only [m0, cond_false, okG] at hk ⊢
      rw [ho b hb]
      exact ⟨owL_none.2 hk, hw b hb fun z _ e => by rw [hk] at e; cases e⟩

theorem deep_app {y d : Nat} {olds news : List Value} (h1 : DeepR ow y w olds) (ht : ∀ b, b < w.heap.size → ow b = some (y, 1) → ow' b = some (d, 1) ∧ w1.heap[b]? = w.heap[b]?)
    (b1 : ∀ i j b : Nat, (news[i]?).bind rowBlk = some b → (news[j]?).bind rowBlk = some b → i = j)
    (b2 : ∀ i b : Nat, (news[i]?).bind rowBlk = some b → ow b ≠ some (y, 1) ∧ ow' b = some (d, 1) ∧ ∃ arr ty len, w1.heap[b]? = some (.cells arr ty (0, 0)) ∧ news[i]? = some (.slice (some ⟨b, 0, none⟩) len arr.size)) : DeepR ow' d w1 (olds ++ news) := by
  obtain ⟨a1, a2⟩ := h1
  have get : ∀ i b, ((olds ++ news)[i]?).bind rowBlk = some b → (i < olds.length ∧ (olds[i]?).bind rowBlk = some b) ∨ (olds.length ≤ i ∧ (news[i - olds.length]?).bind rowBlk = some b) := by
    intro i b h
    by_cases hi : i < olds.length
    · rw [List.getElem?_append_left hi] at h; exact .inl ⟨hi, h⟩
    · rw [List.getElem?_append_right (by omega)] at h; exact .inr ⟨by omega, h⟩
  refine ⟨fun i j b hi hj => ?_, fun i b hi => ?_⟩
  · rcases get i b hi with ⟨i1, i2⟩ | ⟨i1, i2⟩ <;> rcases get j b hj with ⟨j1, j2⟩ | ⟨j1, j2⟩
    · exact a1 i j b i2 j2
    · exact absurd (a2 i b i2).1 (b2 _ b j2).1
    · exact absurd (a2 j b j2).1 (b2 _ b i2).1
    · have := b1 _ _ b i2 j2; omega
  · rcases get i b hi with ⟨i1, i2⟩ | ⟨i1, i2⟩
    · obtain ⟨e1, arr, ty, len, e2, e3⟩ := a2 i b i2
      obtain ⟨f1, f2⟩ := ht b (Array.getElem?_eq_some_iff.1 e2).1 e1
      exact ⟨f1, arr, ty, len, f2.trans e2, by rw [List.getElem?_append_left i1]; exact e3⟩
    · obtain ⟨f1, arr, ty, len, e2, e3⟩ := (b2 _ b i2).2
      exact ⟨f1, arr, ty, len, e2, by rw [List.getElem?_append_right i1]; exact e3⟩

theorem scal_norow {ok : Nat → Prop} {cs : List T} {xs : List Value} (hs : scalL cs) (h : FzL ok w cs xs) (i b : Nat) : (xs[i]?).bind rowBlk ≠ some b := by
  intro e
  cases hx : xs[i]? with
  | none => rw [hx] at e; cases e
  | some v =>
    rw [hx] at e
    have hi : i < cs.length := by rw [← h.length]; exact (List.getElem?_eq_some_iff.1 hx).1
    obtain ⟨v', hv', hf⟩ := h.get i hi
    rw [hx] at hv'; cases hv'
    have hm : cs.getD i .any ∈ cs := by rw [List.getD, List.getElem?_eq_getElem hi]; exact List.getElem_mem hi
    have := scal_rowBlk (hs _ hm) hf
    simp [this] at e

theorem deep_nil {y : Nat} : DeepR ow y w [] := nilrow_deep (by simp)

def appChk (P : Program) (x e : X) (op : Op) : Bool := match op with
  | .call { callee := .builtin .append, args := ys, argTypes := ts } => (match ys.toList, ts.toList with | [x', e'], [t, t'] => t == t' && tyA P t && xOk x x' && xOk e e' | _, _ => false)
  | _ => false

/-- A slice's value, what its rows are, and what append asks of it. -/
structure Base (lo : Nat) (ow : Ow) (w : World) (y : Option Nat) (m : Nat) (nl : Option Bool) (cs : List T) (hdr : Value) (olds : List Value) (b0 : Option Nat) : Prop where
  hh : (hdr = .slice none 0 0 ∧ olds = [] ∧ b0 = none) ∨ ∃ b cap arr ty, hdr = .slice (some ⟨b, 0, none⟩) olds.length cap ∧ b0 = some b ∧ w.heap[b]? = some (.cells arr ty (0, 0)) ∧ arr.size = cap ∧ olds.length ≤ cap ∧ cap ≤ maxLen ∧ arr.toList.take olds.length = olds
  len : olds.length = cs.length
  blk : ∀ b, b0 = some b → ∃ z, y = some z ∧ ow b = some (z, 0)
  nl1 : b0 = none → nl ≠ some false
  nl2 : ∀ b, b0 = some b → nl ≠ some true
  rows : ∀ z, y = some z → FzL (okG lo ow (tagM m z)) w cs olds ∧ (m % 10 = 1 → DeepR ow z w (veil cs olds))
  no : y = none → cs = []

theorem base_ok {q : Option Nat × Nat × Option Bool × List T} {wx : W} {u : Value} (h : appBase wx = some q) (hR : RepW lo par ow tm w s wx u) :
    (∃ olds b0, Base lo ow w q.1 q.2.1 q.2.2.1 q.2.2.2 u olds b0) ∧ (∀ z, q.1 = some z → ∃ m', s.get z = .own m' q.2.2.1 q.2.2.2 ∧ s.lv z = true) ∧ q.2.1 < 10 := by
  cases wx with
  | own y m nl cs =>
    rw [base_own] at h; cases h
    obtain ⟨h1, h2, h3, h4⟩ := hR
    refine ⟨?_, fun z hz => by cases hz; exact ⟨m, h1, h2⟩, Nat.mod_lt _ (by omega)⟩
    have tg : tagM (m % 10) y = tagM m y := by unfold tagM; rw [Nat.mod_mod]
    rcases h4.2 with ⟨e, hc, hn⟩ | ⟨hn, b, cap, arr, ty, xs, e, ho, hb, hs, hl, hm, ht, hx, hd⟩
    · refine ⟨[], .none, .inl ⟨e, rfl, rfl⟩, by rw [hc]; rfl, by simp, fun _ => hn, by simp, fun z hz => ?_, by simp⟩
      rw [hc]; exact ⟨by simp [FzL], fun _ => deep_nil⟩
    · refine ⟨xs, some b, .inr ⟨b, cap, arr, ty, by rw [hx.length]; exact e, rfl, hb, hs, by rw [hx.length]; exact hl, hm, by rw [hx.length]; exact ht⟩, hx.length, fun b' e' => ?_, by simp, fun _ _ => hn, fun z hz => ?_, by simp⟩
      · cases e'; exact ⟨y, rfl, ho⟩
      · cases hz; simp only; rw [tg, Nat.mod_mod]; exact ⟨hx, hd⟩
  | t g r =>
    cases r with
    | s nl cs =>
      match nl, cs, h with
      | some true, [], h =>
        cases h
        simp only [RepW, Fz] at hR
        rcases hR with ⟨e, _⟩ | ⟨hn, _⟩
        · exact ⟨⟨[], .none, .inl ⟨e, rfl, rfl⟩, rfl, by simp, by simp, by simp, by simp, fun _ => rfl⟩, by simp, by simp⟩
        · exact absurd rfl hn
      | some true, _ :: _, h => cases h
      | some false, _, h => cases h
      | .none, _, h => cases h
    | _ => cases h
  | _ => cases h

theorem app_goi {d k : Nat} {x e : X} (hG : Gam lo Xb par ow s a.tmps w) (hd : oper.dst = some d) (hd1 : d < 1000) (hsz : d < a.tmps.size) (ho : appChk P x e oper.op = true)
    (hk : wpI P (.app d x e k) K s) : GoI P lo Xb par a w K oper := by
  unfold appChk at ho
  split at ho
  case h_2 => cases ho
  rename_i ys ts hop
  split at ho
  case h_2 => cases ho
  rename_i x' e' t t' hys hts
  simp only [Bool.and_eq_true, beq_iff_eq] at ho
  obtain ⟨⟨⟨rfl, hty⟩, hx⟩, he⟩ := ho
  obtain ⟨el, i, zv, ht, hi, hs1, hby, hzv, hzs⟩ := tyA_spec hty
  have hys' : ys = #[x', e'] := by apply Array.ext'; simpa using hys
  have hts' : ts = #[t, t] := by apply Array.ext'; simpa using hts
  subst hys'; subst hts'
  have r1 := xOk_sound hG hx
  have r2 := xOk_sound hG he
  rw [wpI_app] at hk
  cases hq : appBase (s.look x) with
  | none => rw [hq] at hk; exact hk.elim
  | some q =>
    rw [hq, optK_s] at hk
    obtain ⟨⟨olds, b0, B⟩, hbase, hm10⟩ := base_ok hq r1
    obtain ⟨y, m, nl, cs⟩ := q
    simp only at hk B hbase hm10
    -- the run, given the news
    have go : ∀ {zs : List Nat} {xs : List T} {news : List Value} {mr : Nat}, (∀ z, y = some z → z ∈ zs) → (∀ z ∈ zs, hangs d z = false) → (∀ z ∈ zs, ∀ z' ∈ zs, z ≠ z' → hangs z z' = false) → mr < 10 → news.length = xs.length →
        ((a.eval e' = .slice none 0 0 ∧ news = []) ∨ ∃ ad c, a.eval e' = .slice (some ad) news.length c ∧ ∀ j v, news[j]? = some v → w.cell? (ad.add j) = some v) → (∀ v ∈ news, v.oneCell' = true) → cs.length + xs.length ≤ 1099511627776 →
        (∀ {ow' : Ow} {w1 : World}, (∀ b, b < w.heap.size → ow' b = owL zs d ow b) → w.heap.size ≤ w1.heap.size → (∀ b, b < w.heap.size → (∀ z ∈ zs, ow b ≠ some (z, 0)) → w1.heap[b]? = w.heap[b]?) →
          FzL (okG lo ow' (tagM mr d)) w1 cs olds ∧ FzL (okG lo ow' (tagM mr d)) w1 xs news ∧ (mr % 10 = 1 → DeepR ow' d w1 (veil (cs ++ xs) (olds ++ news)))) →
        K ((d, .own mr (nlApp nl xs) (cs ++ xs)) :: St.rtL zs d (s.kill d)) → GoI P lo Xb par a w K oper := by
      intro zs xs news mr hyz hzd hzz hmr hnl hnews h1 hle hold hK
      obtain ⟨u, w', hr, hA⟩ := run_app (P := P) (w := w) (ty0 := oper.type) ht hi hzv hs1 hby hzs B.hh hnews h1 (by rw [B.len, hnl]; exact hle)
      obtain ⟨ow', hG', hgr⟩ := Gam.app (par := par) hG hd1 hsz hzd hzz (fun b hb => by obtain ⟨z, h1, h2⟩ := B.blk b hb; exact ⟨z, hyz z h1, h2⟩) hA hmr B.len hnl B.nl1 B.nl2 hold
      refine goi_val hd ?_ hK hgr hG'
      unfold execOp
      simp only [hop, resolve, invoke, builtin, Sem.run_bind, Sem.run_pure, Result.andThen_ok, List.map_toArray, List.map_cons, List.map_nil, hr]
    have offd : ∀ {y : Option Nat}, offO d y = true → ∀ z, y = some z → hangs d z = false := fun h z e => by subst e; rw [offO_s] at h; simpa using h
    -- the rows of the base
    have rowsB : ∀ {zs : List Nat} {ow' : Ow} {w1 : World}, (∀ z ∈ zs, hangs d z = false) → (∀ z ∈ zs, ∀ z' ∈ zs, z ≠ z' → hangs z z' = false) → (∀ z, y = some z → z ∈ zs) → (∀ b, b < w.heap.size → ow' b = owL zs d ow b) →
        (∀ b, b < w.heap.size → (∀ z ∈ zs, ow b ≠ some (z, 0)) → w1.heap[b]? = w.heap[b]?) → FzL (okG lo ow' (tagM m d)) w1 cs olds := by
      intro zs ow' w1 hzd hzz hyz ho' hw'
      cases hy : y with
      | none => rw [B.no hy] at *; have := B.len; simp only [FzL]; exact List.eq_nil_of_length_eq_zero (by simpa using this)
      | some z =>
        have := (B.rows z hy).1
        refine FzL.imp (fun b hb hk => ?_) _ _ this
        have := tag_app (m := m) (fun z hz => off_sym hd1 (hzd z hz)) hzz (hyz z hy) ho' hw' hb hk
        rwa [Nat.mod_eq_of_lt hm10] at this
    have nilO : cs = [] → olds = [] := fun h => List.eq_nil_of_length_eq_zero (by rw [B.len, h]; rfl)
    have zzO : ∀ z ∈ y.toList, ∀ z' ∈ y.toList, z ≠ z' → hangs z z' = false := fun z hz z' hz' hne => by
      cases y with
      | none => simp at hz
      | some v => simp at hz hz'; subst hz; subst hz'; exact absurd rfl hne
    have mem : ∀ z, y = some z → z ∈ y.toList := fun z hz => by simp [hz]
    have deepO : ∀ {zs : List Nat} {news : List Value} {ow' : Ow} {w1 : World} {xs : List T} {ok : Nat → Prop}, (∀ z ∈ zs, hangs d z = false) → (∀ z ∈ zs, ∀ z' ∈ zs, z ≠ z' → hangs z z' = false) → (∀ z, y = some z → z ∈ zs) → (∀ b, b < w.heap.size → ow' b = owL zs d ow b) →
        (∀ b, b < w.heap.size → (∀ z ∈ zs, ow b ≠ some (z, 0)) → w1.heap[b]? = w.heap[b]?) → m % 10 = 1 → scalL xs → FzL ok w xs news → DeepR ow' d w1 (veil (cs ++ xs) (olds ++ news)) := by
      intro zs news ow' w1 xs ok hzd hzz hyz ho' hw' hm1 hsc n1
      cases hy : y with
      | none => rw [nilO (B.no hy), B.no hy]; exact (scal_deep hsc n1).veil
      | some z =>
        rw [veil_app B.len, veil_id (fun t ht => scal_live (hsc t ht)) n1.length]
        refine deep_app ((B.rows z hy).2 hm1) (fun b hb hk => tag_app (lo := lo) (m := 1) (fun z hz => off_sym hd1 (hzd z hz)) hzz (hyz z hy) ho' hw' hb (show okG lo ow (tagM 1 z) b from hk)) (fun i j b hi => absurd hi (scal_norow hsc n1 i b)) fun i b hi => absurd hi (scal_norow hsc n1 i b)
    have k0 : ∀ {nx : Option Bool} {xs : List T} {ok : Nat → Prop}, Fz ok w (.s nx xs) (a.eval e') → offO d y = true → scalL xs → cs.length + xs.length ≤ 1099511627776 → K ((d, .own m (nlApp nl xs) (cs ++ xs)) :: rtO y d (s.kill d)) → GoI P lo Xb par a w K oper := by
      intro nx xs ok hf hoff hsc hle hK
      obtain ⟨news, n1, n2⟩ := app_news hf
      have hzd : ∀ z ∈ y.toList, hangs d z = false := fun z hz => offd hoff z (by simpa using hz)
      exact go (zs := y.toList) (news := news) mem hzd zzO hm10 n1.length n2 (one_cells n1 fun t ht => .inl (hsc t ht)) hle (fun {ow' w1} ho' hsz' hw' => ⟨rowsB hzd zzO mem ho' hw', n1.scal hsc, fun hm1 => deepO hzd zzO mem ho' hw' hm1 hsc n1⟩) (by cases y <;> exact hK)
    -- frozen rows
    have k2 : ∀ {nx : Option Bool} {xs : List T}, Fz (okG lo ow .fr) w (.s nx xs) (a.eval e') ∨ (∃ z, s.get z = .own 0 nx xs ∧ s.lv z = true ∧ OwnAt lo par ow w z 0 nx xs (a.eval e')) → offO d y = true → xs.all T.one = true → (m = 0 ∨ cs = []) → cs.length + xs.length ≤ 1099511627776 →
        K ((d, .own 0 (nlApp nl xs) (cs ++ xs)) :: rtO y d (s.kill d)) → GoI P lo Xb par a w K oper := by
      intro nx xs hf hoff hone hm0 hle hK
      have hzd : ∀ z ∈ y.toList, hangs d z = false := fun z hz => offd hoff z (by simpa using hz)
      have hnews : ∃ news, FzL (okG lo ow .fr) w xs news ∧ ((a.eval e' = .slice none 0 0 ∧ news = []) ∨ ∃ ad c, a.eval e' = .slice (some ad) news.length c ∧ ∀ j v, news[j]? = some v → w.cell? (ad.add j) = some v) := by
        rcases hf with hf | ⟨z, h1, h2, hO⟩
        · exact app_news hf
        · rcases hO.2 with ⟨e, hc, hn⟩ | ⟨hn, b, cap, arr, ty, vs, e, ho, hb, hs, hl, hm, ht, hx, hd⟩
          · exact ⟨[], by rw [hc]; simp [FzL], .inl ⟨e, rfl⟩⟩
          · refine ⟨vs, hx, .inr ⟨⟨b, 0, none⟩, cap, by rw [hx.length]; exact e, fun j v hj => ?_⟩⟩
            have : (⟨b, 0, none⟩ : Addr).add j = ⟨b, j, none⟩ := by
              unfold Addr.add; split
              · rename_i h; rw [h]
              · simp
            rw [this, cell_of_row w b j arr ty (0, 0) hb]
            subst ht
            rw [List.getElem?_take] at hj
            split at hj
            · simpa using hj
            · cases hj
      obtain ⟨news, n1, n2⟩ := hnews
      have h1 : ∀ t ∈ xs, t.scal ∨ t.one = true := fun t ht => .inr (List.all_eq_true.1 hone t ht)
      have tgf : ∀ {ow' : Ow} {w1 : World}, (∀ b, b < w.heap.size → ow' b = owL y.toList d ow b) → (∀ b, b < w.heap.size → (∀ z ∈ y.toList, ow b ≠ some (z, 0)) → w1.heap[b]? = w.heap[b]?) → ∀ b, b < w.heap.size → okG lo ow .fr b → okG lo ow' .fr b ∧ w1.heap[b]? = w.heap[b]? := by
        intro ow' w1 ho' hw' b hb hk
        exact ⟨⟨by rw [ho' b hb]; exact owL_none.2 hk.1, hk.2⟩, hw' b hb fun z _ e => by rw [hk.1] at e; cases e⟩
      refine go (zs := y.toList) (mr := 0) (news := news) mem hzd zzO (by omega) n1.length n2 (one_cells n1 h1) hle (fun {ow' w1} ho' hsz' hw' => ⟨?_, FzL.imp (tgf ho' hw') _ _ n1, fun hm1 => by omega⟩) (by cases y <;> exact hK)
      rcases hm0 with rfl | hcs
      · exact rowsB hzd zzO mem ho' hw'
      · rw [nilO hcs, hcs]; simp [FzL]
    generalize s.look e = we at r2 hk
    match k with
    | 0 =>
      cases we with
      | t g r =>
        cases r with
        | s nx xs => rw [appK_0t] at hk; obtain ⟨h1, h2, h3, h4⟩ := hk; exact k0 (r2 : Fz _ _ _ _) h1 h2 h3 h4
        | _ => exact hk.elim
      | own z mz nx xs => rw [appK_0o] at hk; obtain ⟨h1, h2, h3, h4⟩ := hk; exact k0 (OwnAt.fz r2.2.2.2) h1 h2 h3 h4
      | _ => exact hk.elim
    | 2 =>
      cases we with
      | t g r =>
        cases r with
        | s nx xs =>
          cases g with
          | fr => rw [appK_2t] at hk; obtain ⟨h1, h2, h3, h4, h5⟩ := hk; exact k2 (.inl r2) h1 h2 h3 h4 h5
          | _ => exact hk.elim
        | _ => cases g <;> exact hk.elim
      | own z mz nx xs =>
        match mz with
        | 0 => rw [appK_2o] at hk; obtain ⟨h1, h2, h3, h4, h5⟩ := hk; exact k2 (.inr ⟨z, r2.1, r2.2.1, r2.2.2.2⟩) h1 h2 h3 h4 h5
        | _ + 1 => exact hk.elim
      | _ => exact hk.elim
    | 1 =>
      cases we with
      | own z mz nx xs =>
        match mz with
        | 0 => exact hk.elim
        | _ + 2 => exact hk.elim
        | 1 =>
          rw [appK_1] at hk
          obtain ⟨hoff, hdz, hyz, hone, hm1, hle, hK⟩ := hk
          obtain ⟨hz, hlz, hnz, hO⟩ := r2
          have hnews : ∃ news, FzL (okG lo ow (.rw z)) w xs news ∧ DeepR ow z w news ∧ ((a.eval e' = .slice none 0 0 ∧ news = []) ∨ ∃ ad c, a.eval e' = .slice (some ad) news.length c ∧ ∀ j v, news[j]? = some v → w.cell? (ad.add j) = some v) := by
            rcases hO.2 with ⟨e, hc, hn⟩ | ⟨hn, b, cap, arr, ty, vs, e, ho, hb, hs, hl, hm, ht, hx, hd⟩
            · exact ⟨[], by rw [hc]; simp [FzL], deep_nil, .inl ⟨e, rfl⟩⟩
            · refine ⟨vs, hx, by rw [← veil_id (fun t ht => one_live (List.all_eq_true.1 hone t ht)) hx.length]; exact hd rfl, .inr ⟨⟨b, 0, none⟩, cap, by rw [hx.length]; exact e, fun j v hj => ?_⟩⟩
              have : (⟨b, 0, none⟩ : Addr).add j = ⟨b, j, none⟩ := by
                unfold Addr.add; split
                · rename_i h; rw [h]
                · simp
              rw [this, cell_of_row w b j arr ty (0, 0) hb]
              subst ht
              rw [List.getElem?_take] at hj
              split at hj
              · simpa using hj
              · cases hj
          obtain ⟨news, n1, hD, n2⟩ := hnews
          have h1 : ∀ t ∈ xs, t.scal ∨ t.one = true := fun t ht => .inr (List.all_eq_true.1 hone t ht)
          have hzd : ∀ v ∈ z :: y.toList, hangs d v = false := fun v hv => by
            rcases List.mem_cons.1 hv with rfl | hv
            · exact hdz
            · exact offd hoff v (by simpa using hv)
          have hzz : ∀ v ∈ z :: y.toList, ∀ v' ∈ z :: y.toList, v ≠ v' → hangs v v' = false := by
            have : ∀ v ∈ z :: y.toList, ∃ m nl cs, s.get v = .own m nl cs ∧ s.lv v = true := fun v hv => by
              rcases List.mem_cons.1 hv with rfl | hv
              · exact ⟨1, nx, xs, hz, hlz⟩
              · obtain ⟨m', e1, e2⟩ := hbase v (by simpa using hv); exact ⟨m', nl, cs, e1, e2⟩
            intro v hv v' hv' hne
            obtain ⟨_, _, _, e1, _⟩ := this v hv
            obtain ⟨_, _, _, e2, e3⟩ := this v' hv'
            exact own_apart e1 e2 e3 hne
          have mem' : ∀ v, y = some v → v ∈ z :: y.toList := fun v hv => by simp [hv]
          refine go (zs := z :: y.toList) (mr := 1) (news := news) mem' hzd hzz (by omega) n1.length n2 (one_cells n1 h1) hle (fun {ow' w1} ho' hsz' hw' => ?_) (by cases y <;> exact hK)
          have tz : ∀ b, b < w.heap.size → ow b = some (z, 1) → ow' b = some (d, 1) ∧ w1.heap[b]? = w.heap[b]? := fun b hb hk => tag_app (lo := lo) (m := 1) (fun v hv => off_sym hd1 (hzd v hv)) hzz (by simp) ho' hw' hb (show okG lo ow (tagM 1 z) b from hk)
          refine ⟨?_, FzL.imp tz _ _ n1, fun _ => ?_⟩
          · rcases hm1 with rfl | hcs
            · exact rowsB hzd hzz mem' ho' hw'
            · rw [nilO hcs, hcs]; simp [FzL]
          · have hvn : veil xs news = news := veil_id (fun t ht => one_live (List.all_eq_true.1 hone t ht)) n1.length
            rw [veil_app B.len, hvn]
            have hB2 : ∀ i b : Nat, (news[i]?).bind rowBlk = some b → ow b = some (z, 1) ∧ ow' b = some (d, 1) ∧ ∃ arr ty len, w1.heap[b]? = some (.cells arr ty (0, 0)) ∧ news[i]? = some (.slice (some ⟨b, 0, none⟩) len arr.size) := fun i b hi => by
              obtain ⟨q1, arr, ty, len, q2, q5⟩ := hD.2 i b hi
              obtain ⟨q3, q4⟩ := tz b (Array.getElem?_eq_some_iff.1 q2).1 q1
              exact ⟨q1, q3, arr, ty, len, q4.trans q2, q5⟩
            have nilCase : olds = [] → DeepR ow' d w1 (veil cs olds ++ news) := fun h => by
              have : veil cs olds = [] := by rw [h]; cases cs <;> rfl
              rw [this, List.nil_append]; exact ⟨hD.1, fun i b hi => (hB2 i b hi).2⟩
            rcases hm1 with rfl | hcs
            · cases hy : y with
              | none => exact nilCase (nilO (B.no hy))
              | some v =>
                refine deep_app ((B.rows v hy).2 rfl) (fun b hb hk => tag_app (lo := lo) (m := 1) (fun v hv => off_sym hd1 (hzd v hv)) hzz (mem' v hy) ho' hw' hb (show okG lo ow (tagM 1 v) b from hk)) hD.1 fun i b hi => ⟨?_, (hB2 i b hi).2⟩
                rw [(hB2 i b hi).1]
                intro e; cases e; exact hyz hy
            · exact nilCase (nilO hcs)
      | _ => exact hk.elim
    | k + 3 => cases we <;> exact hk.elim

end
end Go.Vc

/-
  The effects: stores.
-/
namespace Go.Vc
open Go

section
variable {P : Program} {lo : Nat} {Xb : Nat → Prop} {par : Nat → Option Value} {ow ow' : Ow} {tm tm' : Array Value} {a : Act} {w w' w1 : World} {s s' : St} {K : St → Prop} {oper : Oper}

theorem st_run {t : TypeId} {p' v' : Operand} {ad : Addr} {v x : Value} (ho : oper.op = .store t p' v') (h1 : one1 P t = true) (hp : a.eval p' = .pointer (some ad)) (hv : a.eval v' = v) (hone : v.oneCell' = true) (hc : w.cell? ad = some x) (hf : w.frozen? ad = false) :
    (execOp a.eval oper).run P w = .ok .skip (w.setCell ad v) := by
  obtain ⟨i, hi, hs⟩ := one1_spec h1
  have hcells := oneCell_cells hone
  have ha : ad.add 0 = ad := by unfold Addr.add; split <;> simp_all
  simp [execOp, ho, Instr.storeAt, Instr.sureAddr, hp, hv, storeVar, sizeOf, typeInfo, hi, hs, hcells, storeCells, ha, run_store P w ad v _ hone, hc, hf]

theorem goi_skip {ad : Addr} {v : Value} (hd : oper.dst = none) (hr : (execOp a.eval oper).run P w = .ok .skip (w.setCell ad v)) (hk : K s') (hb : lo ≤ ad.block ∨ Xb ad.block) (hG : Gam lo Xb par ow' s' a.tmps (w.setCell ad v)) : GoI P lo Xb par a w K oper := by
  intro next Q N
  unfold Oper.wp
  rw [hr]
  simp only [Oper.upon]
  rw [hd]
  exact N s' a _ ow' hk ((Grow.setCell w ad v).mono fun k _ e => by rw [e]; exact hb) hG rfl rfl

/-- **A row given to a slice of rows.** -/
theorem Gam.storeRow {y j m x mx : Nat} {nl nx : Option Bool} {cs cx : List T} {v hdr : Value} {b len cap : Nat} (h : Gam lo Xb par ow s tm w) (hy : s.get y = .own m nl cs) (hl : s.lv y = true) (hn : nmv tm w y = some hdr)
    (he : hdr = .slice (some ⟨b, 0, none⟩) len cap) (hj : j < cs.length) (hm : m % 10 = 1) (hx : s.get x = .own mx nx cx) (hlx : s.lv x = true) (hnx : nmv tm w x = some v) (hxy : hangs x y = false) (hcx : scalL cx) :
    Gam lo Xb par (owGive ow x y) ((y, .own m nl (cs.set j (.s nx cx))) :: (s.take1 x y nx cx).killSp y) tm (w.setCell ⟨b, j, none⟩ v) ∧ v.oneCell' = true ∧ (∃ x, w.cell? ⟨b, j, none⟩ = some x) ∧ w.frozen? ⟨b, j, none⟩ = false ∧ ow b = some (y, 0) := by
  obtain ⟨u0, e0, hO⟩ := h.ent y hl (by rw [hy]; rfl)
  rw [hn] at e0; cases e0
  rw [hy] at hO
  obtain ⟨u1, e1, hX⟩ := h.ent x hlx (by rw [hx]; rfl)
  rw [hnx] at e1; cases e1
  rw [hx] at hX
  obtain ⟨hp, hO⟩ := hO
  rcases hO with hO | ⟨hnl, b', cap', arr, ty, xs, e, ho, hb, hs, hle, hmx, ht, hxs, hd⟩
  · rw [he] at hO; cases hO.1
  rw [he] at e; cases e
  have hxny : x ≠ y := fun e => by subst e; rw [hangs_self] at hxy; cases hxy
  have hone : v.oneCell' = true := by
    rcases hX.2 with ⟨rfl, _⟩ | ⟨_, _, _, _, _, _, rfl, _⟩ <;> rfl
  have hjs : j < arr.size := by omega
  refine ⟨?_, hone, ⟨arr[j], by rw [cell_of_row w b j arr ty (0, 0) hb]; exact Array.getElem?_eq_getElem hjs⟩, frozen_of_row w b j arr ty hb, ho⟩
  have oth : ∀ k, k ≠ b → (w.setCell ⟨b, j, none⟩ v).heap[k]? = w.heap[k]? := fun k hk => heap_setCell_other w _ k v hk
  have nm : ∀ z, s.lv z = true → ∀ u, nmv tm w z = some u → nmv tm (w.setCell ⟨b, j, none⟩ v) z = some u := fun z hz u hu =>
    h.nmKeep hz (fun b' _ hb' h1000 => oth b' (by
      rintro rfl
      rw [ho] at hb'
      have : y = z % 1000 := by cases hb'; rfl
      subst this
      rw [lv_iff, hy] at hz
      rcases hz with hz | hz
      · omega
      · cases hz)) hu
  have get : ∀ z, St.get ((y, .own m nl (cs.set j (.s nx cx))) :: (s.take1 x y nx cx).killSp y) z = if z = y then .own m nl (cs.set j (.s nx cx)) else if z = x then .t (.rw y) (.s nx cx) else if hangs x z = true ∨ (s.get z).on x = true ∨ (s.get z).onSp y = true then .any else s.get z := by
    intro z
    rw [get_top_sp]
    by_cases hzy : z = y
    · rw [if_pos hzy, if_pos hzy]
    · rw [if_neg hzy, if_neg hzy, take1_eq]
      by_cases hzx : z = x
      · rw [if_pos hzx, hzx, get_top, vonSp_rw]; simp
      · rw [if_neg hzx, get_top_ne hzx, get_kill]
        by_cases h1 : hangs x z = true ∨ (s.get z).on x = true
        · have e3 : hangs x z = true ∨ (s.get z).on x = true ∨ (s.get z).onSp y = true := by rcases h1 with h | h; exact .inl h; exact .inr (.inl h)
          rw [if_pos h1, if_pos e3]; split <;> rfl
        · rw [if_neg h1]
          simp only [not_or] at h1
          by_cases h2 : (s.get z).onSp y = true
          · rw [if_pos h2, if_pos (.inr (.inr h2))]
          · rw [if_neg h2, if_neg (by rintro (h | h | h); exact h1.1 h; exact h1.2 h; exact h2 h)]
  have lvs : ∀ z, St.lv ((y, .own m nl (cs.set j (.s nx cx))) :: (s.take1 x y nx cx).killSp y) z = true → s.lv z = true := by
    intro z hz
    rw [lv_iff] at hz ⊢
    rcases hz with hz | hz
    · exact .inl hz
    · rw [get] at hz
      split at hz
      · cases hz
      · split at hz
        · cases hz
        · split at hz
          · cases hz
          · exact .inr hz
  have al : ∀ z, hangs x z = false → okAl ((y, .own m nl (cs.set j (.s nx cx))) :: (s.take1 x y nx cx).killSp y) z → okAl s z := by
    intro z hxz hz
    rw [okAl_iff, get] at hz
    rw [okAl_iff]
    by_cases hzy : z = y
    · subst hzy; exact .inl ⟨⟨m, nl, cs, hy⟩, hl⟩
    · simp only [hzy, if_false] at hz
      by_cases hzx : z = x
      · subst hzx; rw [hangs_self] at hxz; cases hxz
      · simp only [hzx, if_false] at hz
        split at hz
        · rcases hz with ⟨⟨_, _, _, e⟩, _⟩ | ⟨⟨_, e⟩, _⟩ <;> cases e
        · rcases hz with ⟨e, hz⟩ | e
          · exact .inl ⟨e, lvs z hz⟩
          · exact .inr e
  have pe : ∀ z, hangs x z = false → okPe ((y, .own m nl (cs.set j (.s nx cx))) :: (s.take1 x y nx cx).killSp y) z → okPe s z := by
    intro z hxz hz
    have hal := al z hxz hz.al
    rw [okPe_iff, get] at hz
    rw [okPe_iff]
    by_cases hzy : z = y
    · subst hzy; exact ⟨⟨m, nl, cs, hy⟩, hl⟩
    · simp only [hzy, if_false] at hz
      by_cases hzx : z = x
      · subst hzx; rw [hangs_self] at hxz; cases hxz
      · simp only [hzx, if_false] at hz
        split at hz
        · obtain ⟨⟨_, _, _, e⟩, _⟩ := hz; cases e
        · exact ⟨hz.1, lvs z hz.2⟩
  have give : ∀ b' p, ow b' = some p → p ≠ (x, 0) → owGive ow x y b' = some p := fun b' p h1 h2 => by rw [owGive_ne (by rw [h1]; simpa using h2)]; exact h1
  have tag : ∀ g : G, g.onSp y = false → g.on x = false → ∀ b', b' < w.heap.size → okG lo ow g b' → okG lo (owGive ow x y) g b' ∧ (w.setCell ⟨b, j, none⟩ v).heap[b']? = w.heap[b']? := by
    intro g hg1 hg2 b' _ hk
    have hne := okG_ne ho hg1 hk
    refine ⟨?_, oth b' hne⟩
    cases g with
    | arg => exact owGive_none.2 hk
    | fr => exact ⟨owGive_none.2 hk.1, hk.2⟩
    | rw z => exact give b' _ hk (by simp)
    | sp z =>
      rcases hk with hk | hk | hk
      · refine .inl (give b' _ hk fun e => ?_)
        cases e
        simp only [G.on, hangs_self] at hg2; cases hg2
      · exact .inr (.inl (give b' _ hk (by simp)))
      · exact .inr (.inr (owGive_none.2 hk))
  -- the row, as one of y's
  have hrow : ∀ bv, rowBlk v = some bv → ow bv = some (x, 0) ∧ ∃ arr ty len, w.heap[bv]? = some (.cells arr ty (0, 0)) ∧ v = .slice (some ⟨bv, 0, none⟩) len arr.size := by
    intro bv hbv
    rcases hX.2 with ⟨rfl, _⟩ | ⟨_, b1, _, arr1, ty1, _, rfl, ho1, hb1, hsz1, _⟩
    · cases hbv
    · cases hbv; exact ⟨ho1, arr1, ty1, _, hb1, by rw [hsz1]⟩
  have gv : ∀ bv, ow bv = some (x, 0) → owGive ow x y bv = some (y, 1) := fun bv h => by unfold owGive; rw [if_pos h]
  have bne : ∀ bv, ow bv = some (x, 0) → bv ≠ b := fun bv h e => by rw [e, ho] at h; cases h; exact hxny rfl
  have hfx : Fz (okG lo (owGive ow x y) (.rw y)) (w.setCell ⟨b, j, none⟩ v) (.s nx cx) v := by
    rcases hX.2 with h | ⟨hnl', b1, cap1, arr1, ty1, zs, e1, ho1, hb1, hs1, hl1, hm1, ht1, hx1, hd1⟩
    · simp only [Fz]; exact .inl h
    · simp only [Fz]
      refine .inr ⟨hnl', b1, 0, none, cap1, zs, e1, hl1, hm1, fun _ => ⟨gv b1 ho1, rfl⟩, hx1.scal hcx, fun k u hk => ?_⟩
      rw [World.cell?_of_block (w := w) (oth b1 (bne b1 ho1)), cell_of_row w b1 (0 + k) arr1 ty1 (0, 0) hb1]
      subst ht1
      rw [List.getElem?_take] at hk
      split at hk
      · simpa using hk
      · cases hk
  have htag : tagM m y = .rw y := by simp [tagM, hm]
  refine Gam.step (M := fun z => hangs x z = false) (MG := fun g => g.onSp y = false ∧ g.on x = false) (I := fun z => z ≠ y ∧ hangs x z = false ∧ s.lv z = true) h (fun b' p hp' => ?_) (by simp) (fun z hz hnz => ?_) (fun z hz => nm z hz.2.2)
    (fun z hz b' _ r' hb' => ⟨give b' _ hb' fun e => ?_, oth b' (by rintro rfl; rw [ho] at hb'; cases hb'; exact hz.1 rfl)⟩) ⟨⟨rfl, rfl⟩, ⟨rfl, rfl⟩⟩ (fun z hxz hz => ⟨al z hxz hz, fun u => nm z (al z hxz hz).lv u⟩) (fun z hxz hz => pe z hxz hz)
    (fun z hz1 hxz hz => ⟨?_, fun u hu => nm z (lv_iff.2 (.inl hz1)) u hu⟩) (fun g hg b' hlt hb' => tag g hg.1 hg.2 b' hlt hb')
  · have : ∃ q, ow b' = some q := by
      cases e : ow b' with
      | none => rw [owGive_none.2 e] at hp'; cases hp'
      | some q => exact ⟨q, rfl⟩
    obtain ⟨q, hq⟩ := this
    simpa using h.base b' q hq
  · rw [get] at hnz ⊢
    by_cases hzy : z = y
    · subst hzy
      left
      refine ⟨hdr, nm z hl hdr hn, ?_⟩
      simp only [if_true]
      refine ⟨hp, .inr ⟨hnl, b, cap, arr.setIfInBounds j v, ty, xs.set j v, by rw [he]; simp, give b _ ho (by intro e; cases e; exact hxny rfl), setCell_row hb, by simpa using hs, by simpa using hle, hmx, ?_, ?_, fun _ => ?_⟩⟩
      · subst ht; simp [List.take_set]
      · rw [htag] at hxs ⊢
        exact (FzL.imp (tag (.rw z) rfl (by simpa [G.on] using hxy)) cs xs hxs).set j hfx
      · obtain ⟨d1, d2⟩ := hd hm
        have hjx : j < (veil cs xs).length := by rw [veil_length hxs.length, ← ht]; simp; omega
        rw [veil_set rfl]
        clear hxs ht
        generalize veil cs xs = xs at d1 d2 hjx ⊢
        have get2 : ∀ i b', ((xs.set j v)[i]?).bind rowBlk = some b' → (i = j ∧ rowBlk v = some b') ∨ (i ≠ j ∧ (xs[i]?).bind rowBlk = some b') := by
          intro i b' hi
          rw [List.getElem?_set] at hi
          by_cases hij : j = i
          · subst hij
            rw [if_pos rfl, if_pos hjx] at hi
            exact .inl ⟨rfl, hi⟩
          · rw [if_neg hij] at hi; exact .inr ⟨fun e => hij e.symm, hi⟩
        have old : ∀ i b', (xs[i]?).bind rowBlk = some b' → ow b' = some (z, 1) := fun i b' hi => (d2 i b' hi).1
        refine ⟨fun i k b' hi hk => ?_, fun i b' hi => ?_⟩
        · rcases get2 i b' hi with ⟨i1, i2⟩ | ⟨i1, i2⟩ <;> rcases get2 k b' hk with ⟨k1, k2⟩ | ⟨k1, k2⟩
          · rw [i1, k1]
          · have := (hrow b' i2).1; rw [old k b' k2] at this; cases this
          · have := (hrow b' k2).1; rw [old i b' i2] at this; cases this
          · exact d1 i k b' i2 k2
        · rcases get2 i b' hi with ⟨i1, i2⟩ | ⟨i1, i2⟩
          · obtain ⟨q1, arr', ty', len', q2, q3⟩ := hrow b' i2
            exact ⟨gv b' q1, arr', ty', len', by rw [oth b' (bne b' q1)]; exact q2, by rw [i1, List.getElem?_set_self hjx, q3]⟩
          · obtain ⟨q1, arr', ty', len', q2, q3⟩ := d2 i b' i2
            exact ⟨give b' _ q1 (by simp), arr', ty', len', by rw [oth b' (by rintro rfl; rw [ho] at q1; cases q1)]; exact q2, by rw [List.getElem?_set_ne (fun e => i1 e.symm)]; exact q3⟩
    · rw [if_neg hzy] at hnz ⊢
      by_cases hzx : z = x
      · subst hzx
        left
        rw [if_pos rfl]
        exact ⟨v, nm z hlx v hnx, hfx⟩
      · rw [if_neg hzx] at hnz ⊢
        right
        split at hnz
        · cases hnz
        · rename_i hq
          rw [if_neg hq]
          simp only [not_or, Bool.not_eq_true] at hq
          refine ⟨⟨hzy, hq.1, lvs z hz⟩, rfl, lvs z hz, ?_⟩
          have m1 := V.not_on hq.2.1
          have m2 := V.onSp_not hq.2.2
          revert m1 m2
          cases s.get z <;> simp only [V.ment] <;> intro m1 m2 <;> first | exact ⟨m1.1, m2.2, m1.2⟩ | exact ⟨m2, m1⟩ | exact m1 | trivial | skip
          intro c hc
          have a1 := m1 c hc
          have a2 := m2 c hc
          cases c <;> simp only [Cap.ment] at a1 a2 ⊢
          · exact a1
          · exact ⟨a2, a1⟩
  · cases e; have := hz.2.1; rw [hangs_self] at this; cases this
  · rw [okPc_iff, get] at hz
    obtain ⟨k, hz⟩ := hz
    split at hz
    · cases hz
    · split at hz
      · cases hz
      · split at hz
        · cases hz
        · exact okPc_iff.2 ⟨k, hz⟩

/-- **A store into a box.** -/
theorem Gam.storeBox {z n b : Nat} {arr : Array Value} {ty : TypeId} {v : V} {x : Value} (h : Gam lo Xb par ow s tm w) (hz : s.get (z % 1000) = .bx n) (hp : nmv tm w (z % 1000) = some (.pointer (some ⟨b, 0, none⟩)))
    (hb : w.heap[b]? = some (.cells arr ty (0, 0))) (ho : ow b = some (z % 1000, 0)) (hn : arr.size = n) (hk : z / 1000 - 1 < n) (h1 : 1000 ≤ z) (h2 : z / 1000 < 100) (hv : CellRep lo par ow w z v x) (hKd : v.isName = true → Kd z s) (hsp : v.onSp (z % 1000) = false) :
    Gam lo Xb par ow ((z, v) :: s.killSp (z % 1000)) tm (w.setCell ⟨b, z / 1000 - 1, none⟩ x) := by
  have oth : ∀ k, k ≠ b → (w.setCell ⟨b, z / 1000 - 1, none⟩ x).heap[k]? = w.heap[k]? := fun k hk => heap_setCell_other w _ k x hk
  have htm : tm.getD (z % 1000) undef = .pointer (some ⟨b, 0, none⟩) := by rw [nmv_slot (by omega)] at hp; simpa using hp
  have hset := setCell_row (v := x) (j := z / 1000 - 1) hb
  have nm : ∀ y, y ≠ z → s.lv y = true → ∀ u, nmv tm w y = some u → nmv tm (w.setCell ⟨b, z / 1000 - 1, none⟩ x) y = some u := by
    intro y hyz hl u hu
    by_cases hy : y < 1000
    · rw [nmv_slot hy] at hu ⊢; exact hu
    · by_cases hyz0 : y % 1000 = z % 1000
      · unfold nmv at hu ⊢
        rw [if_neg hy, hyz0, htm] at hu ⊢
        simp only at hu ⊢
        split at hu
        · rename_i hlt
          rw [if_pos hlt]
          rw [cell_of_row _ b _ arr ty (0, 0) hb] at hu
          rw [cell_of_row _ b _ _ ty (0, 0) hset, Array.getElem?_setIfInBounds_ne (by omega)]
          exact hu
        · cases hu
      · exact h.nmKeep hl (fun b' _ hb' _ => oth b' (by rintro rfl; rw [ho] at hb'; exact hyz0 (by simpa using hb'.symm))) hu
  have hvc : v.cont = false := by cases v <;> simp [CellRep] at hv <;> rfl
  have gne : ∀ y, y ≠ z → St.get ((z, v) :: s.killSp (z % 1000)) y = if (s.get y).onSp (z % 1000) = true then .any else s.get y := fun y hy => by rw [get_top_ne hy, get_killSp]
  have lvs : ∀ y, St.lv ((z, v) :: s.killSp (z % 1000)) y = true → s.lv y = true := by
    intro y hy
    rw [lv_iff] at hy ⊢
    rcases hy with hy | hy
    · exact .inl hy
    · rw [gne _ (by omega)] at hy
      split at hy
      · cases hy
      · exact .inr hy
  have nameV : ∀ m nl cs, v = .own m nl cs → v.isName = true := fun m nl cs e => by rw [e]; rfl
  have al : ∀ y, (y = z → v.isName = false) → okAl ((z, v) :: s.killSp (z % 1000)) y → okAl s y ∧ y ≠ z := by
    intro y hM hy
    rw [okAl_iff] at hy
    by_cases hyz : y = z
    · exfalso
      rw [hyz, get_top] at hy
      have := hM hyz
      rcases hy with ⟨⟨m, nl, cs, e⟩, _⟩ | ⟨⟨k, e⟩, _⟩ <;> rw [e] at this <;> cases this
    · rw [gne y hyz] at hy
      refine ⟨?_, hyz⟩
      rw [okAl_iff]
      split at hy
      · rcases hy with ⟨⟨_, _, _, e⟩, _⟩ | ⟨⟨_, e⟩, _⟩ <;> cases e
      · rcases hy with ⟨e, hl⟩ | e
        · exact .inl ⟨e, lvs y hl⟩
        · exact .inr e
  have pe : ∀ y, (y = z → v.isName = false) → okPe ((z, v) :: s.killSp (z % 1000)) y → okPe s y := by
    intro y hM hy
    obtain ⟨q1, q2⟩ := al y hM hy.al
    rw [okPe_iff, gne y q2] at hy
    rw [okPe_iff]
    split at hy
    · obtain ⟨⟨_, _, _, e⟩, _⟩ := hy; cases e
    · exact ⟨hy.1, lvs y hy.2⟩
  have pc : ∀ y, y < 1000 → okPc ((z, v) :: s.killSp (z % 1000)) y → okPc s y := by
    intro y hy1 hy
    rw [okPc_iff, gne y (by omega)] at hy
    obtain ⟨k, hy⟩ := hy
    split at hy
    · cases hy
    · exact okPc_iff.2 ⟨k, hy⟩
  have tag : ∀ g : G, g.onSp (z % 1000) = false → ∀ b', b' < w.heap.size → okG lo ow g b' → okG lo ow g b' ∧ (w.setCell ⟨b, z / 1000 - 1, none⟩ x).heap[b']? = w.heap[b']? := fun g hg b' _ hk => ⟨hk, oth b' (okG_ne ho hg hk)⟩
  have Mt : ∀ y, (s.get y).onSp (z % 1000) = false → (s.get y).ment (fun q => q = z → v.isName = false) (fun g => g.onSp (z % 1000) = false) := by
    intro y hsp
    have m2 := V.onSp_not hsp
    by_cases hvn : v.isName = true
    · by_cases hon : (s.get y).on z = true
      · obtain ⟨q, r, e⟩ := ((hKd hvn) y).2 hon
        rw [e]; simp [V.ment, G.onSp]
      · simp only [Bool.not_eq_true] at hon
        have m1 := V.not_on hon
        have nz : ∀ {q : Nat}, hangs z q = false → q = z → v.isName = false := fun h e => by rw [e, hangs_self] at h; cases h
        revert m1 m2
        cases s.get y <;> simp only [V.ment] <;> intro m2 m1 <;> first | exact ⟨nz m1.1, m2.2⟩ | exact m2 | exact nz m1 | trivial | skip
        intro c hc
        have a1 := m1 c hc
        have a2 := m2 c hc
        cases c <;> simp only [Cap.ment] at a1 a2 ⊢
        · exact nz a1
        · exact a2
    · simp only [Bool.not_eq_true] at hvn
      revert m2
      cases s.get y <;> simp only [V.ment] <;> intro m2 <;> first | exact ⟨fun _ => hvn, m2.2⟩ | exact m2 | exact fun _ => hvn | trivial | skip
      intro c hc
      have a2 := m2 c hc
      cases c <;> simp only [Cap.ment] at a2 ⊢
      · exact fun _ => hvn
      · exact a2
  refine Gam.step (M := fun q => q = z → v.isName = false) (MG := fun g => g.onSp (z % 1000) = false) (I := fun y => y ≠ z ∧ y ≠ z % 1000 ∧ s.lv y = true) h (fun b' p hp => by simpa using h.base b' p hp) (by simp) (fun y hl hny => ?_) (fun y hy => nm y hy.1 hy.2.2)
    (fun y hy b' _ r hb' => ⟨hb', oth b' (by rintro rfl; rw [ho] at hb'; cases hb'; exact hy.2.1 rfl)⟩) ⟨rfl, rfl⟩ (fun y hM hy => ⟨(al y hM hy).1, nm y (al y hM hy).2 (al y hM hy).1.lv⟩) (fun y hM hy => pe y hM hy)
    (fun y hy1 _ hy => ⟨pc y hy1 hy, nm y (by omega) (lv_iff.2 (.inl hy1))⟩) tag
  by_cases hyz : y = z
  · subst hyz
    left
    rw [get_top]
    refine ⟨x, ?_, ?_⟩
    · unfold nmv
      rw [if_neg (by omega), htm]
      simp only
      rw [if_pos h2, cell_of_row _ b _ _ ty (0, 0) hset, Array.getElem?_setIfInBounds_self_of_lt (by omega)]
    · cases v with
      | t g r =>
        exact Fz.imp (tag g hsp) r x hv
      | own m nl cs => exact OwnAt.imp (fun b' _ hk => ⟨hk, oth b' (by rintro rfl; rw [ho] at hk; simp at hk; omega)⟩) (fun b' hlt hk => tag _ tagM_sp b' hlt hk) hv
      | _ => exact hv.elim
  · rw [gne y hyz] at hny ⊢
    split at hny
    · cases hny
    · rename_i hsp
      simp only [Bool.not_eq_true] at hsp
      simp only [hsp, Bool.false_eq_true, if_false]
      by_cases hyz0 : y = z % 1000
      · left
        refine ⟨.pointer (some ⟨b, 0, none⟩), ?_, ?_⟩
        · rw [hyz0]; exact nm (z % 1000) (by omega) (lv_iff.2 (.inl (by omega))) _ hp
        · rw [hyz0, hz]
          exact ⟨by omega, b, _, ty, rfl, ho, hset, by simpa using hn⟩
      · right
        exact ⟨⟨hyz, hyz0, lvs y hl⟩, trivial, lvs y hl, Mt y hsp⟩


theorem st_goi {p v : X} {p' v' : Operand} {t : TypeId} (hG : Gam lo Xb par ow s a.tmps w) (hd : oper.dst = none) (ho : oper.op = .store t p' v') (h1 : one1 P t = true) (hp : xOk p p' = true) (hv : xOk v v' = true)
    (hk : wpI P (.st p v) K s) : GoI P lo Xb par a w K oper := by
  have r1 := xOk_sound hG hp
  have r2 := xOk_sound hG hv
  rw [wpI_st] at hk
  generalize s.look p = wp at r1 hk
  generalize s.look v = wv at r2 hk
  cases wp with
  | pe y j m nl cs =>
    obtain ⟨hy, hly, b, len, cap, hny, hO, hpe⟩ := r1
    cases wv with
    | t g r =>
      rw [stK_pet] at hk
      obtain ⟨k1, k2, k3⟩ := hk
      obtain ⟨q1, q2, ⟨x, q3⟩, q4, q5⟩ := hG.store hy hly hny rfl k1 k2 r2
      exact goi_skip hd (st_run ho h1 hpe rfl q2 q3 q4) k3 (hG.base b _ q5).2 q1
    | own x mx nx cx =>
      rw [stK_peo] at hk
      obtain ⟨k1, k2, k3, k4, k5, k6⟩ := hk
      obtain ⟨hx, hlx, hnx, hOx⟩ := r2
      obtain ⟨q1, q2, ⟨x, q3⟩, q4, q5⟩ := hG.storeRow hy hly hny rfl k4 k5 hx hlx hnx k1 k3
      exact goi_skip hd (st_run ho h1 hpe rfl q2 q3 q4) k6 (hG.base b _ q5).2 q1
    | _ => exact hk.elim
  | pc z v0 ts =>
    obtain ⟨n, b, arr, ty, hz, hnz, hb, hob, hn, hlt, h1000, hpe, _, _⟩ := r1
    have hcell : ∃ x, w.cell? ⟨b, z / 1000 - 1, none⟩ = some x := ⟨arr[z / 1000 - 1], by rw [cell_of_row w b _ arr ty (0, 0) hb]; exact Array.getElem?_eq_getElem (by omega)⟩
    obtain ⟨x0, hcell⟩ := hcell
    have hfro := frozen_of_row w b (z / 1000 - 1) arr ty hb
    cases wv with
    | t g r =>
      rw [stK_pct] at hk
      obtain ⟨k1, k2, k3, k4⟩ := hk
      have hone : (a.eval v').oneCell' = true := Fz.one (r2 : Fz _ _ _ _) (by cases r <;> simp [T.one] at k1 ⊢)
      exact goi_skip hd (st_run ho h1 hpe rfl hone hcell hfro) k4 (hG.base b _ hob).2 (hG.storeBox hz hnz hb hob hn hlt h1000 k3 (v := .t g r) r2 (fun h => by cases h) k2)
    | own x mx nx cx =>
      rw [stK_pco] at hk
      obtain ⟨k1, k2, k3, k4, k5⟩ := hk
      obtain ⟨hx, hlx, hnx, hOx⟩ := r2
      have hone : (a.eval v').oneCell' = true := by
        rcases hOx.2 with ⟨h, _⟩ | ⟨_, _, _, _, _, _, h, _⟩ <;> rw [h] <;> rfl
      have hxz : hangs x z = false := by
        rw [hangs_false] at k1 k2 ⊢
        exact ⟨fun e => k1.1 e.symm, fun h e => k2.1 e⟩
      have Kp : Keeps lo [z, x] ow (owMove ow x z) a.tmps a.tmps w w s ([] ++ St.rtL [x] z (s.kill z)) :=
        Keeps.absorb hG (by simpa using k1) (by simpa using hxz) (by simp) (by simp) (fun _ _ _ => rfl) (Nat.le_refl _) (fun _ _ => rfl) (fun _ _ _ => rfl)
      have h2 : Gam lo Xb par (owMove ow x z) ((s.kill z).rt x z) a.tmps w := by
        refine Gam.next (ds := [z, x]) hG Kp (fun b p hp => ?_) fun y hy hl hn => ?_
        · obtain ⟨q, hq⟩ := owMove_some hp; exact hG.base b q hq
        · exfalso
          have : ((St.rtL [x] z (s.kill z)).get y).isAny = true := by
            refine rtL_hang ?_
            obtain ⟨q, hq, hh⟩ := hy
            simp at hq
            rcases hq with rfl | rfl
            · right; rw [get_kill, if_pos (.inl hh)]; rfl
            · exact .inl ⟨q, by simp, hh⟩
          exact absurd (this.symm.trans hn) (by simp)
      have hzz : hangs z (z % 1000) = false := by rw [hangs_false]; exact ⟨by omega, fun h => by omega⟩
      have hz' : ((s.kill z).rt x z).get (z % 1000) = .bx n := by
        rw [get_rt, if_neg (by rw [k2]; simp), get_kill, hz, if_neg (by rw [hzz]; simp [V.on])]
        rfl
      have ho' : owMove ow x z b = some (z % 1000, 0) := owMove_ne hob k2
      have hcr : CellRep lo par (owMove ow x z) w z (.own mx nx cx) (a.eval v') := OwnAt.ren k4 (fun b r hb => owMove_self hb) (fun b hb => owMove_none.2 hb) hOx
      exact goi_skip hd (st_run ho h1 hpe rfl hone hcell hfro) k5 (hG.base b _ hob).2 (h2.storeBox hz' hnz hb ho' hn hlt h1000 k3 (v := .own mx nx cx) hcr (fun _ => (Kd.kill z s).rt) rfl)
    | _ => exact hk.elim
  | _ => exact hk.elim

/-! ### Structs, part by part -/

def setCs (w : World) (b : Nat) : Nat → List Value → World
  | _, [] => w
  | j, v :: vs => setCs (w.setCell ⟨b, j, none⟩ v) b (j + 1) vs

theorem Grow.setCs {b : Nat} : ∀ {vs : List Value} {j : Nat} {w : World}, Grow (fun k => k = b) w (setCs w b j vs)
  | [], _, w => Grow.refl _ w
  | v :: vs, j, w => by
    have h1 : Grow (fun k => k = b) w (w.setCell ⟨b, j, none⟩ v) := Grow.setCell w ⟨b, j, none⟩ v
    exact h1.trans (Grow.setCs (vs := vs))

theorem storeCells_run {b : Nat} {ty : TypeId} : ∀ {vs : List Value} {j : Nat} {w : World} {arr : Array Value}, w.heap[b]? = some (.cells arr ty (0, 0)) → j + vs.length ≤ arr.size → (∀ v ∈ vs, v.oneCell' = true) →
    (storeCells ⟨b, 0, none⟩ vs j).run P w = .ok () (setCs w b j vs)
  | [], j, w, arr, _, _, _ => by simp [storeCells, setCs]
  | v :: vs, j, w, arr, hb, hl, h1 => by
    simp only [List.length_cons] at hl
    have ha : (⟨b, 0, none⟩ : Addr).add j = ⟨b, j, none⟩ := by
      unfold Addr.add; split
      · rename_i h; rw [h]
      · simp
    have hc : w.cell? ⟨b, j, none⟩ = some arr[j] := by rw [cell_of_row w b j arr ty (0, 0) hb]; exact Array.getElem?_eq_getElem (by omega)
    have hf := frozen_of_row w b j arr ty hb
    have ih := storeCells_run (vs := vs) (j := j + 1) (w := w.setCell ⟨b, j, none⟩ v) (arr := arr.setIfInBounds j v) (setCell_row hb) (by simp; omega) (fun v hv => h1 v (by simp [hv]))
    have hrun : (store ⟨b, j, none⟩ v).run P w = .ok () (w.setCell ⟨b, j, none⟩ v) := by
      simp [run_store P w ⟨b, j, none⟩ v _ (h1 v (by simp)), hc, hf]
    simp [storeCells, ha, hrun, setCs, ih]

/-- **An owned slice goes into a cell of a box.** -/
theorem Gam.store1 {z x n b mx : Nat} {arr : Array Value} {ty : TypeId} {nx : Option Bool} {cx : List T} {u : Value} (hG : Gam lo Xb par ow s tm w) (hz : s.get (z % 1000) = .bx n) (hnz : nmv tm w (z % 1000) = some (.pointer (some ⟨b, 0, none⟩)))
    (hb : w.heap[b]? = some (.cells arr ty (0, 0))) (hob : ow b = some (z % 1000, 0)) (hn : arr.size = n) (hlt : z / 1000 - 1 < n) (h1000 : 1000 ≤ z) (k3 : z / 1000 < 100) (hx : s.get x = .own mx nx cx) (hlx : s.lv x = true) (hnx : nmv tm w x = some u)
    (k1 : hangs z x = false) (k2 : hangs x (z % 1000) = false) (k4 : mx < 10) :
    Gam lo Xb par (owMove ow x z) ((z, .own mx nx cx) :: ((s.kill z).rt x z).killSp (z % 1000)) tm (w.setCell ⟨b, z / 1000 - 1, none⟩ u) ∧ u.oneCell' = true ∧ owMove ow x z b = some (z % 1000, 0) ∧
      St.get ((z, .own mx nx cx) :: ((s.kill z).rt x z).killSp (z % 1000)) (z % 1000) = .bx n := by
  obtain ⟨u', e, hr⟩ := hG.ent x hlx (by rw [hx]; rfl)
  rw [hnx] at e; cases e
  rw [hx] at hr
  have hOx : OwnAt lo par ow w x mx nx cx u := hr
  have hone : u.oneCell' = true := by
    rcases hOx.2 with ⟨h, _⟩ | ⟨_, _, _, _, _, _, h, _⟩ <;> rw [h] <;> rfl
  have hxz : hangs x z = false := by
    rw [hangs_false] at k1 k2 ⊢
    exact ⟨fun e => k1.1 e.symm, fun h e => k2.1 e⟩
  have Kp : Keeps lo [z, x] ow (owMove ow x z) tm tm w w s ([] ++ St.rtL [x] z (s.kill z)) :=
    Keeps.absorb hG (by simpa using k1) (by simpa using hxz) (by simp) (by simp) (fun _ _ _ => rfl) (Nat.le_refl _) (fun _ _ => rfl) (fun _ _ _ => rfl)
  have h2 : Gam lo Xb par (owMove ow x z) ((s.kill z).rt x z) tm w := by
    refine Gam.next (ds := [z, x]) hG Kp (fun b p hp => ?_) fun y hy hl hn => ?_
    · obtain ⟨q, hq⟩ := owMove_some hp; exact hG.base b q hq
    · exfalso
      have : ((St.rtL [x] z (s.kill z)).get y).isAny = true := by
        refine rtL_hang ?_
        obtain ⟨q, hq, hh⟩ := hy
        simp at hq
        rcases hq with rfl | rfl
        · right; rw [get_kill, if_pos (.inl hh)]; rfl
        · exact .inl ⟨q, by simp, hh⟩
      exact absurd (this.symm.trans hn) (by simp)
  have hzz : hangs z (z % 1000) = false := by rw [hangs_false]; exact ⟨by omega, fun h => by omega⟩
  have hz' : ((s.kill z).rt x z).get (z % 1000) = .bx n := by
    rw [get_rt, if_neg (by rw [k2]; simp), get_kill, hz, if_neg (by rw [hzz]; simp [V.on])]
    rfl
  have ho' : owMove ow x z b = some (z % 1000, 0) := owMove_ne hob k2
  have hcr : CellRep lo par (owMove ow x z) w z (.own mx nx cx) u := OwnAt.ren k4 (fun b r hb => owMove_self hb) (fun b hb => owMove_none.2 hb) hOx
  refine ⟨h2.storeBox hz' hnz hb ho' hn hlt h1000 k3 (v := .own mx nx cx) hcr (fun _ => (Kd.kill z s).rt) rfl, hone, ho', ?_⟩
  rw [get_if, if_neg (by omega), get_killSp, hz']
  rfl

/-- **A struct of owned slices goes into a box.** -/
theorem Gam.storeS {z y c b N : Nat} {ty : TypeId} (hz1 : z < 1000) : ∀ {n j : Nat} {s : St} {ow : Ow} {w : World} {arr : Array Value} {vs : List Value}, Gam lo Xb par ow s tm w → s.get z = .bx N → nmv tm w z = some (.pointer (some ⟨b, 0, none⟩)) →
    w.heap[b]? = some (.cells arr ty (0, 0)) → ow b = some (z, 0) → arr.size = N → j + n ≤ N → vs.length = n → (∀ (i : Nat) (v : Value) (w' : World), vs[i]? = some v → (∀ k, k ≠ b → w'.heap[k]? = w.heap[k]?) → nmv tm w' (y + 1000 * (c + (j + i))) = some v) →
    stSK z y c j n s K → ∃ s' ow', K s' ∧ Gam lo Xb par ow' s' tm (setCs w b j vs) ∧ ∀ v ∈ vs, v.oneCell' = true
  | 0, j, s, ow, w, arr, vs, hG, _, _, _, _, _, _, hl, _, hk => by
    have := List.eq_nil_of_length_eq_zero hl
    subst this
    exact ⟨s, ow, hk, hG, by simp⟩
  | n + 1, j, s, ow, w, arr, [], _, _, _, _, _, _, _, hl, _, _ => by simp at hl
  | n + 1, j, s, ow, w, arr, v :: vs, hG, hz, hnz, hb, hob, hn, hj, hl, hv, hk => by
    rw [stSK_s] at hk
    generalize hx : s.get (y + 1000 * (c + j)) = vx at hk
    cases vx with
    | own m nl cs =>
      rw [st1K_o] at hk
      obtain ⟨k1, k2, k3, k4, k5, k6⟩ := hk
      have hm : (z + 1000 * (1 + j)) % 1000 = z := by omega
      have hd : (z + 1000 * (1 + j)) / 1000 - 1 = j := by omega
      have hnx := hv 0 v w (by simp) (fun _ _ => rfl)
      rw [Nat.add_zero] at hnx
      obtain ⟨q1, q2, q3, q4⟩ := hG.store1 (z := z + 1000 * (1 + j)) (by rw [hm]; exact hz) (by rw [hm]; exact hnz) hb (by rw [hm]; exact hob) hn (by rw [hd]; omega) (by omega) k4 hx k1 hnx k2 k3 k5
      rw [hd] at q1
      rw [hm] at q1 q3 q4 k6
      have oth : ∀ k, k ≠ b → (w.setCell ⟨b, j, none⟩ v).heap[k]? = w.heap[k]? := fun k hk => heap_setCell_other w _ k v hk
      obtain ⟨s', ow', r1, r2, r3⟩ := Gam.storeS hz1 (n := n) (j := j + 1) (vs := vs) q1 q4 (by rw [nmv_slot hz1] at hnz ⊢; exact hnz) (setCell_row hb) q3 (by simpa using hn) (by omega) (by simpa using hl) (fun i v' w' hi hw' => by
        have := hv (i + 1) v' w' (by simpa using hi) (fun k hk => (hw' k hk).trans (oth k hk))
        rw [show j + 1 + i = j + (i + 1) by omega]; exact this) k6
      exact ⟨s', ow', r1, r2, fun v' hv' => by rcases List.mem_cons.1 hv' with rfl | h; exact q2; exact r3 _ h⟩
    | _ => exact hk.elim

theorem sts_goi {p v : X} {p' v' : Operand} {t : TypeId} {n : Nat} (hG : Gam lo Xb par ow s a.tmps w) (hd : oper.dst = none) (ho : oper.op = .store t p' v') (h1 : tyStL P t n = true) (hp : xOk p p' = true) (hv : xOk v v' = true)
    (hk : wpI P (.sts p v n) K s) : GoI P lo Xb par a w K oper := by
  have r1 := xOk_sound hG hp
  have r2 := xOk_sound hG hv
  rw [wpI_sts] at hk
  generalize s.look p = wp at r1 hk
  generalize s.look v = wv at r2 hk
  cases wp with
  | pc z v0 ts =>
    obtain ⟨N, b, arr, ty, hz, hnz, hb, hob, hn, hlt, h1000, hpe, hts, _⟩ := r1
    have htl := hts.length
    obtain ⟨t1, t2⟩ := tyStL_spec h1 w
    have run : ∀ {vs : List Value}, z / 1000 = 1 → a.eval v' = .agg vs.toArray → vs.length = n → ts.length = n → (∀ v ∈ vs, v.oneCell' = true) → (execOp a.eval oper).run P w = .ok .skip (setCs w b 0 vs) := by
      intro vs h1 he hl ht hone
      rw [show z / 1000 - 1 = 0 by omega] at hpe
      have hs := storeCells_run (P := P) (vs := vs) (j := 0) hb (by simp at htl; omega) hone
      simp [execOp, ho, Instr.storeAt, Instr.sureAddr, hpe, he, storeVar, t2, Value.cells, hl, hs]
    have fin : ∀ {vs : List Value} {y c : Nat}, z / 1000 = 1 → a.eval v' = .agg vs.toArray → vs.length = n → ts.length = n →
        (∀ (i : Nat) (v : Value) (w' : World), vs[i]? = some v → (∀ k, k ≠ b → w'.heap[k]? = w.heap[k]?) → nmv a.tmps w' (y + 1000 * (c + (0 + i))) = some v) → stSK (z % 1000) y c 0 n s K → GoI P lo Xb par a w K oper := by
      intro vs y c h1 he hl ht hnm hk
      obtain ⟨s', ow', q1, q2, q3⟩ := Gam.storeS (z := z % 1000) (by omega) hG hz hnz hb hob hn (by simp at htl; omega) hl hnm hk
      intro next Q N
      unfold Oper.wp
      rw [run h1 he hl ht q3]
      simp only [Oper.upon]
      rw [hd]
      exact N s' a _ ow' q1 ((Grow.setCs (w := w) (b := b) (j := 0) (vs := vs)).mono fun k _ e => by rw [e]; exact (hG.base b _ hob).2) q2 rfl rfl
    cases wv with
    | ag y m us =>
      rw [stsK_ag] at hk
      obtain ⟨k1, k2, k3, k4, k5⟩ := hk
      obtain ⟨hy, hy1, hny, xs, e, hxl, _⟩ := r2
      refine fin (vs := xs) k1 e (by omega) k3 (fun i v w' hi _ => ?_) k5
      have htm : a.tmps.getD y undef = .agg xs.toArray := by rw [nmv_slot hy1] at hny; rw [Option.some.inj hny]; exact e
      have hil : i < xs.length := (List.getElem?_eq_some_iff.1 hi).1
      unfold nmv
      rw [if_neg (by omega), show (y + 1000 * (200 + (0 + i))) % 1000 = y by omega, htm]
      simp only
      rw [if_pos (by omega), show (y + 1000 * (200 + (0 + i))) / 1000 - 200 = i by omega]
      simpa using hi
    | bv y m us =>
      rw [stsK_bv] at hk
      obtain ⟨k1, k2, k3, k4, k5, k6⟩ := hk
      obtain ⟨hy, hy1, by', arr', ty', e1, e2, e3, e4, e5, _⟩ := r2
      refine fin (vs := arr'.toList) k1 (by simpa using e5) (by simp; omega) k3 (fun i v w' hi hw' => ?_) k6
      have hbne : by' ≠ b := fun e => by
        rw [e, hob] at e3; cases e3; exact k5 rfl
      have htm : a.tmps.getD y undef = .pointer (some ⟨by', 0, none⟩) := by rw [nmv_slot hy1] at e1; simpa using e1
      have hil : i < arr'.toList.length := (List.getElem?_eq_some_iff.1 hi).1
      simp only [Array.length_toList] at hil
      unfold nmv
      rw [if_neg (by omega), show (y + 1000 * (1 + (0 + i))) % 1000 = y by omega, htm]
      simp only
      rw [if_pos (by omega), show (y + 1000 * (1 + (0 + i))) / 1000 - 1 = i by omega]
      rw [cell_of_row w' by' i arr' ty' (0, 0) ((hw' by' hbne).trans e2)]
      simpa using hi
    | _ => exact hk.elim
  | _ => exact hk.elim

theorem setCell_id {b j : Nat} {v : Value} {arr : Array Value} {ty : TypeId} (hb : w.heap[b]? = some (.cells arr ty (0, 0))) (hv : arr[j]? = some v) : w.setCell ⟨b, j, none⟩ v = w := by
  have hh : (w.setCell ⟨b, j, none⟩ v).heap = w.heap := by
    apply Array.ext_getElem?
    intro k
    by_cases hk : k = b
    · subst hk
      rw [setCell_row hb, hb]
      have : arr.setIfInBounds j v = arr := by
        apply Array.ext
        · simp
        · intro i h1 h2
          rw [Array.getElem_setIfInBounds h2]
          by_cases e : j = i
          · subst e
            rw [if_pos rfl]
            rw [Array.getElem?_eq_getElem h2] at hv; exact (Option.some.inj hv).symm
          · rw [if_neg e]
      rw [this]
    · exact heap_setCell_other w ⟨b, j, none⟩ k v hk
  unfold World.setCell at hh ⊢
  cases w
  simp only at hh ⊢
  rw [hh]

theorem setCs_id {b : Nat} {ty : TypeId} {arr : Array Value} : ∀ {vs : List Value} {j : Nat}, w.heap[b]? = some (.cells arr ty (0, 0)) → (∀ i v, vs[i]? = some v → arr[j + i]? = some v) → setCs w b j vs = w
  | [], j, _, _ => rfl
  | v :: vs, j, hb, hv => by
    simp only [setCs]
    rw [setCell_id (j := j) hb (by simpa using hv 0 v (by simp))]
    exact setCs_id hb fun i x hi => by
      have := hv (i + 1) x (by simpa using hi)
      rw [show j + 1 + i = j + (i + 1) by omega]; exact this

/-- **A struct of owned slices that was handed in goes into a box of its own.** -/
theorem box_ag_goi {d y n : Nat} {x : X} {x' : Operand} {e : TypeId} {ts : List T} (hG : Gam lo Xb par ow s a.tmps w) (hd : oper.dst = some d) (hd1 : d < 1000) (hsz : d < a.tmps.size) (ho : oper.op = .box e x') (hx : xOk x x' = true)
    (hl : s.look x = .ag y n ts) (hk : wpI P (.box d x) K s) : GoI P lo Xb par a w K oper := by
  have r1 := xOk_sound hG hx
  have hk : boxK d s K (s.look x) := by cases x <;> exact hk
  rw [hl] at r1 hk
  rw [boxK_ag] at hk
  obtain ⟨k1, k2, k3⟩ := hk
  obtain ⟨hy, hy1, hny, xs, e1, hxl, _⟩ := r1
  have hyd : y ≠ d := fun h => by rw [h, hangs_self] at k1; cases k1
  have G0 : Gam lo Xb par (owNew ow w.heap.size d) ((d, .bx n) :: s.kill d) (a.tmps.setIfInBounds d (.pointer (some ⟨w.heap.size, 0, none⟩))) (w.alloc (.cells xs.toArray e)) := by
    have := Gam.mkBox (E := []) (n := n) (arr := xs.toArray) (ty := e) (hG.kill d) (Kd.kill d s) hd1 hsz (by simpa using hxl) (by simp)
    simpa using this
  have hb := heap_alloc_new w (.cells xs.toArray e)
  obtain ⟨s', ow', q1, q2, q3⟩ := Gam.storeS hd1 (n := n) (j := 0) (vs := xs) (N := n) (b := w.heap.size) (arr := xs.toArray) (ty := e) G0 (by rw [get_if, if_pos rfl]) (by rw [nmv_slot hd1]; simp [hsz]) hb owNew_new (by simpa using hxl) (by omega) hxl (fun i v w' hi _ => by
    have htm : (a.tmps.setIfInBounds d (.pointer (some ⟨w.heap.size, 0, none⟩))).getD y undef = .agg xs.toArray := by
      rw [nmv_slot hy1] at hny
      have : (a.tmps.setIfInBounds d (.pointer (some ⟨w.heap.size, 0, none⟩))).getD y undef = a.tmps.getD y undef := by simp [Array.getElem?_setIfInBounds_ne (Ne.symm hyd)]
      rw [this, Option.some.inj hny]; exact e1
    have hil : i < xs.length := (List.getElem?_eq_some_iff.1 hi).1
    unfold nmv
    rw [if_neg (by omega), show (y + 1000 * (200 + (0 + i))) % 1000 = y by omega, htm]
    simp only
    rw [if_pos (by omega), show (y + 1000 * (200 + (0 + i))) / 1000 - 200 = i by omega]
    simpa using hi) k3
  rw [setCs_id hb (fun i v hi => by simpa using hi)] at q2
  refine goi_val hd (u := .pointer (some ⟨w.heap.size, 0, none⟩)) (w' := w.alloc (.cells xs.toArray e)) ?_ q1 (Grow.alloc _ w _) q2
  simp [execOp, ho, Instr.box, newVar, newRow, e1, Value.cells]

end
end Go.Vc

/-
  The effects: copies into a slice that is owned, clearing, cutting, and append of a make.
-/
namespace Go.Vc
open Go

section
variable {P : Program} {lo : Nat} {Xb : Nat → Prop} {par : Nat → Option Value} {ow ow' : Ow} {tm tm' : Array Value} {a : Act} {w w' w1 : World} {s s' : St} {K : St → Prop} {oper : Oper}

theorem Grow.setRow (w : World) (b : Nat) (arr : Array Value) : Grow (fun k => k = b) w (w.setRow b arr) :=
  ⟨rfl, rfl, rfl, by simp, fun k _ hk => setRow_other w b k _ hk⟩

/-- **A slice of numbers and bools that is owned, written anew.** -/
theorem Gam.setRow {y m : Nat} {nl : Option Bool} {cs cs' : List T} {hdr : Value} {b cap : Nat} {arr arr' : Array Value} {ty : TypeId} {xs' : List Value} (h : Gam lo Xb par ow s tm w) (hy : s.get y = .own m nl cs) (hl : s.lv y = true) (hn : nmv tm w y = some hdr)
    (he : hdr = .slice (some ⟨b, 0, none⟩) cs.length cap) (hb : w.heap[b]? = some (.cells arr ty (0, 0))) (ho : ow b = some (y, 0)) (hnl : nl ≠ some true) (hs : arr.size = cap) (hle : cs.length ≤ cap) (hmx : cap ≤ maxLen)
    (hs' : arr'.size = arr.size) (hlen : cs'.length = cs.length) (hsc : scalL cs') (hx : FzL (fun _ => True) w cs' xs') (ht : arr'.toList.take cs.length = xs') :
    Gam lo Xb par ow ((y, .own m nl cs') :: s.killSp y) tm (w.setRow b arr') := by
  obtain ⟨u0, e0, hO⟩ := h.ent y hl (by rw [hy]; rfl)
  rw [hn] at e0; cases e0
  rw [hy] at hO
  have hp := hO.1
  have oth : ∀ k, k ≠ b → (w.setRow b arr').heap[k]? = w.heap[k]? := fun k hk => setRow_other w b k _ hk
  have nm : ∀ z, s.lv z = true → ∀ u, nmv tm w z = some u → nmv tm (w.setRow b arr') z = some u := fun z hz u hu =>
    h.nmKeep hz (fun b' _ hb' h1000 => oth b' (by
      rintro rfl
      rw [ho] at hb'
      have : y = z % 1000 := by cases hb'; rfl
      subst this
      rw [lv_iff, hy] at hz
      rcases hz with hz | hz
      · omega
      · cases hz)) hu
  have lvs : ∀ z, St.lv ((y, .own m nl cs') :: s.killSp y) z = true → s.lv z = true := by
    intro z hz
    rw [lv_iff] at hz ⊢
    rcases hz with hz | hz
    · exact .inl hz
    · rw [get_top_sp] at hz
      split at hz
      · cases hz
      · split at hz
        · cases hz
        · exact .inr hz
  have al : ∀ z, okAl ((y, .own m nl cs') :: s.killSp y) z → okAl s z := by
    intro z hz
    rw [okAl_iff, get_top_sp] at hz
    rw [okAl_iff]
    by_cases hzy : z = y
    · subst hzy; exact .inl ⟨⟨m, nl, cs, hy⟩, hl⟩
    · simp only [hzy, if_false] at hz
      split at hz
      · rcases hz with ⟨⟨_, _, _, e⟩, _⟩ | ⟨⟨_, e⟩, _⟩ <;> cases e
      · rcases hz with ⟨e, hz⟩ | e
        · exact .inl ⟨e, lvs z hz⟩
        · exact .inr e
  have pe : ∀ z, okPe ((y, .own m nl cs') :: s.killSp y) z → okPe s z := by
    intro z hz
    rw [okPe_iff, get_top_sp] at hz
    rw [okPe_iff]
    by_cases hzy : z = y
    · subst hzy; exact ⟨⟨m, nl, cs, hy⟩, hl⟩
    · simp only [hzy, if_false] at hz
      split at hz
      · obtain ⟨⟨_, _, _, e⟩, _⟩ := hz; cases e
      · exact ⟨hz.1, lvs z hz.2⟩
  refine Gam.step (M := fun _ => True) (MG := fun g => g.onSp y = false) (I := fun z => z ≠ y ∧ s.lv z = true) h (by simpa using h.base) (by simp) (fun z hz hnz => ?_) (fun z hz => nm z hz.2)
    (fun z hz b' _ r' hb' => ⟨hb', oth b' (by rintro rfl; rw [ho] at hb'; cases hb'; exact hz.1 rfl)⟩) ⟨rfl, rfl⟩ (fun z _ hz => ⟨al z hz, fun u => nm z (by
      have := al z hz; rw [okAl_iff] at this; rcases this with h | h; exact h.2; exact lv_iff.2 (.inl h.2)) u⟩) (fun z _ hz => pe z hz)
    (fun x hx _ hz => ⟨?_, fun u hu => nm x (lv_iff.2 (.inl hx)) u hu⟩) (fun g' hg' b' _ hb' => ⟨hb', oth b' (okG_ne ho hg' hb')⟩)
  · by_cases hzy : z = y
    · subst hzy
      left
      refine ⟨hdr, nm z hl hdr hn, ?_⟩
      rw [get_top]
      exact ⟨hp, .inr ⟨hnl, b, cap, arr', ty, xs', by rw [he, hlen], ho, setRow_heap w b arr _ ty _ hb, by rw [hs', hs], by rw [hlen]; exact hle, hmx, by rw [hlen]; exact ht, hx.scal hsc, fun _ => (scal_deep hsc hx).veil⟩⟩
    · right
      rw [get_top_sp, if_neg hzy] at hnz ⊢
      split at hnz
      · cases hnz
      · rename_i hsp
        simp only [Bool.not_eq_true] at hsp
        rw [hsp]
        exact ⟨⟨hzy, lvs z hz⟩, by simp, lvs z hz, V.onSp_not hsp⟩
  · rw [okPc_iff, get_top_sp] at hz
    obtain ⟨k, hz⟩ := hz
    split at hz
    · cases hz
    · split at hz
      · cases hz
      · exact okPc_iff.2 ⟨k, hz⟩

/-- What a place that is written over is: a stretch of an owned slice, from l, h - l long. -/
theorem cpyD_spec {wp : W} {u : Value} {y l h m : Nat} {nl : Option Bool} {cs : List T} (hr : RepW lo par ow tm w s wp u) (he : cpyD wp = some (y, l, h, m, nl, cs)) (h1 : l ≤ h) (h2 : h ≤ cs.length) :
    s.get y = .own m nl cs ∧ s.lv y = true ∧ ∃ hdr, nmv tm w y = some hdr ∧ OwnAt lo par ow w y m nl cs hdr ∧
      ∃ base c, u = .slice base (h - l) c ∧ ((l = h ∧ cs = cs) ∨ (l < h ∧ ∃ b cap, hdr = .slice (some ⟨b, 0, none⟩) cs.length cap ∧ base = some ⟨b, l, none⟩)) := by
  cases wp with
  | own y' m' nl' cs' =>
    rw [cpyD_o] at he
    cases he
    obtain ⟨f1, f2, f3, f4⟩ := hr
    refine ⟨f1, f2, u, f3, f4, ?_⟩
    rcases f4.2 with ⟨e1, e2, _⟩ | ⟨_, b, cap, arr, ty, xs, e1, _⟩
    · exact ⟨none, 0, by rw [e1, e2]; rfl, .inl ⟨by rw [e2]; rfl, rfl⟩⟩
    · refine ⟨_, cap, by rw [e1]; rfl, ?_⟩
      by_cases hc : cs.length = 0
      · exact .inl ⟨hc.symm, rfl⟩
      · exact .inr ⟨by omega, b, cap, e1, rfl⟩
  | sl y' l' h' m' nl' cs' =>
    rw [cpyD_s] at he
    cases he
    obtain ⟨f1, f2, a0, len, cap, f3, f4, f5, f6, f7, f8⟩ := hr
    refine ⟨f1, f2, _, f3, f4, _, _, f8, ?_⟩
    by_cases hlh : l = h
    · exact .inl ⟨hlh, rfl⟩
    · refine .inr ⟨by omega, ?_⟩
      rcases f4.2 with ⟨e1, e2, _⟩ | ⟨_, b, cap', arr, ty, xs, e1, _⟩
      · cases e1; omega
      · cases e1
        refine ⟨b, cap, rfl, ?_⟩
        rw [if_neg (by omega)]
        simp only [Option.map_some, Nat.mul_one]
        unfold Addr.add
        by_cases h0 : l = 0
        · simp [h0]
        · rw [if_neg h0]; simp
  | _ => cases he

/-- The run of a write over such a stretch, and the state behind. -/
theorem over_run {wp : W} {u : Value} {y l h m n : Nat} {nl : Option Bool} {cs new : List T} {news : List Value} (hG : Gam lo Xb par ow s tm w) (hr : RepW lo par ow tm w s wp u) (he : cpyD wp = some (y, l, h, m, nl, cs)) (h1 : l ≤ h) (h2 : h ≤ cs.length)
    (hcs : scalL cs) (hn : new.length = n) (hnh : n ≤ h - l) (hnew : scalL new) (hx : FzL (fun _ => True) w new news) :
    ∃ base c w', u = .slice base (h - l) c ∧ ((match base with | some ad => storeCells ad news | none => pure ()) : Sem Unit).run P w = .ok () w' ∧ Grow (fun k => lo ≤ k ∨ Xb k) w w' ∧
      Gam lo Xb par ow ((y, .own m nl (cs.take l ++ new ++ cs.drop (l + n))) :: s.killSp y) tm w' := by
  obtain ⟨f1, f2, hdr, f3, f4, base, c, f5, f6⟩ := cpyD_spec hr he h1 h2
  have hlenNew : news.length = n := by rw [← hn]; exact hx.length
  by_cases h0 : n = 0
  · have e1 : new = [] := List.eq_nil_of_length_eq_zero (by omega)
    have e2 : news = [] := List.eq_nil_of_length_eq_zero (by omega)
    refine ⟨base, c, w, f5, ?_, Grow.refl _ _, ?_⟩
    · subst e2; cases base <;> simp [storeCells]
    · subst e1; subst h0
      simp only [List.append_nil, Nat.add_zero, List.take_append_drop]
      -- the same content, looked at anew
      obtain ⟨hp, hO⟩ := f4
      rcases hO with ⟨q1, q2, q3⟩ | ⟨hnl, b, cap, arr, ty, xs, e, ho, hb, hs, hle, hm, ht, hxx, hd⟩
      · -- nil: no block is y's; the state says less than before
        refine Gam.step (M := fun _ => True) (MG := fun g => g.onSp y = false) (I := fun z => s.lv z = true) hG hG.base (Nat.le_refl _) (fun z hz hnz => ?_) (fun z _ u hu => hu) (fun z _ b' _ r' hb' => ⟨hb', rfl⟩) ⟨rfl, rfl⟩ (fun z _ hz => ⟨?_, fun u hu => hu⟩) (fun z _ hz => ?_) (fun x hx' _ hz => ⟨?_, fun u hu => hu⟩) (fun g' _ b' _ hb' => ⟨hb', rfl⟩)
        · have lvz : s.lv z = true := by
            rw [lv_iff] at hz ⊢
            rcases hz with hz | hz
            · exact .inl hz
            · rw [get_top_sp] at hz
              split at hz
              · cases hz
              · split at hz
                · cases hz
                · exact .inr hz
          by_cases hzy : z = y
          · subst hzy
            left
            refine ⟨hdr, f3, ?_⟩
            rw [get_top]
            exact ⟨hp, .inl ⟨q1, q2, q3⟩⟩
          · right
            rw [get_top_sp, if_neg hzy] at hnz ⊢
            split at hnz
            · cases hnz
            · rename_i hsp
              simp only [Bool.not_eq_true] at hsp
              rw [hsp]
              exact ⟨lvz, by simp, lvz, V.onSp_not hsp⟩
        · have lvs : ∀ q, St.lv ((y, .own m nl cs) :: s.killSp y) q = true → s.lv q = true := by
            intro q hq
            rw [lv_iff] at hq ⊢
            rcases hq with hq | hq
            · exact .inl hq
            · rw [get_top_sp] at hq
              split at hq
              · cases hq
              · split at hq
                · cases hq
                · exact .inr hq
          rw [okAl_iff, get_top_sp] at hz
          rw [okAl_iff]
          by_cases hzy : z = y
          · subst hzy; exact .inl ⟨⟨m, nl, cs, f1⟩, f2⟩
          · simp only [hzy, if_false] at hz
            split at hz
            · rcases hz with ⟨⟨_, _, _, e⟩, _⟩ | ⟨⟨_, e⟩, _⟩ <;> cases e
            · rcases hz with ⟨e, hz⟩ | e
              · exact .inl ⟨e, lvs z hz⟩
              · exact .inr e
        · have lvs : ∀ q, St.lv ((y, .own m nl cs) :: s.killSp y) q = true → s.lv q = true := by
            intro q hq
            rw [lv_iff] at hq ⊢
            rcases hq with hq | hq
            · exact .inl hq
            · rw [get_top_sp] at hq
              split at hq
              · cases hq
              · split at hq
                · cases hq
                · exact .inr hq
          rw [okPe_iff, get_top_sp] at hz
          rw [okPe_iff]
          by_cases hzy : z = y
          · subst hzy; exact ⟨⟨m, nl, cs, f1⟩, f2⟩
          · simp only [hzy, if_false] at hz
            split at hz
            · obtain ⟨⟨_, _, _, e⟩, _⟩ := hz; cases e
            · exact ⟨hz.1, lvs z hz.2⟩
        · rw [okPc_iff, get_top_sp] at hz
          obtain ⟨k, hz⟩ := hz
          split at hz
          · cases hz
          · split at hz
            · cases hz
            · exact okPc_iff.2 ⟨k, hz⟩
      · have := hG.setRow (arr' := arr) (xs' := xs) f1 f2 f3 e hb ho hnl hs hle hm rfl rfl hcs (hxx.scal hcs) ht
        rwa [setRow_self w b arr ty (0, 0) hb] at this
  · have hlt : l < h := by omega
    have f6 : ∃ b cap, hdr = .slice (some ⟨b, 0, none⟩) cs.length cap ∧ base = some ⟨b, l, none⟩ := by
      rcases f6 with ⟨e, _⟩ | ⟨_, e⟩
      · omega
      · exact e
    obtain ⟨b, cap, e1, e2⟩ := f6
    obtain ⟨hp, hO⟩ := id f4
    rcases hO with ⟨q1, q2, q3⟩ | ⟨hnl, b', cap', arr, ty, xs, e, ho, hb, hs, hle, hm, ht, hxx, hd⟩
    · rw [e1] at q1; cases q1
    · rw [e1] at e; cases e
      have h1c : ∀ v ∈ news, v.oneCell' = true := by
        intro v hv
        obtain ⟨k, hk, ee⟩ := List.getElem_of_mem hv
        have hk' : k < new.length := by rw [← hx.length]; exact hk
        obtain ⟨x, hx1, hf⟩ := hx.get k hk'
        have : x = v := by rw [List.getElem?_eq_getElem hk, ee] at hx1; exact (Option.some.inj hx1).symm
        subst this
        have hm' : new.getD k .any ∈ new := by rw [List.getD, List.getElem?_eq_getElem hk']; exact List.getElem_mem hk'
        have hsc := hnew _ hm'
        revert hf hsc
        generalize new.getD k .any = t
        intro hf hsc
        exact hf.one (by cases t <;> simp [T.scal] at hsc ⊢)
      have hst := run_storeCells_at (P := P) b l ty news 0 arr w hb (by omega) h1c
      simp only [Nat.add_zero] at hst
      refine ⟨base, c, _, f5, by rw [e2]; exact hst, (Grow.setRow w b _).mono fun k _ e => by rw [e]; exact (hG.base b _ ho).2, ?_⟩
      refine hG.setRow (xs' := xs.take l ++ news ++ xs.drop (l + n)) f1 f2 f3 e1 hb ho hnl hs hle hm ?_ ?_ ?_ ?_ ?_
      · simp; omega
      · simp; omega
      · intro t ht
        rcases List.mem_append.1 ht with ht | ht
        · rcases List.mem_append.1 ht with ht | ht
          · exact hcs t (List.mem_of_mem_take ht)
          · exact hnew t ht
        · exact hcs t (List.mem_of_mem_drop ht)
      · have hxt : FzL (fun _ => True) w cs xs := hxx.scal hcs
        exact ((hxt.take l).app hx).app (hxt.drop (l + n))
      · subst ht
        apply List.ext_getElem?
        intro i
        simp only [List.getElem?_take, List.getElem?_append, List.getElem?_drop, List.length_append, List.length_take, Array.length_toList, List.take_take]
        rw [hlenNew]
        by_cases hi : i < cs.length
        · rw [if_pos hi]
          have m1 : min l arr.size = l := by omega
          have m2 : min (min l cs.length) arr.size = l := by omega
          rw [m1, m2]
          by_cases hil : i < l + n
          · rw [if_pos hil, if_pos hil]
            by_cases hil2 : i < l
            · rw [if_pos hil2, if_pos hil2, if_pos hil2, if_pos (by omega)]
            · rw [if_neg hil2, if_neg hil2]
          · rw [if_neg hil, if_neg hil, if_pos (by omega)]
        · rw [if_neg hi]
          have m2 : min (min l cs.length) arr.size = l := by omega
          rw [m2, if_neg (by omega), if_neg (by omega)]

theorem goi_unit (hd : oper.dst = none) {u : Value} (hr : (execOp a.eval oper).run P w = .ok (.value u) w') (hk : K s') (hg : Grow (fun k => lo ≤ k ∨ Xb k) w w')
    (hG : Gam lo Xb par ow' s' a.tmps w') : GoI P lo Xb par a w K oper := by
  intro next Q N
  unfold Oper.wp
  rw [hr]
  simp only [Oper.upon]
  rw [hd]
  exact N s' _ w' ow' hk hg hG rfl rfl

theorem cont?_fz {wq : W} {u : Value} {xs : List T} (hr : RepW lo par ow tm w s wq u) (he : wq.cont? = some xs) : ∃ nl, Fz (fun _ => True) w (.s nl xs) u := by
  cases wq with
  | t g r =>
    cases r with
    | s nl cs => cases he; exact ⟨nl, Fz.mono (fun _ _ => trivial) hr⟩
    | _ => cases he
  | own y m nl cs => cases he; exact ⟨nl, OwnAt.fz hr.2.2.2⟩
  | _ => cases he

theorem cpy_goi {d : Nat} {p q : X} {y1 y2 : Operand} {ys : Array Operand} {ts : Array TypeId} {t : TypeId} {tr : List TypeId} (hG : Gam lo Xb par ow s a.tmps w) (hd : oper.dst = some d) (hd1 : d < 1000) (hsz : d < a.tmps.size)
    (ho : oper.op = .call { callee := .builtin .copy, args := ys, argTypes := ts }) (hys : ys.toList = [y1, y2]) (hts : ts.toList = t :: tr) (h1 : tyS1 P t = true) (hp : xOk p y1 = true) (hq : xOk q y2 = true)
    (hk : wpI P (.cpy d p q) K s) : GoI P lo Xb par a w K oper := by
  obtain ⟨e, inf, ht, hei, hs⟩ := tyS1_spec h1
  have r1 := xOk_sound hG hp
  have r2 := xOk_sound hG hq
  rw [wpI_cpy] at hk
  cases hpd : cpyD (s.look p) with
  | none => rw [hpd] at hk; exact hk.elim
  | some pp =>
    obtain ⟨y, l, h, m, nl, cs⟩ := pp
    cases hqd : (s.look q).cont? with
    | none => rw [hpd, hqd] at hk; exact hk.elim
    | some xs =>
      rw [hpd, hqd, cpyK_s] at hk
      obtain ⟨k1, k2, k3, k4, k5⟩ := hk
      obtain ⟨nlx, hfx⟩ := cont?_fz r2 hqd
      have hys' : ys = #[y1, y2] := by rw [← ys.toArray_toList, hys]
      obtain ⟨news, n1, n2⟩ := app_news hfx
      -- how many
      have hn : ∃ n : Nat, n = min xs.length (h - l) := ⟨_, rfl⟩
      obtain ⟨n, hn⟩ := hn
      have hlx := n1.length
      have lenx : (Builtin.lenOf (a.eval y2)).run P w = .ok xs.length w := by
        rcases n2 with ⟨e1, e2⟩ | ⟨ad, c, e1, _⟩
        · rw [e1]; rw [e2] at hlx; simp [Builtin.lenOf]; simpa using hlx
        · rw [e1, hlx]; simp [Builtin.lenOf]
      have fcx : (Builtin.firstCells 1 n (a.eval y2)).run P w = .ok (news.take n).toArray w := by
        rcases n2 with ⟨e1, e2⟩ | ⟨ad, c, e1, hc⟩
        · rw [e1, e2]; simp [Builtin.firstCells]
        · rw [e1]
          exact run_firstCells_some (P := P) w 1 n ad news.length c (news.take n) (by simp; omega) fun j v hj => by
            rw [List.getElem?_take] at hj
            split at hj
            · exact hc j v hj
            · cases hj
      obtain ⟨base, c, w', e3, hst, hgr, hGm⟩ := over_run (P := P) (n := n) (new := xs.take n) (news := news.take n) hG r1 hpd k1 k2 k3 (by simp; omega) (by omega) (fun t ht => k4 t (List.mem_of_mem_take ht)) (n1.take n)
      have hir : inR (n : Int) := by
        obtain ⟨f1, f2, hdr, f3, f4, _⟩ := cpyD_spec r1 hpd k1 k2
        obtain ⟨a0, cap, q1, q2⟩ := own_len (show RepW lo par ow a.tmps w s (.own y m nl cs) hdr from ⟨f1, f2, f3, f4⟩)
        have := inR_len q2
        unfold inR at this ⊢; omega
      have hput := hGm.put (d := d) (v := .i n) (u := .int .i64 n) hd1 hsz rfl (by simp only [Rep, Fz]; exact ⟨trivial, hir⟩)
      have e5 : cs.take l ++ xs.take n ++ cs.drop (l + n) = cpyL l h cs xs := by
        unfold cpyL
        rw [hn]
        congr 2
        apply List.ext_getElem?
        intro i
        simp only [List.getElem?_take]
        by_cases hi : i < xs.length
        · have : (i < min xs.length (h - l)) ↔ i < h - l := by omega
          simp [this]
        · rw [List.getElem?_eq_none (by omega)]; simp
      refine goi_val hd (u := .int .i64 n) ?_ (by rw [e5]; subst hn; exact k5) hgr hput
      subst hys'
      have e4 : ts[0]? = some t := by rw [← Array.getElem?_toList, hts]; rfl
      have e6 : (Nat.min xs.length (h - l)) = n := hn.symm
      cases base with
      | none =>
        have hst : (pure () : Sem Unit).run P w = .ok () w' := hst
        simp at hst
        subst hst
        simp [execOp, ho, resolve, invoke, builtin, Builtin.copy_, e4, e3, run_underlying ht, lenx, sizeOf, typeInfo, hei, hs, e6, fcx, goInt]
      | some ad =>
        have hst : (storeCells ad (news.take n)).run P w = .ok () w' := hst
        simp [execOp, ho, resolve, invoke, builtin, Builtin.copy_, e4, e3, run_underlying ht, lenx, sizeOf, typeInfo, hei, hs, e6, fcx, goInt, hst]

theorem toList_zeroCells {zv : Value} {n : Nat} : (Builtin.zeroCells #[zv] n).toList = List.replicate n zv := by
  apply List.ext_getElem
  · simp [Builtin.zeroCells]
  · intro i h1 h2
    simp [Builtin.zeroCells, Nat.mod_one]

theorem clr_goi {p : X} {z : T} {y1 : Operand} {ys : Array Operand} {ts : Array TypeId} {t : TypeId} (hG : Gam lo Xb par ow s a.tmps w) (hd : oper.dst = none)
    (ho : oper.op = .call { callee := .builtin .clear, args := ys, argTypes := ts }) (hys : ys.toList = [y1]) (hts : ts.toList = [t]) (hp : xOk p y1 = true) (hz : (match P.underlying t with | some (.slice e) => zOk P e z | _ => false) = true)
    (hk : wpI P (.clr p z) K s) : GoI P lo Xb par a w K oper := by
  have r1 := xOk_sound hG hp
  rw [wpI_clr] at hk
  cases hpd : cpyD (s.look p) with
  | none => rw [hpd] at hk; exact hk.elim
  | some pp =>
    obtain ⟨y, l, h, m, nl, cs⟩ := pp
    rw [hpd, clrK_s] at hk
    obtain ⟨k1, k2, k3, k4, k5⟩ := hk
    split at hz
    case h_2 => cases hz
    rename_i e he
    obtain ⟨i, zv, hi, hs1, hby, hzv, hone, hkk⟩ := zOk_spec hz
    have hcells := oneCell_cells hone
    have hys' : ys = #[y1] := by rw [← ys.toArray_toList, hys]
    have hts' : ts = #[t] := by rw [← ts.toArray_toList, hts]
    subst hys'; subst hts'
    obtain ⟨base, c, w', e3, hst, hgr, hGm⟩ := over_run (P := P) (n := h - l) (new := List.replicate (h - l) z) (news := List.replicate (h - l) zv) hG r1 hpd k1 k2 k3 (by simp) (Nat.le_refl _)
      (fun t ht => by rw [(List.mem_replicate.1 ht).2]; exact k4) (FzL.replicate (kOk1_sound hkk) _)
    have e7 : l + (h - l) = h := by omega
    rw [e7] at hGm
    refine goi_unit hd (u := .tuple #[]) ?_ k5 hgr hGm
    cases base with
    | none =>
      have hst : (pure () : Sem Unit).run P w = .ok () w' := hst
      simp at hst
      subst hst
      simp [execOp, ho, resolve, invoke, builtin, Builtin.clear_, e3, run_underlying he]
    | some ad =>
      have hst : (storeCells ad (List.replicate (h - l) zv)).run P w = .ok () w' := hst
      by_cases h0 : h - l = 0
      · rw [h0] at hst e3
        simp [storeCells] at hst
        subst hst
        simp [execOp, ho, resolve, invoke, builtin, Builtin.clear_, e3, run_underlying he]
      · obtain ⟨k, hk'⟩ : ∃ k, h - l = k + 1 := ⟨h - l - 1, by omega⟩
        have ez : (Builtin.zeroCells zv.cells (k + 1)).toList = List.replicate (k + 1) zv := by rw [hcells]; exact toList_zeroCells
        rw [hk'] at hst e3
        simp [execOp, ho, resolve, invoke, builtin, Builtin.clear_, e3, run_underlying he, zeroValue, typeInfo, hi, hzv, ez, hst]

theorem cut_goi {d : Nat} {x h : X} {x' h' : Operand} {t : TypeId} (hG : Gam lo Xb par ow s a.tmps w) (hpar : ∀ z, 1000 ≤ z → par z = none) (hd : oper.dst = some d) (hd1 : d < 1000) (hsz : d < a.tmps.size)
    (ho : oper.op = .slice t x' none (some h') none) (h1 : tyS1 P t = true) (h2 : xOk x x' = true) (h3 : xOk h h' = true) (hk : wpI P (.cut d x h) K s) : GoI P lo Xb par a w K oper := by
  obtain ⟨e, inf, ht, he, hs⟩ := tyS1_spec h1
  have hx := xOk_sound hG h2
  have hh := xOk_sound hG h3
  rw [wpI_cut] at hk
  generalize s.look x = wx at hx hk
  generalize s.look h = wh at hh hk
  cases wx with
  | own y m nl cs =>
    cases wh with
    | t g r =>
      cases r with
      | i k =>
        rw [cutK_o] at hk
        obtain ⟨k1, k2, k3, k4, k5⟩ := hk
        obtain ⟨h0, rfl⟩ : ∃ h0 : Nat, k = h0 := ⟨k.toNat, by omega⟩
        simp only [Int.toNat_natCast] at k5
        obtain ⟨f1, f2, f3, f4⟩ := hx
        have hyd : hangs y d = false := off_sym hd1 k1
        have hv : ∃ a0 cap, a.eval x' = .slice a0 cs.length cap ∧ cs.length ≤ cap := by
          rcases f4.2 with ⟨e1, e2, _⟩ | ⟨_, b, cap, arr, ty, xs, e1, _, _, _, e2, _⟩
          · exact ⟨none, 0, by rw [e1, e2]; rfl, by rw [e2]; simp⟩
          · exact ⟨_, cap, e1, e2⟩
        obtain ⟨a0, cap, e1, e2⟩ := hv
        have hr := run_sliceAt_nat (P := P) (w := w) (a0 := a0) (len := cs.length) (cap := cap) (lo := none) (hi := some (a.eval h')) (l := 0) (h := h0) ht he hs
            (.inr ⟨rfl, rfl⟩) (.inl (by simp [(repI hh).1])) (by omega) (by omega)
        have ea : (if cap = 0 then a0 else a0.map (·.add (0 * 1))) = a0 := by
          split
          · rfl
          · cases a0 with
            | none => rfl
            | some ad => simp [Addr.add]
        rw [ea, Nat.sub_zero, Nat.sub_zero] at hr
        refine goi_val hd (u := .slice a0 h0 cap) (w' := w) ?_ k5 (Grow.refl _ _) (ow' := owL [y] d ow) (Gam.absorb (zs := [y]) hG hd1 hsz (by simpa using k1) (by simpa using hyd) (by simp) (Nat.le_refl _) (fun _ _ => rfl) (fun b p hb hp => ?_) (fun _ _ _ => rfl) ?_)
        · simp only [execOp, ho, Sem.run_bind, e1, Option.map_none, Option.map_some]
          rw [hr]; rfl
        · obtain ⟨q, hq⟩ := owL_some hp
          exact absurd (hG.base b q hq).1 (by omega)
        · have mem0 : ∀ {b r}, ow b = some (y, r) → owL [y] d ow b = some (d, r) := fun h => owL_mem (by simpa using hyd) (by simp) (by simp) h
          refine ⟨fun hm => absurd hm (by omega), ?_⟩
          rcases f4.2 with ⟨q1, q2, q3⟩ | ⟨hnl, b, cap', arr, ty, xs, q1, hob, hb, hsz', hle, hmx, htk, hxx, hdd⟩
          · have hz : h0 = 0 := by rw [q2] at k4; simp at k4; omega
            subst hz
            rw [e1] at q1
            injection q1 with p1 p2 p3
            subst p1; subst p3
            exact .inl ⟨rfl, by simp, q3⟩
          · rw [e1] at q1
            injection q1 with p1 p2 p3
            subst p1; subst p3
            refine .inr ⟨hnl, b, cap, arr, ty, xs.take h0, ?_, mem0 hob, hb, hsz', by simp; omega, hmx, ?_, ?_, fun hm1 => ?_⟩
            · simp only [List.length_take]; rw [Nat.min_eq_left (by omega)]
            · subst htk; simp [List.take_take]
            · refine FzL.imp (fun b' _ hb' => ⟨?_, rfl⟩) _ _ (hxx.take h0)
              unfold tagM at hb' ⊢
              by_cases m1 : (m % 10 == 1) = true
              · simp only [m1, cond_true] at hb' ⊢; exact mem0 hb'
              · simp only [Bool.not_eq_true] at m1
                simp only [m1, cond_false] at hb' ⊢
                by_cases m0 : (m % 10 == 0) = true
                · simp only [m0, cond_true] at hb' ⊢; exact ⟨owL_none.2 hb'.1, hb'.2⟩
                · simp only [Bool.not_eq_true] at m0
                  simp only [m0, cond_false] at hb' ⊢; exact owL_none.2 hb'
            · obtain ⟨d1, d2⟩ := hdd hm1
              rw [veil_take]
              generalize veil cs xs = xs at d1 d2 ⊢
              have key : ∀ (i b : Nat), ((xs.take h0)[i]?).bind rowBlk = some b → (xs[i]?).bind rowBlk = some b ∧ (xs.take h0)[i]? = xs[i]? := by
                intro i b' hi
                rw [List.getElem?_take] at hi ⊢
                split at hi
                · rename_i hlt; rw [if_pos hlt]; exact ⟨hi, rfl⟩
                · cases hi
              refine ⟨fun i j b' hi hj => d1 i j b' (key i b' hi).1 (key j b' hj).1, fun i b' hi => ?_⟩
              obtain ⟨c1, c2⟩ := key i b' hi
              obtain ⟨g1, arr', ty', len', g2, g3⟩ := d2 i b' c1
              exact ⟨mem0 g1, arr', ty', len', g2, by rw [c2]; exact g3⟩
      | _ => exact hk.elim
    | _ => exact hk.elim
  | _ => cases wh <;> exact hk.elim

theorem apzK_inv {d : Nat} {z : T} {s : St} {K : St → Prop} {wx wn : W} (h : apzK d z s K wx wn) : ∃ g g' k, wx = .t g (.s (some true) []) ∧ wn = .t g' (.i k) := by
  unfold apzK at h
  split at h
  · exact ⟨_, _, _, rfl, rfl⟩
  · exact h.elim

theorem apz_goi {d : Nat} {x n : X} {z : T} {y1 y2 : Operand} {ys : Array Operand} {ts : Array TypeId} {t ti : TypeId} (hG : Gam lo Xb par ow s a.tmps w) (hd : oper.dst = some d) (hd1 : d < 1000) (hsz : d < a.tmps.size)
    (ho : oper.op = .call { callee := .builtin .append, args := ys, argTypes := ts }) (hys : ys.toList = [y1, y2]) (hts : ts.toList = [t, ti]) (hp : xOk x y1 = true) (hq : xOk n y2 = true) (hti : tyI P ti = true)
    (hz : (match P.underlying t with | some (.slice e) => zOk P e z | _ => false) = true) (hk : wpI P (.apz d x n z) K s) : GoI P lo Xb par a w K oper := by
  have r1 := xOk_sound hG hp
  have r2 := xOk_sound hG hq
  rw [wpI_apz] at hk
  split at hz
  case h_2 => cases hz
  rename_i e he
  obtain ⟨i, zv, hi, hs1, hby, hzv, hone, hkk⟩ := zOk_spec hz
  have hcells := oneCell_cells hone
  have hti := tyI_spec hti
  have hys' : ys = #[y1, y2] := by rw [← ys.toArray_toList, hys]
  have hts' : ts = #[t, ti] := by rw [← ts.toArray_toList, hts]
  subst hys'; subst hts'
  generalize s.look x = wx at r1 hk
  generalize s.look n = wn at r2 hk
  have ex : ∀ {g g' : G} {k : Int}, wx = .t g (.s (some true) []) → wn = .t g' (.i k) → GoI P lo Xb par a w K oper := by
    rintro g g' k rfl rfl
    rw [apzK_n] at hk
    obtain ⟨k1, k2, k3⟩ := hk
    obtain ⟨n0, rfl⟩ : ∃ n0 : Nat, k = n0 := ⟨k.toNat, by omega⟩
    simp only [Int.toNat_natCast] at k3
    obtain ⟨e2, _⟩ := repI r2
    have e1 : a.eval y1 = .slice none 0 0 := by
      simp only [RepW, Fz] at r1
      rcases r1 with ⟨e1, _⟩ | ⟨e1, _⟩
      · exact e1
      · exact absurd rfl e1
    have hw : IntKind.i64.wrap (n0 : Int) = n0 := wrap_in (by unfold inR; omega)
    have hnb : ¬ ((n0 : Int) < 0) := by omega
    have hb : ¬ (281474976710656 < (n0 : Int) * (i.bytes : Int)) := by
      have : (i.bytes : Int) ≤ 64 := by omega
      have : (n0 : Int) * (i.bytes : Int) ≤ (n0 : Int) * 64 := Int.mul_le_mul_of_nonneg_left this (by omega)
      omega
    by_cases h0 : n0 = 0
    · subst h0
      have hw0 : IntKind.i64.wrap 0 = 0 := by decide
      refine goi_val hd (u := .slice none 0 0) (w' := w) ?_ k3 (Grow.refl _ _) (ow' := ow) (Gam.createOwn hG hd1 hsz (Grow.refl _ _) (fun _ _ => rfl) (fun b p hb hp => absurd (hG.base b p hp).1 (by omega)) ⟨fun h => absurd h (by omega), .inl ⟨rfl, by simp, by simp⟩⟩)
      simp [execOp, ho, resolve, invoke, builtin, Builtin.append_, e1, e2, run_underlying he, run_underlying hti, sizeOf, typeInfo, hi, hs1, asInt, asIntOf, hw0, storeCells]
    · have hge := grownCap_ge w n0 0 e
      have hle := grownCap_le_maxLen w n0 0 e (by simp only [maxLen]; omega)
      have hzc : ∀ n, (Builtin.zeroCells zv.cells n).size = n := fun n => by rw [size_zeroCells, hcells]; simp
      have hza : ∀ n, Builtin.zeroCells zv.cells n = (List.replicate n zv).toArray := fun n => by
        apply Array.ext'
        rw [hcells]; simp [toList_zeroCells]
      have hr : (Builtin.append_ #[t, ti] oper.type #[.slice none 0 0, .int .i64 n0]).run P w = .ok (.slice (some ⟨w.heap.size, 0, none⟩) n0 (grownCap w n0 0 e))
          (w.drew.alloc (.cells (Builtin.zeroCells zv.cells n0 ++ Builtin.zeroCells zv.cells (grownCap w n0 0 e - n0)) e)) := by
        have h63' : ¬ (9223372036854775807 < (n0 : Int)) := by omega
        have h48 : Builtin.nextslicecap n0 0 * i.bytes ≤ 281474976710656 := growslice_fits (by omega) (by
          calc n0 * i.bytes ≤ 1099511627776 * 64 := Nat.mul_le_mul (by omega) hby
            _ ≤ 140737488355328 := by decide)
        have h48' : ¬ (281474976710656 < Builtin.nextslicecap n0 0 * i.bytes) := by omega
        simp [Builtin.append_, run_underlying he, run_underlying hti, sizeOf, typeInfo, zeroValue, hi, hzv, hs1, asInt, asIntOf, hw, hnb, hb, h0, h63', h48', Builtin.firstCells, Question.forced, newRow, grownCap]
      refine goi_val hd (u := .slice (some ⟨w.heap.size, 0, none⟩) n0 (grownCap w n0 0 e)) (w' := w.drew.alloc (.cells (Builtin.zeroCells zv.cells n0 ++ Builtin.zeroCells zv.cells (grownCap w n0 0 e - n0)) e)) ?_ k3 ((Grow.drew _ w).trans (Grow.alloc _ w.drew _)) (ow' := owNew ow w.heap.size d) ?_
      · simp [execOp, ho, resolve, invoke, builtin, e1, e2, hr]
      · have hg : Grow (fun _ => False) w (w.drew.alloc (.cells (Builtin.zeroCells zv.cells n0 ++ Builtin.zeroCells zv.cells (grownCap w n0 0 e - n0)) e)) := (Grow.drew _ w).trans (Grow.alloc _ w.drew _)
        refine Gam.createOwn hG hd1 hsz hg (fun b hb => owNew_old hb) (fun b p hb hp => ?_) ?_
        · unfold owNew at hp
          split at hp
          · rename_i ee; rw [ee]; exact ⟨by simp, .inl hG.low⟩
          · exact absurd (hG.base b p hp).1 (by omega)
        · refine ⟨fun h => absurd h (by omega), .inr ⟨by simp, w.heap.size, grownCap w n0 0 e, _, e, List.replicate n0 zv, by simp, owNew_new, heap_alloc_new w.drew _, ?_, by simpa using hge, hle, ?_, FzL.replicate (kOk1_sound hkk) _, fun _ => DeepR.veil (nilrow_deep fun x hx => by rw [(List.mem_replicate.1 hx).2]; exact kOk1_row hkk)⟩⟩
          · simp only [Array.size_append, hzc]; omega
          · rw [hza]; simp
  obtain ⟨g, g', k, h1, h2⟩ := apzK_inv hk
  exact ex h1 h2

end
end Go.Vc

/-
  The effects: calls that write into a slice of the caller's.
-/
namespace Go.Vc
open Go

section
variable {P : Program} {lo : Nat} {Xb : Nat → Prop} {par : Nat → Option Value} {ow ow' : Ow} {tm tm' : Array Value} {a : Act} {w w' w1 : World} {s s' : St} {K : St → Prop} {oper : Oper}

theorem on_self {y r : Nat} {g : G} (h : g.on y = false) {b : Nat} (hk : okG lo ow g b) : ow b ≠ some (y, r) := by
  intro e
  cases g with
  | arg => rw [show ow b = none from hk] at e; cases e
  | fr => rw [hk.1] at e; cases e
  | rw z =>
    rw [show ow b = some (z, 1) from hk] at e; cases e
    simp only [G.on, hangs_self] at h; cases h
  | sp z =>
    rcases hk with hk | hk | hk
    · rw [hk] at e; cases e; simp only [G.on, hangs_self] at h; cases h
    · rw [hk] at e; cases e; simp only [G.on, hangs_self] at h; cases h
    · rw [hk] at e; cases e

/-- What a slice that is owned holds, by whatever is known of its blocks. -/
theorem OwnAt.fzO {ok : Nat → Prop} {z m : Nat} {nl : Option Bool} {cs : List T} {u : Value} (h0 : ∀ b, ow b = some (z, 0) → ok b) (h1 : ∀ b, okG lo ow (tagM m z) b → ok b) (h : OwnAt lo par ow w z m nl cs u) : Fz ok w (.s nl cs) u := by
  rcases h.2 with h | ⟨hn, b, cap, arr, ty, xs, e, ho, hb, hs, hl, hm, ht, hx, hd⟩
  · simp only [Fz]; exact .inl h
  · simp only [Fz]
    refine .inr ⟨hn, b, 0, none, cap, xs, e, hl, hm, fun _ => ⟨h0 b ho, rfl⟩, hx.mono h1, fun k x hk => ?_⟩
    rw [cell_of_row w b (0 + k) arr ty (0, 0) hb]
    subst ht
    rw [List.getElem?_take] at hk
    split at hk
    · simpa using hk
    · cases hk

def offY (ow : Ow) (y b : Nat) : Prop := ∀ r, ow b ≠ some (y, r)

theorem OwnAt.off {y z m : Nat} {nl : Option Bool} {cs : List T} {u : Value} (hz : z ≠ y) (h : OwnAt lo par ow w z m nl cs u) : Fz (offY ow y) w (.s nl cs) u := by
  refine h.fzO (fun b hb r e => ?_) (fun b hb r e => ?_)
  · rw [hb] at e; cases e; exact hz rfl
  · unfold tagM at hb
    by_cases m1 : (m % 10 == 1) = true
    · simp only [m1, cond_true] at hb; rw [show ow b = some (z, 1) from hb] at e; cases e; exact hz rfl
    · simp only [Bool.not_eq_true] at m1
      simp only [m1, cond_false] at hb
      by_cases m0 : (m % 10 == 0) = true
      · simp only [m0, cond_true] at hb; rw [hb.1] at e; cases e
      · simp only [Bool.not_eq_true] at m0
        simp only [m0, cond_false] at hb; rw [show ow b = none from hb] at e; cases e

/-- The content of a name that has nothing of y's. -/
theorem Gam.resOff (h : Gam lo Xb par ow s tm w) {y k : Nat} {u : Value} (hl : s.lv k = true) (hu : nmv tm w k = some u) (ho : offCell y k (s.get k) = true) : Fz (offY ow y) w (s.resN k) u := by
  rw [resN_eq]
  by_cases ha : (s.get k).isAny = true
  · obtain ⟨g, e⟩ := isAny_eq ha; rw [e]; simp [resV, Fz]
  simp only [Bool.not_eq_true] at ha
  obtain ⟨u', e, hr⟩ := h.ent k hl ha
  rw [hu] at e; cases e
  cases hv : s.get k with
  | t g r =>
    rw [hv] at hr ho
    simp only [offCell, Bool.not_eq_true'] at ho
    exact Fz.mono (fun b hb r => on_self ho hb) hr
  | own m nl cs =>
    rw [hv] at hr ho
    simp only [offCell, Bool.not_eq_true', beq_eq_false_iff_ne] at ho
    exact OwnAt.off ho hr
  | al z =>
    rw [hv] at hr ho
    simp only [offCell, Bool.not_eq_true', beq_eq_false_iff_ne] at ho
    simp only [resV]
    cases hz : s.get z with
    | own m nl cs =>
      cases hlz : s.lv z with
      | false => simp [Fz]
      | true =>
        obtain ⟨u', e', hr'⟩ := h.ent z hlz (by rw [hz]; rfl)
        have hc := hr (by simp [hz, hlz])
        rw [hc] at e'; cases e'
        rw [hz] at hr'
        have := OwnAt.off ho hr'
        simpa using this
    | _ => simp [Fz]
  | _ => simp [resV, Fz]

theorem Gam.cellsOff (h : Gam lo Xb par ow s tm w) {x y : Nat} (hx : x < 1000) : ∀ (n j : Nat) (xs : List Value), xs.length = n → (s.get x).cont = true → s.offBox y x j n = true →
    (∀ (i : Nat) (v : Value), xs[i]? = some v → nmv tm w (x + 1000 * (1 + (j + i))) = some v ∨ nmv tm w (x + 1000 * (1 + (j + i))) = none) → FzL (offY ow y) w (s.cells x 1 j n) xs
  | 0, _, xs, hl, _, _, _ => by simp only [cells_0, FzL]; exact List.eq_nil_of_length_eq_zero hl
  | n + 1, j, [], hl, _, _, _ => by simp at hl
  | n + 1, j, v :: xs, hl, hk, ho, hn => by
    rw [offBox_s, Bool.and_eq_true] at ho
    simp only [cells_s, FzL]
    refine ⟨v, xs, rfl, ?_, Gam.cellsOff h hx n (j + 1) xs (by simpa using hl) hk ho.2 fun i v' hi => ?_⟩
    · have hlv : s.lv (x + 1000 * (1 + j)) = true := by
        rw [lv_iff]; right; rw [show (x + 1000 * (1 + j)) % 1000 = x from by omega]; exact hk
      rcases hn 0 v (by simp) with h0 | h0
      · exact h.resOff hlv (by simpa using h0) ho.1
      · simp only [Nat.add_zero] at h0
        by_cases ha : (s.get (x + 1000 * (1 + j))).isAny = true
        · obtain ⟨g, e⟩ := isAny_eq ha; rw [resN_eq, e]; simp [resV, Fz]
        · simp only [Bool.not_eq_true] at ha
          obtain ⟨u', e, _⟩ := h.ent _ hlv ha
          rw [h0] at e; cases e
    · have := hn (i + 1) v' (by simpa using hi)
      rw [show j + 1 + i = j + (i + 1) from by omega]; exact this

theorem Gam.boxOff (h : Gam lo Xb par ow s tm w) {z n y : Nat} (hb : s.get z = .bx n) (hz : z < 1000) (ho : s.offBox y z 0 n = true) : ∃ b arr ty, nmv tm w z = some (.pointer (some ⟨b, 0, none⟩)) ∧ w.heap[b]? = some (.cells arr ty (0, 0)) ∧
    ow b = some (z, 0) ∧ FzL (offY ow y) w (s.cells z 1 0 n) arr.toList := by
  obtain ⟨b, arr, ty, e1, e2, e3, e4, _, e6⟩ := h.box hb hz
  refine ⟨b, arr, ty, e1, e2, e3, h.cellsOff hz n 0 arr.toList (by simpa using e4) (by rw [hb]; rfl) ho fun i v hi => ?_⟩
  by_cases hi100 : 1 + (0 + i) < 100
  · left
    rw [e6 (0 + i) hi100]; simpa using hi
  · right
    have htm : tm.getD z undef = .pointer (some ⟨b, 0, none⟩) := by rw [nmv_slot hz] at e1; simpa using e1
    unfold nmv
    rw [if_neg (by omega), show (z + 1000 * (1 + (0 + i))) % 1000 = z from by omega, htm]
    simp only
    rw [if_neg (by omega)]

theorem offCaps_mem {y : Nat} : ∀ {cp : List Cap} {c : Cap}, s.offCaps y cp = true → c ∈ cp → match c with
    | .t g _ => g.on y = false
    | .p z => s.offBx y (z % 1000) (s.get (z % 1000)) = true
  | [], c, _, hc => by simp at hc
  | c0 :: cp, c, h, hc => by
    cases c0 with
    | t g t =>
      rw [offCaps_t, Bool.and_eq_true] at h
      rcases List.mem_cons.1 hc with rfl | hc
      · simpa using h.1
      · exact offCaps_mem h.2 hc
    | p z =>
      rw [offCaps_p, Bool.and_eq_true] at h
      rcases List.mem_cons.1 hc with rfl | hc
      · exact h.1
      · exact offCaps_mem h.2 hc

theorem mk_noName' (t : T) : (V.mk .fr t).isName = false := by cases t <;> rfl

/-- An operand's content that has nothing of y's. -/
theorem RepW.off (h : Gam lo Xb par ow s tm w) {y : Nat} {x : W} {u : Value} (hy : ∃ m nl cs, s.get y = .own m nl cs) (hts : ∀ f cp ts, x = .clo f cp ts → ts = cp.map s.capT) (ho : s.offW y x = true) (hr : RepW lo par ow tm w s x u) : Fz (offY ow y) w x.res u := by
  cases x with
  | t g r =>
    simp only [St.offW, Bool.not_eq_true'] at ho
    exact Fz.mono (fun b hb r => on_self ho hb) hr
  | own z m nl cs =>
    simp only [St.offW, Bool.not_eq_true', beq_eq_false_iff_ne] at ho
    exact OwnAt.off ho hr.2.2.2
  | clo f cp ts =>
    obtain ⟨h1, xs, e, hx⟩ := hr
    obtain ⟨xs', e', hl, hc⟩ := h1
    rw [e] at e'
    have exs : xs = xs' := by simpa using e'
    subst exs
    simp only [W.res, Fz]
    refine ⟨xs, e, ?_⟩
    obtain rfl := hts _ _ _ rfl
    refine FzL.of_get hx.length fun k x hk => ?_
    have hk' : k < cp.length := by rw [← hl]; exact (List.getElem?_eq_some_iff.1 hk).1
    have hcp : cp[k]? = some cp[k] := List.getElem?_eq_getElem hk'
    have hq := hc k _ x hcp hk
    have hm := offCaps_mem ho (List.getElem_mem hk')
    rw [List.getD, List.getElem?_map, hcp]
    simp only [Option.map_some, Option.getD_some]
    revert hq hm
    cases cp[k] with
    | t g r => intro hq hm; exact Fz.mono (fun b hb r => on_self hm hb) hq
    | p z =>
      intro hq hm
      rw [capT_p]
      cases hz : s.get (z % 1000) with
      | bx n =>
        have hm : s.offBx y (z % 1000) (s.get (z % 1000)) = true := hm
        rw [hz, offBx_bx] at hm
        rw [capV_bx]
        obtain ⟨b, arr, ty, f1, f2, f3, f5⟩ := h.boxOff hz (by omega) hm
        obtain ⟨b', g1, g2⟩ := hq (by simp [hz])
        rw [f1] at g1; cases g1
        simp only [Fz]
        refine ⟨b, 0, arr.toList, by simpa using g2, fun _ r => (?_ : ow b ≠ some (y, r)), f5, fun j y hj => ?_⟩
        · intro e
          rw [f3] at e
          obtain ⟨m, nl, cs, hy⟩ := hy
          have : z % 1000 = y := by cases e; rfl
          rw [this, hy] at hz; cases hz
        · rw [cell_of_row w b (0 + j) arr ty (0, 0) f2]; simpa using hj
      | _ => simp [capV, Fz]
  | tp => simp [W.res, Fz]
  | no => simp [W.res, Fz]
  | _ => simp [St.offW] at ho

theorem offA_mem {y : Nat} : ∀ {ws : List W} {x : W}, s.offA y ws = true → x ∈ ws → s.offW y x = true
  | [], _, _, h => by simp at h
  | w :: ws, x, h, hx => by
    rw [offA_c, Bool.and_eq_true] at h
    rcases List.mem_cons.1 hx with rfl | hx
    · exact h.1
    · exact offA_mem h.2 hx

theorem offL_get {y : Nat} : ∀ {i : Nat} {ws : List W} {j : Nat} {x : W}, s.offL y i ws = true → j ≠ i → ws[j]? = some x → s.offW y x = true
  | _, [], _, _, _, _, h => by simp at h
  | 0, w :: ws, 0, _, _, hj, _ => absurd rfl hj
  | 0, w :: ws, j + 1, x, h, _, hx => by
    rw [offL_0] at h
    exact offA_mem h (List.mem_of_getElem? (by simpa using hx))
  | i + 1, w :: ws, 0, x, h, _, hx => by
    rw [offL_s, Bool.and_eq_true] at h
    simp at hx; subst hx; exact h.1
  | i + 1, w :: ws, j + 1, x, h, hj, hx => by
    rw [offL_s, Bool.and_eq_true] at h
    exact offL_get (j := j) (i := i) h.2 (fun e => hj (congrArg Nat.succ e)) (by simpa using hx)

/-- The state behind a call that wrote into y's slice. -/
theorem Keeps.wrote {y : Nat} {v : V} (h : Gam lo Xb par ow s tm w) (hsz : w.heap.size ≤ w'.heap.size) (ho : ∀ b, b < w.heap.size → (∀ r, ow b ≠ some (y, r)) → ow' b = ow b ∧ w'.heap[b]? = w.heap[b]?) :
    Keeps lo [y] ow ow' tm tm w w' s ([(y, v)] ++ s.kill y) := by
  have ne : ∀ z, ¬ Hg [y] z → hangs y z = false := fun z hz => by rw [← Bool.not_eq_true]; exact fun h => hz ⟨y, by simp, h⟩
  have zy : ∀ z, ¬ Hg [y] z → z ≠ y := fun z hz e => by have := ne z hz; rw [e, hangs_self] at this; cases this
  refine ⟨hsz, fun z hz => ?_, fun z hz hl u hu => ?_, fun z hz b hb r hr => ?_, fun g hg b hb hk => ?_⟩
  · rw [List.singleton_append, get_top_ne (zy z hz), get_kill]
    by_cases hon : (s.get z).on y = true
    · left; simp [hon]; rfl
    · simp only [Bool.not_eq_true] at hon
      right; left; simp [ne z hz, hon]
  · refine h.nmKeep hl (fun b hb hb' h1000 => (ho b hb fun r e => ?_).2) hu
    rw [hb'] at e
    have e1 : z % 1000 = y := by cases e; rfl
    have := ne z hz
    rw [hangs_false] at this
    exact this.2 (by omega) e1
  · obtain ⟨h1, h2⟩ := ho b hb fun r' e => by rw [hr] at e; exact zy z hz (by cases e; rfl)
    exact ⟨h1.trans hr, h2⟩
  · have hgy := hg y (by simp)
    obtain ⟨h1, h2⟩ := ho b hb fun r e => on_self hgy hk e
    refine ⟨?_, h2⟩
    cases g <;> simp only [okG] at hk ⊢ <;> rw [h1] <;> exact hk

theorem Gam.nmY (h : Gam lo Xb par ow s tm w) {y : Nat} {u : Value} (hl : s.lv y = true) (ho : ∀ b, b < w.heap.size → (∀ r, ow b ≠ some (y, r)) → w'.heap[b]? = w.heap[b]?) (hu : nmv tm w y = some u) : nmv tm w' y = some u :=
  h.nmKeep hl (fun b hb hb' h1000 => ho b hb fun r e => by
    rw [hb'] at e
    have e1 : y % 1000 = y := congrArg Prod.fst (Option.some.inj e)
    omega) hu

theorem Gam.wrote {y m : Nat} {nl : Option Bool} {cs : List T} {u : Value} (h : Gam lo Xb par ow s tm w) (hl : s.lv y = true) (hu : nmv tm w y = some u) (hsz : w.heap.size ≤ w'.heap.size)
    (ho : ∀ b, b < w.heap.size → (∀ r, ow b ≠ some (y, r)) → ow' b = ow b ∧ w'.heap[b]? = w.heap[b]?) (hbase : ∀ b p, ow' b = some p → b < w'.heap.size ∧ (lo ≤ b ∨ Xb b)) (hO : OwnAt lo par ow' w' y m nl cs u) :
    Gam lo Xb par ow' ((y, .own m nl cs) :: s.kill y) tm w' := by
  refine Gam.next h (Keeps.wrote (v := .own m nl cs) h hsz ho) hbase fun z hz hl' hn => ?_
  by_cases e : z = y
  · subst e
    rw [get_top]
    exact ⟨u, h.nmY hl (fun b hb hr => (ho b hb hr).2) hu, hO⟩
  · obtain ⟨x, hx, hh⟩ := hz
    simp at hx; subst hx
    rw [get_top_ne e, get_kill, if_pos (.inl hh)] at hn; cases hn

/-- Behind the write: what the call gave is put. -/
theorem goi_putD {d : Option Nat} {t : T} {r : Value} (hd : oper.dst = d) (hd1 : ∀ k, d = some k → k < 1000 ∧ k < a.tmps.size) (hG : Gam lo Xb par ow' s' a.tmps w') (hr : Fz (fun _ => False) w' t r) :
    Gam lo Xb par ow' (putD d (.mk .fr t) s') (a.put d r).tmps w' ∧ (a.put d r).tmps.size = a.tmps.size ∧ (a.put d r).defers = a.defers := by
  cases d with
  | none => exact ⟨hG, rfl, rfl⟩
  | some k =>
    obtain ⟨h1, h2⟩ := hd1 k rfl
    rw [put_some]
    refine ⟨hG.put h1 h2 (mk_noName' t) ?_, by simp, rfl⟩
    cases t <;> exact Fz.mono (fun _ h => h.elim) hr

theorem look_clo {x : X} {f : Nat} {cp : List Cap} {ts : List T} (h : s.look x = .clo f cp ts) : ts = cp.map s.capT := by
  cases x with
  | k t => cases h
  | s n =>
    rw [look_s] at h
    cases hv : s.get n with
    | clo f' cp' => rw [hv, enr_clo] at h; cases h; rfl
    | fo => rw [hv] at h; cases h
    | t => rw [hv] at h; cases h
    | own => rw [hv] at h; cases h
    | bx k => rw [hv, enr_bx, pcW_eq] at h; revert h; cases s.get ((n + 1000) % 1000) <;> simp only [pcW'] <;> (try (intro h; cases h)) <;> cases (decide ((n + 1000) / 1000 - 1 < _) && decide (1000 ≤ n + 1000)) <;> intro h <;> cases h
    | tp => rw [hv] at h; cases h
    | ag => rw [hv] at h; cases h
    | al z => rw [hv, enr_al] at h; revert h; cases s.get z <;> simp only [alW] <;> (try (intro h; cases h)) <;> (first | (cases s.lv z <;> intro h <;> cases h) | (cases decide (z < 1000) <;> intro h <;> cases h))
    | pc z => rw [hv, enr_pc, pcW_eq] at h; revert h; cases s.get (z % 1000) <;> simp only [pcW'] <;> (try (intro h; cases h)) <;> cases (decide (z / 1000 - 1 < _) && decide (1000 ≤ z)) <;> intro h <;> cases h
    | pe z j => rw [hv, enr_pe] at h; revert h; cases s.get z <;> simp only [peW] <;> (try (intro h; cases h)) <;> cases s.lv z <;> intro h <;> cases h
    | bv z => rw [hv, enr_bv] at h; revert h; cases s.get z <;> simp only [bvW] <;> (try (intro h; cases h)) <;> cases decide (z < 1000) <;> intro h <;> cases h
    | sl z j k => rw [hv, enr_sl] at h; revert h; cases s.get z <;> simp only [slW] <;> (try (intro h; cases h)) <;> cases s.lv z <;> intro h <;> cases h
    | er z j => rw [hv, enr_er] at h; revert h; cases s.get z <;> simp only [erW] <;> (try (intro h; cases h)) <;> cases s.lv z <;> intro h <;> cases h

/-- The blocks of y, as the callee's name i's. -/
def owArg (ow : Ow) (y i : Nat) : Ow := fun b => match ow b with
  | some (q, r) => if q = y then some (i, r) else none
  | none => none
theorem owArg_none {y i b : Nat} : owArg ow y i b = none ↔ ∀ r, ow b ≠ some (y, r) := by
  unfold owArg
  cases e : ow b with
  | none => simp
  | some p =>
    obtain ⟨q, r⟩ := p
    by_cases hq : q = y
    · subst hq; simp
    · simp [hq]
theorem owArg_y {y i b r : Nat} (h : ow b = some (y, r)) : owArg ow y i b = some (i, r) := by unfold owArg; rw [h]; simp
/-- Behind the call. -/
def owBack (ow ow' : Ow) (y : Nat) : Ow := fun b => match ow' b with
  | some (_, r) => some (y, r)
  | none => match ow b with
    | some (q, r) => if q = y then none else some (q, r)
    | none => none

/-- **A call that writes into a slice that is owned.** -/
theorem coxOwn_goi {d : Option Nat} {f i y m : Nat} {nl nl' : Option Bool} {cs cs' : List T} {ts : List T} {vs : List Value} {t : T} {u : Value} (hG : Gam lo Xb par ow s a.tmps w) (hd : oper.dst = d) (hd1 : ∀ k, d = some k → k < 1000 ∧ k < a.tmps.size)
    (hr : (execOp a.eval oper).run P w = (callFunc f vs.toArray).run P w) (hc : CallX P f i ts t nl' cs') (hlen : vs.length = ts.length) (hi : ts[i]? = some (.s nl cs)) (hu : vs[i]? = some u)
    (hv : ∀ (j : Nat) (tj : T) (vj : Value), j ≠ i → ts[j]? = some tj → vs[j]? = some vj → Fz (offY ow y) w tj vj)
    (hm : m % 10 = 1 ∨ scalL cs) (hm' : m % 10 = 1 ∨ scalL cs') (hly : s.lv y = true) (hnu : nmv a.tmps w y = some u) (hO : OwnAt lo par ow w y m nl cs u)
    (hk : K (putD d (.mk .fr t) ((y, .own m nl' cs') :: s.kill y))) : GoI P lo Xb par a w K oper := by
  intro next Q N
  unfold Oper.wp
  rw [hr, hc.1]
  simp only [Oper.upon]
  obtain ⟨nl0, cs0, e0, hc⟩ := hc.2
  rw [hi] at e0; cases e0
  have hpre : OwnAt w.heap.size (fun z => if z = i then some u else none) (owArg ow y i) w i 11 nl cs u := by
    refine ⟨fun _ => by simp, ?_⟩
    rcases hO.2 with h | ⟨hn, b, cap, arr, ty, xs, e, ho, hb, hs, hl, hmx, ht, hx, hdp⟩
    · exact .inl h
    · refine .inr ⟨hn, b, cap, arr, ty, xs, e, owArg_y ho, hb, hs, hl, hmx, ht, ?_, fun _ => ?_⟩
      · have ht11 : tagM 11 i = .rw i := rfl
        rw [ht11]
        rcases hm with hm | hm
        · have htm : tagM m y = .rw y := by simp [tagM, hm]
          rw [htm] at hx
          exact hx.mono fun b hb => owArg_y hb
        · exact hx.scal hm
      · rcases hm with hm | hm
        · obtain ⟨d1, d2⟩ := hdp hm
          exact ⟨d1, fun k b hk => by obtain ⟨q1, q2⟩ := d2 k b hk; exact ⟨owArg_y q1, q2⟩⟩
        · exact (scal_deep hm hx).veil
  refine (hc w vs (owArg ow y i) u hlen (fun b p hp => ?_) hu (fun j tj vj hj h1 h2 => Fz.mono (fun b hb => owArg_none.2 hb) (hv j tj vj hj h1 h2)) hpre).mono ?_
  · unfold owArg at hp
    split at hp
    · rename_i q r hq
      split at hp
      · cases hp; exact ⟨rfl, (hG.base _ _ hq).1⟩
      · cases hp
    · cases hp
  rintro e w' ⟨r, rfl, hg, hfr, ow2, hb2, hO2⟩
  simp only
  rw [hd]
  -- what was not y's
  have old : ∀ b, b < w.heap.size → (∀ r, ow b ≠ some (y, r)) → owBack ow ow2 y b = ow b ∧ w'.heap[b]? = w.heap[b]? := fun b hb hne => by
    have h1 : owArg ow y i b = none := owArg_none.2 hne
    have h2 : ow2 b = none := by
      cases e : ow2 b with
      | none => rfl
      | some p =>
        rcases (hb2 b p e).2.2 with h | h
        · omega
        · exact absurd h1 h
    refine ⟨?_, hg.block b hb fun h => h h1⟩
    unfold owBack
    rw [h2]
    cases e : ow b with
    | none => rfl
    | some p =>
      obtain ⟨q, r⟩ := p
      have : q ≠ y := fun h => hne r (by rw [e, h])
      simp [this]
  have hbase : ∀ b p, owBack ow ow2 y b = some p → b < w'.heap.size ∧ (lo ≤ b ∨ Xb b) := fun b p hp => by
    cases e : ow2 b with
    | some q =>
      obtain ⟨_, h1, h2⟩ := hb2 b q e
      refine ⟨h1, ?_⟩
      rcases h2 with h2 | h2
      · exact .inl (Nat.le_trans hG.low h2)
      · have : ∃ r, ow b = some (y, r) := Classical.byContradiction fun hno => h2 (owArg_none.2 fun r hr => hno ⟨r, hr⟩)
        obtain ⟨r, hr⟩ := this
        exact (hG.base _ _ hr).2
    | none =>
      unfold owBack at hp
      rw [e] at hp
      cases e1 : ow b with
      | none => rw [e1] at hp; cases hp
      | some q => exact ⟨Nat.lt_of_lt_of_le (hG.base _ _ e1).1 hg.size, (hG.base _ _ e1).2⟩
  have back : ∀ b r, ow2 b = some (i, r) → owBack ow ow2 y b = some (y, r) := fun b r h => by unfold owBack; rw [h]
  have hpost : OwnAt lo par (owBack ow ow2 y) w' y m nl' cs' u := by
    refine ⟨hO.1, ?_⟩
    rcases hO2.2 with h | ⟨hn, b, cap, arr, ty, xs, e, ho, hb, hs, hl, hmx, ht, hx, hdp⟩
    · exact .inl h
    · refine .inr ⟨hn, b, cap, arr, ty, xs, e, back b 0 ho, hb, hs, hl, hmx, ht, ?_, fun hm1 => ?_⟩
      · rcases hm' with hm' | hm'
        · have htm : tagM m y = .rw y := by simp [tagM, hm']
          rw [htm]
          exact hx.mono fun b hb => back b 1 hb
        · exact hx.scal hm'
      · obtain ⟨d1, d2⟩ := hdp rfl
        exact ⟨d1, fun k b hk => by obtain ⟨q1, q2⟩ := d2 k b hk; exact ⟨back b 1 q1, q2⟩⟩
  have hG' := hG.wrote hly hnu hg.size old hbase hpost
  obtain ⟨g1, g2, g3⟩ := goi_putD hd hd1 hG' hfr
  refine N _ _ w' _ hk (hg.mono fun b hb hne => ?_) g1 g2 g3
  have : ∃ r, ow b = some (y, r) := Classical.byContradiction fun hno => hne (owArg_none.2 fun r hr => hno ⟨r, hr⟩)
  obtain ⟨r, hr⟩ := this
  exact (hG.base _ _ hr).2

/-- **A call that writes into a row of a slice that is owned.** -/
theorem coxRow_goi {d : Option Nat} {f i y j m : Nat} {nl nl' : Option Bool} {cs cs' : List T} {ts : List T} {vs : List Value} {t : T} {u : Value} {b len cap : Nat} (hG : Gam lo Xb par ow s a.tmps w) (hd : oper.dst = d) (hd1 : ∀ k, d = some k → k < 1000 ∧ k < a.tmps.size)
    (hr : (execOp a.eval oper).run P w = (callFunc f vs.toArray).run P w) (hc : CallX P f i ts t nl' cs') (hlen : vs.length = ts.length) (hi : ts[i]? = some (cs.getD j .any)) (hu : vs[i]? = some u)
    (hv : ∀ (k : Nat) (tj : T) (vj : Value), k ≠ i → ts[k]? = some tj → vs[k]? = some vj → Fz (offY ow y) w tj vj)
    (hm : m % 10 = 1) (hj : j < cs.length) (hrow : rowL cs) (hsc : scalL cs') (hy : s.get y = .own m nl cs) (hly : s.lv y = true) (hny : nmv a.tmps w y = some (.slice (some ⟨b, 0, none⟩) len cap))
    (hO : OwnAt lo par ow w y m nl cs (.slice (some ⟨b, 0, none⟩) len cap)) (hcell : w.cell? ⟨b, j, none⟩ = some u)
    (hk : K (putD d (.mk .fr t) ((y, .own m nl (cs.set j (.s nl' cs'))) :: s.kill y))) : GoI P lo Xb par a w K oper := by
  intro next Q N
  unfold Oper.wp
  rw [hr, hc.1]
  simp only [Oper.upon]
  obtain ⟨nl0, cs0, e0, hc⟩ := hc.2
  rw [hi] at e0
  have hcj : cs.getD j .any = .s nl0 cs0 := Option.some.inj e0
  have hs0 : scalL cs0 := by
    have := hrow (cs.getD j .any) (by rw [List.getD, List.getElem?_eq_getElem hj]; exact List.getElem_mem hj)
    rw [hcj] at this; exact this
  rcases hO.2 with h | ⟨hn, b', cap', arr, ty, xs, e, ho, hb, hs, hl, hmx, ht, hx, hdp⟩
  · cases h.1
  cases e
  have htm : tagM m y = .rw y := by simp [tagM, hm]
  rw [htm] at hx
  have hvx : veil cs xs = xs := veil_id (fun t ht => by have := hrow t ht; cases t <;> first | rfl | exact this.elim) hx.length
  have hvx' : veil (cs.set j (.s nl' cs')) xs = xs := veil_id (fun t ht => by
    rcases List.mem_or_eq_of_mem_set ht with ht | rfl
    · have := hrow t ht; cases t <;> first | rfl | exact this.elim
    · rfl) (by rw [hx.length]; simp)
  rw [hvx] at hdp
  obtain ⟨d1, d2⟩ := hdp hm
  obtain ⟨x, hxj, hfx⟩ := hx.get j hj
  have hux : x = u := by
    rw [cell_of_row w b j arr ty (0, 0) hb] at hcell
    subst ht
    rw [List.getElem?_take, if_pos hj] at hxj
    have e4 : arr[j]? = some x := by simpa using hxj
    rw [e4] at hcell; cases hcell; rfl
  subst hux
  rw [hcj] at hfx
  -- the row's own block
  let ow1 : Ow := fun k => if rowBlk x = some k then some (i, 0) else none
  have h1y : ∀ k, ow1 k ≠ none → ow k = some (y, 1) := fun k hk => by
    by_cases e : rowBlk x = some k
    · exact (d2 j k (by rw [hxj]; exact e)).1
    · simp [ow1, e] at hk
  have hpre : OwnAt w.heap.size (fun z => if z = i then some x else none) ow1 w i 11 nl0 cs0 x := by
    refine ⟨fun _ => by simp, ?_⟩
    simp only [Fz] at hfx
    rcases hfx with h | ⟨hn0, b0, o0, sp0, cap0, zs, e1, l1, l2, _, hz, hzc⟩
    · exact .inl h
    · have hrb : rowBlk x = some b0 := by rw [e1]; rfl
      obtain ⟨q1, arr0, ty0, len0, q2, q3⟩ := d2 j b0 (by rw [hxj]; exact hrb)
      rw [hxj] at q3
      have q4 : x = .slice (some ⟨b0, 0, none⟩) len0 arr0.size := by simpa using q3
      rw [e1] at q4
      cases q4
      refine .inr ⟨hn0, b0, arr0.size, arr0, ty0, zs, e1, by simp [ow1, hrb], q2, rfl, l1, l2, ?_, hz.scal hs0, fun _ => (scal_deep hs0 hz).veil⟩
      apply List.ext_getElem?
      intro k
      rw [List.getElem?_take]
      have hzl := hz.length
      split
      · rename_i hk
        have hk' : k < zs.length := by omega
        have := hzc k _ (List.getElem?_eq_getElem hk')
        rw [Nat.zero_add, cell_of_row w b0 k arr0 ty0 (0, 0) q2] at this
        rw [List.getElem?_eq_getElem hk']
        simpa using this
      · rw [List.getElem?_eq_none (by omega)]
  refine (hc w vs ow1 x hlen (fun k p hp => ?_) hu (fun k tj vj hk h1 h2 => Fz.mono (fun b' hb' => ?_) (hv k tj vj hk h1 h2)) hpre).mono ?_
  · have h1 := h1y k (by rw [hp]; simp)
    refine ⟨?_, (hG.base _ _ h1).1⟩
    by_cases e : rowBlk x = some k
    · simp [ow1, e] at hp; rw [← hp]
    · simp [ow1, e] at hp
  · refine Classical.byContradiction fun hne => ?_
    exact hb' 1 (h1y b' hne)
  rintro e w' ⟨r, rfl, hg, hfr, ow2, hb2, hO2⟩
  simp only
  rw [hd]
  have old : ∀ k, k < w.heap.size → ow1 k = none → w'.heap[k]? = w.heap[k]? := fun k hk h1 => hg.block k hk fun h => h h1
  have bne : ow1 b = none := by
    refine Classical.byContradiction fun hne => ?_
    have := h1y b hne; rw [ho] at this; cases this
  have hbl : b < w.heap.size := (Array.getElem?_eq_some_iff.1 hb).1
  -- the row behind the call
  have hrow' : Fz (okG lo ow (.rw y)) w' (.s nl' cs') x ∧ ∀ k, rowBlk x = some k → ∃ arr ty len, w'.heap[k]? = some (.cells arr ty (0, 0)) ∧ x = .slice (some ⟨k, 0, none⟩) len arr.size := by
    rcases hO2.2 with h | ⟨hn2, b2, cap2, arr2, ty2, zs, e1, ho2, q2, qs, ql, qm, qt, qx, _⟩
    · refine ⟨by simp only [Fz]; exact .inl h, fun k hk => ?_⟩
      rw [h.1] at hk; cases hk
    · have hrb : rowBlk x = some b2 := by rw [e1]; rfl
      have hy2 : ow b2 = some (y, 1) := h1y b2 (by simp [ow1, hrb])
      refine ⟨?_, fun k hk => ?_⟩
      · simp only [Fz]
        refine .inr ⟨hn2, b2, 0, none, cap2, zs, e1, ql, qm, fun _ => ⟨hy2, rfl⟩, qx.scal hsc, fun k v hk => ?_⟩
        rw [cell_of_row w' b2 (0 + k) arr2 ty2 (0, 0) q2]
        subst qt
        rw [List.getElem?_take] at hk
        split at hk
        · simpa using hk
        · cases hk
      · rw [hrb] at hk; cases hk
        exact ⟨arr2, ty2, _, q2, by rw [qs]; exact e1⟩
  have hpost : OwnAt lo par ow w' y m nl (cs.set j (.s nl' cs')) (.slice (some ⟨b, 0, none⟩) cs.length cap) := by
    refine ⟨hO.1, .inr ⟨hn, b, cap, arr, ty, xs, by simp, ho, (old b hbl bne).trans hb, hs, by simpa using hl, hmx, by simpa using ht, ?_, fun _ => ?_⟩⟩
    · rw [htm]
      have hxl := hx.length
      refine FzL.of_get (by simpa using hxl) fun k v hkv => ?_
      by_cases e : k = j
      · subst e
        rw [hxj] at hkv; cases hkv
        rw [List.getD, List.getElem?_set_self hj]
        exact hrow'.1
      · have hkl : k < cs.length := by rw [← hxl]; exact (List.getElem?_eq_some_iff.1 hkv).1
        obtain ⟨v', hk', hfv⟩ := hx.get k hkl
        rw [hkv] at hk'; cases hk'
        have hset : (cs.set j (.s nl' cs')).getD k .any = cs.getD k .any := by
          rw [List.getD, List.getElem?_set_ne (fun h => e h.symm)]; rfl
        rw [hset]
        have hrk := hrow (cs.getD k .any) (by rw [List.getD, List.getElem?_eq_getElem hkl]; exact List.getElem_mem hkl)
        cases hck : cs.getD k .any with
        | s nlk ck =>
          rw [hck] at hfv hrk
          simp only [Fz] at hfv ⊢
          rcases hfv with h | ⟨hn0, b0, o0, sp0, cap0, zs, e1, l1, l2, hok, hz, hzc⟩
          · exact .inl h
          · refine .inr ⟨hn0, b0, o0, sp0, cap0, zs, e1, l1, l2, hok, hz.scal hrk, fun q z hq => ?_⟩
            have h0 := hzc q z hq
            have hb0 : ow1 b0 = none := by
              refine Classical.byContradiction fun hne => e ?_
              have hrb : rowBlk x = some b0 := by
                by_cases e5 : rowBlk x = some b0
                · exact e5
                · simp [ow1, e5] at hne
              exact d1 k j b0 (by rw [hkv, e1]; rfl) (by rw [hxj]; exact hrb)
            rw [World.cell?_of_block (w := w) (old b0 (World.block_lt_of_cell? w _ h0) hb0)]; exact h0
        | _ => rw [hck] at hrk; exact hrk.elim
    · rw [hvx']
      refine ⟨d1, fun k b' hk => ?_⟩
      obtain ⟨q1, arr0, ty0, len0, q2, q3⟩ := d2 k b' hk
      refine ⟨q1, ?_⟩
      by_cases e : rowBlk x = some b'
      · obtain ⟨arr1, ty1, len1, p1, p2⟩ := hrow'.2 b' e
        have hkj := d1 k j b' hk (by rw [hxj]; exact e)
        subst hkj
        exact ⟨arr1, ty1, len1, p1, by rw [hxj, p2]⟩
      · exact ⟨arr0, ty0, len0, (old b' (Array.getElem?_eq_some_iff.1 q2).1 (by simp [ow1, e])).trans q2, q3⟩
  have hold : ∀ k, k < w.heap.size → (∀ r, ow k ≠ some (y, r)) → ow k = ow k ∧ w'.heap[k]? = w.heap[k]? := fun k hk hne => ⟨rfl, old k hk (Classical.byContradiction fun h => hne 1 (h1y k h))⟩
  have hG' := hG.wrote hly hny hg.size hold (fun k p hp => ⟨Nat.lt_of_lt_of_le (hG.base _ _ hp).1 hg.size, (hG.base _ _ hp).2⟩) hpost
  obtain ⟨g1, g2, g3⟩ := goi_putD hd hd1 hG' hfr
  exact N _ _ w' _ hk (hg.mono fun k hk hne => (hG.base _ _ (h1y k hne)).2) g1 g2 g3

/-! ### Calls that write through a struct -/

theorem Gam.lose {y : Nat} (h : Gam lo Xb par ow s tm w) (hy : y < 1000) (hsz : w.heap.size ≤ w'.heap.size) (ho : ∀ b, b < w.heap.size → (∀ q r, ow b = some (q, r) → hangs y q = false) → ow' b = ow b ∧ w'.heap[b]? = w.heap[b]?)
    (hbase : ∀ b p, ow' b = some p → b < w'.heap.size ∧ (lo ≤ b ∨ Xb b)) : Gam lo Xb par ow' (s.kill y) tm w' := by
  have ne : ∀ z, ¬ Hg [y] z → hangs y z = false := fun z hz => by rw [← Bool.not_eq_true]; exact fun h => hz ⟨y, by simp, h⟩
  have K : Keeps lo [y] ow ow' tm tm w w' s (s.kill y) := by
    refine ⟨hsz, fun z hz => ?_, fun z hz hl u hu => ?_, fun z hz b hb r hr => ?_, fun g hg b hb hk => ?_⟩
    · rw [get_kill]
      by_cases hon : (s.get z).on y = true
      · left; simp [hon]; rfl
      · simp only [Bool.not_eq_true] at hon
        right; left; simp [ne z hz, hon]
    · refine h.nmKeep hl (fun b hb hb' h1000 => (ho b hb fun q r e => ?_).2) hu
      rw [hb'] at e
      cases e
      have := ne z hz
      rw [hangs_false] at this ⊢
      exact ⟨fun e => this.2 hy (by omega), fun _ e => this.2 hy (by omega)⟩
    · obtain ⟨h1, h2⟩ := ho b hb fun q r' e => by rw [hr] at e; cases e; exact ne z hz
      exact ⟨h1.trans hr, h2⟩
    · have hgy := hg y (by simp)
      obtain ⟨h1, h2⟩ := ho b hb fun q r e => by
        cases g with
        | arg => simp only [okG] at hk; rw [hk] at e; cases e
        | fr => simp only [okG] at hk; rw [hk.1] at e; cases e
        | rw z => simp only [okG] at hk; rw [hk] at e; cases e; exact hgy
        | sp z =>
          simp only [okG] at hk
          rcases hk with hk | hk | hk <;> rw [hk] at e <;> cases e <;> exact hgy
      refine ⟨?_, h2⟩
      cases g <;> simp only [okG] at hk ⊢ <;> rw [h1] <;> exact hk
  refine Gam.next h K hbase fun z hz hl' hn => ?_
  obtain ⟨x, hx, hh⟩ := hz
  simp at hx; subst hx
  rw [get_kill, if_pos (.inl hh)] at hn; cases hn

theorem cells_get {x c : Nat} : ∀ {n j i : Nat}, i < n → (s.cells x c j n)[i]? = some (s.resN (x + 1000 * (c + (j + i))))
  | 0, j, i, h => by omega
  | n + 1, j, 0, h => by simp [cells_s]
  | n + 1, j, i + 1, h => by
    rw [cells_s, List.getElem?_cons_succ, cells_get (n := n) (j := j + 1) (i := i) (by omega), show j + 1 + i = j + (i + 1) by omega]
theorem ownC_get {y c : Nat} : ∀ {n j i : Nat}, ownC s y c j n → i < n → ownV (s.get (y + 1000 * (c + (j + i))))
  | 0, j, i, _, h => by omega
  | n + 1, j, 0, h, _ => h.1
  | n + 1, j, i + 1, h, hi => by
    have := ownC_get (n := n) (j := j + 1) (i := i) h.2 (by omega)
    rw [show j + (i + 1) = j + 1 + i by omega]; exact this
theorem scalA_get : ∀ {ws : List W} {j : Nat} {x : W}, scalA ws → ws[j]? = some x → ∃ g r, x = .t g r ∧ r.scal
  | [], j, x, _, hx => by simp at hx
  | w :: ws, j, x, h, hx => by
    cases w with
    | t g r =>
      rw [scalA_c] at h
      cases j with
      | zero => simp at hx; exact ⟨g, r, hx.symm, h.1⟩
      | succ j => exact scalA_get h.2 (by simpa using hx)
    | _ => exact h.elim
theorem scalI_get : ∀ {i : Nat} {ws : List W} {j : Nat} {x : W}, scalI i ws → j ≠ i → ws[j]? = some x → ∃ g r, x = .t g r ∧ r.scal
  | _, [], j, x, _, _, hx => by simp at hx
  | 0, w :: ws, j, x, h, hj, hx => by
    cases j with
    | zero => exact absurd rfl hj
    | succ j => exact scalA_get h (by simpa using hx)
  | i + 1, w :: ws, j, x, h, hj, hx => by
    cases w with
    | t g r =>
      rw [scalI_s] at h
      cases j with
      | zero => simp at hx; exact ⟨g, r, hx.symm, h.1⟩
      | succ j => exact scalI_get (i := i) (j := j) h.2 (fun e => hj (by rw [e])) (by simpa using hx)
    | _ => exact h.elim

theorem OwnAt.give {lo' : Nat} {y z m : Nat} {nl : Option Bool} {cs : List T} {u : Value} (hm : m = 1 ∨ (m < 10 ∧ scalL cs)) (h0 : ∀ b r, ow b = some (y, r) → ow' b = some (z, r)) (h : OwnAt lo par ow w y m nl cs u) : OwnAt lo' (fun _ => none) ow' w z 1 nl cs u := by
  refine ⟨fun h => absurd h (by omega), ?_⟩
  rcases h.2 with h | ⟨hn, b, cap, arr, ty, xs, e, ho, hb, hs, hl, hmx, ht, hx, hdp⟩
  · exact .inl h
  · refine .inr ⟨hn, b, cap, arr, ty, xs, e, h0 b 0 ho, hb, hs, hl, hmx, ht, ?_, fun _ => ?_⟩
    · have ht1 : tagM 1 z = .rw z := rfl
      rw [ht1]
      rcases hm with rfl | ⟨_, hm⟩
      · have htm : tagM 1 y = .rw y := rfl
        rw [htm] at hx
        exact hx.mono fun b hb => h0 b 1 hb
      · exact hx.scal hm
    · rcases hm with rfl | ⟨_, hm⟩
      · obtain ⟨d1, d2⟩ := hdp rfl
        exact ⟨d1, fun k b hk => by obtain ⟨q1, q2⟩ := d2 k b hk; exact ⟨h0 b 1 q1, q2⟩⟩
      · exact (scal_deep hm hx).veil

theorem look_bv {x : X} {z n : Nat} {us : List T} (h : s.look x = .bv z n us) : us = s.cells z 1 0 n := by
  cases x with
  | k t => cases h
  | s m =>
    rw [look_s] at h
    cases hv : s.get m with
    | bv y =>
      rw [hv, enr_bv] at h
      cases hy : s.get y with
      | bx k =>
        rw [hy, bvW_bx] at h
        revert h
        cases decide (y < 1000) <;> intro h <;> cases h
        rfl
      | _ => rw [hy] at h; cases h
    | clo f' cp' => rw [hv, enr_clo] at h; cases h
    | fo => rw [hv] at h; cases h
    | t => rw [hv] at h; cases h
    | own => rw [hv] at h; cases h
    | bx k => rw [hv, enr_bx, pcW_eq] at h; revert h; cases s.get ((m + 1000) % 1000) <;> simp only [pcW'] <;> (try (intro h; cases h)) <;> cases (decide ((m + 1000) / 1000 - 1 < _) && decide (1000 ≤ m + 1000)) <;> intro h <;> cases h
    | tp => rw [hv] at h; cases h
    | ag => rw [hv] at h; cases h
    | al z => rw [hv, enr_al] at h; revert h; cases s.get z <;> simp only [alW] <;> (try (intro h; cases h)) <;> (first | (cases s.lv z <;> intro h <;> cases h) | (cases decide (z < 1000) <;> intro h <;> cases h))
    | pc z => rw [hv, enr_pc, pcW_eq] at h; revert h; cases s.get (z % 1000) <;> simp only [pcW'] <;> (try (intro h; cases h)) <;> cases (decide (z / 1000 - 1 < _) && decide (1000 ≤ z)) <;> intro h <;> cases h
    | pe z j => rw [hv, enr_pe] at h; revert h; cases s.get z <;> simp only [peW] <;> (try (intro h; cases h)) <;> cases s.lv z <;> intro h <;> cases h
    | sl z j k => rw [hv, enr_sl] at h; revert h; cases s.get z <;> simp only [slW] <;> (try (intro h; cases h)) <;> cases s.lv z <;> intro h <;> cases h
    | er z j => rw [hv, enr_er] at h; revert h; cases s.get z <;> simp only [erW] <;> (try (intro h; cases h)) <;> cases s.lv z <;> intro h <;> cases h

def owA (ow : Ow) (z i : Nat) : Ow := fun b => match ow b with
  | some (q, r) => if 1000 ≤ q ∧ q % 1000 = z ∧ q / 1000 < 100 then some (q - z + i + 199000, r) else none
  | none => none
def owK (ow : Ow) (z : Nat) : Ow := fun b => match ow b with
  | some (q, r) => if hangs z q = true then none else some (q, r)
  | none => none

theorem coa_goi {d : Option Nat} {f i z n b : Nat} {ts : List T} {vs : List Value} {t : T} {arr : Array Value} {ty : TypeId} (hG : Gam lo Xb par ow s a.tmps w) (hd : oper.dst = d) (hd1 : ∀ k, d = some k → k < 1000 ∧ k < a.tmps.size)
    (hr : (execOp a.eval oper).run P w = (callFunc f vs.toArray).run P w) (hc : CallA P f i ts t) (hlen : vs.length = ts.length) (hi : ts[i]? = some (.a (s.cells z 1 0 n))) (hi1 : i < 1000) (hz : s.get z = .bx n) (hz1 : z < 1000) (hn90 : n < 90)
    (hnz : nmv a.tmps w z = some (.pointer (some ⟨b, 0, none⟩))) (hb : w.heap[b]? = some (.cells arr ty (0, 0))) (hsz : arr.size = n) (hu : vs[i]? = some (.agg arr)) (hts : FzL (fun _ => True) w (s.cells z 1 0 n) arr.toList)
    (hv : ∀ (j : Nat) (tj : T) (vj : Value), j ≠ i → ts[j]? = some tj → vs[j]? = some vj → Fz (fun b => owA ow z i b = none) w tj vj) (hown : ownC s z 1 0 n) (hk : K (putD d (.mk .fr t) (s.kill z))) : GoI P lo Xb par a w K oper := by
  intro next Q N
  unfold Oper.wp
  rw [hr, hc.1]
  simp only [Oper.upon]
  obtain ⟨fs, e0, hc⟩ := hc.2
  rw [hi] at e0; cases e0
  have hal := hts.length
  have oA : ∀ {c b r}, c < n → ow b = some (z + 1000 * (1 + c), r) → owA ow z i b = some (i + 1000 * (200 + c), r) := fun {c b r} hc h => by
    unfold owA; rw [h]
    simp only
    rw [if_pos (by omega)]
    congr 2; omega
  refine (hc w vs (owA ow z i) arr.toList hlen (fun b' p hp => ?_) (by simpa using hu) hal (fun c t' hct => ?_) hv).mono ?_
  · unfold owA at hp
    split at hp
    · rename_i q r hq
      split at hp
      · rename_i h3
        cases hp
        exact ⟨by simp only; omega, (hG.base _ _ hq).1⟩
      · cases hp
    · cases hp
  · have hcn : c < n := by
      have := (List.getElem?_eq_some_iff.1 hct).1
      rw [← hal] at this; simp at this; omega
    have hov := ownC_get (i := c) hown hcn
    rw [cells_get hcn] at hct
    rw [Nat.zero_add] at hov hct
    have hlv : s.lv (z + 1000 * (1 + c)) = true := lv_iff.2 (.inr (by rw [show (z + 1000 * (1 + c)) % 1000 = z by omega, hz]; rfl))
    cases hx : s.get (z + 1000 * (1 + c)) with
    | own m nl cs =>
      rw [hx, ownV_o] at hov
      rw [resN_eq, hx] at hct
      obtain ⟨u', e1, e2⟩ := hG.ent _ hlv (by rw [hx]; rfl)
      rw [hx] at e2
      have htm : a.tmps.getD z undef = .pointer (some ⟨b, 0, none⟩) := by rw [nmv_slot hz1] at hnz; simpa using hnz
      have hu' : arr[c]? = some u' := by
        unfold nmv at e1
        rw [if_neg (by omega), show (z + 1000 * (1 + c)) % 1000 = z by omega, htm] at e1
        simp only at e1
        rw [if_pos (by omega), show (z + 1000 * (1 + c)) / 1000 - 1 = c by omega, cell_of_row w b c arr ty (0, 0) hb] at e1
        exact e1
      exact ⟨nl, cs, u', (Option.some.inj hct).symm, by simpa using hu', OwnAt.give hov (fun b' r h => oA hcn h) e2⟩
    | _ => rw [hx] at hov; exact hov.elim
  rintro e w' ⟨r, rfl, hg, hfr⟩
  simp only
  rw [hd]
  have hA : ∀ b', (∀ q r, ow b' = some (q, r) → hangs z q = false) → owA ow z i b' = none := fun b' h => by
    unfold owA
    split
    · rename_i q r hq
      rw [if_neg]
      rintro ⟨h1, h2, _⟩
      have := h q r hq
      rw [hangs_false] at this
      exact this.2 hz1 h2
    · rfl
  have hG' := hG.lose (ow' := owK ow z) hz1 hg.size (fun b' hb' h => ⟨by
    unfold owK
    split
    · rename_i q r hq; rw [h q r hq]; simp [hq]
    · rename_i hq; exact hq.symm, hg.block b' hb' fun hne => hne (hA b' h)⟩) (fun b' p hp => by
    have : ∃ q, ow b' = some q := by
      unfold owK at hp
      split at hp
      · rename_i q r hq; exact ⟨_, hq⟩
      · cases hp
    obtain ⟨q, hq⟩ := this
    exact ⟨Nat.lt_of_lt_of_le (hG.base _ _ hq).1 hg.size, (hG.base _ _ hq).2⟩)
  obtain ⟨g1, g2, g3⟩ := goi_putD hd hd1 hG' hfr
  refine N _ _ w' _ hk (hg.mono fun b' _ hne => ?_) g1 g2 g3
  have : ∃ q, ow b' = some q := by
    cases e : ow b' with
    | none => exact absurd (by unfold owA; rw [e]) hne
    | some q => exact ⟨q, rfl⟩
  obtain ⟨q, hq⟩ := this
  exact (hG.base _ _ hq).2

end
end Go.Vc

/-
  Calls that use up what they are given: its memory may come back with the result.
-/
namespace Go.Vc
open Go

section
variable {P : Program} {lo : Nat} {Xb : Nat → Prop} {par : Nat → Option Value} {ow ow' : Ow} {tm tm' : Array Value} {a : Act} {w w' w1 : World} {s s1 s' : St} {K : St → Prop} {oper : Oper}

/-- Nothing of the state has to do with d. -/
def Free (d : Nat) (s : St) : Prop := ∀ y, (hangs d y = true → (s.get y).isAny = true) ∧ (s.get y).on d = false

theorem Free.kill (d : Nat) (s : St) : Free d (s.kill d) := fun y => by
  rw [get_kill]
  refine ⟨fun h => by rw [if_pos (.inl h)]; rfl, ?_⟩
  split
  · rfl
  · rename_i h; simp only [not_or, Bool.not_eq_true] at h; exact h.2
theorem Free.kill2 {d z : Nat} (h : Free d s) : Free d (s.kill z) := fun y => by
  rw [get_kill]
  obtain ⟨h1, h2⟩ := h y
  split
  · exact ⟨fun _ => rfl, rfl⟩
  · exact ⟨h1, h2⟩

/-- d's blocks, and the new ones. -/
def ofD (ow : Ow) (d n b : Nat) : Prop := n ≤ b ∨ ∃ r, ow b = some (d, r)

/-- **A name is made** in slot d, in memory that has grown, d's old blocks written anew. -/
theorem Gam.make2 {d : Nat} {E : St} {u : Value} (h : Gam lo Xb par ow s tm w) (hk : Free d s) (hd : d < 1000) (hg : Grow (fun b => ∃ r, ow b = some (d, r)) w w')
    (ho : ∀ b, ¬ ofD ow d w.heap.size b → ow' b = ow b) (hb : ∀ b p, ofD ow d w.heap.size b → ow' b = some p → b < w'.heap.size ∧ (lo ≤ b ∨ Xb b)) (hE : ∀ p ∈ E, hangs d p.1 = true)
    (he : ∀ y, hangs d y = true → (∃ p ∈ E, p.1 = y) → St.lv (E ++ s) y = true → (E.get y).isAny = false → ∃ x, nmv (tm.setIfInBounds d u) w' y = some x ∧ Rep lo par ow' (tm.setIfInBounds d u) w' (E ++ s) y (E.get y) x) :
    Gam lo Xb par ow' (E ++ s) (tm.setIfInBounds d u) w' := by
  have hh : ∀ y, ¬ Hg [d] y → hangs d y = false := fun y hy => by
    rw [← Bool.not_eq_true]; exact fun h => hy ⟨d, by simp, h⟩
  have old : ∀ b, b < w.heap.size → (∀ r, ow b ≠ some (d, r)) → ow' b = ow b ∧ w'.heap[b]? = w.heap[b]? := fun b hb hne =>
    ⟨ho b fun h => by rcases h with h | ⟨r, h⟩; omega; exact hne r h, hg.block b hb fun ⟨r, h⟩ => hne r h⟩
  have zd : ∀ {z : Nat}, hangs d z = false → z ≠ d := fun hz e => by rw [e, hangs_self] at hz; cases hz
  have K : Keeps lo [d] ow ow' tm (tm.setIfInBounds d u) w w' s (E ++ s) := by
    refine ⟨hg.size, fun y hy => ?_, fun y hy hl x hx => ?_, fun y hy b hb r hr => ?_, fun g hgg b hb hkk => ?_⟩
    · have e : (E ++ s).get y = s.get y := get_app fun p hp he => by
        have := hE p hp; rw [he, hh y hy] at this; cases this
      rw [e]
      exact .inr (.inl ⟨rfl, by simpa using (hk y).2⟩)
    · rw [nmv_put (hh y hy) hd]
      refine h.nmKeep hl (fun b hb hb' h1000 => (old b hb fun r e => ?_).2) hx
      rw [hb'] at e
      have e1 : y % 1000 = d := congrArg Prod.fst (Option.some.inj e)
      have := hh y hy
      rw [hangs_false] at this
      exact this.2 (by omega) e1
    · obtain ⟨h1, h2⟩ := old b hb fun r' e => by rw [hr] at e; exact zd (hh y hy) (congrArg Prod.fst (Option.some.inj e))
      exact ⟨h1.trans hr, h2⟩
    · obtain ⟨h1, h2⟩ := old b hb fun r e => on_self (hgg d (by simp)) hkk e
      refine ⟨?_, h2⟩
      cases g <;> simp only [okG] at hkk ⊢ <;> rw [h1] <;> exact hkk
  refine Gam.next h K (fun b p hp => ?_) fun y hy hl hn => ?_
  · by_cases hlt : ofD ow d w.heap.size b
    · exact hb b p hlt hp
    · obtain ⟨h1, h2⟩ := h.base b p (by rw [← ho b hlt]; exact hp)
      exact ⟨Nat.lt_of_lt_of_le h1 hg.size, h2⟩
  · obtain ⟨x, hx, hx'⟩ := hy
    simp at hx; subst hx
    by_cases hex : ∃ p ∈ E, p.1 = y
    · rw [get_append_yes hex] at hn ⊢
      exact he y hx' hex hl hn
    · exfalso
      rw [get_app (fun p hp e => hex ⟨p, hp, e⟩), (hk y).1 hx'] at hn
      cases hn

theorem Gam.made {d : Nat} {R : St} {u : Value} {ow2 : Ow} (hG : Gam lo Xb par ow s1 tm w) (hk0' : Free d s1) (hd1 : d < 1000) (hsz : d < tm.size) (hg : Grow (fun b => ∃ r, ow b = some (d, r)) w w')
    (hRg : RGood R) (hR : Gam w.heap.size (fun b => ∃ r, ow b = some (d, r)) (fun _ => none) ow2 R #[u] w') : ∃ ow', Gam lo Xb par ow' (R.shift d ++ s1) (tm.setIfInBounds d u) w' := by
  classical
  let ow' : Ow := fun b => if ofD ow d w.heap.size b then (ow2 b).map fun p => (p.1 + d, p.2) else ow b
  have ho : ∀ b, ¬ ofD ow d w.heap.size b → ow' b = ow b := fun b hb => if_neg hb
  have hnew : ∀ b, ofD ow d w.heap.size b → ow' b = (ow2 b).map fun p => (p.1 + d, p.2) := fun b hb => if_pos hb
  have h2 : ∀ b p, ow2 b = some p → ofD ow d w.heap.size b ∧ b < w'.heap.size := fun b p hp => by
    obtain ⟨q1, q2⟩ := hR.base b p hp
    exact ⟨q2, q1⟩
  have h2n : ∀ b, ow2 b = none → ofD ow d w.heap.size b → ow' b = none := fun b hb hl => by rw [hnew b hl, hb]; rfl
  refine ⟨ow', Gam.make2 hG hk0' hd1 hg ho (fun b p hb hp => ?_) (fun p hp => ?_) fun y hy hex hl hna => ?_⟩
  · rw [hnew b hb] at hp
    cases e : ow2 b with
    | none => rw [e] at hp; cases hp
    | some q =>
      refine ⟨(h2 b q e).2, ?_⟩
      rcases hb with hb | ⟨r, hb⟩
      · exact .inl (Nat.le_trans hG.low hb)
      · exact (hG.base b _ hb).2
  · have hk : ∀ {R : St}, RGood R → ∀ p ∈ R.shift d, hangs d p.1 = true := by
      intro R
      induction R with
      | nil => intro _ p hp; simp [St.shift] at hp
      | cons q R ih =>
        intro hg p hp
        obtain ⟨k, v⟩ := q
        simp only [St.shift, List.mem_cons] at hp
        rcases hp with rfl | hp
        · have := (hg (k, v) (by simp)).1
          exact hangs_iff.2 (.inr ⟨hd1, by simp only at this ⊢; omega⟩)
        · exact ih (fun q hq => hg q (by simp [hq])) p hp
    exact hk hRg p hp
  · have hget : ∀ {R : St} {k : Nat}, (R.shift d).get (k + d) = R.get k := by
      intro R
      induction R with
      | nil => intro k; rfl
      | cons q R ih =>
        intro k
        obtain ⟨j, v⟩ := q
        simp only [St.shift]
        rw [get_if, get_if, ih]
        by_cases hjk : j = k
        · rw [if_pos hjk, if_pos (by omega)]
        · rw [if_neg hjk, if_neg (by omega)]
    obtain ⟨k, rfl⟩ : ∃ k, y = k + d := ⟨y - d, by have := hangs_le hy; omega⟩
    have hk1 : k % 1000 = 0 := by rw [hangs_iff] at hy; rcases hy with hy | ⟨_, hy⟩ <;> omega
    rw [hget] at hna ⊢
    have hin : ∃ p ∈ R, p.1 = k := by
      refine Classical.byContradiction fun hno => ?_
      rw [get_none (fun p hp e => hno ⟨p, hp, e⟩)] at hna; cases hna
    obtain ⟨p, hp, e1, e2⟩ := get_mem hin
    obtain ⟨_, hgood⟩ := hRg p hp
    -- is it live in the callee's state?
    have hlv : R.lv k = true := by
      rw [lv_iff] at hl ⊢
      rcases hl with hl | hl
      · exact .inl (by omega)
      · by_cases hk0 : k = 0
        · exact .inl (by omega)
        · rw [show (k + d) % 1000 = 0 + d from by omega] at hl
          by_cases h0 : ∃ p ∈ R, p.1 = 0
          · have : ∃ p ∈ R.shift d, p.1 = 0 + d := by
              clear hR hl hna e2 hp hgood hex hin hRg
              induction R with
              | nil => obtain ⟨p, hp, _⟩ := h0; simp at hp
              | cons q R ih =>
                obtain ⟨j, v⟩ := q
                simp only [St.shift]
                obtain ⟨p, hp, e⟩ := h0
                rcases List.mem_cons.1 hp with rfl | hp
                · exact ⟨_, by simp; left; rfl, by simp at e ⊢; omega⟩
                · obtain ⟨r, hr1, hr2⟩ := ih ⟨p, hp, e⟩
                  exact ⟨r, by simp [hr1], hr2⟩
            rw [get_append_yes this, hget] at hl
            right; rw [hk1]; exact hl
          · exfalso
            have : ∀ p ∈ R.shift d, p.1 ≠ 0 + d := by
              clear hR hl hna e2 hp hgood hex hin hRg
              induction R with
              | nil => intro p hp; simp [St.shift] at hp
              | cons q R ih =>
                obtain ⟨j, v⟩ := q
                intro p hp
                simp only [St.shift, List.mem_cons] at hp
                rcases hp with rfl | hp
                · intro e; exact h0 ⟨(j, v), by simp, by simp at e ⊢; omega⟩
                · exact ih (fun ⟨p, hp, e⟩ => h0 ⟨p, by simp [hp], e⟩) p hp
            rw [get_app this, Nat.zero_add] at hl
            have := (hk0' d).1 (hangs_self d)
            revert hl this; cases s1.get d <;> simp [V.cont, V.isAny]
    obtain ⟨x, hx, hr⟩ := hR.ent k hlv hna
    refine ⟨x, ?_, ?_⟩
    · unfold nmv at hx ⊢
      by_cases hk0 : k = 0
      · subst hk0
        simp only [Nat.zero_add, hd1, if_true]
        have : (0 : Nat) < 1000 := by omega
        rw [if_pos this] at hx
        have hx : u = x := by simpa using hx
        simp [hsz, hx]
      · rw [if_neg (by omega)] at hx ⊢
        rw [hk1] at hx
        rw [show (k + d) % 1000 = d from by omega, show (k + d) / 1000 = k / 1000 from by omega]
        have h1 : (tm.setIfInBounds d u).getD d undef = u := by simp [hsz]
        have h2 : (#[u] : Array Value).getD 0 undef = u := rfl
        rw [h1]; rw [h2] at hx; exact hx
    · have tgf : ∀ b, b < w'.heap.size → okG w.heap.size ow2 .fr b → okG lo ow' .fr b ∧ w'.heap[b]? = w'.heap[b]? := fun b _ hb => ⟨⟨h2n b hb.1 (.inl hb.2), Nat.le_trans hG.low hb.2⟩, rfl⟩
      have own : ∀ b r, ow2 b = some (k, r) → ow' b = some (k + d, r) := fun b r hb => by rw [hnew b (h2 b _ hb).1, hb]; rfl
      rw [e2] at hr ⊢
      cases hv : p.2 with
      | t g r =>
        rw [hv] at hr hgood
        cases g with
        | fr => exact Fz.imp tgf r x hr
        | _ => exact hgood.elim
      | own m nl cs =>
        rw [hv] at hr hgood
        simp only at hgood
        refine ⟨fun h => absurd h (by omega), ?_⟩
        rcases hr.2 with h | ⟨hn, b, cap, arr, ty, xs, e, ho1, hb, hs, hl1, hmx, ht, hx1, hd2⟩
        · exact .inl h
        · refine .inr ⟨hn, b, cap, arr, ty, xs, e, own b 0 ho1, hb, hs, hl1, hmx, ht, ?_, fun hm1 => ?_⟩
          · have : m = 0 ∨ m = 1 := by omega
            rcases this with rfl | rfl
            · exact FzL.imp tgf cs xs hx1
            · exact FzL.imp (fun b _ hb => ⟨own b 1 hb, rfl⟩) cs xs hx1
          · obtain ⟨q1, q2⟩ := hd2 hm1
            exact ⟨q1, fun i b hi => by obtain ⟨z1, z2⟩ := q2 i b hi; exact ⟨own b 1 z1, z2⟩⟩
      | tp n => rw [hv] at hr; exact ⟨by have := hr.1; omega, hr.2⟩
      | ag n => rw [hv] at hr; exact ⟨by have := hr.1; omega, hr.2⟩
      | _ => rw [hv] at hgood; exact hgood.elim

/-- What zs own is now d's. -/
def owPass (zs : List Nat) (d : Nat) (ow : Ow) : Ow := fun b => match ow b with
  | some (q, r) => if q ∈ zs then some (d, r) else some (q, r)
  | none => none
theorem killL_get {y : Nat} : ∀ {zs : List Nat} {s : St}, ((St.killL zs s).get y).isAny = true ∨ ((St.killL zs s).get y = s.get y ∧ ∀ z ∈ zs, hangs z y = false ∧ (s.get y).on z = false)
  | [], s => .inr ⟨rfl, by simp⟩
  | z :: zs, s => by
    rcases killL_get (y := y) (zs := zs) (s := s.kill z) with h | ⟨h1, h2⟩
    · exact .inl h
    · simp only [St.killL]
      rw [h1]
      rw [get_kill] at h1 h2 ⊢
      by_cases hz : hangs z y = true ∨ (s.get y).on z = true
      · rw [if_pos hz]; exact .inl rfl
      · rw [if_neg hz] at h2 ⊢
        simp only [not_or, Bool.not_eq_true] at hz
        refine .inr ⟨rfl, fun x hx => ?_⟩
        rcases List.mem_cons.1 hx with rfl | hx
        · exact hz
        · exact h2 x hx
theorem Free.killL {d : Nat} : ∀ {zs : List Nat} {s : St}, Free d s → Free d (St.killL zs s)
  | [], _, h => h
  | z :: zs, s, h => Free.killL (zs := zs) (h.kill2 (z := z))

theorem Gam.give {d : Nat} {zs : List Nat} (h : Gam lo Xb par ow s tm w) (hf : Free d s) : Gam lo Xb par (owPass zs d ow) (St.killL zs s) tm w := by
  have hh : ∀ y, ¬ Hg (d :: zs) y → hangs d y = false ∧ ∀ z ∈ zs, hangs z y = false := fun y hy => by
    constructor
    · rw [← Bool.not_eq_true]; exact fun h => hy ⟨d, by simp, h⟩
    · intro z hz; rw [← Bool.not_eq_true]; exact fun h => hy ⟨z, by simp [hz], h⟩
  have keep : ∀ b q r, ow b = some (q, r) → q ∉ zs → owPass zs d ow b = some (q, r) := fun b q r e hq => by simp only [owPass, e, if_neg hq]
  have K : Keeps lo (d :: zs) ow (owPass zs d ow) tm tm w w s (St.killL zs s) := by
    refine ⟨Nat.le_refl _, fun y hy => ?_, fun y hy hl u hu => hu, fun y hy b hb r hr => ⟨keep b y r hr fun hm => ?_, rfl⟩, fun g hg b hb hk => ⟨?_, rfl⟩⟩
    · rcases killL_get (y := y) (zs := zs) (s := s) with h | ⟨h1, h2⟩
      · exact .inl h
      · refine .inr (.inl ⟨h1, fun x hx => ?_⟩)
        rcases List.mem_cons.1 hx with rfl | hx
        · exact (hf y).2
        · exact (h2 x hx).2
    · have := (hh y hy).2 y hm
      rw [hangs_self] at this; cases this
    · have nz : ∀ q r, ow b = some (q, r) → q ∉ zs := fun q r e hm => on_self (hg q (by simp [hm])) hk e
      cases g with
      | arg => simp only [okG] at hk ⊢; simp only [owPass, hk]
      | fr => simp only [okG] at hk ⊢; exact ⟨by simp only [owPass, hk.1], hk.2⟩
      | rw z => simp only [okG] at hk ⊢; exact keep b z 1 hk (nz z 1 hk)
      | sp z =>
        simp only [okG] at hk ⊢
        rcases hk with hk | hk | hk
        · exact .inl (keep b z 0 hk (nz z 0 hk))
        · exact .inr (.inl (keep b z 1 hk (nz z 1 hk)))
        · exact .inr (.inr (by simp only [owPass, hk]))
  refine Gam.next h K (fun b p hp => ?_) fun y hy hl hn => ?_
  · unfold owPass at hp
    split at hp
    · rename_i q r e; exact h.base b _ e
    · cases hp
  · exfalso
    rcases killL_get (y := y) (zs := zs) (s := s) with h | ⟨h1, h2⟩
    · rw [h] at hn; cases hn
    · obtain ⟨x, hx, hx'⟩ := hy
      rcases List.mem_cons.1 hx with rfl | hx
      · rw [h1, (hf y).1 hx'] at hn; cases hn
      · rw [(h2 x hx).1] at hx'; cases hx'

mutual
theorem Fz.and {p q : Nat → Prop} : ∀ {t : T} {v : Value}, Fz p w t v → Fz q w t v → Fz (fun b => p b ∧ q b) w t v
  | .any, v, _, _ => by simp only [Fz]
  | .i n, v, h, _ => by simp only [Fz] at h ⊢; exact h
  | .b n, v, h, _ => by simp only [Fz] at h ⊢; exact h
  | .w _ _, v, h, _ => by simp only [Fz] at h ⊢; exact h
  | .s nl cs, v, h1, h2 => by
    simp only [Fz] at h1 h2 ⊢
    rcases h1 with h1 | ⟨a1, b, o, sp, cap, xs, e, c1, c2, c3, c4, c5⟩
    · exact .inl h1
    · subst e
      rcases h2 with h2 | ⟨_, b', o', sp', cap', xs', e', _, _, d3, d4, d5⟩
      · cases h2.1
      · cases e'
        have hxs : xs' = xs := List.ext_getElem? fun k => by
          have l1 := c4.length
          have l2 := d4.length
          by_cases hk : k < xs.length
          · have h1 := c5 k _ (List.getElem?_eq_getElem hk)
            have h2 := d5 k _ (List.getElem?_eq_getElem (by omega))
            rw [h1] at h2
            rw [List.getElem?_eq_getElem hk, List.getElem?_eq_getElem (by omega), Option.some.inj h2]
          · rw [List.getElem?_eq_none (by omega), List.getElem?_eq_none (by omega)]
        subst hxs
        exact .inr ⟨a1, b, o, sp, cap, xs', rfl, c1, c2, fun hc => ⟨⟨(c3 hc).1, (d3 hc).1⟩, (c3 hc).2⟩, FzL.and c4 d4, c5⟩
  | .q cs k, v, h1, h2 => by
    simp only [Fz] at h1 h2 ⊢
    obtain ⟨b, o, xs, e, c3, c4, c5⟩ := h1
    obtain ⟨b', o', xs', e', d3, d4, d5⟩ := h2
    subst e
    simp only [Value.pointer.injEq, Option.some.injEq, Addr.mk.injEq, and_true] at e'
    obtain ⟨rfl, eo⟩ := e'
    have eo : o' = o := by omega
    subst eo
    have hxs : xs' = xs := List.ext_getElem? fun k => by
      have l1 := c4.length
      have l2 := d4.length
      by_cases hk : k < xs.length
      · have h1 := c5 k _ (List.getElem?_eq_getElem hk)
        have h2 := d5 k _ (List.getElem?_eq_getElem (by omega))
        rw [h1] at h2
        rw [List.getElem?_eq_getElem hk, List.getElem?_eq_getElem (by omega), Option.some.inj h2]
      · rw [List.getElem?_eq_none (by omega), List.getElem?_eq_none (by omega)]
    subst hxs
    exact ⟨b, o', xs', rfl, fun hc => ⟨c3 hc, d3 hc⟩, FzL.and c4 d4, c5⟩
  | .c f caps, v, h1, h2 => by
    simp only [Fz] at h1 h2 ⊢
    obtain ⟨xs, e, c4⟩ := h1
    obtain ⟨xs', e', d4⟩ := h2
    subst e
    have : xs = xs' := by simpa using e'
    subst this
    exact ⟨xs, rfl, FzL.and c4 d4⟩
  | .a fs, v, h1, h2 => by
    simp only [Fz] at h1 h2 ⊢
    obtain ⟨xs, e, c4⟩ := h1
    obtain ⟨xs', e', d4⟩ := h2
    subst e
    have : xs = xs' := by simpa using e'
    subst this
    exact ⟨xs, rfl, FzL.and c4 d4⟩
  | .u fs, v, h1, h2 => by
    simp only [Fz] at h1 h2 ⊢
    obtain ⟨xs, e, c4⟩ := h1
    obtain ⟨xs', e', d4⟩ := h2
    subst e
    have : xs = xs' := by simpa using e'
    subst this
    exact ⟨xs, rfl, FzL.and c4 d4⟩
theorem FzL.and {p q : Nat → Prop} : ∀ {ts : List T} {vs : List Value}, FzL p w ts vs → FzL q w ts vs → FzL (fun b => p b ∧ q b) w ts vs
  | [], vs, h, _ => by simp only [FzL] at h ⊢; exact h
  | t :: ts, vs, h1, h2 => by
    simp only [FzL] at h1 h2 ⊢
    obtain ⟨x, ys, e, a1, a2⟩ := h1
    obtain ⟨x', ys', e', b1, b2⟩ := h2
    subst e
    cases e'
    exact ⟨x, ys, rfl, Fz.and a1 b1, FzL.and a2 b2⟩
end

theorem memB_iff {k : Nat} : ∀ {l : List Nat}, memB k l = true ↔ k ∈ l
  | [] => by simp [memB]
  | i :: is => by
    simp only [memB]
    cases e : k == i with
    | true => have : k = i := by simpa using e
              simp [this]
    | false => have : k ≠ i := by simpa using e
               simp [this, memB_iff (l := is)]
def ownerAt (ws : List W) (i : Nat) : Option Nat := match ws[i]? with | some (.own y _ _ _) => some y | _ => none
/-- What the operands at the places of is own, as the callee's. -/
def owArgC (ws : List W) (is : List Nat) (ow : Ow) : Ow := fun b => match ow b with
  | some (q, r) => (is.find? fun i => ownerAt ws i == some q).map fun i => (i, r)
  | none => none

theorem cocZ_spec {ws : List W} : ∀ {is zs : List Nat} {κ : List Nat → Prop}, cocZ ws is zs κ → ∃ zs', κ zs' ∧ (∀ z ∈ zs, z ∈ zs') ∧
    (∀ i ∈ is, ∃ y m nl cs, ws[i]? = some (.own y m nl cs) ∧ (m = 1 ∨ (scalL cs ∧ m < 10)) ∧ y ∈ zs' ∧ y ∉ zs) ∧ (∀ i ∈ is, ∀ j ∈ is, ownerAt ws i = ownerAt ws j → i = j) ∧ (∀ z ∈ zs', z ∈ zs ∨ ∃ i ∈ is, ownerAt ws i = some z)
  | [], zs, κ, h => ⟨zs, h, fun _ h => h, by simp, by simp, fun z h => .inl h⟩
  | i :: is, zs, κ, h => by
    simp only [cocZ] at h
    unfold cocW at h
    split at h
    · rename_i y m nl cs e
      obtain ⟨h1, h2, h3⟩ := h
      have h2 : y ∉ zs := fun hm => by rw [memB_iff.2 hm] at h2; cases h2
      obtain ⟨zs', k1, k2, k3, k4, k5⟩ := cocZ_spec h3
      have oi : ownerAt ws i = some y := by simp only [ownerAt, e]
      have ne : ∀ j ∈ is, ownerAt ws j ≠ some y := fun j hj he => by
        obtain ⟨y', m', nl', cs', f1, _, _, f4⟩ := k3 j hj
        simp only [ownerAt, f1, Option.some.injEq] at he
        exact f4 (by simp [he])
      refine ⟨zs', k1, fun z hz => k2 z (by simp [hz]), fun j hj => ?_, fun j hj k hk he => ?_, fun z hz => ?_⟩
      · rcases List.mem_cons.1 hj with rfl | hj
        · exact ⟨y, m, nl, cs, e, h1, k2 y (by simp), h2⟩
        · obtain ⟨y', m', nl', cs', f1, f2, f3, f4⟩ := k3 j hj
          exact ⟨y', m', nl', cs', f1, f2, f3, fun h => f4 (by simp [h])⟩
      · rcases List.mem_cons.1 hj with hj1 | hj1
        · rcases List.mem_cons.1 hk with hk1 | hk1
          · rw [hj1, hk1]
          · rw [hj1] at he; exact absurd (he.symm.trans oi) (ne k hk1)
        · rcases List.mem_cons.1 hk with hk1 | hk1
          · rw [hk1] at he; exact absurd (he.trans oi) (ne j hj1)
          · exact k4 j hj1 k hk1 he
      · rcases k5 z hz with h | ⟨j, hj, h⟩
        · rcases List.mem_cons.1 h with rfl | h
          · exact .inr ⟨i, by simp, oi⟩
          · exact .inl h
        · exact .inr ⟨j, by simp [hj], h⟩
    · exact h.elim

theorem offZ_mem {x : W} {z : Nat} : ∀ {zs : List Nat}, s.offZ x zs = true → z ∈ zs → s.offW z x = true
  | [], _, h => by simp at h
  | y :: zs, h, hz => by
    rw [offZ_c, Bool.and_eq_true] at h
    rcases List.mem_cons.1 hz with rfl | hz
    · exact h.1
    · exact offZ_mem h.2 hz
theorem offJ_get {zs is : List Nat} : ∀ {ws : List W} {k j : Nat} {x : W}, s.offJ zs is k ws = true → k + j ∉ is → ws[j]? = some x → s.offZ x zs = true
  | [], _, _, _, _, _, h => by simp at h
  | w :: ws, k, j, x, h, hj, hx => by
    rw [offJ_c] at h
    cases j with
    | zero =>
      have : memB k is = false := by rw [← Bool.not_eq_true, memB_iff]; simpa using hj
      rw [this, cond_false, Bool.and_eq_true] at h
      simp at hx; subst hx; exact h.1
    | succ j =>
      refine offJ_get (k := k + 1) (j := j) (ws := ws) ?_ (by rwa [show k + 1 + j = k + (j + 1) from by omega]) (by simpa using hx)
      cases hm : memB k is <;> rw [hm] at h
      · rw [cond_false, Bool.and_eq_true] at h; exact h.2
      · exact h

/-- **A call that uses up what it is given.** -/
theorem coc_goi {d f : Nat} {is : List Nat} {ws : List W} {vs : List Value} (hG : Gam lo Xb par ow s a.tmps w) (hd : oper.dst = some d) (hd1 : d < 1000) (hsz : d < a.tmps.size)
    (hr : (execOp a.eval oper).run P w = (callFunc f vs.toArray).run P w) (hlen : vs.length = ws.length) (hrep : ∀ (j : Nat) (x : W) (v : Value), ws[j]? = some x → vs[j]? = some v → RepW lo par ow a.tmps w s x v)
    (hclo : ∀ (j f : Nat) (cp : List Cap) (ts : List T), ws[j]? = some (.clo f cp ts) → ts = cp.map s.capT) (hk : cocK P d f is s K ws) : GoI P lo Xb par a w K oper := by
  intro next Q N
  obtain ⟨zs, ⟨hoff, R, hc, hk⟩, _, hsp, hinj, hzs⟩ := cocZ_spec hk
  unfold Oper.wp
  rw [hr, hc.1]
  simp only [Oper.upon]
  have arg : ∀ i ∈ is, ∀ y, ownerAt ws i = some y → ∀ b r, ow b = some (y, r) → owArgC ws is ow b = some (i, r) := fun i hi y hy b r hb => by
    simp only [owArgC, hb]
    cases e : is.find? fun j => ownerAt ws j == some y with
    | none =>
      have := List.find?_eq_none.1 e i hi
      simp [hy] at this
    | some j =>
      have h1 := List.find?_some e
      simp only [beq_iff_eq] at h1
      have : j = i := hinj j (List.mem_of_find?_eq_some e) i hi (h1.trans hy.symm)
      subst this; rfl
  have args : ∀ b p, owArgC ws is ow b = some p → p.1 ∈ is ∧ ∃ z ∈ zs, ow b = some (z, p.2) := fun b p hp => by
    unfold owArgC at hp
    split at hp
    · rename_i q r hb
      cases e : is.find? fun j => ownerAt ws j == some q with
      | none => rw [e] at hp; cases hp
      | some j =>
        rw [e] at hp
        simp only [Option.map_some, Option.some.injEq] at hp
        subst hp
        have h1 := List.find?_some e
        simp only [beq_iff_eq] at h1
        have hj := List.mem_of_find?_eq_some e
        obtain ⟨y, m, nl, cs, f1, _, f3, _⟩ := hsp j hj
        have : ownerAt ws j = some y := by simp only [ownerAt, f1]
        rw [this] at h1; cases h1
        exact ⟨hj, q, f3, hb⟩
    · cases hp
  have hpass : ∀ b, owArgC ws is ow b ≠ none → ∃ r, owPass zs d ow b = some (d, r) := fun b hb => by
    cases e : owArgC ws is ow b with
    | none => exact absurd e hb
    | some p =>
      obtain ⟨_, z, hz, h⟩ := args b p e
      exact ⟨p.2, by simp only [owPass, h, if_pos hz]⟩
  refine (hc.2 w vs (owArgC ws is ow) (by simp [hlen]) (fun b p hp => ?_) (fun j t v ht hv => ?_)).mono ?_
  · obtain ⟨h1, z, _, h2⟩ := args b p hp
    exact ⟨h1, (hG.base b _ h2).1⟩
  · rw [List.getElem?_map] at ht
    cases e : ws[j]? with
    | none => rw [e] at ht; cases ht
    | some x =>
      rw [e] at ht
      simp only [Option.map_some, Option.some.injEq] at ht
      subst ht
      have hrx := hrep j x v e hv
      refine ⟨fun hj => ?_, fun hj => ?_⟩
      · obtain ⟨y, m, nl, cs, f1, f2, _, _⟩ := hsp j hj
        rw [f1] at e; cases e
        have hoy : ownerAt ws j = some y := by simp only [ownerAt, f1]
        refine ⟨nl, cs, rfl, fun h => absurd h (by omega), ?_⟩
        rcases hrx.2.2.2.2 with h | ⟨hn, b, cap, arr, ty, xs, e, ho, hb, hs, hl, hmx, ht, hx, hdp⟩
        · exact .inl h
        · refine .inr ⟨hn, b, cap, arr, ty, xs, e, arg j hj y hoy b 0 ho, hb, hs, hl, hmx, ht, ?_, fun _ => ?_⟩
          · rcases f2 with rfl | ⟨hm, _⟩
            · exact hx.mono fun b hb => arg j hj y hoy b 1 hb
            · exact hx.scal hm
          · rcases f2 with rfl | ⟨hm, _⟩
            · obtain ⟨d1, d2⟩ := hdp rfl
              exact ⟨d1, fun k b hk => by obtain ⟨q1, q2⟩ := d2 k b hk; exact ⟨arg j hj y hoy b 1 q1, q2⟩⟩
            · exact (scal_deep hm hx).veil
      · have hoz := offJ_get hoff (by simpa using hj) e
        have one : ∀ z ∈ zs, Fz (offY ow z) w x.res v := fun z hz => by
          have : ∃ m nl cs, s.get z = .own m nl cs := by
            rcases hzs z hz with h | ⟨i, hi, ho⟩
            · cases h
            · obtain ⟨y, m, nl, cs, f1, _, _, _⟩ := hsp i hi
              simp only [ownerAt, f1, Option.some.injEq] at ho
              subst ho
              have hil : i < vs.length := by rw [hlen]; exact (List.getElem?_eq_some_iff.1 f1).1
              exact ⟨m, nl, cs, (hrep i _ _ f1 (List.getElem?_eq_getElem hil)).1⟩
          exact RepW.off hG this (fun f cp ts hx => hclo j f cp ts (by rw [e, hx])) (offZ_mem hoz hz) hrx
        have all : ∀ l : List Nat, (∀ z ∈ l, z ∈ zs) → Fz (fun b => ∀ z ∈ l, offY ow z b) w x.res v := by
          intro l
          induction l with
          | nil => intro _; exact Fz.mono (fun _ _ => by simp) (RepW.res hrx)
          | cons z l ih =>
            intro hl
            refine Fz.mono (fun b hb y hy => ?_) (Fz.and (one z (hl z (by simp))) (ih fun y hy => hl y (by simp [hy])))
            rcases List.mem_cons.1 hy with rfl | hy
            · exact hb.1
            · exact hb.2 y hy
        refine Fz.mono (fun b hb => ?_) (all zs fun _ h => h)
        cases e2 : owArgC ws is ow b with
        | none => rfl
        | some p =>
          obtain ⟨_, z, hz, h⟩ := args b p e2
          exact absurd h (hb z hz p.2)
  · rintro e w' ⟨u, rfl, hg, hRg, ow2, hR⟩
    simp only
    rw [hd, put_some]
    have hR' : Gam w.heap.size (fun b => ∃ r, owPass zs d ow b = some (d, r)) (fun _ => none) ow2 R #[u] w' := ⟨fun b p h => ⟨(hR.base b p h).1, (hR.base b p h).2.imp id (hpass b)⟩, hR.low, hR.ent⟩
    obtain ⟨ow', hG2⟩ := Gam.made ((hG.kill d).give (zs := zs) (Free.kill d s)) (Free.kill d s).killL hd1 hsz (hg.mono fun b _ hb => hpass b hb) hRg hR'
    refine N _ _ w' ow' hk (hg.mono fun b hb hne => ?_) hG2 (by simp) rfl
    cases e : owArgC ws is ow b with
    | none => exact absurd e hne
    | some p =>
      obtain ⟨_, z, _, h⟩ := args b p e
      exact (hG.base _ _ h).2
end
end Go.Vc
