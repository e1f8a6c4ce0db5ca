/-
  Own work, laid by a program of the author's: functions that range over an iterator with a list of its own: their conditions give their contract. No condition.
-/
import Derived.Test.YtgdpplhbblapgaaV5
import Derived.RangeFuncOwn
import Derived.Below
set_option linter.unusedSimpArgs false
set_option linter.unusedVariables false
namespace Go.Vc
open Go
def KeepsC (w w' : World) : Prop := w.heap.size ≤ w'.heap.size ∧ ∀ (b : Nat) (o : Obj), w.heap[b]? = some o → o.isCells = true → w'.heap[b]? = some o
theorem KeepsC.refl (w : World) : KeepsC w w := ⟨Nat.le_refl _, fun _ _ h _ => h⟩
theorem KeepsC.trans {a b c : World} (h : KeepsC a b) (k : KeepsC b c) : KeepsC a c := ⟨Nat.le_trans h.1 k.1, fun i o hi ho => k.2 i o (h.2 i o hi ho) ho⟩
theorem KeepsC.alloc (w : World) (o : Obj) : KeepsC w (w.alloc o) := ⟨by simp, fun b o' hb _ => (RowKit.Below.heap_alloc w o b (Array.getElem?_eq_some_iff.1 hb).1).trans hb⟩
theorem KeepsC.putObj {w : World} {l : Nat} {o : Obj} (o' : Obj) (h : w.heap[l]? = some o) (hc : o.isCells = false) : KeepsC w (w.putObj l o') :=
 ⟨by simp, fun b o2 hb h2 => by
  by_cases e : b = l
  ·subst e; rw [h] at hb; cases hb; rw [hc] at h2; cases h2
  ·exact (World.putObj_heap_other e).trans hb⟩
theorem KeepsC.cell {w w' : World} (h : KeepsC w w') {a : Addr} {v : Value} (hv : w.cell? a = some v) : w'.cell? a = some v := by
 obtain ⟨o, ho, hc⟩ := cells_of_cell hv
 rw [World.cell?_of_block ((h.2 _ o ho hc).trans ho.symm)]; exact hv
theorem KeepsC.cells {w w' : World} (h : KeepsC w w') {b : Nat} {arr : Array Value} {ty : TypeId} {sp : Nat × Nat} (hb : w.heap[b]? = some (.cells arr ty sp)) : w'.heap[b]? = some (.cells arr ty sp) := h.2 b _ hb rfl
section
variable {ok ok' : Nat → Prop} {w w' : World}
mutual
theorem Fz.via (h : ∀ b o v, ok b → w.cell? ⟨b, o, none⟩ = some v → ok' b ∧ ∀ o v, w.cell? ⟨b, o, none⟩ = some v → w'.cell? ⟨b, o, none⟩ = some v) : ∀ (t : T) (v : Value), Fz ok w t v → Fz ok' w' t v
 | .any, _, _ => by simp [Fz]
 | .i n, v, hv => by simpa [Fz] using hv
 | .b x, v, hv => by simpa [Fz] using hv
 | .s nl cs, v, hv => by
  simp only [Fz] at hv ⊢
  rcases hv with h0 | ⟨h1, b, o, sp, cap, xs, e, l1, l2, hb, hx, hc⟩
  ·exact .inl h0
  ·refine .inr ⟨h1, b, o, sp, cap, xs, e, l1, l2, ?_, FzL.via h cs xs hx, ?_⟩
   ·intro hne
    cases cs with
    | nil => exact absurd rfl hne
    | cons t ts =>
     simp only [FzL] at hx
     obtain ⟨x, ys, rfl, _⟩ := hx
     exact ⟨(h b _ _ (hb hne).1 (hc 0 x (by simp))).1, (hb hne).2⟩
   ·intro k x hk
    have hck := hc k x hk
    cases cs with
    | nil => simp only [FzL] at hx; subst hx; simp at hk
    | cons t ts => exact (h b _ _ (hb (by simp)).1 hck).2 _ _ hck
 | .q cs k, v, hv => by
  simp only [Fz] at hv ⊢
  obtain ⟨b, o, xs, e, hb, hx, hc⟩ := hv
  refine ⟨b, o, xs, e, ?_, FzL.via h cs xs hx, ?_⟩
  ·intro hne
   cases cs with
   | nil => exact absurd rfl hne
   | cons t ts =>
    simp only [FzL] at hx
    obtain ⟨x, ys, rfl, _⟩ := hx
    exact (h b _ _ (hb hne) (hc 0 x (by simp))).1
  ·intro k' x hk
   have hck := hc k' x hk
   cases cs with
   | nil => simp only [FzL] at hx; subst hx; simp at hk
   | cons t ts => exact (h b _ _ (hb (by simp)) hck).2 _ _ hck
 | .c f cs, v, hv => by
  simp only [Fz] at hv ⊢
  obtain ⟨xs, e, hx⟩ := hv
  exact ⟨xs, e, FzL.via h cs xs hx⟩
 | .a fs, v, hv => by
  simp only [Fz] at hv ⊢
  obtain ⟨xs, e, hx⟩ := hv
  exact ⟨xs, e, FzL.via h fs xs hx⟩
 | .u vs, v, hv => by
  simp only [Fz] at hv ⊢
  obtain ⟨xs, e, hx⟩ := hv
  exact ⟨xs, e, FzL.via h vs xs hx⟩
 | .w _ _, v, hv => by simpa [Fz] using hv
 | .xv u t, v, hv => by
  simp only [Fz] at hv ⊢
  exact ⟨hv.1, Fz.via h t v hv.2⟩
theorem FzL.via (h : ∀ b o v, ok b → w.cell? ⟨b, o, none⟩ = some v → ok' b ∧ ∀ o v, w.cell? ⟨b, o, none⟩ = some v → w'.cell? ⟨b, o, none⟩ = some v) : ∀ (ts : List T) (xs : List Value), FzL ok w ts xs → FzL ok' w' ts xs
 | [], xs, hx => by simpa [FzL] using hx
 | t :: ts, xs, hx => by
  simp only [FzL] at hx ⊢
  obtain ⟨x, ys, e, h1, h2⟩ := hx
  exact ⟨x, ys, e, Fz.via h t x h1, FzL.via h ts ys h2⟩
end
end
def T.scalB : T → Bool
 | .i _ => true
 | .b _ => true
 | .any => true
 | _ => false
def V.noFr : V → Bool
 | .t .fr r => r.scalB
 | .own m _ cs => m % 10 == 1 || cs.all T.scalB
 | .clo _ caps => caps.all fun | .t .fr _ => false | _ => true
 | _ => true
def St.noFr (s : St) : Bool := s.all fun p => p.2.noFr
theorem Fz.scalB {ok ok' : Nat → Prop} {w w' : World} {t : T} {v : Value} (ht : t.scalB = true) (h : Fz ok w t v) : Fz ok' w' t v := by
 cases t <;> simp [T.scalB] at ht <;> simp only [Fz] at h ⊢ <;> exact h
theorem FzL.scalB {ok ok' : Nat → Prop} {w w' : World} : ∀ {ts : List T} {xs : List Value}, ts.all T.scalB = true → FzL ok w ts xs → FzL ok' w' ts xs
 | [], _, _, h => by simpa [FzL] using h
 | t :: ts, xs, hs, h => by
  simp only [List.all_cons, Bool.and_eq_true] at hs
  simp only [FzL] at h ⊢
  obtain ⟨x, ys, e, h1, h2⟩ := h
  exact ⟨x, ys, e, h1.scalB hs.1, FzL.scalB hs.2 h2⟩
theorem noFr_get {s : St} (h : s.noFr = true) (y : Nat) : (s.get y).noFr = true := by
 induction s with
 | nil => simp [St.get, V.noFr, T.scalB]
 | cons p s ih =>
  simp only [St.noFr, List.all_cons, Bool.and_eq_true] at h
  by_cases e : y = p.1
  ·subst e; rw [get_top]; exact h.1
  ·rw [get_top_ne e]; exact ih h.2
section
variable {lo lo' : Nat} {X X' : Nat → Prop} {par par' : Nat → Option Value} {ow ow' : Ow} {tm tm' : Array Value} {w w' : World} {s s' : St}
theorem okG_lo {g : G} {b : Nat} (hl : lo' ≤ lo) (h : okG lo ow g b) : okG lo' ow g b := by
 cases g <;> simp only [okG] at h ⊢ <;> first | exact h | exact ⟨h.1, Nat.le_trans hl h.2⟩
theorem okG_nf {g : G} {b : Nat} (hg : g ≠ .fr) (h : okG lo ow g b) : okG lo' ow g b := by
 cases g <;> first | exact absurd rfl hg | exact h
theorem nmv_keep (hk : KeepsC w w') {y : Nat} {u : Value} (h : nmv tm w y = some u) : nmv tm w' y = some u := by
 unfold nmv at h ⊢
 split
 ·rename_i h1; rwa [if_pos h1] at h
 ·rename_i h1
  rw [if_neg h1] at h
  split
  ·rename_i a ha
   rw [ha] at h
   simp only at h
   split
   ·rename_i h2; rw [if_pos h2] at h; exact hk.cell h
   ·rename_i h2; rw [if_neg h2] at h; cases h
  ·rename_i vs ha; rw [ha] at h; exact h
  ·rename_i vs ha; rw [ha] at h; exact h
  ·rename_i h2 h3 h4
   split at h
   ·rename_i a ha; exact absurd ha (h2 a)
   ·rename_i vs ha; exact absurd ha (h3 vs)
   ·rename_i vs ha; exact absurd ha (h4 vs)
   ·cases h
theorem OwnAt.re {y m : Nat} {nl : Option Bool} {cs : List T} {u : Value} (hl : lo' ≤ lo ∨ V.noFr (.own m nl cs) = true) (hp : 10 ≤ m → par y = some u → par' y = some u) (hk : KeepsC w w') (h : OwnAt lo par ow w y m nl cs u) : OwnAt lo' par' ow w' y m nl cs u := by
 obtain ⟨h1, h2⟩ := h
 refine ⟨fun hm => hp hm (h1 hm), ?_⟩
 rcases h2 with h2 | ⟨hn, b, cap, arr, ty, xs, e, ho, hb, hs, hle, hm, ht, hx, hd⟩
 ·exact .inl h2
 ·refine .inr ⟨hn, b, cap, arr, ty, xs, e, ho, hk.cells hb, hs, hle, hm, ht, ?_, fun hm1 => ?_⟩
  ·rcases hl with hl | hl
   ·exact FzL.via (fun b o v h1 h2 => ⟨okG_lo hl h1, fun o v h => hk.cell h⟩) cs xs hx
   ·simp only [V.noFr, Bool.or_eq_true, beq_iff_eq] at hl
    rcases hl with hl | hl
    ·exact FzL.via (fun b o v h1 h2 => ⟨okG_nf (by simp [tagM, hl]) h1, fun o v h => hk.cell h⟩) cs xs hx
    ·exact FzL.scalB hl hx
  ·obtain ⟨d1, d2⟩ := hd hm1
   refine ⟨d1, fun i b' hi => ?_⟩
   obtain ⟨e1, arr', ty', len', e2, e3⟩ := d2 i b' hi
   exact ⟨e1, arr', ty', len', hk.cells e2, e3⟩
theorem Rep.re {y : Nat} {V : V} {u : Value} (hl : lo' ≤ lo ∨ V.noFr = true) (hp : ∀ m nl cs, V = .own m nl cs → 10 ≤ m → par y = some u → par' y = some u) (hk : KeepsC w w') (h : Rep lo par ow tm w s y V u) : Rep lo' par' ow tm w' s y V u := by
 have hnm : ∀ {z : Nat} {v : Value}, nmv tm w z = some v → nmv tm w' z = some v := fun h => nmv_keep hk h
 cases V with
 | t g t =>
  rcases hl with hl | hl
  ·exact Fz.via (fun b o v h1 h2 => ⟨okG_lo hl h1, fun o v h => hk.cell h⟩) t u h
  ·by_cases hg : g = .fr
   ·subst hg; exact Fz.scalB hl h
   ·exact Fz.via (fun b o v h1 h2 => ⟨okG_nf hg h1, fun o v h => hk.cell h⟩) t u h
 | own m nl cs => exact OwnAt.re hl (hp m nl cs rfl) hk h
 | bx k => obtain ⟨h0, b, arr, ty, e, ho, hb, hs⟩ := h; exact ⟨h0, b, arr, ty, e, ho, hk.cells hb, hs⟩
 | tp k => exact h
 | ag k => exact h
 | al z => exact fun hz => hnm (h hz)
 | pc z => exact fun hz => let ⟨b, h1, h2⟩ := h hz; ⟨b, hnm h1, h2⟩
 | pe z j => exact fun hz => let ⟨b, len, cap, h1, h2⟩ := h hz; ⟨b, len, cap, hnm h1, h2⟩
 | er z j => exact fun hz => let ⟨b, len, cap, h1, h2, h3⟩ := h hz; ⟨b, len, cap, hnm h1, okG_nf (by simp) h2, h3.imp fun _ _ _ h => hk.cell h⟩
 | sl z l h' => exact fun hz => let ⟨a0, len, cap, h1, h2⟩ := h hz; ⟨a0, len, cap, hnm h1, h2⟩
 | bv z =>
  obtain ⟨h0, h⟩ := h
  exact ⟨h0, fun hz => let ⟨b, arr, ty, h1, h2, h3, h4⟩ := h hz; ⟨b, arr, ty, hnm h1, okG_nf (by simp) h2, hk.cells h3, h4⟩⟩
 | clo f caps =>
  obtain ⟨xs, e, hlen, h⟩ := h
  refine ⟨xs, e, hlen, fun i cp x hi hx => ?_⟩
  have h' := h i cp x hi hx
  cases cp with
  | t g t =>
   rcases hl with hl | hl
   ·exact Fz.via (fun b o v h1 h2 => ⟨okG_lo hl h1, fun o v h => hk.cell h⟩) t x h'
   ·by_cases hg : g = .fr
    ·subst hg
     have := List.all_eq_true.1 hl _ (List.mem_of_getElem? hi)
     cases this
    ·exact Fz.via (fun b o v h1 h2 => ⟨okG_nf hg h1, fun o v h => hk.cell h⟩) t x h'
  | p z => exact fun hz => let ⟨b, h1, h2⟩ := h' hz; ⟨b, hnm h1, h2⟩
 | fo z k nl cs =>
  obtain ⟨hsc, u0, hu0, h⟩ := h
  refine ⟨hsc, u0, hu0.move, ?_⟩
  rcases h with h | ⟨hn, b, arr, ty, xs, e, ho, hb, hl, hmx, ht, hx⟩
  ·exact .inl h
  ·exact .inr ⟨hn, b, arr, ty, xs, e, ho, hk.cells hb, hl, hmx, ht, hx.scal hsc⟩
theorem Gam.re (h : Gam lo X par ow s tm w) (hl : lo' ≤ lo ∨ s.noFr = true) (hlow : lo' ≤ w'.heap.size) (hX : ∀ b p, ow b = some p → b < w.heap.size → lo ≤ b ∨ X b → lo' ≤ b ∨ X' b)
  (hp : ∀ y m nl cs u, s.get y = .own m nl cs → 10 ≤ m → par y = some u → par' y = some u) (hk : KeepsC w w') : Gam lo' X' par' ow s tm w' := by
 refine ⟨fun b p hb => ?_, hlow, fun y hy hn => ?_⟩
 ·obtain ⟨h1, h2⟩ := h.base b p hb
  exact ⟨Nat.lt_of_lt_of_le h1 hk.1, hX b p hb h1 h2⟩
 ·obtain ⟨u, e, hr⟩ := h.ent y hy hn
  refine ⟨u, nmv_keep hk e, Rep.re (hl.imp id fun h => noFr_get h y) (fun m nl cs e hm hu => hp y m nl cs u e hm hu) hk hr⟩
theorem Gam.tms (h : Gam lo X par ow s tm w) (hD : ∀ y, (s.get y).isAny = false → tm'.getD (y % 1000) undef = tm.getD (y % 1000) undef) : Gam lo X par ow s tm' w := by
 have agr : ∀ y, (s.get y).isAny = false → nmv tm' w y = nmv tm w y := by
  intro y hy
  have e := hD y hy
  unfold nmv
  by_cases h1 : y < 1000
  ·rw [if_pos h1, if_pos h1]
   rw [Nat.mod_eq_of_lt h1] at e; rw [e]
  ·rw [if_neg h1, if_neg h1, e]
 refine Gam.step (M := fun _ => True) (MG := fun _ => True) (I := fun y => (s.get y).isAny = false) h h.base (Nat.le_refl _) (fun y hl hn => .inr ⟨hn, rfl, hl, V.ment_true _⟩) (fun y hy u hu => (agr y hy).trans hu) (fun _ _ _ _ _ h => ⟨h, rfl⟩) ⟨trivial, trivial⟩
  (fun z _ hz => ⟨hz, fun u hu => ?_⟩) (fun _ _ h => h) (fun x _ _ hz => ⟨hz, fun u hu => ?_⟩) (fun _ _ _ _ h => ⟨h, rfl⟩)
 ·refine (agr z ?_).trans hu
  rw [okAl_iff] at hz
  rcases hz with ⟨⟨m, nl, cs, e⟩, _⟩ | ⟨⟨k, e⟩, _⟩ <;> rw [e] <;> rfl
 ·refine (agr x ?_).trans hu
  rw [okPc_iff] at hz
  obtain ⟨k, e⟩ := hz
  rw [e]; rfl
end
end Go.Vc
namespace Go.Vc
open Go
def LB (w : World) (bL cap : Nat) (cs : List T) : Prop := ∃ arr ty, w.heap[bL]? = some (.cells arr ty (0, 0)) ∧ arr.size = cap ∧ cs.length ≤ cap ∧ cap ≤ maxLen ∧ FzL (fun _ => False) w cs (arr.toList.take cs.length)
def uL (bL len cap : Nat) : Value := .slice (some ⟨bL, 0, none⟩) len cap
def parT (t : Nat) (u : Value) : Nat → Option Value := fun z => if z = t then some u else none
def recL (fn : FuncId) (tmps : Array Value) (ps : Array Tmp) (assign body : Code) (D : Nat) (st : LoopState) (pe : Option Code) : Loop := { state := st, pending := pe, fn, tmps, params := ps, assign, body, defers := D }
def St.off (t : Nat) (S : St) : Bool := S.all fun p => !(hangs t p.1) && !(p.2.on t)
theorem off_get {t : Nat} {S : St} (h : S.off t = true) (y : Nat) (hn : (S.get y).isAny = false) : hangs t y = false ∧ (S.get y).on t = false := by
 induction S with
 | nil => simp [St.get, V.isAny] at hn
 | cons p S ih =>
  simp only [St.off, List.all_cons, Bool.and_eq_true, Bool.not_eq_true'] at h
  by_cases e : y = p.1
  ·subst e; rw [get_top]; exact ⟨h.1.1, h.1.2⟩
  ·rw [get_top_ne e] at hn ⊢; exact ih h.2 hn
section
variable {lo : Nat} {X : Nat → Prop} {par : Nat → Option Value} {ow : Ow} {tm : Array Value} {w w' w0 : World} {s S S' : St} {y m : Nat} {nl : Option Bool} {cs cs' : List T} {u : Value} {bL cap len t l D : Nat} {tmr tm0 : Array Value} {fn : FuncId} {ps : Array Tmp} {assign body : Code}
theorem own_LB (hsc : scalL cs) (hne : cs ≠ []) (h : OwnAt lo par ow w y m nl cs u) : ∃ bL cap, u = uL bL cs.length cap ∧ ow bL = some (y, 0) ∧ LB w bL cap cs := by
 rcases h.2 with h | ⟨_, b, cap, arr, ty, xs, e, ho, hb, hs, hl, hm, ht, hx, _⟩
 ·exact absurd h.2.1 hne
 ·exact ⟨b, cap, e, ho, arr, ty, hb, hs, hl, hm, by rw [ht]; exact hx.scal hsc⟩
theorem LB_own (hsc : scalL cs) (hl : cs.length = len) (hb : ow bL = some (y, 0)) (hp : 10 ≤ m → par y = some (uL bL len cap)) (h : LB w bL cap cs) : OwnAt lo par ow w y m none cs (uL bL len cap) := by
 obtain ⟨arr, ty, h1, h2, h3, h4, h5⟩ := h
 exact ⟨hp, .inr ⟨by simp, bL, cap, arr, ty, _, by rw [hl]; rfl, hb, h1, h2, h3, h4, rfl, h5.scal hsc, fun _ => (scal_deep hsc h5).veil⟩⟩
theorem LB.keep (hsc : scalL cs) (hk : w'.heap[bL]? = w.heap[bL]?) (h : LB w bL cap cs) : LB w' bL cap cs := by
 obtain ⟨arr, ty, h1, h2, h3, h4, h5⟩ := h
 exact ⟨arr, ty, hk.trans h1, h2, h3, h4, h5.scal hsc⟩
theorem Grow.comp (h : Grow (fun _ => False) w0 w) (k : Grow X w w') (hX : ∀ b, b < w0.heap.size → ¬ X b) : Grow (fun _ => False) w0 w' :=
 ⟨k.os.trans h.os, k.tape.trans h.tape, k.output.trans h.output, Nat.le_trans h.size k.size, fun b hb _ => (k.block b (Nat.lt_of_lt_of_le hb h.size) (hX b hb)).trans (h.block b hb id)⟩
theorem Grow.putObj (w : World) (l : Nat) (o : Obj) : Grow (fun b => b = l) w (w.putObj l o) := ⟨rfl, rfl, rfl, by simp, fun b _ hb => World.putObj_heap_other hb⟩
structure JJ (w0 : World) (t : Nat) (tmr : Array Value) (bL cap len l D : Nat) (fn : FuncId) (tm0 : Array Value) (ps : Array Tmp) (assign body : Code) (S : St) (cs : List T) (W : World) : Prop where
 gam : ∃ ow, Gam w0.heap.size (fun _ => False) (parT t (uL bL len cap)) ow ((t, .own 11 none cs) :: S) tmr W ∧ ow l = none ∧ ow D = none
 grow : Grow (fun _ => False) w0 W
 low : w0.heap.size ≤ l
 rcd : W.heap[l]? = some (.loop (recL fn tm0 ps assign body D .ready none))
 dfr : W.heap[D]? = some (.deferred (some []))
theorem top_own (hsc : scalL cs) (hne : cs ≠ []) (ht : t < 1000) (hG : Gam lo X (parT t (uL bL len cap)) ow s tm w) (hs : s.get t = .own 11 none cs) : ow bL = some (t, 0) ∧ LB w bL cap cs ∧ tm.getD t undef = uL bL len cap ∧ cs.length = len := by
 obtain ⟨u, e, hr⟩ := hG.ent t (lv_iff.2 (.inl ht)) (by rw [hs]; rfl)
 rw [hs] at hr
 have hp : parT t (uL bL len cap) t = some u := hr.1 (by omega)
 unfold parT at hp
 rw [if_pos rfl] at hp
 cases hp
 obtain ⟨b, c, e1, e2, e3⟩ := own_LB hsc hne hr
 unfold uL at e1
 cases e1
 rw [nmv_slot ht] at e
 exact ⟨e2, e3, Option.some.inj e, rfl⟩
theorem JJ.upd (hsc : scalL cs) (hne : cs ≠ []) (hsc' : scalL cs') (hlen' : cs'.length = len) (ht : t < 1000) (hoff : S.off t = true) (h : JJ w0 t tmr bL cap len l D fn tm0 ps assign body S cs w) (hg : Grow (fun b => b = bL) w w') (hlb : LB w' bL cap cs') :
  JJ w0 t tmr bL cap len l D fn tm0 ps assign body S cs' w' := by
 obtain ⟨⟨ow, hG, hl, hD⟩, hgr, hlw, hrec, hdf⟩ := h
 obtain ⟨hbL, hlb0, htm, _⟩ := top_own hsc hne ht hG (get_top ..)
 have hlbL : l ≠ bL := fun e => by rw [e, hbL] at hl; cases hl
 have hDbL : D ≠ bL := fun e => by rw [e, hbL] at hD; cases hD
 have hlt : ∀ {k : Nat} {o : Obj}, w.heap[k]? = some o → k < w.heap.size := fun h => (Array.getElem?_eq_some_iff.1 h).1
 have hbase := hG.base bL _ hbL
 refine ⟨⟨ow, ?_, hl, hD⟩, hgr.comp hg fun b hb e => ?_, hlw, (hg.block l (hlt hrec) hlbL).trans hrec, (hg.block D (hlt hdf) hDbL).trans hdf⟩
 ·have hh : ∀ z, ¬ Hg [t] z → hangs t z = false := fun z hz => by rw [← Bool.not_eq_true]; exact fun h => hz ⟨t, by simp, h⟩
  have hzt : ∀ {z}, hangs t z = false → z ≠ t := fun h e => by rw [e, hangs_self] at h; cases h
  have Kp : Keeps w0.heap.size [t] ow ow tmr tmr w w' ((t, .own 11 none cs) :: S) ((t, .own 11 none cs') :: S) := by
   refine ⟨hg.size, fun y hy => ?_, fun y hy hlv u hu => ?_, fun y hy b hb r hob => ⟨hob, hg.block b hb fun e => ?_⟩, fun g hgo b hb hok => ⟨hok, hg.block b hb fun e => ?_⟩⟩
   ·have h1 := hzt (hh y hy)
    rw [get_top_ne h1, get_top_ne h1]
    cases hn : (S.get y).isAny with
    | true => exact .inl rfl
    | false => exact .inr (.inl ⟨rfl, fun x hx => by simp at hx; subst hx; exact (off_get hoff y hn).2⟩)
   ·by_cases hy1 : y < 1000
    ·rw [nmv_slot hy1] at hu ⊢; exact hu
    ·have hm : y % 1000 ≠ t := fun e => hy ⟨t, by simp, by rw [hangs_iff]; exact .inr ⟨ht, e⟩⟩
     have hc := (lv_iff.1 hlv).resolve_left hy1
     have hlvm : St.lv ((t, V.own 11 none cs) :: S) (y % 1000) = true := lv_iff.2 (.inl (Nat.mod_lt _ (by omega)))
     cases hv : St.get ((t, V.own 11 none cs) :: S) (y % 1000) with
     | bx k =>
      obtain ⟨v, e, hr⟩ := hG.ent (y % 1000) hlvm (by rw [hv]; rfl)
      rw [hv] at hr
      obtain ⟨_, b, arr, ty, rfl, hob, hb, hs⟩ := hr
      rw [nmv_slot (Nat.mod_lt _ (by omega))] at e
      have e := Option.some.inj e
      unfold nmv at hu ⊢
      rw [if_neg hy1, e] at hu
      rw [if_neg hy1, e]
      simp only at hu ⊢
      split at hu
      ·rename_i h90
       rw [if_pos h90, World.cell?_of_block (hg.block b (hlt hb) fun e => by rw [e, hbL] at hob; cases hob; exact hm rfl)]
       exact hu
      ·cases hu
     | tp k =>
      obtain ⟨v, e, hr⟩ := hG.ent (y % 1000) hlvm (by rw [hv]; rfl)
      rw [hv] at hr
      obtain ⟨_, xs, rfl, _⟩ := hr
      rw [nmv_slot (Nat.mod_lt _ (by omega))] at e
      have e := Option.some.inj e
      unfold nmv at hu ⊢
      rw [if_neg hy1, e] at hu ⊢
      exact hu
     | ag k =>
      obtain ⟨v, e, hr⟩ := hG.ent (y % 1000) hlvm (by rw [hv]; rfl)
      rw [hv] at hr
      obtain ⟨_, xs, rfl, _⟩ := hr
      rw [nmv_slot (Nat.mod_lt _ (by omega))] at e
      have e := Option.some.inj e
      unfold nmv at hu ⊢
      rw [if_neg hy1, e] at hu ⊢
      exact hu
     | _ => rw [hv] at hc; cases hc
   ·subst e; rw [hbL] at hob; cases hob; exact absurd rfl (hzt (hh _ hy))
   ·subst e
    have hgt := hgo t (by simp)
    cases g <;> simp only [okG, hbL] at hok
    ·cases hok
    ·cases hok.1
    ·cases hok
    ·rcases hok with h | h | h <;> cases h
     simp only [G.on, hangs_self] at hgt; cases hgt
  refine Gam.next hG Kp (fun b p hb => ⟨Nat.lt_of_lt_of_le (hG.base b p hb).1 hg.size, (hG.base b p hb).2⟩) fun z hz hlz hn => ?_
  obtain ⟨x, hx, hhx⟩ := hz
  simp at hx; subst hx
  by_cases hzx : z = x
  ·subst hzx
   refine ⟨uL bL len cap, by rw [nmv_slot ht, htm], ?_⟩
   rw [get_top]
   exact LB_own hsc' hlen' hbL (fun _ => by simp [parT]) hlb
  ·exfalso
   rw [get_top_ne hzx] at hn
   have := (off_get hoff z hn).1
   rw [hhx] at this; cases this
 ·subst e
  rcases hbase.2 with h | h
  ·omega
  ·exact h
theorem JJ.look (ht : t < 1000) (hsc : scalL cs) (hne : cs ≠ []) {g : Nat} {r : T} (hg : g < 1000) (hgt : g ≠ t) (hS : S.get g = .t .arg r) (hr : r ≠ .any) (h : JJ w0 t tmr bL cap len l D fn tm0 ps assign body S cs w) : Fz (fun b => b ≠ bL) w r (tmr.getD g undef) := by
 obtain ⟨⟨ow, hG, hl, hD⟩, _⟩ := h
 obtain ⟨hbL, _⟩ := top_own hsc hne ht hG (get_top ..)
 obtain ⟨u, e, hr⟩ := hG.ent g (lv_iff.2 (.inl hg)) (by rw [get_top_ne hgt, hS]; cases r <;> first | rfl | exact absurd rfl hr)
 rw [get_top_ne hgt, hS] at hr
 rw [nmv_slot hg] at e
 rw [Option.some.inj e]
 exact Fz.mono (fun b hb e => by subst e; rw [show ow b = none from hb] at hbL; cases hbL) hr
end
section
variable {P : Program} {nn N : Nat} {w0 W : World} {t bL cap len l D : Nat} {tmr tm0 : Array Value} {fn : FuncId} {ps : Array Tmp} {assign body : Code} {S S' : St} {cs : List T} {Dd : Nat → Bool}
theorem JJ.round {ca cb : C} (hmo : P.follows .mixedOrders = true) (hca : chk P N false ca assign = true) (hcb : chk P N false cb body = true) (hda : dstB Dd assign = true) (hdb : dstB Dd body = true) (hN : tmr.size = N) (ht : t < 1000)
  (hsc : scalL cs) (hne : cs ≠ []) (hS : S.noFr = true) (hD : ∀ y, (St.get ((t, .own 11 none cs) :: S') y).isAny = false → Dd (y % 1000) = true)
  (hw : wpC P ca (fun e s1 => e = .n ∧ s1.noFr = true ∧ wpC P cb (fun e s2 => e = .n ∧ s2.le ((t, .own 11 none cs) :: S')) s1) ((t, .own 11 none cs) :: S))
  (h : JJ w0 t tmr bL cap len l D fn tm0 ps assign body S cs W) :
  RoundIn (fw none) nn P l fn tmr assign body W (fun e W' => e = .returned (.bool true) ∧ JJ w0 t tmr bL cap len l D fn tm0 ps assign body S' cs W') := by
 obtain ⟨⟨ow, hG, hl, hDn⟩, hgr, hlw, hrec, hdf⟩ := h
 have hpar : ∀ z, 1000 ≤ z → parT t (uL bL len cap) z = none := fun z hz => by unfold parT; rw [if_neg (by omega)]
 have hlt : ∀ {w : World} {k : Nat} {o : Obj}, w.heap[k]? = some o → k < w.heap.size := fun h => (Array.getElem?_eq_some_iff.1 h).1
 have hlD : l ≠ D := fun e => by rw [e, hdf] at hrec; cases hrec
 have hlo : w0.heap.size ≤ W.heap.size := hgr.size
 refine roundIn_of_wpIn trivial ?_
 have hO : OkS (fun b => ow b ≠ none) (parT t (uL bL len cap)) N W { tmps := tmr, defers := [] } W ((t, .own 11 none cs) :: S) := by
  refine ⟨⟨ow, Gam.re hG (.inr ?_) (Nat.le_refl _) (fun b p hb _ _ => .inr (by rw [hb]; simp)) (fun _ _ _ _ _ _ _ h => h) (KeepsC.refl W)⟩, hN, rfl, Grow.refl _ _⟩
  simp only [St.noFr, List.all_cons, Bool.and_eq_true]
  exact ⟨by simp [V.noFr], hS⟩
 have := wpC_in (ro := some l) (nn := nn) (ds := []) (D := Dd) (a0 := { tmps := tmr, defers := [] }) hmo hpar (fun h => by cases h) ca assign _
  (Exit.then (fun a₁ w₁ => ∃ w₂, (Instr.beginRound l).run P w₁ = .ok () w₂ ∧ body.wpIn (fw (some l)) nn P (roundPost P l (fun e W' => e = .returned (.bool true) ∧ JJ w0 t tmr bL cap len l D fn tm0 ps assign body S' cs W')) a₁ w₂) (fun _ _ _ => False))
  { tmps := tmr, defers := [] } W _ hca hda hO (Agree.refl _) hw ?_
 ·exact this
 ·rintro e s1 a1 w1 ⟨rfl, hnf, hk⟩ hO1 hA1
  obtain ⟨ow1, hG1⟩ := hO1.gam
  have hrec1 : w1.heap[l]? = some (.loop (recL fn tm0 ps assign body D .ready none)) := (hO1.grow.block l (hlt hrec) (by rw [hl]; simp)).trans hrec
  have hdf1 : w1.heap[D]? = some (.deferred (some [])) := (hO1.grow.block D (hlt hdf) (by rw [hDn]; simp)).trans hdf
  have hb1 : ∀ {b p}, ow1 b = some p → W.heap.size ≤ b ∨ ow b ≠ none := fun h => (hG1.base _ _ h).2
  have hl1 : ow1 l = none := by
   cases e : ow1 l with
   | none => rfl
   | some p =>
    rcases hb1 e with h | h
    ·have := hlt hrec; omega
    ·exact absurd hl h
  have hD1 : ow1 D = none := by
   cases e : ow1 D with
   | none => rfl
   | some p =>
    rcases hb1 e with h | h
    ·have := hlt hdf; omega
    ·exact absurd hDn h
  refine ⟨_, run_beginRound hrec1 rfl, ?_⟩
  generalize hw2 : w1.putObj l (.loop { recL fn tm0 ps assign body D .ready none with state := .busy }) = w2
  have kc12 : KeepsC w1 w2 := by rw [← hw2]; exact KeepsC.putObj _ hrec1 rfl
  have g12 : Grow (fun b => b = l) w1 w2 := by rw [← hw2]; exact Grow.putObj _ _ _
  have hrec2 : w2.heap[l]? = some (.loop (recL fn tm0 ps assign body D .busy none)) := by rw [← hw2]; exact World.putObj_heap_same (hlt hrec1)
  have hdf2 : w2.heap[D]? = some (.deferred (some [])) := (g12.block D (hlt hdf1) (Ne.symm hlD)).trans hdf1
  have hO2 : OkS (fun b => ow1 b ≠ none) (parT t (uL bL len cap)) N w2 a1 w2 s1 :=
   ⟨⟨ow1, Gam.re hG1 (.inr hnf) (Nat.le_refl _) (fun b p hb _ _ => .inr (by rw [hb]; simp)) (fun _ _ _ _ _ _ _ h => h) kc12⟩, hO1.size, hO1.df, Grow.refl _ _⟩
  refine wpC_in (ro := some l) (nn := nn) (ds := []) (D := Dd) (a0 := { tmps := tmr, defers := [] }) hmo hpar (fun h => by cases h) cb body _ _ a1 w2 s1 hcb hdb hO2 hA1 hk ?_
  rintro e s3 a3 w3 ⟨rfl, hle⟩ hO3 hA3
  have hO3 := hO3.le hle
  obtain ⟨ow3, hG3⟩ := hO3.gam
  have hrec3 : w3.heap[l]? = some (.loop (recL fn tm0 ps assign body D .busy none)) := (hO3.grow.block l (hlt hrec2) (by rw [hl1]; simp)).trans hrec2
  have hdf3 : w3.heap[D]? = some (.deferred (some [])) := (hO3.grow.block D (hlt hdf2) (by rw [hD1]; simp)).trans hdf2
  have hb3 : ∀ {b p}, ow3 b = some p → w2.heap.size ≤ b ∨ ow1 b ≠ none := fun h => (hG3.base _ _ h).2
  have hl3 : ow3 l = none := by
   cases e : ow3 l with
   | none => rfl
   | some p =>
    rcases hb3 e with h | h
    ·have := hlt hrec2; omega
    ·exact absurd hl1 h
  have hD3 : ow3 D = none := by
   cases e : ow3 D with
   | none => rfl
   | some p =>
    rcases hb3 e with h | h
    ·have := hlt hdf2; omega
    ·exact absurd hD1 h
  refine ⟨_, _, run_endRound none hrec3, rfl, ?_⟩
  generalize hw4 : w3.putObj l (.loop { recL fn tm0 ps assign body D .busy none with state := if (none : Option Code).isNone then .ready else .done, pending := none }) = w4
  have kc34 : KeepsC w3 w4 := by rw [← hw4]; exact KeepsC.putObj _ hrec3 rfl
  have g34 : Grow (fun b => b = l) w3 w4 := by rw [← hw4]; exact Grow.putObj _ _ _
  have low : ∀ {b p}, ow b = some p → w0.heap.size ≤ b := fun h => (hG.base _ _ h).2.resolve_right id
  have low1 : ∀ {b p}, ow1 b = some p → w0.heap.size ≤ b := fun h => by
   rcases hb1 h with h | h
   ·omega
   ·obtain ⟨p, hp⟩ := Option.ne_none_iff_exists'.1 h; exact low hp
  have sz1 : W.heap.size ≤ w1.heap.size := hO1.grow.size
  have sz2 : w1.heap.size ≤ w2.heap.size := g12.size
  have sz3 : w2.heap.size ≤ w3.heap.size := hO3.grow.size
  have sz4 : w3.heap.size ≤ w4.heap.size := g34.size
  refine ⟨⟨ow3, ?_, hl3, hD3⟩, ?_, hlw, by rw [← hw4]; exact World.putObj_heap_same (hlt hrec3), (g34.block D (hlt hdf3) (Ne.symm hlD)).trans hdf3⟩
  ·have hG4 : Gam w0.heap.size (fun _ => False) (parT t (uL bL len cap)) ow3 ((t, .own 11 none cs) :: S') a3.tmps w4 :=
    Gam.re hG3 (.inl (by omega)) (by omega) (fun b p hb _ h => .inl (by
     rcases h with h | h
     ·omega
     ·obtain ⟨p, hp⟩ := Option.ne_none_iff_exists'.1 h; exact low1 hp)) (fun _ _ _ _ _ _ _ h => h) kc34
   exact hG4.tms fun y hy => (hA3 (y % 1000) (hD y hy)).symm
  ·refine (((hgr.comp hO1.grow fun b hb h => ?_).comp g12 fun b hb e => by omega).comp hO3.grow fun b hb h => ?_).comp g34 fun b hb e => by omega
   ·obtain ⟨p, hp⟩ := Option.ne_none_iff_exists'.1 h; have := low hp; omega
   ·obtain ⟨p, hp⟩ := Option.ne_none_iff_exists'.1 h; have := low1 hp; omega
end
end Go.Vc
namespace Go.Vc
open Go
section
variable {P : Program} {nn N : Nat} {Q : Exit → Act → World → Prop} {F : Fence}
theorem wpIn_loop_ix {ι : Type} {c : Code} {a : Act} {w : World} (O : ι → Act → World → Prop) (μ : ι → Nat) (h0 : ∃ i, O i a w)
  (round : ∀ i a w, O i a w → c.wpIn F nn P (Exit.then (fun a' w' => ∃ i', μ i' < μ i ∧ O i' a' w') Q) a w) : (Code.loop c).wpIn F nn P Q a w := by
 let J : Act → World → Nat → Prop := fun a w n => ∃ i, μ i = n ∧ O i a w
 have least : ∀ a w, (∃ i, O i a w) → ∃ n, J a w n ∧ ∀ m, J a w m → n ≤ m := by
  rintro a w ⟨i, hi⟩
  have : ∀ n, (∃ k, k ≤ n ∧ J a w k) → ∃ n, J a w n ∧ ∀ m, J a w m → n ≤ m := by
   intro n
   induction n with
   | zero => rintro ⟨k, hk, hJ⟩; exact ⟨k, hJ, fun m _ => by omega⟩
   | succ n ihn =>
    rintro ⟨k, hk, hJ⟩
    by_cases h : ∃ k, k ≤ n ∧ J a w k
    ·exact ihn h
    ·exact ⟨k, hJ, fun m hm => Nat.le_of_not_lt fun hlt => h ⟨m, by omega, hm⟩⟩
  exact this (μ i) ⟨μ i, Nat.le_refl _, i, rfl, hi⟩
 open Classical in
 let ν : Act → World → Nat := fun a w => if h : ∃ i, O i a w then Classical.choose (least a w h) else 0
 refine wpIn_loop (fun a w => ∃ i, O i a w) ν h0 fun a w hI => ?_
 have hν : J a w (ν a w) ∧ ∀ m, J a w m → ν a w ≤ m := by
  simp only [ν, dif_pos hI]; exact Classical.choose_spec (least a w hI)
 obtain ⟨⟨i, hi, hO⟩, _⟩ := hν
 refine wpIn_mono (round i a w hO) fun e a' w' hq => ?_
 cases e with
 | normal =>
  obtain ⟨i', hlt, hO'⟩ := hq
  have hI' : ∃ i, O i a' w' := ⟨i', hO'⟩
  refine ⟨hI', ?_⟩
  have hν' : J a' w' (ν a' w') ∧ ∀ m, J a' w' m → ν a' w' ≤ m := by
   simp only [ν, dif_pos hI']; exact Classical.choose_spec (least a' w' hI')
  have := hν'.2 (μ i') ⟨i', rfl, hO'⟩
  omega
 | _ => exact hq
theorem wpl_val {ops : Array Oper} {o : Oper} {rest : List Oper} {v : Value} {a : Act} {w : World} {ro : Option Nat} (hg : o.guard = none) (hr : (execOp a.eval o).run P w = .ok (.value v) w) (hop : ∀ c, o.op ≠ .defer c)
  (h : wpListIn (fw ro) nn P ops Q rest (a.put o.dst v) w) : wpListIn (fw ro) nn P ops Q (o :: rest) a w := by
 refine wpListIn_plain hg fun K hK => ⟨fun _ _ => trivial, ?_⟩
 rw [Oper.semAt_eq _ _ _ hop, hr]
 simp only [Oper.uponIn]
 exact hK _ _ h
def yOps (N k y : Nat) (ops : List Oper) (c : Operand) : Bool := match ops with
 | [o1, o2, o3] => o1.guard.isNone && o2.guard.isNone && o3.guard.isNone &&
   (match o1.op, o1.dst, o2.op, o2.dst, o3.op, o3.dst, c with
    | .move (.tmp z), some d1, .move (.tmp y'), some d2, .call { callee := .value (.tmp e1), args := as, argTypes := _ }, some d3, .tmp e3 =>
     z == 0 && y' == y && e1 == d1 && e3 == d3 && d1 != d2 && d1 != y && decide (d1 < N) && decide (d2 < N) && decide (d3 < N) && decide (k ≤ d1) && decide (k ≤ d2) && decide (k ≤ d3) && d2 != y && d3 != y && (match as.toList with | [.tmp e2] => e2 == d2 | _ => false)
    | _, _, _, _, _, _, _ => false)
 | _ => false
def chkIt (P : Program) (N k y : Nat) (A B : C) : Code → Bool
 | .seq a (.block i0 (.loop (.seq (.seq (.region _ ops false) (.cond c .skip (.exit i1))) b))) =>
  i0 == i1 && chk P N true A a && dstB (fun d => decide (d < k)) a && yOps N k y ops.toList c && chk P N false B b && dstB (fun d => decide (d < k) || d == y) b
 | _ => false
def Sit (y : Nat) (ts : List T) (cs : List T) : St := (y, .own 1 none cs) :: argSt 0 (.any :: ts)
theorem args_rep {lo : Nat} {par : Nat → Option Value} {ow : Ow} {w : World} {s : St} : ∀ {ts : List T} {k : Nat} {vs : List Value} {tm : Array Value}, k + ts.length ≤ 1000 → FzL (okG lo ow .arg) w ts vs → (∀ (j : Nat) (v : Value), vs[j]? = some v → tm.getD (k + j) undef = v) →
  ∀ y, ((argSt k ts).get y).isAny = false → y < 1000 ∧ Rep lo par ow tm w s y ((argSt k ts).get y) (tm.getD y undef)
 | [], k, vs, tm, _, _, _, y, hn => by simp [argSt, St.get, V.isAny] at hn
 | t :: ts, k, vs, tm, hk, hf, hv, y, hn => by
  simp only [FzL] at hf
  obtain ⟨x, xs, rfl, h1, h2⟩ := hf
  simp only [argSt] at hn ⊢
  rw [get_if] at hn ⊢
  by_cases hky : k = y
  ·rw [if_pos hky] at hn ⊢
   subst hky
   have e : tm.getD k undef = x := by simpa using hv 0 x (by simp)
   rw [e]
   refine ⟨by simp at hk; omega, (Fz.mk (g := .arg) (fun b hb => hb) h1).2 k⟩
  ·rw [if_neg hky] at hn ⊢
   exact args_rep (k := k + 1) (by simp at hk ⊢; omega) h2 (fun j v hj => by rw [show k + 1 + j = k + (j + 1) from by omega]; exact hv (j + 1) v (by simpa using hj)) y hn
theorem sit_gam {lo : Nat} {X : Nat → Prop} {ow : Ow} {w : World} {tm : Array Value} {y len bL cap : Nat} {ts cs : List T} {vs : List Value} (hlo : lo ≤ w.heap.size) (hbase : ∀ b p, ow b = some p → b < w.heap.size ∧ (lo ≤ b ∨ X b)) (hy : y < 1000) (hts : 1 + ts.length ≤ 1000)
  (hf : FzL (okG lo ow .arg) w (.any :: ts) vs) (hv : ∀ (j : Nat) (v : Value), vs[j]? = some v → tm.getD j undef = v) (hsc : scalL cs) (hl : cs.length = len) (hb : ow bL = some (y, 0)) (hyv : tm.getD y undef = uL bL len cap) (hlb : LB w bL cap cs) :
  Gam lo X (fun _ => none) ow (Sit y ts cs) tm w := by
 refine ⟨hbase, hlo, fun z hz hn => ?_⟩
 unfold Sit at hn ⊢
 by_cases e : z = y
 ·subst e
  rw [get_top]
  exact ⟨_, nmv_slot hy, by rw [hyv]; exact (show OwnAt lo (fun _ => none) ow w z 1 none cs (uL bL len cap) from LB_own hsc hl hb (fun h => absurd h (by omega)) hlb)⟩
 ·rw [get_top_ne e] at hn ⊢
  obtain ⟨h1, h2⟩ := args_rep (lo := lo) (par := fun _ => none) (ow := ow) (s := (y, .own 1 none cs) :: argSt 0 (.any :: ts)) (k := 0) (tm := tm) (by simp; omega) hf (fun j v hj => by rw [Nat.zero_add]; exact hv j v hj) z hn
  exact ⟨_, nmv_slot h1, h2⟩
theorem yOps_spec {N k y : Nat} {ops : List Oper} {c : Operand} (h : yOps N k y ops c = true) : ∃ (o1 o2 o3 : Oper) (d1 d2 d3 : Nat) (ats : Array TypeId), ops = [o1, o2, o3] ∧ (o1.guard = none ∧ o2.guard = none ∧ o3.guard = none) ∧
  (o1.op = .move (.tmp 0) ∧ o1.dst = some d1) ∧ (o2.op = .move (.tmp y) ∧ o2.dst = some d2) ∧ (o3.op = .call { callee := .value (.tmp d1), args := #[.tmp d2], argTypes := ats } ∧ o3.dst = some d3) ∧ c = .tmp d3 ∧
  d1 ≠ d2 ∧ (d1 ≠ y ∧ d2 ≠ y ∧ d3 ≠ y) ∧ (d1 < N ∧ d2 < N ∧ d3 < N) ∧ (k ≤ d1 ∧ k ≤ d2 ∧ k ≤ d3) := by
 unfold yOps at h
 split at h
 case h_2 => cases h
 rename_i o1 o2 o3
 simp only [Bool.and_eq_true] at h
 obtain ⟨⟨⟨g1, g2⟩, g3⟩, h⟩ := h
 split at h
 case h_2 => cases h
 rename_i z d1 y' d2 e1 as ats d3 e3 h1 h2 h3 h4 h5 h6
 simp only [Bool.and_eq_true, beq_iff_eq, bne_iff_ne, decide_eq_true_eq] at h
 obtain ⟨⟨⟨⟨⟨⟨⟨⟨⟨⟨⟨⟨⟨⟨rfl, rfl⟩, rfl⟩, rfl⟩, q1⟩, q2⟩, q3⟩, q4⟩, q5⟩, q6⟩, q7⟩, q8⟩, q9⟩, q10⟩, q11⟩ := h
 split at q11
 ·rename_i e2 has
  simp only [beq_iff_eq] at q11
  subst q11
  have : as = #[.tmp e2] := by rw [← Array.toList_inj]; exact has
  subst this
  exact ⟨o1, o2, o3, e1, e2, e3, ats, rfl, ⟨by simpa using g1, by simpa using g2, by simpa using g3⟩, ⟨h1, h2⟩, ⟨h3, h4⟩, ⟨h5, h6⟩, rfl, q1, ⟨q2, q9, q10⟩, ⟨q3, q4, q5⟩, ⟨q6, q7, q8⟩⟩
 ·cases q11
theorem put_same' {a : Act} {d : Nat} {v : Value} (h : d < a.tmps.size) : (a.put (some d) v).tmps.getD d undef = v := by simp [Act.put, h]
theorem put_ne' {a : Act} {d t : Nat} {v : Value} (h : d ≠ t) : (a.put (some d) v).tmps.getD t undef = a.tmps.getD t undef := by
 simp [Act.put, Array.getD_eq_getD_getElem?, Array.getElem?_setIfInBounds_ne h]
theorem put_size' {a : Act} {d : Nat} {v : Value} : (a.put (some d) v).tmps.size = a.tmps.size := by simp [Act.put]
theorem results_nil {fn : Func} {tm : Array Value} {w : World} (h : fn.results = #[]) : ∃ v, (results fn tm).run P w = .ok v w := by
 refine ⟨.tuple #[], ?_⟩
 unfold results
 rw [h]
 simp [Sem.run_bind, Result.andThen]
theorem iter_calls {gf y t len n l D : Nat} {fnI : Func} {codeI : Code} {A B : C} {ts : List T} {xs : List Value} {cs : Nat → List T} {S : Nat → St} {fn : FuncId} {tm0 : Array Value} {assign body : Code} {w0 Wc : World}
  (hmo : P.follows .mixedOrders = true) (hf : P.funcs[gf]? = some fnI) (hb : fnI.body = some codeI) (hres : fnI.results = #[]) (hc : chkIt P fnI.ntmps (1 + ts.length) y A B codeI = true)
  (hy : y < 1000) (hyk : 1 + ts.length ≤ y) (hyN : y < fnI.ntmps) (hn : 0 < n)
  (hcs : ∀ j, j < n → scalL (cs j) ∧ cs j ≠ [] ∧ (cs j).length = len)
  (hA : wpC P A (fun e s => e = .n ∧ s.le (Sit y ts (cs 0))) (argSt 0 (.any :: ts)))
  (hB : ∀ j, j < n → wpC P B (fun e s => (e = .n ∧ j + 1 < n ∧ s.le (Sit y ts (cs (j + 1)))) ∨ (e = .r ∧ j + 1 = n ∧ s.le (Sit y ts (cs 0)))) (Sit y ts (cs j)))
  (ht : t < 1000) (htN : t < tm0.size) (hoff : ∀ j, j ≤ n → (S j).off t = true)
  (hcap : ∀ {bL cap : Nat} {j : Nat} {c : List T} {W : World}, j ≤ n → scalL c → c ≠ [] → JJ w0 t (tm0.setIfInBounds t (uL bL len cap)) bL cap len l D fn tm0 #[t] assign body (S j) c W → FzL (fun b => b ≠ bL) W ts xs)
  (hround : ∀ {bL cap : Nat} {j : Nat} {W : World}, j < n → JJ w0 t (tm0.setIfInBounds t (uL bL len cap)) bL cap len l D fn tm0 #[t] assign body (S j) (cs j) W →
   RoundIn (fw none) (nn - 1) P l fn (tm0.setIfInBounds t (uL bL len cap)) assign body W (fun e W' => e = .returned (.bool true) ∧ JJ w0 t (tm0.setIfInBounds t (uL bL len cap)) bL cap len l D fn tm0 #[t] assign body (S (j + 1)) (cs j) W'))
  (hx : FzL (fun _ => True) Wc ts xs)
  (hG : ∃ ow, Gam w0.heap.size (fun _ => False) (fun _ => none) ow (S 0) tm0 Wc ∧ ow l = none ∧ ow D = none) (hgr : Grow (fun _ => False) w0 Wc) (hlw : w0.heap.size ≤ l) (hrec : Wc.heap[l]? = some (.loop (recL fn tm0 #[t] assign body D .ready none))) (hdf : Wc.heap[D]? = some (.deferred (some []))) :
  CallsIn (fw none) nn P gf (#[Value.func (.yield l) #[] #[]] ++ xs.toArray) Wc (fun e W2 => (∃ v, e = .returned v) ∧ ∃ bL cap, JJ w0 t (tm0.setIfInBounds t (uL bL len cap)) bL cap len l D fn tm0 #[t] assign body (S n) (cs 0) W2) := by
 refine callsIn_of_wp hf hb trivial ?_
 unfold chkIt at hc
 split at hc
 case h_2 => cases hc
 rename_i a i0 rid ops c i1 b
 simp only [Bool.and_eq_true, beq_iff_eq] at hc
 obtain ⟨⟨⟨⟨⟨rfl, hcA⟩, hdA⟩, hyo⟩, hcB⟩, hdB⟩ := hc
 have hxl : xs.length = ts.length := hx.length
 have hlt : ∀ {w : World} {k : Nat} {o : Obj}, w.heap[k]? = some o → k < w.heap.size := fun h => (Array.getElem?_eq_some_iff.1 h).1
 obtain ⟨yv, hyv⟩ : ∃ yv : Value, yv = .func (.yield l) #[] #[] := ⟨_, rfl⟩
 rw [← hyv, show #[yv] ++ xs.toArray = (yv :: xs).toArray by simp]
 generalize ha0 : ({ tmps := (yv :: xs).toArray ++ Array.replicate (fnI.ntmps - (yv :: xs).toArray.size) undef, defers := [] } : Act) = a0
 have hsz0 : a0.tmps.size = fnI.ntmps := by rw [← ha0]; simp; omega
 have hdf0 : a0.defers = [] := by rw [← ha0]
 have hv0 : ∀ (j : Nat) (v : Value), (yv :: xs)[j]? = some v → a0.tmps.getD j undef = v := by
  intro j v hj
  rw [← ha0]
  have hjl : j < (yv :: xs).length := (List.getElem?_eq_some_iff.1 hj).1
  have hj' := (List.getElem?_eq_some_iff.1 hj).2
  have e : ((yv :: xs).toArray ++ Array.replicate (fnI.ntmps - (yv :: xs).toArray.size) undef)[j]? = some v := by
   rw [Array.getElem?_append, if_pos (by simpa using hjl)]
   simpa using hj
  rw [Array.getD_eq_getD_getElem?, e]; rfl
 have hO0 : OkS (fun _ => False) (fun _ => none) fnI.ntmps Wc a0 Wc (argSt 0 (.any :: ts)) := by
  refine ⟨⟨fun _ => none, (fun b p h => (by cases h)), Nat.le_refl _, fun z hl hn => ?_⟩, hsz0, hdf0, Grow.refl _ _⟩
  have hfz : FzL (okG Wc.heap.size (fun _ => none) .arg) Wc (.any :: ts) (yv :: xs) := by
   simp only [FzL]
   exact ⟨yv, xs, rfl, by simp [Fz], FzL.mono (fun _ _ => rfl) hx⟩
  obtain ⟨h1, h2⟩ := args_rep (lo := Wc.heap.size) (par := fun _ => none) (s := argSt 0 (.any :: ts)) (k := 0) (tm := a0.tmps) (by simp; omega) hfz (fun j v hj => by rw [Nat.zero_add]; exact hv0 j v hj) z hn
  exact ⟨_, nmv_slot h1, h2⟩
 obtain ⟨hsc0, hne0, hlen0⟩ := hcs 0 hn
 refine wpIn_seq ?_
 have hstart := wpC_in (ro := none) (nn := nn) (ds := []) (D := fun d => decide (d < 1 + ts.length)) (a0 := a0) hmo (fun _ _ => rfl) (fun _ _ h => h) A a _
  (Exit.then ((Code.block i0 (.loop (.seq (.seq (.region rid ops false) (.cond c .skip (.exit i0))) b))).wpIn (fw none) nn P (bodyPost P fnI fun e W2 => (∃ v, e = .returned v) ∧ ∃ bL cap, JJ w0 t (tm0.setIfInBounds t (uL bL len cap)) bL cap len l D fn tm0 #[t] assign body (S n) (cs 0) W2))
   (bodyPost P fnI fun e W2 => (∃ v, e = .returned v) ∧ ∃ bL cap, JJ w0 t (tm0.setIfInBounds t (uL bL len cap)) bL cap len l D fn tm0 #[t] assign body (S n) (cs 0) W2))
  a0 Wc _ hcA hdA hO0 (Agree.refl _) hA ?_
 ·rw [df_nil hdf0] at hstart; exact hstart
 rintro e s1 a1 W1 ⟨rfl, hle⟩ hO1 hA1
 have hO1 := hO1.le hle
 obtain ⟨ow1, hG1⟩ := hO1.gam
 obtain ⟨u, e1, hr1⟩ := hG1.ent y (lv_iff.2 (.inl hy)) (by unfold Sit; rw [get_top]; rfl)
 rw [nmv_slot hy] at e1
 unfold Sit at hr1
 rw [get_top] at hr1
 have hr1 : OwnAt Wc.heap.size (fun _ => none) ow1 W1 y 1 none (cs 0) u := hr1
 obtain ⟨bL, cap, rfl, hob1, hlb1⟩ := own_LB hsc0 hne0 hr1
 rw [hlen0] at e1
 have e1 := Option.some.inj e1
 have hbL : Wc.heap.size ≤ bL := (hG1.base bL _ hob1).2.resolve_right id
 have hbL1 : bL < W1.heap.size := (hG1.base bL _ hob1).1
 obtain ⟨owc, hGc, hlc, hDc⟩ := hG
 have hlL : l ≠ bL := by have := hlt hrec; omega
 have hDL : D ≠ bL := by have := hlt hdf; omega
 have hJ0 : JJ w0 t (tm0.setIfInBounds t (uL bL len cap)) bL cap len l D fn tm0 #[t] assign body (S 0) (cs 0) W1 := by
  let ow' : Ow := fun b' => if b' = bL then some (t, 0) else owc b'
  have g0 : Grow (fun _ => False) Wc W1 := hO1.grow
  have G1 : Gam w0.heap.size (fun _ => False) (fun _ => none) ow' (S 0) tm0 W1 := hGc.grow g0 (fun b' hb' => if_neg (by omega)) fun b' p hb' hp => by
   by_cases e : b' = bL
   ·subst e; exact ⟨hbL1, .inl (Nat.le_trans hgr.size hbL)⟩
   ·rw [show ow' b' = owc b' from if_neg e] at hp; exact absurd (hGc.base b' p hp).1 (by omega)
  have G2 : Gam w0.heap.size (fun _ => False) (fun _ => none) ow' (S 0) (tm0.setIfInBounds t (uL bL len cap)) W1 := G1.tms fun z hz => by
   have := (off_get (hoff 0 (by omega)) z hz).1
   rw [hangs_false] at this
   rw [Array.getD_eq_getD_getElem?, Array.getD_eq_getD_getElem?, Array.getElem?_setIfInBounds_ne (Ne.symm (this.2 ht))]
  have G3 : Gam w0.heap.size (fun _ => False) (parT t (uL bL len cap)) ow' (S 0) (tm0.setIfInBounds t (uL bL len cap)) W1 := G2.re (.inl (Nat.le_refl _)) G2.low (fun _ _ _ _ h => h) (fun _ _ _ _ _ _ _ h => by cases h) (KeepsC.refl _)
  have hh : ∀ z, ¬ Hg [t] z → hangs t z = false := fun z hz => by rw [← Bool.not_eq_true]; exact fun h => hz ⟨t, by simp, h⟩
  have hzt : ∀ {z}, hangs t z = false → z ≠ t := fun h e => by rw [e, hangs_self] at h; cases h
  have Kp : Keeps w0.heap.size [t] ow' ow' (tm0.setIfInBounds t (uL bL len cap)) (tm0.setIfInBounds t (uL bL len cap)) W1 W1 (S 0) ((t, .own 11 none (cs 0)) :: S 0) := by
   refine ⟨Nat.le_refl _, fun z hz => ?_, fun z _ _ u hu => hu, fun z hz b _ r hb => ⟨hb, rfl⟩, fun g hg b _ hb => ⟨hb, rfl⟩⟩
   rw [get_top_ne (hzt (hh z hz))]
   cases hn : ((S 0).get z).isAny with
   | true => exact .inl rfl
   | false => exact .inr (.inl ⟨rfl, fun x hx => by simp at hx; subst hx; exact (off_get (hoff 0 (by omega)) z hn).2⟩)
  refine ⟨⟨ow', Gam.next G3 Kp G3.base fun z hz hlz hn => ?_, by rw [show ow' l = owc l from if_neg hlL]; exact hlc, by rw [show ow' D = owc D from if_neg hDL]; exact hDc⟩, hgr.comp g0 (fun _ _ h => h), hlw, (g0.block l (hlt hrec) id).trans hrec, (g0.block D (hlt hdf) id).trans hdf⟩
  obtain ⟨x, hx, hhx⟩ := hz
  simp at hx; subst hx
  by_cases hzx : z = x
  ·subst hzx
   refine ⟨uL bL len cap, by rw [nmv_slot ht]; simp [htN], ?_⟩
   rw [get_top]
   exact (show OwnAt _ _ _ _ z 11 none (cs 0) _ from LB_own hsc0 hlen0 (if_pos rfl) (fun _ => by simp [parT]) hlb1)
  ·exfalso
   rw [get_top_ne hzx] at hn
   have := (off_get (hoff 0 (by omega)) z hn).1
   rw [hhx] at this; cases this
 rw [df_nil hO1.df]
 have hv1 : ∀ (j : Nat) (v : Value), (yv :: xs)[j]? = some v → a1.tmps.getD j undef = v := fun j v hj => by
  have hjl : j < (yv :: xs).length := (List.getElem?_eq_some_iff.1 hj).1
  rw [hA1 j (by simp at hjl; simp; omega)]; exact hv0 j v hj
 refine wpIn_block (wpIn_loop_ix (ι := { j : Nat // j < n }) (fun j a W => a.tmps.size = fnI.ntmps ∧ a.defers = [] ∧ (∀ (i : Nat) (v : Value), (yv :: xs)[i]? = some v → a.tmps.getD i undef = v) ∧ a.tmps.getD y undef = uL bL len cap ∧
  JJ w0 t (tm0.setIfInBounds t (uL bL len cap)) bL cap len l D fn tm0 #[t] assign body (S j.1) (cs j.1) W) (fun j => n - j.1) ⟨⟨0, hn⟩, hO1.size, hO1.df, hv1, e1, hJ0⟩ ?_)
 rintro ⟨j, hj⟩ a W ⟨hsz, hdfa, hv, hyu, hJ⟩
 obtain ⟨o1, o2, o3, d1, d2, d3, ats, hops, ⟨g1, g2, g3⟩, ⟨p1, q1⟩, ⟨p2, q2⟩, ⟨p3, q3⟩, rfl, d12, ⟨dy1, dy2, dy3⟩, ⟨n1, n2, n3⟩, ⟨k1, k2, k3⟩⟩ := yOps_spec hyo
 have hy0 : a.tmps.getD 0 undef = yv := hv 0 yv rfl
 refine wpIn_seq (wpIn_seq (wpIn_region_list ?_))
 rw [hops]
 refine wpl_val g1 (v := yv) (by simp only [execOp, p1, Act.eval, hy0, Sem.run_pure]) (by rw [p1]; intro c h; cases h) ?_
 rw [q1]
 refine wpl_val g2 (v := uL bL len cap) (by simp only [execOp, p2, Act.eval]; rw [put_ne' dy1, hyu]; rfl) (by rw [p2]; intro c h; cases h) ?_
 rw [q2]
 generalize ha2 : (a.put (some d1) yv).put (some d2) (uL bL len cap) = a2
 have s2 : a2.tmps.size = fnI.ntmps := by rw [← ha2, put_size', put_size']; exact hsz
 have e21 : a2.tmps.getD d1 undef = yv := by rw [← ha2, put_ne' (Ne.symm d12), put_same' (by omega)]
 have e22 : a2.tmps.getD d2 undef = uL bL len cap := by rw [← ha2, put_same' (by rw [put_size']; omega)]
 have e2o : ∀ z, z ≠ d1 → z ≠ d2 → a2.tmps.getD z undef = a.tmps.getD z undef := fun z h1 h2 => by rw [← ha2, put_ne' (Ne.symm h2), put_ne' (Ne.symm h1)]
 have d2f : a2.defers = [] := by rw [← ha2]; exact hdfa
 refine wpListIn_plain g3 fun K hK => ⟨fun _ _ => trivial, ?_⟩
 have hrun : (execOp a2.eval o3).run P W = .ok (.round l fn (tm0.setIfInBounds t (uL bL len cap)) assign body) W := by
  have hyl := run_yield (P := P) (args := #[uL bL len cap]) hJ.rcd (by simp [recL])
  have h21 : a2.eval (.tmp d1) = .func (.yield l) #[] #[] := Eq.trans e21 hyv
  have h22 : a2.eval (.tmp d2) = uL bL len cap := e22
  simp [execOp, p3, resolve, Deferred.ofValue, h21, h22, invoke, Sem.run_bind, Result.andThen]
  simpa [recL] using hyl
 rw [Oper.semAt_eq _ _ _ (by rw [p3]; intro c h; cases h), hrun, Oper.uponIn_round]
 refine ⟨fun h => by simp [fw, Fence.wide] at h, (hround hj hJ).mono fun e W' hh => ?_⟩
 obtain ⟨rfl, hJ'⟩ := hh
 simp only
 refine hK _ _ ?_
 rw [q3]
 generalize ha3 : a2.put (some d3) (.bool true) = a3
 have s3 : a3.tmps.size = fnI.ntmps := by rw [← ha3, put_size']; exact s2
 have e33 : a3.tmps.getD d3 undef = .bool true := by rw [← ha3, put_same' (by omega)]
 have e3o : ∀ z, z ≠ d1 → z ≠ d2 → z ≠ d3 → a3.tmps.getD z undef = a.tmps.getD z undef := fun z h1 h2 h3 => by rw [← ha3, put_ne' (Ne.symm h3)]; exact e2o z h1 h2
 have d3f : a3.defers = [] := by rw [← ha3]; exact d2f
 have hv3 : ∀ (i : Nat) (v : Value), (yv :: xs)[i]? = some v → a3.tmps.getD i undef = v := fun i v hi => by
  have hil : i < (yv :: xs).length := (List.getElem?_eq_some_iff.1 hi).1
  simp at hil
  rw [e3o i (by omega) (by omega) (by omega)]; exact hv i v hi
 have hy3 : a3.tmps.getD y undef = uL bL len cap := by rw [e3o y (Ne.symm dy1) (Ne.symm dy2) (Ne.symm dy3)]; exact hyu
 show Exit.then _ _ .normal a3 W'
 refine wpIn_cond_true (show a3.eval (.tmp d3) = .bool true from e33) (wpIn_skip ?_)
 obtain ⟨hscj, hnej, hlenj⟩ := hcs j hj
 obtain ⟨⟨owJ, hGJ, _, _⟩, _⟩ := id hJ'
 obtain ⟨hobJ, hlbJ, _, _⟩ := top_own hscj hnej ht hGJ (get_top ..)
 have hbW : bL < W'.heap.size := (hGJ.base bL _ hobJ).1
 have hOB : OkS (fun b => b = bL) (fun _ => none) fnI.ntmps W' a3 W' (Sit y ts (cs j)) := by
  refine ⟨⟨fun b => if b = bL then some (y, 0) else none, sit_gam (Nat.le_refl _) (fun b p hb => ?_) hy (by omega) (vs := yv :: xs) ?_ hv3 hscj hlenj (if_pos rfl) hy3 hlbJ⟩, s3, d3f, Grow.refl _ _⟩
  ·by_cases e : b = bL
   ·subst e; exact ⟨hbW, .inr rfl⟩
   ·rw [if_neg e] at hb; cases hb
  ·simp only [FzL]
   exact ⟨yv, xs, rfl, by simp [Fz], FzL.mono (fun b hb => if_neg hb) (hcap (j := j + 1) (by omega) hscj hnej hJ')⟩
 rw [← df_nil d3f]
 refine wpC_in (ro := none) (nn := nn) (ds := []) (D := fun d => decide (d < 1 + ts.length) || d == y) (a0 := a3) (fz := false) hmo (fun _ _ => rfl) (fun h => by cases h) B b _ _ a3 W' _ hcB hdB hOB (Agree.refl _) (hB j hj) ?_
 rintro e s4 a4 W4 hq hO4 hA4
 have take : ∀ {c' : List T}, scalL c' → c' ≠ [] → c'.length = len → s4.le (Sit y ts c') → JJ w0 t (tm0.setIfInBounds t (uL bL len cap)) bL cap len l D fn tm0 #[t] assign body (S (j + 1)) c' W4 := by
  intro c' h1 h2 h3 hle
  have hO4 := hO4.le hle
  obtain ⟨ow4, hG4⟩ := hO4.gam
  obtain ⟨u, e4, hr4⟩ := hG4.ent y (lv_iff.2 (.inl hy)) (by unfold Sit; rw [get_top]; rfl)
  rw [nmv_slot hy, hA4 y (by simp), hy3] at e4
  unfold Sit at hr4
  rw [get_top, ← Option.some.inj e4] at hr4
  have hr4 : OwnAt W'.heap.size (fun _ => none) ow4 W4 y 1 none c' (uL bL len cap) := hr4
  obtain ⟨b', c2, e5, _, hlb4⟩ := own_LB h1 h2 hr4
  unfold uL at e5
  cases e5
  exact hJ'.upd hscj hnej h1 h3 ht (hoff (j + 1) (by omega)) hO4.grow hlb4
 rw [df_nil hO4.df]
 rcases hq with ⟨rfl, hj1, hle⟩ | ⟨rfl, hj1, hle⟩
 ·obtain ⟨c1, c2, c3⟩ := hcs (j + 1) hj1
  refine ⟨⟨j + 1, hj1⟩, by show n - (j + 1) < n - j; omega, hO4.size, hO4.df, fun i v hi => ?_, by rw [hA4 y (by simp)]; exact hy3, take c1 c2 c3 hle⟩
  have hil : i < (yv :: xs).length := (List.getElem?_eq_some_iff.1 hi).1
  simp at hil
  rw [hA4 i (by simp; omega)]; exact hv3 i v hi
 ·obtain ⟨v, hv⟩ := results_nil (P := P) (fn := fnI) (tm := a4.tmps) (w := W4) hres
  have := take hsc0 hne0 hlen0 hle
  rw [hj1] at this
  exact ⟨hO4.df, v, hv, ⟨v, rfl⟩, bL, cap, this⟩
end
end Go.Vc
namespace Go.Vc
open Go
def V.low10 : V → Bool
 | .own m _ _ => decide (m < 10)
 | _ => true
def St.clean (Dd : Nat → Bool) (t : Nat) (S : St) : Bool := S.noFr && S.off t && S.all fun p => Dd (p.1 % 1000) && p.2.low10
def preK (P : Program) (K : St → Prop) (Q : Ex → St → Prop) : List C → St → Prop
 | [], s => K s
 | c :: cs, s => wpC P c (seqQ (preK P K Q cs) Q) s
@[go_sem] theorem preK_n {P : Program} {K : St → Prop} {Q : Ex → St → Prop} {s : St} : preK P K Q [] s = K s := _root_.id rfl
@[go_sem] theorem preK_c {P : Program} {K : St → Prop} {Q : Ex → St → Prop} {c : C} {cs : List C} {s : St} : preK P K Q (c :: cs) s = wpC P c (seqQ (preK P K Q cs) Q) s := _root_.id rfl
def RfK (P : Program) (Dd : Nat → Bool) (gf g t y m : Nat) (ca cb cp A B : C) (rs : List Nat) (R : St) (s4 : St) : Prop :=
 ∃ (n len : Nat) (cs : Nat → List T) (S : Nat → St) (ts : List T), 0 < n ∧ ts.length = m ∧ s4.le (S 0) ∧ (∀ j, j ≤ n → (S j).clean Dd t = true ∧ (S j).get g = .t .arg (.c gf ts)) ∧
  (∀ j, j < n → scalL (cs j) ∧ cs j ≠ [] ∧ (cs j).length = len) ∧
  wpC P A (fun e s => e = .n ∧ s.le (Sit y ts (cs 0))) (argSt 0 (.any :: ts)) ∧
  (∀ j, j < n → wpC P B (fun e s => (e = .n ∧ j + 1 < n ∧ s.le (Sit y ts (cs (j + 1)))) ∨ (e = .r ∧ j + 1 = n ∧ s.le (Sit y ts (cs 0)))) (Sit y ts (cs j))) ∧
  (∀ j, j < n → wpC P ca (fun e s1 => e = .n ∧ s1.noFr = true ∧ wpC P cb (fun e s2 => e = .n ∧ s2.le ((t, .own 11 none (cs j)) :: S (j + 1))) s1) ((t, .own 11 none (cs j)) :: S j)) ∧
  wpC P cp (RetQ rs R) (S n)
def chkS (P : Program) (N g t : Nat) (Dd : Nat → Bool) (c4 ca cb cp : C) : List C → Code → Bool
 | [], .seq (.seq x (.block _ (.rangeFunc (.tmp g') ps assign body))) z => g' == g && ps.toList == [t] && chk P N true c4 x && chk P N false ca assign && chk P N false cb body && chk P N false cp z && dstB Dd assign && dstB Dd body
 | c :: cs, .seq x y => chk P N true c x && chkS P N g t Dd c4 ca cb cp cs y
 | _, _ => false
theorem all_get {q : Nat × V → Bool} {S : St} (h : S.all q = true) (y : Nat) (hn : (S.get y).isAny = false) : q (y, S.get y) = true := by
 induction S with
 | nil => simp [St.get, V.isAny] at hn
 | cons p S ih =>
  simp only [List.all_cons, Bool.and_eq_true] at h
  by_cases e : y = p.1
  ·subst e; rw [get_top]; exact h.1
  ·rw [get_top_ne e] at hn ⊢; exact ih h.2 hn
theorem dstB_no : ∀ c : Code, dstB (fun _ => false) c = true
 | .region _ ops _ => by simp [dstB, dstOf]; intro o _; split <;> rfl
 | .seq a b => by simp [dstB, dstB_no a, dstB_no b]
 | .cond _ a b => by simp [dstB, dstB_no a, dstB_no b]
 | .block _ c => by simp [dstB, dstB_no c]
 | .loop c => by simp [dstB, dstB_no c]
 | .skip => rfl
 | .rangeFunc .. => rfl
 | .exit _ => rfl
 | .scope _ => rfl
 | .label _ => rfl
 | .goto _ => rfl
 | .ret => rfl
 | .refuse _ => rfl
section
variable {P : Program} {nn N : Nat} {w0 W : World} {t bL cap len l D : Nat} {tm0 : Array Value} {fn : FuncId} {ps : Array Tmp} {assign body : Code} {S : St} {cs : List T} {Dd : Nat → Bool}
theorem JJ.out (o : Obj) (hc : S.clean Dd t = true) (ht : t < 1000) (h : JJ w0 t (tm0.setIfInBounds t (uL bL len cap)) bL cap len l D fn tm0 ps assign body S cs W) :
  (∃ ow, Gam w0.heap.size (fun _ => False) (fun _ => none) ow S tm0 (W.putObj l o) ∧ ow D = none) ∧ Grow (fun _ => False) w0 (W.putObj l o) ∧ (W.putObj l o).heap[D]? = some (.deferred (some [])) := by
 obtain ⟨⟨ow, hG, hl, hD⟩, hgr, hlw, hrec, hdf⟩ := h
 simp only [St.clean, Bool.and_eq_true] at hc
 obtain ⟨⟨_, hoff⟩, hall⟩ := hc
 have hlD : D ≠ l := fun e => by rw [← e, hdf] at hrec; cases hrec
 refine ⟨⟨ow, ?_, hD⟩, hgr.comp (Grow.putObj W l o) fun b hb e => by omega, (World.putObj_heap_other hlD).trans hdf⟩
 have ne : ∀ y, (S.get y).isAny = false → y ≠ t ∧ y % 1000 ≠ t := fun y hy => by
  have := (off_get hoff y hy).1
  rw [hangs_false] at this
  exact ⟨this.1, this.2 ht⟩
 have gt : ∀ y, (S.get y).isAny = false → St.get ((t, .own 11 none cs) :: S) y = S.get y := fun y hy => get_top_ne (ne y hy).1
 have lvS : ∀ y, (S.get y).isAny = false → S.lv y = true → St.lv ((t, .own 11 none cs) :: S) y = true := fun y hy hl => by
  rw [lv_iff] at hl ⊢
  refine hl.imp id fun h => ?_
  rw [get_top_ne (ne y hy).2]; exact h
 have G1 : Gam w0.heap.size (fun _ => False) (parT t (uL bL len cap)) ow S (tm0.setIfInBounds t (uL bL len cap)) W := by
  refine Gam.step (M := fun _ => True) (MG := fun _ => True) (I := fun _ => True) hG hG.base (Nat.le_refl _) (fun y hl hn => .inr ⟨trivial, (gt y hn).symm, lvS y hn hl, V.ment_true _⟩) (fun _ _ _ h => h) (fun _ _ _ _ _ h => ⟨h, rfl⟩) ⟨trivial, trivial⟩
   (fun z _ hz => ⟨?_, fun _ h => h⟩) (fun z _ hz => ?_) (fun x _ _ hz => ⟨?_, fun _ h => h⟩) (fun _ _ _ _ h => ⟨h, rfl⟩)
  ·rw [okAl_iff] at hz ⊢
   rcases hz with ⟨⟨m, nl, c, e⟩, hl⟩ | ⟨⟨k, e⟩, hl⟩
   ·have hn : (S.get z).isAny = false := by rw [e]; rfl
    exact .inl ⟨⟨m, nl, c, (gt z hn).trans e⟩, lvS z hn hl⟩
   ·have hn : (S.get z).isAny = false := by rw [e]; rfl
    exact .inr ⟨⟨k, (gt z hn).trans e⟩, hl⟩
  ·rw [okPe_iff] at hz ⊢
   obtain ⟨⟨m, nl, c, e⟩, hl⟩ := hz
   have hn : (S.get z).isAny = false := by rw [e]; rfl
   exact ⟨⟨m, nl, c, (gt z hn).trans e⟩, lvS z hn hl⟩
  ·rw [okPc_iff] at hz ⊢
   obtain ⟨k, e⟩ := hz
   have hn : (S.get x).isAny = false := by rw [e]; rfl
   exact ⟨k, (gt x hn).trans e⟩
 have G2 : Gam w0.heap.size (fun _ => False) (parT t (uL bL len cap)) ow S tm0 W := G1.tms fun y hy => by
  rw [Array.getD_eq_getD_getElem?, Array.getD_eq_getD_getElem?, Array.getElem?_setIfInBounds_ne (Ne.symm (ne y hy).2)]
 refine G2.re (.inl (Nat.le_refl _)) (Nat.le_trans G2.low (by simp)) (fun _ _ _ _ h => h) (fun y m nl c u e hm _ => ?_) (KeepsC.putObj o hrec rfl)
 have := all_get hall y (by rw [e]; rfl)
 simp only [Bool.and_eq_true, e, V.low10, decide_eq_true_eq] at this
 omega
theorem rf_stmt {gf g y m : Nat} {fnI : Func} {codeI : Code} {ca cb cp A B : C} {rs : List Nat} {R s4 : St} {a : Act}
  (hmo : P.follows .mixedOrders = true) (hf : P.funcs[gf]? = some fnI) (hb : fnI.body = some codeI) (hE : ∀ args w, (callFunc gf args).run P w = .ok (.enter gf args) w) (hres : fnI.results = #[]) (hc : chkIt P fnI.ntmps (1 + m) y A B codeI = true)
  (hy : y < 1000) (hyk : 1 + m ≤ y) (hyN : y < fnI.ntmps) (ht : t < 1000) (htN : t < N) (hg : g < 1000) (hgt : g ≠ t) (hDt : Dd t = true)
  (hca : chk P N false ca assign = true) (hcb : chk P N false cb body = true) (hda : dstB Dd assign = true) (hdb : dstB Dd body = true)
  (hO : OkS (fun _ => False) (fun _ => none) N w0 a W s4) (hk : RfK P Dd gf g t y m ca cb cp A B rs R s4) :
  (Code.rangeFunc (.tmp g) #[t] assign body).wpIn (fw none) nn P (fun e a' W4 => e = .normal ∧ ∃ D S, a' = Act.df a [{ target := .collected D, args := #[] }] ∧ wpC P cp (RetQ rs R) S ∧ S.clean Dd t = true ∧ (∃ ow, Gam w0.heap.size (fun _ => False) (fun _ => none) ow S a.tmps W4 ∧ ow D = none) ∧
   Grow (fun _ => False) w0 W4 ∧ W4.heap[D]? = some (.deferred (some [])) ∧ w0.heap.size ≤ D) a W := by
 obtain ⟨n, len, cs, S, ts, hn, rfl, hle, hS, hcs, hA, hB, hR, hp⟩ := hk
 have hO := hO.le hle
 obtain ⟨ow, hG⟩ := hO.gam
 obtain ⟨u, eu, hu⟩ := hG.ent g (lv_iff.2 (.inl hg)) (by rw [(hS 0 (by omega)).2]; rfl)
 rw [nmv_slot hg] at eu
 rw [(hS 0 (by omega)).2] at hu
 have hu : Fz (okG w0.heap.size ow .arg) W (.c gf ts) u := hu
 simp only [Fz] at hu
 obtain ⟨xs, rfl, hxs⟩ := hu
 have eu := Option.some.inj eu
 have hcl : ∀ j, j ≤ n → (S j).noFr = true ∧ (S j).off t = true ∧ ((S j).all fun p => Dd (p.1 % 1000) && p.2.low10) = true := fun j hj => by
  have := (hS j hj).1
  simp only [St.clean, Bool.and_eq_true] at this
  exact ⟨this.1.1, this.1.2, this.2⟩
 have hbN : ∀ {b p}, ow b = some p → b < W.heap.size := fun h => (hG.base _ _ h).1
 have own : ∀ {b : Nat}, W.heap.size ≤ b → ow b = none := fun {b} h => by
  cases e : ow b with
  | none => rfl
  | some p => have := hbN e; omega
 refine wpIn_rangeFunc ?_
 intro fnn _
 show ∃ l mark, _
 obtain ⟨W1, hW1⟩ : ∃ W1, (W.alloc (.deferred (some []))).alloc (.loop (recL fnn a.tmps #[t] assign body W.heap.size .ready none)) = W1 := ⟨_, rfl⟩
 have kc : KeepsC W W1 := by rw [← hW1]; exact (KeepsC.alloc W _).trans (KeepsC.alloc _ _)
 have hL1 : W1.heap[W.heap.size + 1]? = some (.loop (recL fnn a.tmps #[t] assign body W.heap.size .ready none)) := by
  rw [← hW1]; have := World.alloc_heap_new (W.alloc (.deferred (some []))) (.loop (recL fnn a.tmps #[t] assign body W.heap.size .ready none)); rwa [World.size_alloc] at this
 have hK1 : W1.heap[W.heap.size]? = some (.deferred (some [])) := by
  rw [← hW1]; exact (RowKit.Below.heap_alloc _ _ _ (by simp)).trans (World.alloc_heap_new W _)
 have gr1 : Grow (fun _ => False) W W1 := by rw [← hW1]; exact (Grow.alloc _ W _).trans (Grow.alloc _ _ _)
 have hG1 : Gam w0.heap.size (fun _ => False) (fun _ => none) ow (S 0) a.tmps W1 := hG.re (.inl (Nat.le_refl _)) (Nat.le_trans hG.low gr1.size) (fun _ _ _ _ h => h) (fun _ _ _ _ _ _ _ h => h) kc
 refine ⟨W.heap.size + 1, [{ target := .collected W.heap.size, args := #[] }], W1, { target := .fn (.func gf) xs.toArray, args := #[.func (.yield (W.heap.size + 1)) #[] #[]] }, W1, gf,
  #[.func (.yield (W.heap.size + 1)) #[] #[]] ++ xs.toArray, W1, ?_, ?_, fun _ _ => trivial, ?_, fun h => by simp [fw, Fence.wide] at h, ?_⟩
 ·rw [← hW1]; exact run_enterLoop_outer _ _ _ _ _
 ·have : a.eval (.tmp g) = .func (.func gf) #[] xs.toArray := eu
  simp only [resolve, this, Deferred.ofValue]
  simp [Act.eval]
 ·simp [invoke, hE]
 refine (iter_calls (nn := nn - 1) (S := S) (t := t) (len := len) (n := n) (l := W.heap.size + 1) (D := W.heap.size) (fn := fnn) (tm0 := a.tmps) (assign := assign) (body := body) (w0 := w0) hmo hf hb hres hc hy hyk hyN hn hcs hA hB ht (by rw [hO.size]; exact htN) (fun j hj => (hcl j hj).2.1) ?_ ?_
  (FzL.via (fun b o v _ h => ⟨trivial, fun o v h => kc.cell h⟩) ts xs hxs) ⟨ow, hG1, own (by omega), own (Nat.le_refl _)⟩ (hO.grow.trans gr1) (Nat.le_trans hO.grow.size (by omega)) hL1 hK1).mono ?_
 ·intro bL cap j c w hj h1 h2 hJ
  have := hJ.look ht h1 h2 hg hgt (hS j hj).2 (by simp)
  rw [Array.getD_eq_getD_getElem?, Array.getElem?_setIfInBounds_ne (Ne.symm hgt), ← Array.getD_eq_getD_getElem?, eu] at this
  simp only [Fz] at this
  obtain ⟨ys, e, hy⟩ := this
  have : xs = ys := by simpa using e
  rw [this]; exact hy
 ·intro bL cap j w hj hJ
  obtain ⟨c1, c2, _⟩ := hcs j hj
  refine hJ.round hmo hca hcb hda hdb (by rw [Array.size_setIfInBounds]; exact hO.size) ht c1 c2 (hcl j (by omega)).1 (fun z hz => ?_) (hR j hj)
  by_cases e : z = t
  ·subst e; rw [Nat.mod_eq_of_lt ht]; exact hDt
  ·rw [get_top_ne e] at hz
   have := all_get (hcl (j + 1) (by omega)).2.2 z hz
   simp only [Bool.and_eq_true] at this
   exact this.1
 ·rintro e W2 ⟨⟨v, rfl⟩, bL, cap, hJ⟩
  refine ⟨none, _, run_endLoop hJ.rcd (by simp [recL]), rfl, W.heap.size, S n, ?_, hp, (hS n (Nat.le_refl _)).1, (hJ.out _ (hS n (Nat.le_refl _)).1 ht).1, (hJ.out _ (hS n (Nat.le_refl _)).1 ht).2.1, (hJ.out _ (hS n (Nat.le_refl _)).1 ht).2.2, hO.grow.size⟩
  have : a.defers = [] := hO.df
  unfold Act.df
  rw [this]; rfl
theorem callOk_rf {f : FuncId} {fn : Func} {code : Code} {pres : List C} {ts : List T} {gf g y m : Nat} {fnI : Func} {codeI : Code} {c4 ca cb cp A B : C} {rs : List Nat} {R : St}
  (hf0 : P.funcs[f]? = some fn) (hb0 : fn.body = some code) (hmo : P.follows .mixedOrders = true) (hE0 : ∀ args w, (callFunc f args).run P w = .ok (.enter f args) w) (hres0 : fn.results = (rs.map ResultVar.tmp).toArray)
  (hc0 : chkS P fn.ntmps g t Dd c4 ca cb cp pres code = true) (hts : ts.length ≤ fn.ntmps) (hts2 : ts.length ≤ 1000) (hrs : ∀ r ∈ rs, r < 1000)
  (hf : P.funcs[gf]? = some fnI) (hb : fnI.body = some codeI) (hE : ∀ args w, (callFunc gf args).run P w = .ok (.enter gf args) w) (hres : fnI.results = #[]) (hc : chkIt P fnI.ntmps (1 + m) y A B codeI = true)
  (hy : y < 1000) (hyk : 1 + m ≤ y) (hyN : y < fnI.ntmps) (ht : t < 1000) (htN : t < fn.ntmps) (hg : g < 1000) (hgt : g ≠ t) (hDt : Dd t = true)
  (hw : preK P (fun s => wpC P c4 (fun e s4 => e = .n ∧ RfK P Dd gf g t y m ca cb cp A B rs R s4) s) (RetQ rs R) pres (argSt 0 ts)) : CallOk P f ts R := by
 refine ⟨hE0, fun w vs hv => calls_fw (ro := none) (nn := 0) (callsIn_of_wp_marks hf0 hb0 trivial ?_)⟩
 have hvl := hv.length
 have hO : OkS (fun _ => False) (fun _ => none) fn.ntmps w { tmps := vs.toArray ++ Array.replicate (fn.ntmps - vs.toArray.size) undef, defers := [] } w (argSt 0 ts) := by
  refine ⟨⟨fun _ => none, ⟨(fun b p h => (by cases h)), Nat.le_refl _, fun y hl hn => ?_⟩⟩, (by simp; omega), rfl, Grow.refl _ _⟩
  obtain ⟨h1, h2⟩ := args_get (lo := w.heap.size) (par := fun _ => none) (s := argSt 0 ts) (k := 0) (tm := vs.toArray ++ Array.replicate (fn.ntmps - vs.toArray.size) undef) (by omega) hv (fun j v hj => by
   have hjl : j < vs.length := (List.getElem?_eq_some_iff.1 hj).1
   rw [Nat.zero_add]
   have hj' := (List.getElem?_eq_some_iff.1 hj).2
   simp [Array.getElem?_append, hjl, hj']) y hn
  exact ⟨_, nmv_slot h1, h2⟩
 generalize ({ tmps := vs.toArray ++ Array.replicate (fn.ntmps - vs.toArray.size) undef, defers := [] } : Act) = a at hO
 obtain ⟨R', hR'⟩ : ∃ R' : Ending → World → Prop, R' = fun e w' => ∃ u, e = .returned u ∧ Grow (fun _ => False) w w' ∧ ResRep w.heap.size (fun _ => False) w' u R := ⟨_, rfl⟩
 show code.wpIn (fw none) 0 P (bodyPostM (fw none) 0 P fn fun e w' => ∃ u, e = .returned u ∧ Grow (fun _ => False) w w' ∧ ResRep w.heap.size (fun _ => False) w' u R) a w
 rw [← hR']
 have early : ∀ {e : Ex} {s' : St} {a' : Act} {w' : World}, RetQ rs R e s' → OkS (fun _ => False) (fun _ => none) fn.ntmps w a' w' s' → bodyPostM (fw none) 0 P fn R' e.to (Act.df a' []) w' := by
  intro e s' a' w' hq hO'
  have key : retO s' rs R → LeavesInM (fw none) 0 P fn a'.tmps R' [] .returning w' := fun hr => by
   obtain ⟨ow, hG⟩ := hO'.gam
   obtain ⟨v, h1, h2⟩ := ret_key (P := P) (fn := fn) hres0 hrs hG hO'.grow.size hr
   exact ⟨v, h1, by rw [hR']; exact ⟨v, rfl, hO'.grow, h2⟩⟩
  cases e with
  | n => exact key hq
  | r => exact key hq
  | x j => exact hq.elim
 have main : ∀ (pres : List C) (code : Code) (a : Act) (w1 : World) (s : St), chkS P fn.ntmps g t Dd c4 ca cb cp pres code = true → OkS (fun _ => False) (fun _ => none) fn.ntmps w a w1 s →
   preK P (fun s => wpC P c4 (fun e s4 => e = .n ∧ RfK P Dd gf g t y m ca cb cp A B rs R s4) s) (RetQ rs R) pres s → code.wpIn (fw none) 0 P (bodyPostM (fw none) 0 P fn R') a w1 := by
  intro pres
  induction pres with
  | nil =>
   intro code a w1 s hc hO hk
   unfold chkS at hc
   split at hc
   case h_2 h => cases h
   case h_3 => cases hc
   rename_i x id g' ps assign body z _
   simp only [Bool.and_eq_true, beq_iff_eq] at hc
   obtain ⟨⟨⟨⟨⟨⟨⟨rfl, hps⟩, hcx⟩, hca⟩, hcb⟩, hcp⟩, hda⟩, hdb⟩ := hc
   have hps : ps = #[t] := by rw [← Array.toList_inj]; exact hps
   subst hps
   rw [preK_n] at hk
   rw [← df_nil hO.df]
   refine wpIn_seq (wpIn_seq (wpC_in (ro := none) (nn := 0) (ds := []) (D := fun _ => false) (a0 := a) hmo (fun _ _ => rfl) (fun _ _ h => h) c4 x _ _ a w1 s hcx (dstB_no x) hO (Agree.refl _) hk ?_))
   rintro e s4 a4 w4 ⟨rfl, hrf⟩ hO4 _
   rw [df_nil hO4.df]
   refine wpIn_block (wpIn_mono (rf_stmt (nn := 0) hmo hf hb hE hres hc hy hyk hyN ht htN hg hgt hDt hca hcb hda hdb hO4 hrf) ?_)
   rintro e a5 w5 ⟨rfl, D, S, rfl, hkp, hcl, ⟨ow, hG, hD⟩, hgr, hdf, hlD⟩
   simp only [St.clean, Bool.and_eq_true] at hcl
   have hlt : ∀ {w : World} {k : Nat} {o : Obj}, w.heap[k]? = some o → k < w.heap.size := fun h => (Array.getElem?_eq_some_iff.1 h).1
   have hO5 : OkS (fun b => ow b ≠ none) (fun _ => none) fn.ntmps w5 a4 w5 S :=
    ⟨⟨ow, hG.re (.inr hcl.1.1) (Nat.le_refl _) (fun b p hb _ _ => .inr (by rw [hb]; simp)) (fun _ _ _ _ _ _ _ h => h) (KeepsC.refl _)⟩, hO4.size, hO4.df, Grow.refl _ _⟩
   refine wpC_in (ro := none) (nn := 0) (ds := [{ target := .collected D, args := #[] }]) (D := fun _ => false) (a0 := a4) hmo (fun _ _ => rfl) (fun h => by cases h) cp z _ _ a4 w5 S hcp (dstB_no z) hO5 (Agree.refl _) hkp ?_
   intro e s' a' w' hq hO' _
   have key : retO s' rs R → LeavesInM (fw none) 0 P fn a'.tmps R' [{ target := .collected D, args := #[] }] .returning w' := fun hr => by
    have hdf' : w'.heap[D]? = some (.deferred (some [])) := (hO'.grow.block D (hlt hdf) (by rw [hD]; simp)).trans hdf
    obtain ⟨ow', hG'⟩ := hO'.gam
    have low : ∀ {b p}, ow b = some p → w.heap.size ≤ b := fun h => (hG.base _ _ h).2.resolve_right (fun h => h)
    have hG6 : Gam w.heap.size (fun _ => False) (fun _ => none) ow' s' a'.tmps (w'.putObj D (.deferred none)) :=
     hG'.re (.inl hgr.size) (by rw [World.putObj_size]; exact Nat.le_trans hgr.size hO'.grow.size) (fun b p hb _ h => .inl (by
      rcases h with h | h
      ·have := hgr.size; omega
      ·obtain ⟨p, hp⟩ := Option.ne_none_iff_exists'.1 h; exact low hp)) (fun _ _ _ _ _ _ _ h => h) (KeepsC.putObj _ hdf' rfl)
    have hg6 : Grow (fun _ => False) w (w'.putObj D (.deferred none)) := (hgr.comp hO'.grow fun b hb h => by
     obtain ⟨p, hp⟩ := Option.ne_none_iff_exists'.1 h; have := low hp; omega).comp (Grow.putObj w' D _) fun b hb e => by
      omega
    obtain ⟨v, h1, h2⟩ := ret_key (P := P) (fn := fn) hres0 hrs hG6 hg6.size hr
    exact ⟨by simp, .inl ⟨D, _, rfl, run_takeDeferred hdf', v, h1, by rw [hR']; exact ⟨v, rfl, hg6, h2⟩⟩⟩
   cases e with
   | n => exact key hq
   | r => exact key hq
   | x j => exact hq.elim
  | cons c cs ih =>
   intro code a w1 s hc hO hk
   cases code <;> try (simp [chkS] at hc; done)
   rename_i x z
   simp only [chkS, Bool.and_eq_true] at hc
   rw [preK_c] at hk
   rw [← df_nil hO.df]
   refine wpIn_seq (wpC_in (ro := none) (nn := 0) (ds := []) (D := fun _ => false) (a0 := a) hmo (fun _ _ => rfl) (fun _ _ h => h) c x _ _ a w1 s hc.1 (dstB_no x) hO (Agree.refl _) hk ?_)
   intro e s' a' w' hq hO' _
   cases e with
   | n => rw [df_nil hO'.df]; exact ih z a' w' s' hc.2 hO' hq
   | r => exact early (e := .r) hq hO'
   | x j => exact hq.elim
 exact main pres code a w (argSt 0 ts) hc0 hO hw
end
end Go.Vc
