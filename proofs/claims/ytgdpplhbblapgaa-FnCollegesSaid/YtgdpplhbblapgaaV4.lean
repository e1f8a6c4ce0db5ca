/-
  Own work, laid by a program of the author's: regions, code and functions keep it: a function's conditions give its contract; contracts of laws give their statements. No condition.
-/
import Derived.Test.YtgdpplhbblapgaaV3
import Derived.OrdersHeld
import Derived.Deep.Matrix
import Derived.Deep.OwnRows
import Derived.Deep.Strs
import Derived.WideKeyArgs
import Derived.JoinedOf
import Derived.RowKit
set_option linter.unusedSimpArgs false
set_option linter.unusedVariables false
namespace Go.Vc
open Go
section
variable {P : Program} {N : Nat} {Xb : Nat → Prop} {par : Nat → Option Value} {w0 : World} {a : Act} {w w' : World} {s s' s1 s2 : St} {K : St → Prop} {κ : V → Prop}
def Alike (s1 s2 : St) : Prop := ∀ y, s1.get y = s2.get y ∨ (y < 1000 ∧ (s1.get y).isName = false ∧ (s2.get y).isName = false)
theorem cont_name {v : V} (h : v.isName = false) : v.cont = false := by cases v <;> simp_all [V.isName, V.cont]
theorem Alike.lv (h : Alike s1 s2) (y : Nat) : s1.lv y = s2.lv y := by
 unfold St.lv
 rcases h (y % 1000) with e | ⟨_, e1, e2⟩
 ·rw [e]
 ·rw [cont_name e1, cont_name e2]
theorem Alike.resN (h : Alike s1 s2) {y : Nat} (hy : 1000 ≤ y) : s1.resN y = s2.resN y := by
 have e : s1.get y = s2.get y := (h y).resolve_right (by omega)
 rw [resN_eq, resN_eq, e]
 cases s2.get y with
 | al z =>
  rw [resV_al, resV_al]
  rcases h z with e | ⟨_, e1, e2⟩
  ·rw [e]
   cases s2.get z with
   | own m nl cs => rw [resA_own, resA_own, h.lv z]
   | _ => rfl
  ·have : ∀ {s : St} {v : V}, v.isName = false → resA s z v = T.any := by
    intro s v hv; cases v <;> simp_all [V.isName] <;> rfl
   rw [this e1, this e2]
 | _ => rfl
theorem Alike.cells (h : Alike s1 s2) {x c : Nat} (hc : 1 ≤ c) : ∀ {n j : Nat}, s1.cells x c j n = s2.cells x c j n
 | 0, _ => rfl
 | n + 1, j => by
  simp only [St.cells]
  rw [h.resN (by omega), Alike.cells h hc (n := n)]
theorem Alike.pcW (h : Alike s1 s2) (z : Nat) : s1.pcW z = s2.pcW z := by
 rw [pcW_eq, pcW_eq]
 rcases h (z % 1000) with e | ⟨_, e1, e2⟩
 ·rw [e]
  cases s2.get (z % 1000) with
  | bx n =>
   rw [pcW'_bx, pcW'_bx, h.cells (by omega)]
   by_cases hz : 1000 ≤ z
   ·rw [(h z).resolve_right (by omega)]
   ·simp [hz]
  | _ => rfl
 ·have : ∀ {s : St} {x v : V}, v.isName = false → pcW' s z x v = W.no := by intro s x v hv; cases v <;> simp_all [V.isName] <;> rfl
  rw [this e1, this e2]
theorem Alike.look (h : Alike s1 s2) {n : Nat} (hn : s1.get n = s2.get n) : s1.look (.s n) = s2.look (.s n) := by
 rw [look_s, look_s, hn]
 cases s2.get n with
 | t g t => rfl
 | own m nl cs => rfl
 | bx k => rw [enr_bx, enr_bx, h.pcW]
 | tp k => rfl
 | ag k => rw [enr_ag, enr_ag, h.cells (by omega)]
 | al y =>
  rw [enr_al, enr_al]
  rcases h y with e | ⟨_, e1, e2⟩
  ·rw [e]
   cases s2.get y with
   | own m nl cs => rw [alW_own, alW_own, h.lv]
   | ag k => rw [alW_ag, alW_ag, h.cells (by omega)]
   | _ => rfl
  ·have : ∀ {s : St} {v : V}, v.isName = false → alW s y v = W.no := by intro s v hv; cases v <;> simp_all [V.isName] <;> rfl
   rw [this e1, this e2]
 | pc z => rw [enr_pc, enr_pc, h.pcW]
 | er y j =>
  rw [enr_er, enr_er]
  rcases h y with e | ⟨_, e1, e2⟩
  ·rw [e]
   cases s2.get y with
   | own m nl cs => rw [erW_own, erW_own, h.lv]
   | _ => rfl
  ·have : ∀ {s : St} {v : V}, v.isName = false → erW s y j v = W.no := by intro s v hv; cases v <;> simp_all [V.isName] <;> rfl
   rw [this e1, this e2]
 | sl y j k =>
  rw [enr_sl, enr_sl]
  rcases h y with e | ⟨_, e1, e2⟩
  ·rw [e]
   cases s2.get y with
   | own m nl cs => rw [slW_own, slW_own, h.lv]
   | _ => rfl
  ·have : ∀ {s : St} {v : V}, v.isName = false → slW s y j k v = W.no := by intro s v hv; cases v <;> simp_all [V.isName] <;> rfl
   rw [this e1, this e2]
 | bv y =>
  rw [enr_bv, enr_bv]
  rcases h y with e | ⟨_, e1, e2⟩
  ·rw [e]
   cases s2.get y with
   | bx n =>
    rw [bvW_bx, bvW_bx]
    by_cases hy : y < 1000
    ·rw [h.cells (by omega)]
    ·simp [hy]
   | _ => rfl
  ·have : ∀ {s : St} {v : V}, v.isName = false → bvW s y v = W.no := by intro s v hv; cases v <;> simp_all [V.isName] <;> rfl
   rw [this e1, this e2]
 | pe y j =>
  rw [enr_pe, enr_pe]
  rcases h y with e | ⟨_, e1, e2⟩
  ·rw [e]
   cases s2.get y with
   | own m nl cs => rw [peW_own, peW_own, h.lv]
   | _ => rfl
  ·have : ∀ {s : St} {v : V}, v.isName = false → peW s y j v = W.no := by intro s v hv; cases v <;> simp_all [V.isName] <;> rfl
   rw [this e1, this e2]
 | fo z k nl cs => rfl
 | clo f cp =>
  rw [enr_clo, enr_clo]
  congr 1
  refine List.map_congr_left fun c _ => ?_
  cases c with
  | t g r => rfl
  | p z =>
   rw [capT_p, capT_p]
   rcases h (z % 1000) with e | ⟨_, e1, e2⟩
   ·rw [e]
    cases s2.get (z % 1000) with
    | bx n => rw [capV_bx, capV_bx, h.cells (by omega)]
    | _ => rfl
   ·have : ∀ {s : St} {v : V}, v.isName = false → capV s z v = T.any := by intro s v hv; cases v <;> simp_all [V.isName] <;> rfl
    rw [this e1, this e2]
structure M3 where
 d : Nat
 o : O
 xs : List X
 g : Gd
def M3.i (p : M3) : Gd × I := (p.g, .v p.d p.o p.xs)
def Yld (P : Program) (p : M3) (s : St) (v : V) : Prop := match p.g with
 | none => stepK P p.o (p.xs.map s.look) (· = v)
 | some (t, want) => (∃ x, s.get t = .b x ∧ ((x = want ∧ stepK P p.o (p.xs.map s.look) (· = v)) ∨ (x = (!want) ∧ v = .un))) ∨ (s.get t = .un ∧ v = .un)
theorem put_same {t : Nat} {x : Bool} {s : St} (h : s.get t = .b x) (y : Nat) : St.get ((t, .b x) :: s) y = s.get y := by
 by_cases e : y = t
 ·subst e; rw [get_top, h]
 ·rw [get_top_ne e]
def re (p : M3) (s : St) : St := match p.g with
 | none => s
 | some (t, _) => (t, s.get t) :: s
theorem re_get {p : M3} {y : Nat} : (re p s).get y = s.get y := by
 unfold re; split
 ·rfl
 ·rename_i t _ _
  by_cases e : y = t
  ·subst e; rw [get_top]
  ·rw [get_top_ne e]
theorem re_look {p : M3} {x : X} : (re p s).look x = s.look x := by
 cases x with
 | k t => rfl
 | s m => exact Alike.look (fun y => .inl re_get) re_get
def ent : List M3 → List V → St → St
 | p :: dl, v :: vs, s => ent dl vs ((p.d, v) :: re p s)
 | _, _, s => s
theorem chain_ex {tail : List (Gd × I)} : ∀ {dl : List M3} {s : St}, wpL P (dl.map M3.i ++ tail) K s → ∃ vs : List V, vs.length = dl.length ∧ wpL P tail K (ent dl vs s) ∧
  ∀ (i : Nat) (p : M3) (v : V), dl[i]? = some p → vs[i]? = some v → v.isName = false ∧ Yld P p (ent (dl.take i) (vs.take i) s) v
 | [], s, h => ⟨[], rfl, h, by simp⟩
 | p :: dl, s, h => by
  have fin : ∀ v, v.isName = false → Yld P p s v → wpL P (dl.map M3.i ++ tail) K ((p.d, v) :: re p s) → ∃ vs : List V, vs.length = (p :: dl).length ∧ wpL P tail K (ent (p :: dl) vs s) ∧
    ∀ (i : Nat) (q : M3) (v : V), (p :: dl)[i]? = some q → vs[i]? = some v → v.isName = false ∧ Yld P q (ent ((p :: dl).take i) (vs.take i) s) v := by
   intro v h2 h3 h1
   obtain ⟨vs, e1, e2, e3⟩ := chain_ex (dl := dl) h1
   refine ⟨v :: vs, by simp [e1], e2, fun i q u hq hu => ?_⟩
   cases i with
   | zero => simp at hq hu; subst hq; subst hu; exact ⟨h2, h3⟩
   | succ i =>
    simp at hq hu
    exact e3 i q u hq hu
  obtain ⟨d, o, xs, g⟩ := p
  cases g with
  | none =>
   simp only [List.map_cons, List.cons_append, M3.i, wpL, wpI] at h
   obtain ⟨v, h1, h2, h3⟩ := stepK_ex h
   exact fin v h2 h3 h1
  | some g =>
   obtain ⟨t, want⟩ := g
   simp only [List.map_cons, List.cons_append, M3.i, wpL] at h
   cases hv : s.get t with
   | t g r =>
    rw [hv] at h
    cases g <;> try (cases r <;> exact h.elim)
    cases r with
    | b x =>
     obtain ⟨k1, k2⟩ := h
     by_cases hx : x = want
     ·subst hx
      have h := k1 rfl
      simp only [wpI] at h
      have hre : ((t, V.b x) :: s) = re ⟨d, o, xs, some (t, x)⟩ s := by simp only [re]; rw [hv]
      rw [hre] at h
      have hl : xs.map (re ⟨d, o, xs, some (t, x)⟩ s).look = xs.map s.look := List.map_congr_left fun x _ => re_look
      rw [hl] at h
      obtain ⟨v, h1, h2, h3⟩ := stepK_ex h
      exact fin v h2 (.inl ⟨x, hv, .inl ⟨rfl, h3⟩⟩) h1
     ·have hx' : x = !want := by cases x <;> cases want <;> simp_all
      subst hx'
      have h : wpL P (dl.map M3.i ++ tail) K ((d, .un) :: (t, V.b !want) :: s) := k2 rfl
      have hre : ((t, V.b !want) :: s) = re ⟨d, o, xs, some (t, want)⟩ s := by simp only [re]; rw [hv]
      rw [hre] at h
      exact fin .un rfl (.inl ⟨!want, hv, .inr ⟨rfl, rfl⟩⟩) h
    | u vs =>
     cases vs with
     | cons _ _ => exact h.elim
     | nil =>
      have h : wpL P (dl.map M3.i ++ tail) K ((d, .un) :: (t, .un) :: s) := h
      have hre : ((t, V.un) :: s) = re ⟨d, o, xs, some (t, want)⟩ s := by simp only [re]; rw [hv]
      rw [hre] at h
      exact fin .un rfl (.inr ⟨hv, rfl⟩) h
    | _ => exact h.elim
   | _ => rw [hv] at h; exact h.elim
theorem ent_none {y : Nat} : ∀ {dl : List M3} {vs : List V} {s : St}, (∀ p ∈ dl, p.d ≠ y) → (ent dl vs s).get y = s.get y
 | [], _, _, _ => by simp [ent]
 | p :: dl, [], _, _ => by simp [ent]
 | p :: dl, v :: vs, s, h => by
  simp only [ent]
  rw [ent_none fun q hq => h q (by simp [hq]), get_top_ne fun e => h p (by simp) e.symm, re_get]
theorem ent_some : ∀ {dl : List M3} {vs : List V} {s : St} {j : Nat} {p : M3} {v : V}, (∀ (i j : Nat) (p q : M3), dl[i]? = some p → dl[j]? = some q → p.d = q.d → i = j) → dl[j]? = some p → vs[j]? = some v → (ent dl vs s).get p.d = v
 | [], _, _, _, _, _, _, h, _ => by simp at h
 | q :: dl, [], _, _, _, _, _, _, h => by simp at h
 | q :: dl, u :: vs, s, j, p, v, hd, hp, hv => by
  simp only [ent]
  cases j with
  | zero =>
   simp at hp hv; subst hp; subst hv
   rw [ent_none fun r hr e => ?_, get_top]
   obtain ⟨k, hk, ek⟩ := List.getElem_of_mem hr
   have := hd (k + 1) 0 r q (by simp [← ek]) (by simp) e
   omega
  | succ j =>
   exact ent_some (fun i k p' q' h1 h2 h3 => by have := hd (i + 1) (k + 1) p' q' (by simpa using h1) (by simpa using h2) h3; omega) (by simpa using hp) (by simpa using hv)
def canon (size n : Nat) : Array Bool := (Array.range size).map fun i => decide (i < n)
def opB (P : Program) (N : Nat) (ops : Array Oper) (dl : List M3) (i : Nat) (p : M3) : Bool := match ops[i]? with
 | some o => gdOk N ops p.g o.guard && chkI P N (.v p.d p.o p.xs) o && o.after.all (fun e => !Region.binds .any e || decide (e.on < i)) &&
   (List.range dl.length).all (fun j => match dl[j]? with
    | some q => (j == i || q.d != p.d) && p.xs.all (fun | .s m => m != q.d || (decide (j < i) && Region.waitsFor .any ops i j) || (decide (i < j) && Region.waitsFor .any ops j i) | .k _ => true) &&
     (match p.g with | none => true | some (t, _) => t != q.d || (decide (j < i) && Region.waitsFor .any ops i j))
    | none => true)
 | none => false
def chkD (P : Program) (N : Nat) (fz : Bool) (ops : Array Oper) (dl : List M3) (tail : List (Gd × I)) : Bool :=
 decide (dl.length ≤ ops.size) && (List.range dl.length).all (fun i => match dl[i]? with | some p => opB P N ops dl i p | none => true) &&
 (dl.length == ops.size || (Region.sinkB .any ops dl.length && Region.chainB .any ops dl.length)) &&
 Region.seqB .any ops (ops.size - dl.length) dl.length (canon ops.size dl.length) && chkL P N fz ops tail (ops.toList.drop dl.length)
def cnt (listed : Array Bool) : Nat → Nat
 | 0 => 0
 | n + 1 => (if listed.getD n true = true then 0 else 1) + cnt listed n
theorem cnt_ge {listed : Array Bool} {i : Nat} : ∀ {n : Nat}, n ≤ i → cnt (listed.setIfInBounds i true) n = cnt listed n
 | 0, _ => rfl
 | n + 1, h => by simp only [cnt]; rw [getD_set_ne true (by omega), cnt_ge (by omega)]
theorem cnt_set {listed : Array Bool} {i : Nat} (hs : i < listed.size) (hi : listed.getD i true = false) : ∀ {n : Nat}, i < n → cnt listed n = cnt (listed.setIfInBounds i true) n + 1
 | 0, h => by omega
 | n + 1, h => by
  simp only [cnt]
  by_cases hin : i = n
  ·subst hin
   rw [cnt_ge (Nat.le_refl _), hi]
   have : (listed.setIfInBounds i true).getD i true = true := by simp [hs]
   rw [this]; simp; omega
  ·rw [getD_set_ne true hin, cnt_set hs hi (n := n) (by omega)]; omega
theorem cnt_zero {listed : Array Bool} : ∀ {n : Nat}, cnt listed n = 0 → ∀ i, i < n → listed.getD i true = true
 | 0, _, i, h => by omega
 | n + 1, hc, i, h => by
  simp only [cnt] at hc
  by_cases hin : i = n
  ·subst hin
   by_cases he : listed.getD i true = true
   ·exact he
   ·rw [if_neg he] at hc; omega
  ·exact cnt_zero (n := n) (by omega) i (by omega)
theorem cnt_pos {listed : Array Bool} : ∀ {n : Nat}, cnt listed n ≠ 0 → ∃ i, i < n ∧ listed.getD i true = false ∧ ∀ j, j < i → listed.getD j true = true
 | 0, h => absurd rfl h
 | n + 1, h => by
  by_cases h0 : cnt listed n = 0
  ·refine ⟨n, by omega, ?_, cnt_zero h0⟩
   simp only [cnt, h0] at h
   cases e : listed.getD n true with
   | true => rw [e] at h; simp at h
   | false => rfl
  ·obtain ⟨i, h1, h2, h3⟩ := cnt_pos h0
   exact ⟨i, by omega, h2, h3⟩
theorem canon_get {size n j : Nat} (h : j < size) : (canon size n)[j]? = some (decide (j < n)) := by simp [canon, h]
structure Mid (dl : List M3) (vs : List V) (s : St) (listed : Array Bool) (s' : St) : Prop where
 on : ∀ (j : Nat) (p : M3) (v : V), dl[j]? = some p → vs[j]? = some v → listed.getD j true = true → s'.get p.d = v
 off : ∀ y, (∀ (j : Nat) (p : M3), dl[j]? = some p → p.d = y → listed.getD j true = false) → s'.get y = s.get y
theorem OkS.congr (h : OkS Xb par N w0 a w s) (e : ∀ y, s'.get y = s.get y) : OkS Xb par N w0 a w s' := by
 obtain ⟨ow, hG⟩ := h.gam
 exact ⟨⟨ow, hG.congr e⟩, h.size, h.df, h.grow⟩
theorem drawn_go0 {ops : Array Oper} {dl : List M3} {vs : List V} {Q : Exit → Act → World → Prop} (hpar : ∀ z, 1000 ≤ z → par z = none)
  (hn : dl.length ≤ ops.size) (hop : (List.range dl.length).all (fun i => match dl[i]? with | some p => opB P N ops dl i p | none => true) = true) (hseq : Region.seqB .any ops (ops.size - dl.length) dl.length (canon ops.size dl.length) = true)
  (hvl : vs.length = dl.length) (hno : ∀ p ∈ dl, (s.get p.d).isName = false)
  (hch : ∀ (i : Nat) (p : M3) (v : V), dl[i]? = some p → vs[i]? = some v → v.isName = false ∧ Yld P p (ent (dl.take i) (vs.take i) s) v)
  (htail : ∀ a w, OkS Xb par N w0 a w (ent dl vs s) → wpList P ops Q (ops.toList.drop dl.length) a w)
  (hear : ∀ (m : Nat) (listed : Array Bool) (a : Act) (w : World) (s' : St), cnt listed dl.length = m + 1 → HeadInv .any ops dl.length listed → Mid dl vs s listed s' → OkS Xb par N w0 a w s' →
   ∀ i ∈ Region.ready .any ops listed, ¬ i < dl.length → wpOp P ops Q i (wpAny P .any ops Q (m + (ops.size - dl.length)) (listed.setIfInBounds i true)) a w) :
  ∀ (m : Nat) (listed : Array Bool) (a : Act) (w : World) (s' : St), cnt listed dl.length = m → HeadInv .any ops dl.length listed → Mid dl vs s listed s' → OkS Xb par N w0 a w s' →
   wpAny P .any ops Q (m + (ops.size - dl.length)) listed a w := by
 have OP : ∀ (i : Nat) (p : M3), dl[i]? = some p → ∃ o, ops[i]? = some o ∧ gdOk N ops p.g o.guard = true ∧ chkI P N (.v p.d p.o p.xs) o = true ∧ (∀ e ∈ o.after, Region.binds .any e = true → e.on < i) ∧
   ∀ (j : Nat) (q : M3), dl[j]? = some q → (q.d = p.d → j = i) ∧ ∀ m, (X.s m ∈ p.xs ∨ ∃ b, p.g = some (m, b)) → m = q.d → (j < i ∧ Region.waitsFor .any ops i j = true) ∨ (i < j ∧ Region.waitsFor .any ops j i = true) := by
  intro i p hp
  have hi : i < dl.length := (List.getElem?_eq_some_iff.1 hp).1
  have := List.all_eq_true.1 hop i (List.mem_range.2 hi)
  rw [hp] at this
  simp only [opB] at this
  cases ho : ops[i]? with
  | none => rw [ho] at this; cases this
  | some o =>
   rw [ho] at this
   simp only [Bool.and_eq_true] at this
   obtain ⟨⟨⟨h1, h2⟩, h3⟩, h4⟩ := this
   refine ⟨o, rfl, h1, h2, fun e he hb => ?_, fun j q hq => ?_⟩
   ·have := Array.all_eq_true_iff_forall_mem.1 h3 e he
    simpa [hb] using this
   ·have := List.all_eq_true.1 h4 j (List.mem_range.2 (List.getElem?_eq_some_iff.1 hq).1)
    rw [hq] at this
    simp only [Bool.and_eq_true, Bool.or_eq_true, beq_iff_eq, bne_iff_ne] at this
    refine ⟨fun e => by rcases this.1.1 with h | h; exact h; exact absurd e h, fun m hm e => ?_⟩
    rcases hm with hm | ⟨b, hm⟩
    ·have := List.all_eq_true.1 this.1.2 _ hm
     simp only [Bool.or_eq_true, bne_iff_ne, Bool.and_eq_true, decide_eq_true_eq] at this
     rcases this with (h | h) | h
     ·exact absurd e h
     ·exact .inl h
     ·exact .inr h
    ·have := this.2
     rw [hm] at this
     simp only [Bool.or_eq_true, bne_iff_ne, Bool.and_eq_true, decide_eq_true_eq] at this
     rcases this with h | h
     ·exact absurd e h
     ·exact .inl h
 have dist : ∀ (i j : Nat) (p q : M3), dl[i]? = some p → dl[j]? = some q → p.d = q.d → i = j := fun i j p q hp hq e => by
  obtain ⟨o, _, _, _, _, h⟩ := OP j q hq
  exact (h i p hp).1 e
 have dslot : ∀ (i : Nat) (p : M3), dl[i]? = some p → p.d < 1000 ∧ p.d < N := fun i p hp => by
  obtain ⟨o, _, _, h, _⟩ := OP i p hp
  simp only [chkI, Bool.and_eq_true] at h
  exact ⟨(dstOk_spec h.1).2.2, (dstOk_spec h.1).2.1⟩
 have vex : ∀ (i : Nat), i < dl.length → ∃ p v, dl[i]? = some p ∧ vs[i]? = some v := fun i hi =>
  ⟨dl[i], vs[i]'(by omega), List.getElem?_eq_getElem hi, List.getElem?_eq_getElem (by omega)⟩
 intro m
 induction m with
 | zero =>
  intro listed a w s' hcnt inv hM hO
  have hall := cnt_zero hcnt
  have hcan : listed = canon ops.size dl.length := by
   apply Array.ext_getElem?
   intro j
   by_cases hj : j < ops.size
   ·rw [canon_get hj, Array.getElem?_eq_getElem (by rw [inv.size]; exact hj)]
    have hjs : j < listed.size := by rw [inv.size]; exact hj
    by_cases hjn : j < dl.length
    ·have := hall j hjn
     simp [hjs] at this
     simp [this, hjn]
    ·have := inv.tail j (by omega) hj
     simp [hjs] at this
     simp [this, hjn]
   ·rw [Array.getElem?_eq_none (by rw [inv.size]; omega), Array.getElem?_eq_none (by simp [canon]; omega)]
  have hlen : (ops.toList.drop dl.length).length = ops.size - dl.length := by simp
  have := wpAny_of_seq (md := .any) (ops := ops) (Q' := Q) (ops.toList.drop dl.length) dl.length listed a w (fun j => by simp [List.getElem?_drop]) (by rw [hlen, hcan]; exact hseq) (htail a w (hO.congr fun y => ?_))
  ·rw [Nat.zero_add, ← hlen]; exact this
  ·by_cases hy : ∃ (j : Nat) (p : M3), dl[j]? = some p ∧ p.d = y
   ·obtain ⟨j, p, hp, rfl⟩ := hy
    have hj := (List.getElem?_eq_some_iff.1 hp).1
    obtain ⟨p', v, hp', hv⟩ := vex j hj
    rw [hp] at hp'; cases hp'
    rw [ent_some dist hp hv, hM.on j p v hp hv (hall j hj)]
   ·rw [ent_none fun p hp e => by
     obtain ⟨j, hj, ej⟩ := List.getElem_of_mem hp
     exact hy ⟨j, p, by rw [← ej]; exact List.getElem?_eq_getElem hj, e⟩]
    exact (hM.off y fun j p hp e => absurd ⟨j, p, hp, e⟩ hy).symm
 | succ m ih =>
  intro listed a w s' hcnt inv hM hO
  rw [show m + 1 + (ops.size - dl.length) = (m + (ops.size - dl.length)) + 1 from by omega]
  refine ⟨fun h0 => ?_, fun i hi => ?_⟩
  ·exfalso
   obtain ⟨k, k1, k2, k3⟩ := cnt_pos (listed := listed) (n := dl.length) (by omega)
   obtain ⟨p, v, hp, hv⟩ := vex k k1
   obtain ⟨o, ho, _, _, he, _⟩ := OP k p hp
   have : k ∈ Region.ready .any ops listed := by
    refine mem_ready.2 ⟨k2, o, ho, fun e hee hb => ?_⟩
    have h1 := k3 e.on (he e hee hb)
    have h2 : e.on < listed.size := by rw [inv.size]; have := he e hee hb; omega
    simp [h2] at h1 ⊢; exact h1
   rw [h0] at this; cases this
  ·by_cases hin : i < dl.length
   case neg => exact hear m listed a w s' hcnt inv hM hO i hi hin
   obtain ⟨hun, o', ho', hall⟩ := mem_ready.1 hi
   obtain ⟨p, v, hp, hv⟩ := vex i hin
   obtain ⟨o, ho, hg, hci, hed, hlook⟩ := OP i p hp
   rw [ho] at ho'; cases ho'
   obtain ⟨hvn, hst⟩ := hch i p v hp hv
   have his : i < listed.size := by rw [inv.size]; omega
   have lst : ∀ j, Region.waitsFor .any ops i j = true → listed.getD j true = true := by
    intro j hj
    obtain ⟨o2, ho2, e, he, hb, hon⟩ := Region.waitsFor_spec hj
    rw [ho] at ho2; cases ho2
    have := hall e he hb
    rw [hon] at this
    cases hh : listed.getD j true with
    | true => rfl
    | false => rw [getD_both hh] at this; cases this
   have stk : ∀ y, (∀ (j : Nat) (q : M3), dl[j]? = some q → q.d = y → False) → (ent (dl.take i) (vs.take i) s).get y = s.get y := fun y hy => ent_none fun q hq e => by
    obtain ⟨j, hj, ej⟩ := List.getElem_of_mem (List.mem_of_mem_take hq)
    exact hy j q (by rw [← ej]; exact List.getElem?_eq_getElem hj) e
   have tdist : ∀ (i' j : Nat) (p q : M3), (dl.take i)[i']? = some p → (dl.take i)[j]? = some q → p.d = q.d → i' = j := fun i' j p q hp hq e => by
    rw [List.getElem?_take] at hp hq
    split at hp
    ·split at hq
     ·exact dist i' j p q hp hq e
     ·cases hq
    ·cases hp
   have eqs : ∀ (j : Nat) (q : M3) (u : V), dl[j]? = some q → vs[j]? = some u → j < i → (ent (dl.take i) (vs.take i) s).get q.d = u := fun j q u hq hu hj =>
    ent_some tdist (by rw [List.getElem?_take, if_pos hj]; exact hq) (by rw [List.getElem?_take, if_pos hj]; exact hu)
   have eqg : ∀ (j : Nat) (q : M3), dl[j]? = some q → ¬ j < i → (ent (dl.take i) (vs.take i) s).get q.d = s.get q.d := fun j q hq hj => ent_none fun r hr e => by
    obtain ⟨k, hk, ek⟩ := List.getElem_of_mem hr
    have hk' : k < i := by rw [List.length_take] at hk; omega
    have : dl[k]? = some r := by rw [← ek]; simp at hk; simp [hk]
    exact hj (by rw [← dist k j r q this hq e]; exact hk')
   have alike : Alike (ent (dl.take i) (vs.take i) s) s' := by
    intro y
    by_cases hy : ∃ (j : Nat) (q : M3), dl[j]? = some q ∧ q.d = y
    ·obtain ⟨j, q, hq, rfl⟩ := hy
     have hj := (List.getElem?_eq_some_iff.1 hq).1
     obtain ⟨q', u, hq', hu⟩ := vex j hj
     rw [hq] at hq'; cases hq'
     have hun := (hch j q u hq hu).1
     have hsn := hno q (List.mem_of_getElem? hq)
     refine .inr ⟨(dslot j q hq).1, ?_, ?_⟩
     ·by_cases hji : j < i
      ·rw [eqs j q u hq hu hji]; exact hun
      ·rw [eqg j q hq hji]; exact hsn
     ·cases hl : listed.getD j true with
      | true => rw [hM.on j q u hq hu hl]; exact hun
      | false =>
       rw [hM.off q.d fun k r hr e => by rw [dist k j r q hr hq e]; exact hl]; exact hsn
    ·left
     rw [stk y fun j q hq e => hy ⟨j, q, hq, e⟩, hM.off y fun j q hq e => absurd ⟨j, q, hq, e⟩ hy]
   have same : ∀ m, (X.s m ∈ p.xs ∨ ∃ b, p.g = some (m, b)) → (ent (dl.take i) (vs.take i) s).get m = s'.get m := by
    intro m hx
    by_cases hy : ∃ (j : Nat) (q : M3), dl[j]? = some q ∧ q.d = m
    ·obtain ⟨j, q, hq, rfl⟩ := hy
     have hj := (List.getElem?_eq_some_iff.1 hq).1
     obtain ⟨q', u, hq', hu⟩ := vex j hj
     rw [hq] at hq'; cases hq'
     rcases (hlook j q hq).2 _ hx rfl with ⟨h1, h2⟩ | ⟨h1, h2⟩
     ·rw [eqs j q u hq hu h1, hM.on j q u hq hu (lst j h2)]
     ·
      have hjl : listed.getD j true = false := by
       cases hl : listed.getD j true with
       | false => rfl
       | true =>
        obtain ⟨o2, ho2, e, he, hb, hon⟩ := Region.waitsFor_spec h2
        have hjs : j < listed.size := by rw [inv.size]; omega
        have hl' : listed.getD j false = true := by simp [hjs] at hl ⊢; exact hl
        have := inv.closed j o2 ho2 hl' e he hb
        rw [hon] at this
        rw [getD_both hun] at this; cases this
      rw [eqg j q hq (by omega), hM.off q.d fun k r hr e => by rw [dist k j r q hr hq e]; exact hjl]
    ·rw [stk m fun j q hq e => hy ⟨j, q, hq, e⟩, hM.off m fun j q hq e => absurd ⟨j, q, hq, e⟩ hy]
   have looks : p.xs.map (ent (dl.take i) (vs.take i) s).look = p.xs.map s'.look := by
    refine List.map_congr_left fun x hx => ?_
    cases x with
    | k t => rfl
    | s m => exact alike.look (same m (.inl hx))
   have next : ∀ {a' : Act} {w' : World}, OkS Xb par N w0 a' w' ((p.d, v) :: s') → wpAny P .any ops Q (m + (ops.size - dl.length)) (listed.setIfInBounds i true) a' w' := by
    intro a' w' hO'
    refine ih (listed.setIfInBounds i true) a' w' ((p.d, v) :: s') ?_ (inv.set hi hin) ⟨fun j q u' hq hu hl => ?_, fun y hy => ?_⟩ hO'
    ·have := cnt_set his hun hin; omega
    ·by_cases hji : i = j
     ·subst hji
      rw [hp] at hq; cases hq
      rw [hv] at hu; cases hu
      rw [get_top]
     ·rw [get_top_ne fun e => hji (dist j i q p hq hp e).symm]
      rw [getD_set_ne true hji] at hl
      exact hM.on j q u' hq hu hl
    ·have hyp : y ≠ p.d := fun e => by
      have := hy i p hp e.symm
      simp [his] at this
     rw [get_top_ne hyp]
     refine hM.off y fun j q hq e => ?_
     have := hy j q hq e
     by_cases hji : i = j
     ·subst hji; exact hun
     ·rwa [getD_set_ne true hji] at this
   simp only [chkI, Bool.and_eq_true] at hci
   obtain ⟨d1, d2, d3⟩ := dstOk_spec hci.1
   have run : Region.wanted o' (yielded ops a.tmps) = true → stepK P p.o (p.xs.map (ent (dl.take i) (vs.take i) s).look) (· = v) → wpOp P ops Q i (wpAny P .any ops Q (m + (ops.size - dl.length)) (listed.setIfInBounds i true)) a w := by
    intro hw hst
    unfold wpOp
    rw [ho]
    simp only [hw, if_true]
    left
    rw [looks] at hst
    obtain ⟨ow, hG⟩ := hO.gam
    refine stepK_goes hG hci.2 hst _ _ fun v' u w' hv' hgr hG' hn' hr' => ?_
    subst hv'
    rw [d1, put_some]
    exact next ⟨⟨_, hG'.put d3 (by rw [hO.size]; exact d2) hn' (hr' p.d)⟩, by simp [hO.size], hO.df, hO.grow.step rfl hgr.any⟩
   unfold Yld at hst
   cases hpg : p.g with
   | none =>
    rw [hpg] at hst hg
    have hgn : o'.guard = none := by
     unfold gdOk at hg; split at hg
     ·rename_i h; exact h
     ·rename_i h _; cases h
     ·cases hg
    exact run (by simp [Region.wanted, hgn]) hst
   | some g =>
    obtain ⟨t, want⟩ := g
    rw [hpg] at hst hg
    dsimp only at hst
    rw [same t (.inr ⟨want, hpg⟩)] at hst
    unfold gdOk at hg
    split at hg
    ·rename_i h _; cases h
    case h_3 => cases hg
    rename_i t' x' j y h1 hgd
    cases h1
    simp only [Bool.and_eq_true, beq_iff_eq, decide_eq_true_eq] at hg
    obtain ⟨⟨⟨rfl, ht⟩, hN⟩, hj⟩ := hg
    have hlt : t < a.tmps.size := by rw [hO.size]; exact hN
    have pass : ∀ {s1 : St}, OkS Xb par N w0 a w s1 → (∀ y, s1.get y = s'.get y) → v = .un → Region.wanted o' (yielded ops a.tmps) = false → wpOp P ops Q i (wpAny P .any ops Q (m + (ops.size - dl.length)) (listed.setIfInBounds i true)) a w := by
     intro s1 h1 h2 h3 hw
     unfold wpOp
     rw [ho]
     simp only [hw]
     rw [d1]
     have := (h1.congr (s' := s') fun y => (h2 y).symm).un d3 d2
     rw [← h3] at this
     exact next this
    rcases hst with ⟨x, hx, hst⟩ | ⟨hx, hva⟩
    ·obtain ⟨e, hO'⟩ := hO.guard ht hN hx
     have hy : yielded ops a.tmps j = some x := by
      unfold yielded
      rw [hj]
      have : a.tmps[t]? = some (.bool x) := by
       rw [Array.getElem?_eq_getElem hlt]; simpa [hlt] using e
      simp only [Option.bind_some, this]
     rcases hst with ⟨rfl, hst⟩ | ⟨rfl, hva⟩
     ·exact run (by simp [Region.wanted, hgd, hy]) hst
     ·exact pass hO (fun _ => rfl) hva (by simp [Region.wanted, hgd, hy])
    ·obtain ⟨e, hO'⟩ := hO.guardU ht hN hx
     have hy : yielded ops a.tmps j = none := by
      unfold yielded
      rw [hj]
      have : a.tmps[t]? = some undef := by
       rw [Array.getElem?_eq_getElem hlt]; simpa [hlt] using e
      simp only [Option.bind_some, this, undef]
     exact pass hO (fun _ => rfl) hva (by simp [Region.wanted, hgd, hy])
theorem opB_edges {ops : Array Oper} {dl : List M3} (hop : (List.range dl.length).all (fun i => match dl[i]? with | some p => opB P N ops dl i p | none => true) = true) {i : Nat} {p : M3} (hp : dl[i]? = some p) :
  ∃ o, ops[i]? = some o ∧ gdOk N ops p.g o.guard = true ∧ chkI P N (.v p.d p.o p.xs) o = true ∧ (∀ e ∈ o.after, Region.binds .any e = true → e.on < i) := by
 have hi : i < dl.length := (List.getElem?_eq_some_iff.1 hp).1
 have := List.all_eq_true.1 hop i (List.mem_range.2 hi)
 rw [hp] at this
 simp only [opB] at this
 cases ho : ops[i]? with
 | none => rw [ho] at this; cases this
 | some o =>
  rw [ho] at this
  simp only [Bool.and_eq_true] at this
  obtain ⟨⟨⟨h1, h2⟩, h3⟩, h4⟩ := this
  refine ⟨o, rfl, h1, h2, fun e he hb => ?_⟩
  have := Array.all_eq_true_iff_forall_mem.1 h3 e he
  simpa [hb] using this
theorem drawn_go {ops : Array Oper} {fz : Bool} {dl : List M3} {tail : List (Gd × I)} {vs : List V} {Q : Exit → Act → World → Prop} (hpar : ∀ z, 1000 ≤ z → par z = none) (hfz : fz = true → ∀ b, ¬ Xb b)
  (hc : chkD P N fz ops dl tail = true) (hvl : vs.length = dl.length) (hno : ∀ p ∈ dl, (s.get p.d).isName = false)
  (hch : ∀ (i : Nat) (p : M3) (v : V), dl[i]? = some p → vs[i]? = some v → v.isName = false ∧ Yld P p (ent (dl.take i) (vs.take i) s) v)
  (htail : ∀ a w, OkS Xb par N w0 a w (ent dl vs s) → wpList P ops Q (ops.toList.drop dl.length) a w) :
  ∀ (m : Nat) (listed : Array Bool) (a : Act) (w : World) (s' : St), cnt listed dl.length = m → HeadInv .any ops dl.length listed → Mid dl vs s listed s' → OkS Xb par N w0 a w s' →
   wpAny P .any ops Q (m + (ops.size - dl.length)) listed a w := by
 simp only [chkD, Bool.and_eq_true, decide_eq_true_eq, Bool.or_eq_true, beq_iff_eq] at hc
 obtain ⟨⟨⟨⟨hn, hop⟩, htl⟩, hseq⟩, _⟩ := hc
 refine drawn_go0 hpar hn hop hseq hvl hno hch htail fun m listed a w s' hcnt inv hM hO i hi hin => ?_
 exfalso
 have hi' := mem_ready.1 hi
 obtain ⟨_, o, ho, _⟩ := hi'
 have his : i < ops.size := (Array.getElem?_eq_some_iff.1 ho).1
 rcases htl with h | ⟨h1, h2⟩
 ·omega
 ·obtain ⟨k, k1, k2, _⟩ := cnt_pos (listed := listed) (n := dl.length) (by omega)
  exact tail_waits h1 h2 (by omega) inv (dl.length - k) k rfl k1 k2 i (by omega) hi
end
end Go.Vc
namespace Go.Vc
open Go
section
variable {P : Program} {ops ops' : Array Oper} {Q : Exit → Act → World → Prop}
theorem wpAny_iff : ∀ {n : Nat} {L : Array Bool} {a : Act} {w : World}, wpAny P .any ops Q n L a w ↔
  (Region.ready .any ops L = [] → Q .normal a w) ∧ ∀ i ∈ Region.ready .any ops L, 0 < n ∧ wpOp P ops Q i (wpAny P .any ops Q (n - 1) (L.setIfInBounds i true)) a w
 | 0, L, a, w => by
  constructor
  ·rintro ⟨h1, h2⟩
   exact ⟨fun _ => h2, fun i hi => by rw [h1] at hi; cases hi⟩
  ·rintro ⟨h1, h2⟩
   have : Region.ready .any ops L = [] := by
    cases e : Region.ready .any ops L with
    | nil => rfl
    | cons i l => have := (h2 i (by rw [e]; simp)).1; omega
   exact ⟨this, h1 this⟩
 | n + 1, L, a, w => by
  constructor
  ·rintro ⟨h1, h2⟩
   exact ⟨h1, fun i hi => ⟨by omega, h2 i hi⟩⟩
  ·rintro ⟨h1, h2⟩
   exact ⟨h1, fun i hi => (h2 i hi).2⟩
theorem set_comm {L : Array Bool} {i j : Nat} : (L.setIfInBounds i true).setIfInBounds j true = (L.setIfInBounds j true).setIfInBounds i true := by
 apply Array.ext_getElem?
 intro k
 by_cases e1 : i = k <;> by_cases e2 : j = k
 ·subst e1; subst e2; rfl
 ·subst e1
  rw [Array.getElem?_setIfInBounds_ne e2]
  by_cases h : i < L.size
  ·rw [Array.getElem?_setIfInBounds_self_of_lt h, Array.getElem?_setIfInBounds_self_of_lt (by simpa using h)]
  ·rw [Array.getElem?_eq_none (by simp; omega), Array.getElem?_eq_none (by simp; omega)]
 ·subst e2
  rw [Array.getElem?_setIfInBounds_ne e1 (xs := L.setIfInBounds j true)]
  by_cases h : j < L.size
  ·rw [Array.getElem?_setIfInBounds_self_of_lt h, Array.getElem?_setIfInBounds_self_of_lt (by simpa using h)]
  ·rw [Array.getElem?_eq_none (by simp; omega), Array.getElem?_eq_none (by simp; omega)]
 ·rw [Array.getElem?_setIfInBounds_ne e2, Array.getElem?_setIfInBounds_ne e1, Array.getElem?_setIfInBounds_ne e1, Array.getElem?_setIfInBounds_ne e2]
def Closed (ops : Array Oper) (L : Array Bool) : Prop := ∀ j oj, ops[j]? = some oj → L.getD j false = true → ∀ e ∈ oj.after, Region.binds .any e = true → L.getD e.on false = true
theorem Closed.set {L : Array Bool} {i : Nat} (h : Closed ops L) (hi : i ∈ Region.ready .any ops L) : Closed ops (L.setIfInBounds i true) := by
 intro j oj hj hl x hx hb
 by_cases hij : i = j
 ·subst hij
  obtain ⟨_, o, ho, hall⟩ := mem_ready.1 hi
  rw [ho] at hj; cases hj
  exact getD_set_true (hall x hx hb)
 ·rw [getD_set_ne false hij] at hl
  exact getD_set_true (h j oj hj hl x hx hb)
structure Flt (P : Program) (ops ops' : Array Oper) (Q : Exit → Act → World → Prop) (e : Nat) (F : List Nat) (I : Array Bool → Act → Prop) (E : Act → World → Act → World → Prop) : Prop where
 he : e < ops.size
 hF : ∀ i ∈ F, i < ops.size ∧ i ≠ e
 size : ops'.size = ops.size
 same : ∀ j, j ≠ e → ops'[j]? = ops[j]?
 ext : ∃ o o', ops[e]? = some o ∧ ops'[e]? = some o' ∧ (∀ x ∈ o.after, x ∈ o'.after) ∧ (∀ x ∈ o'.after, Region.binds .any x = true → x ∈ o.after ∨ x.on ∈ F) ∧ ∀ i ∈ F, ∃ x ∈ o'.after, Region.binds .any x = true ∧ x.on = i
 hop : ∀ i K a w, wpOp P ops' Q i K a w ↔ wpOp P ops Q i K a w
 dep : ∀ i ∈ F, ∀ o, ops[i]? = some o → ∀ x ∈ o.after, Region.binds .any x = true → x.on ∈ F ∧ x.on < i
 bef : ∀ L : Array Bool, L.size = ops.size → Closed ops L → e ∈ Region.ready .any ops L → ∀ i, i < ops.size → i ∉ F → i ≠ e → L.getD i true = true ∨ ∀ f ∈ F, Region.waitsFor .any ops i f = true
 pres : ∀ i, i ≠ e → ∀ (L : Array Bool) a w K, L.size = ops.size → i ∈ Region.ready .any ops L → I L a → wpOp P ops Q i K a w → wpOp P ops Q i (fun a' w' => K a' w' ∧ I (L.setIfInBounds i true) a') a w
 com : ∀ i ∈ F, ∀ (L : Array Bool) a w a1 w1 K, L.size = ops.size → i ∈ Region.ready .any ops L → I L a → E a w a1 w1 → wpOp P ops Q i K a w →
  wpOp P ops Q i (fun a1' w1' => ∃ a' w', K a' w' ∧ E a' w' a1' w1' ∧ I (L.setIfInBounds i true) a') a1 w1
 dom : ∀ i ∈ F, ∀ (L : Array Bool) a w K, L.size = ops.size → i ∈ Region.ready .any ops L → I L a → wpOp P ops Q i K a w → (∀ a' w', K a' w' → I (L.setIfInBounds i true) a' → ∃ a1 w1, E a' w' a1 w1) → ∃ a1 w1, E a w a1 w1
 run : ∀ (L : Array Bool) a w K, I L a → wpOp P ops Q e K a w → ∃ a1 w1, E a w a1 w1 ∧ K a1 w1
 back : ∀ a w a1 w1 K, E a w a1 w1 → K a1 w1 → wpOp P ops Q e K a w
 fn : ∀ a w a1 w1 a2 w2, E a w a1 w1 → E a w a2 w2 → a1 = a2 ∧ w1 = w2
variable {e : Nat} {F : List Nat} {I : Array Bool → Act → Prop} {E : Act → World → Act → World → Prop}
theorem Flt.rdy (H : Flt P ops ops' Q e F I E) {L : Array Bool} {i : Nat} (hi : i ≠ e) : i ∈ Region.ready .any ops' L ↔ i ∈ Region.ready .any ops L := by
 rw [mem_ready, mem_ready, H.same i hi]
theorem Flt.sub (H : Flt P ops ops' Q e F I E) {L : Array Bool} {i : Nat} (hi : i ∈ Region.ready .any ops' L) : i ∈ Region.ready .any ops L := by
 by_cases h : i = e
 ·subst h
  obtain ⟨h1, o1, ho1, hall⟩ := mem_ready.1 hi
  obtain ⟨o, o', ho, ho', hs, _⟩ := H.ext
  rw [ho'] at ho1; cases ho1
  exact mem_ready.2 ⟨h1, o, ho, fun x hx hb => hall x (hs x hx) hb⟩
 ·exact (H.rdy h).1 hi
theorem Flt.rdyE (H : Flt P ops ops' Q e F I E) {L : Array Bool} (he : e ∈ Region.ready .any ops L) (hF : ∀ f ∈ F, L.getD f false = true) : e ∈ Region.ready .any ops' L := by
 obtain ⟨h1, o1, ho1, hall⟩ := mem_ready.1 he
 obtain ⟨o, o', ho, ho', _, hx, _⟩ := H.ext
 rw [ho] at ho1; cases ho1
 refine mem_ready.2 ⟨h1, o', ho', fun x hx' hb => ?_⟩
 rcases hx x hx' hb with h | h
 ·exact hall x h hb
 ·exact hF _ h
theorem Flt.first (H : Flt P ops ops' Q e F I E) {L : Array Bool} (hs : L.size = ops.size) {f : Nat} (hf : f ∈ F) (hu : L.getD f false = false) : ∃ i ∈ F, i ∈ Region.ready .any ops L := by
 have : ∀ n f, f < n → f ∈ F → L.getD f false = false → ∃ i ∈ F, i ∈ Region.ready .any ops L := by
  intro n
  induction n with
  | zero => intro f h; omega
  | succ n ih =>
   intro f hn hf hu
   obtain ⟨o, ho⟩ : ∃ o, ops[f]? = some o := ⟨_, Array.getElem?_eq_getElem (H.hF f hf).1⟩
   by_cases h : ∃ x ∈ o.after, Region.binds .any x = true ∧ L.getD x.on false = false
   ·obtain ⟨x, hx, hb, hl⟩ := h
    obtain ⟨d1, d2⟩ := H.dep f hf o ho x hx hb
    exact ih x.on (by omega) d1 hl
   ·refine ⟨f, hf, mem_ready.2 ⟨getD_in (by rw [hs]; exact (H.hF f hf).1) hu, o, ho, fun x hx hb => ?_⟩⟩
    cases hl : L.getD x.on false with
    | true => rfl
    | false => exact absurd ⟨x, hx, hb, hl⟩ h
 exact this (f + 1) f (by omega) hf hu
theorem getD_tf {L : Array Bool} {i : Nat} (hi : i < L.size) : L.getD i true = L.getD i false := by
 simp [hi]
theorem Flt.sameAfter (H : Flt P ops ops' Q e F I E) : ∀ {n : Nat} {L : Array Bool} {a : Act} {w : World}, L.getD e true = true → wpAny P .any ops' Q n L a w → wpAny P .any ops Q n L a w := by
 intro n
 induction n with
 | zero =>
  intro L a w hl h
  have hr : ∀ i, i ∈ Region.ready .any ops' L ↔ i ∈ Region.ready .any ops L := fun i => ⟨H.sub, fun hi => by
   by_cases h : i = e
   ·subst h; have := (mem_ready.1 hi).1; rw [hl] at this; cases this
   ·exact (H.rdy h).2 hi⟩
  rw [wpAny_iff] at h ⊢
  refine ⟨fun h0 => h.1 ?_, fun i hi => ?_⟩
  ·cases e' : Region.ready .any ops' L with
   | nil => rfl
   | cons i l => have := (hr i).1 (by rw [e']; simp); rw [h0] at this; cases this
  ·exact absurd (h.2 i ((hr i).2 hi)).1 (by omega)
 | succ n ih =>
  intro L a w hl h
  have hr : ∀ i, i ∈ Region.ready .any ops' L ↔ i ∈ Region.ready .any ops L := fun i => ⟨H.sub, fun hi => by
   by_cases h : i = e
   ·subst h; have := (mem_ready.1 hi).1; rw [hl] at this; cases this
   ·exact (H.rdy h).2 hi⟩
  rw [wpAny_iff] at h ⊢
  refine ⟨fun h0 => h.1 ?_, fun i hi => ⟨by omega, ?_⟩⟩
  ·cases e' : Region.ready .any ops' L with
   | nil => rfl
   | cons i l => have := (hr i).1 (by rw [e']; simp); rw [h0] at this; cases this
  ·have h2 := (h.2 i ((hr i).2 hi)).2
   rw [H.hop] at h2
   have hie : i ≠ e := by rintro rfl; have := (mem_ready.1 hi).1; rw [hl] at this; cases this
   exact wpOp_mono (fun a w q => ih (by rw [getD_set_ne true hie]; exact hl) q) h2
theorem Flt.relaxB (H : Flt P ops ops' Q e F I E) : ∀ (n : Nat) (L : Array Bool) (a : Act) (w : World) (a1 : Act) (w1 : World), L.size = ops.size → cnt L ops.size = n → Closed ops L → e ∈ Region.ready .any ops L → I L a → E a w a1 w1 →
  wpAny P .any ops' Q n L a w → wpAny P .any ops Q (n - 1) (L.setIfInBounds e true) a1 w1 := by
 intro n
 induction n with
 | zero =>
  intro L a w a1 w1 hs hc _ he _ _ _
  have := cnt_zero hc e H.he
  rw [(mem_ready.1 he).1] at this; cases this
 | succ n ih =>
  intro L a w a1 w1 hs hc hcl he hI hE h
  have heu := (mem_ready.1 he).1
  rw [Nat.add_sub_cancel]
  rw [wpAny_iff] at h
  have full : (∀ f ∈ F, L.getD f false = true) → wpAny P .any ops Q n (L.setIfInBounds e true) a1 w1 := fun hF => by
   have h2 := (h.2 e (H.rdyE he hF)).2
   rw [H.hop] at h2
   obtain ⟨a2, w2, q1, q2⟩ := H.run L a w _ hI h2
   obtain ⟨rfl, rfl⟩ := H.fn _ _ _ _ _ _ hE q1
   exact H.sameAfter (by simp [hs, H.he]) q2
  by_cases hall : ∀ f ∈ F, L.getD f false = true
  ·exact full hall
  rw [wpAny_iff]
  have hne : ∀ i, i ≠ e → (L.setIfInBounds e true).getD i true = L.getD i true := fun i hi => getD_set_ne true (Ne.symm hi)
  have hne' : ∀ i, i ≠ e → (L.setIfInBounds e true).getD i false = L.getD i false := fun i hi => getD_set_ne false (Ne.symm hi)
  have hup : ∃ f, f ∈ F ∧ L.getD f false = false := by
   refine Classical.byContradiction fun hn => hall fun f hf => ?_
   cases e' : L.getD f false with
   | true => rfl
   | false => exact absurd ⟨f, hf, e'⟩ hn
  obtain ⟨f, hf, hfu⟩ := hup
  have fl : ∀ i ∈ F, i ∈ Region.ready .any ops (L.setIfInBounds e true) → i ∈ Region.ready .any ops L := fun i hi hr => by
   obtain ⟨h1, o, ho, hx⟩ := mem_ready.1 hr
   rw [hne i (H.hF i hi).2] at h1
   refine mem_ready.2 ⟨h1, o, ho, fun x hx' hb => ?_⟩
   obtain ⟨d1, _⟩ := H.dep i hi o ho x hx' hb
   have := hx x hx' hb
   rwa [hne' _ (H.hF _ d1).2] at this
  refine ⟨fun h0 => ?_, fun i hi => ?_⟩
  ·exfalso
   obtain ⟨i, _, hir⟩ := H.first (L := L.setIfInBounds e true) (by simpa using hs) hf (by rw [hne' f (H.hF f hf).2]; exact hfu)
   rw [h0] at hir; cases hir
  ·have hie : i ≠ e := by
    rintro rfl
    have := (mem_ready.1 hi).1
    simp [hs, H.he] at this
   have hisz : i < ops.size := by
    obtain ⟨_, o, ho, _⟩ := mem_ready.1 hi
    exact (Array.getElem?_eq_some_iff.1 ho).1
   by_cases hiF : i ∈ F
   ·have hir := fl i hiF hi
    have h2 := (h.2 i ((H.rdy hie).2 hir)).2
    rw [H.hop] at h2
    have hiu := (mem_ready.1 hir).1
    have hcn : cnt (L.setIfInBounds i true) ops.size = n := by
     have := cnt_set (listed := L) (i := i) (by rw [hs]; exact hisz) hiu (n := ops.size) hisz; omega
    have heu' : (L.setIfInBounds i true).getD e true = false := by rw [getD_set_ne true hie]; exact heu
    have hn0 : 0 < n := by
     rcases Nat.eq_zero_or_pos n with h0 | h0
     ·rw [h0] at hcn
      have := cnt_zero hcn e H.he
      rw [heu'] at this; cases this
     ·exact h0
    refine ⟨hn0, wpOp_mono ?_ (H.com i hiF L a w a1 w1 _ hs hir hI hE h2)⟩
    rintro a1' w1' ⟨a', w', k1, k2, k3⟩
    have her : e ∈ Region.ready .any ops (L.setIfInBounds i true) := by
     obtain ⟨_, o, ho, hx⟩ := mem_ready.1 he
     exact mem_ready.2 ⟨heu', o, ho, fun x hx' hb => getD_set_true (hx x hx' hb)⟩
    rw [set_comm]
    exact ih (L.setIfInBounds i true) a' w' a1' w1' (by simpa using hs) hcn (hcl.set hir) her k3 k2 k1
   ·exfalso
    rcases H.bef L hs hcl he i hisz hiF hie with h1 | h1
    ·have := (mem_ready.1 hi).1
     rw [hne i hie, h1] at this; cases this
    ·obtain ⟨_, o, ho, hx⟩ := mem_ready.1 hi
     obtain ⟨o2, ho2, x, hx2, hb, hon⟩ := Region.waitsFor_spec (h1 f hf)
     rw [ho] at ho2; cases ho2
     have := hx x hx2 hb
     rw [hon, hne' f (H.hF f hf).2, hfu] at this; cases this
theorem Flt.domE (H : Flt P ops ops' Q e F I E) : ∀ (n : Nat) (L : Array Bool) (a : Act) (w : World), L.size = ops.size → cnt L ops.size = n → Closed ops L → e ∈ Region.ready .any ops L → I L a →
  wpAny P .any ops' Q n L a w → ∃ a1 w1, E a w a1 w1 := by
 intro n
 induction n with
 | zero =>
  intro L a w hs hc _ he _ _
  have := cnt_zero hc e H.he
  rw [(mem_ready.1 he).1] at this; cases this
 | succ n ih =>
  intro L a w hs hc hcl he hI h
  rw [wpAny_iff] at h
  by_cases hall : ∀ f ∈ F, L.getD f false = true
  ·have h2 := (h.2 e (H.rdyE he hall)).2
   rw [H.hop] at h2
   obtain ⟨a2, w2, q1, _⟩ := H.run L a w _ hI h2
   exact ⟨a2, w2, q1⟩
  ·have hup : ∃ f, f ∈ F ∧ L.getD f false = false := by
    refine Classical.byContradiction fun hn => hall fun f hf => ?_
    cases e' : L.getD f false with
    | true => rfl
    | false => exact absurd ⟨f, hf, e'⟩ hn
   obtain ⟨f, hf, hfu⟩ := hup
   obtain ⟨i, hiF, hir⟩ := H.first hs hf hfu
   have hie := (H.hF i hiF).2
   have h2 := (h.2 i ((H.rdy hie).2 hir)).2
   rw [H.hop] at h2
   refine H.dom i hiF L a w _ hs hir hI h2 fun a' w' k1 k2 => ?_
   have hisz := (H.hF i hiF).1
   refine ih (L.setIfInBounds i true) a' w' (by simpa using hs) ?_ (hcl.set hir) ?_ k2 k1
   ·have := cnt_set (listed := L) (i := i) (by rw [hs]; exact hisz) (mem_ready.1 hir).1 (n := ops.size) hisz; omega
   ·obtain ⟨hu, o, ho, hx⟩ := mem_ready.1 he
    exact mem_ready.2 ⟨by rw [getD_set_ne true hie]; exact hu, o, ho, fun x hx' hb => getD_set_true (hx x hx' hb)⟩
theorem Flt.relax (H : Flt P ops ops' Q e F I E) : ∀ (n : Nat) (L : Array Bool) (a : Act) (w : World), L.size = ops.size → cnt L ops.size = n → Closed ops L → L.getD e true = false → I L a →
  wpAny P .any ops' Q n L a w → wpAny P .any ops Q n L a w := by
 intro n
 induction n with
 | zero =>
  intro L a w hs hc _ he _ _
  have := cnt_zero hc e H.he
  rw [he] at this; cases this
 | succ n ih =>
  intro L a w hs hc hcl he hI h
  have h' := h
  rw [wpAny_iff] at h
  rw [wpAny_iff]
  refine ⟨fun h0 => h.1 ?_, fun i hi => ⟨by omega, ?_⟩⟩
  ·cases e' : Region.ready .any ops' L with
   | nil => rfl
   | cons i l => have := H.sub (L := L) (i := i) (by rw [e']; simp); rw [h0] at this; cases this
  ·rw [Nat.add_sub_cancel]
   by_cases hie : i = e
   ·subst hie
    obtain ⟨a1, w1, hE⟩ := H.domE (n + 1) L a w hs hc hcl hi hI h'
    have := H.relaxB (n + 1) L a w a1 w1 hs hc hcl hi hI hE h'
    exact H.back _ _ _ _ _ hE this
   ·have h2 := (h.2 i ((H.rdy hie).2 hi)).2
    rw [H.hop] at h2
    have hisz : i < ops.size := by
     obtain ⟨_, o, ho, _⟩ := mem_ready.1 hi
     exact (Array.getElem?_eq_some_iff.1 ho).1
    refine wpOp_mono ?_ (H.pres i hie L a w _ hs hi hI h2)
    rintro a' w' ⟨k1, k2⟩
    refine ih (L.setIfInBounds i true) a' w' (by simpa using hs) ?_ (hcl.set hi) (by rw [getD_set_ne true hie]; exact he) k2 k1
    have := cnt_set (listed := L) (i := i) (by rw [hs]; exact hisz) (mem_ready.1 hi).1 (n := ops.size) hisz; omega
end
end Go.Vc
namespace Go.Vc
open Go
def addF (F : List Nat) (o : Oper) : Oper := { o with after := o.after ++ (F.map fun i => (⟨i, .phase⟩ : Edge)).toArray }
def isTmp (d : Nat) : Operand → Bool
 | .tmp p => p == d
 | _ => false
def befB (ops : Array Oper) (e : Nat) (F : List Nat) : Nat → Nat → Bool
 | 0, _ => false
 | k + 1, i => Region.waitsFor .any ops e i || (List.range ops.size).any fun c => decide (i < c) && !F.contains c && c != e && Region.waitsFor .any ops c i && befB ops e F k c
def effOps : Op → Option (List Operand)
 | .store _ p v => some [p, v]
 | .call { callee := .builtin .append, args := ys, argTypes := _ } => some ys.toList
 | .call { callee := .builtin .copy, args := ys, argTypes := _ } => some ys.toList
 | _ => none
def fsB (N : Nat) (ops : Array Oper) (e : Nat) (F : List FltS) (xs : List Operand) (f : FltS) : Bool :=
 match ops[f.1]? with
 | some o => o.guard.isNone && o.dst == some f.2.1 && decide (f.2.1 < N) && f.1 != e && (xs.all fun x => !isTmp f.2.1 x) &&
   (match f.2.2.2, o.op with
    | none, .move (.tmp y) => y == f.2.2.1
    | some (x, k), .binOp .sub _ (.tmp x') (.const (.int .i64 k')) _ => x == x' && k == k' && F.any fun g => g.2.1 == x && g.2.2.1 == f.2.2.1 && g.2.2.2.isNone && Region.waitsFor .any ops f.1 g.1
    | _, _ => false) &&
   o.after.all (fun x => !Region.binds .any x || ((F.map (·.1)).contains x.on && decide (x.on < f.1))) &&
   (List.range ops.size).all (fun j => match ops[j]? with | some q => (q.dst != some f.2.2.1 || (j != e && Region.waitsFor .any ops j f.1)) && (j == f.1 || q.dst != some f.2.1) | none => true)
 | none => false
def fltB (N : Nat) (ops : Array Oper) (e : Nat) (F : List FltS) : Bool :=
 match ops[e]? with
 | some o => o.guard.isNone && (match effOps o.op with | some xs => F.all (fsB N ops e F xs) | none => false) &&
   (List.range ops.size).all fun i => (F.map (·.1)).contains i || i == e || befB ops e (F.map (·.1)) 4 i || (F.map (·.1)).all fun f => Region.waitsFor .any ops i f
 | none => false
section
variable {P : Program} {ops : Array Oper} {Q : Exit → Act → World → Prop} {N e : Nat} {F : List FltS}
theorem addF_wp {Fi : List Nat} {o : Oper} {a : Act} {w : World} {K : Act → World → Prop} : (addF Fi o).wp P a w K Q = o.wp P a w K Q := rfl
theorem addF_asks {Fi : List Nat} {o : Oper} {a : Act} {w : World} : (addF Fi o).asks P a w = o.asks P a w := rfl
theorem modify_ne {Fi : List Nat} {j : Nat} (h : j ≠ e) : (ops.modify e (addF Fi))[j]? = ops[j]? := by
 rw [Array.getElem?_modify]; simp [Ne.symm h]
theorem modify_e {Fi : List Nat} : (ops.modify e (addF Fi))[e]? = (ops[e]?).map (addF Fi) := by
 rw [Array.getElem?_modify]; simp
theorem modify_yield {Fi : List Nat} {tm : Array Value} : yielded (ops.modify e (addF Fi)) tm = yielded ops tm := by
 funext j
 unfold yielded
 by_cases h : j = e
 ·subst h
  rw [modify_e]
  cases ops[j]? <;> rfl
 ·rw [modify_ne h]
theorem modify_op {Fi : List Nat} {i : Nat} {K : Act → World → Prop} {a : Act} {w : World} : wpOp P (ops.modify e (addF Fi)) Q i K a w ↔ wpOp P ops Q i K a w := by
 unfold wpOp
 rw [modify_yield]
 by_cases h : i = e
 ·subst h
  rw [modify_e]
  cases ho : ops[i]? with
  | none => exact Iff.rfl
  | some o => exact Iff.rfl
 ·rw [modify_ne h]
theorem wpOp_put {i : Nat} {o : Oper} {K : Act → World → Prop} {a : Act} {w : World} (ho : ops[i]? = some o) (h : wpOp P ops Q i K a w) :
  wpOp P ops Q i (fun a' w' => K a' w' ∧ ∃ v, a'.tmps = (a.put o.dst v).tmps) a w := by
 unfold wpOp at h ⊢
 rw [ho] at h ⊢
 simp only at h ⊢
 split
 ·rename_i hw
  rw [if_pos hw] at h
  refine h.imp (fun h => ?_) id
  unfold Oper.wp at h ⊢
  generalize (execOp a.eval o).run P w = r at h ⊢
  cases r with
  | ok n w' =>
   cases n with
   | value v => simp only [Oper.upon] at h ⊢; exact ⟨h, _, rfl⟩
   | skip => simp only [Oper.upon] at h ⊢; exact ⟨h, undef, rfl⟩
   | defer d =>
    simp only [Oper.upon] at h ⊢
    refine ⟨h, undef, ?_⟩
    cases o.dst <;> rfl
   | enter f args => simp only [Oper.upon] at h ⊢; exact Calls.mono h fun e w'' he => by cases e <;> first | exact ⟨he, _, rfl⟩ | exact he
   | row r args => simp only [Oper.upon] at h ⊢; exact Rows.mono h fun v w'' he => ⟨he, _, rfl⟩
   | _ => simp only [Oper.upon] at h
  | halt x w' => cases x <;> simp only [Oper.upon] at h ⊢ <;> exact h
 ·rename_i hw
  rw [if_neg hw] at h
  exact ⟨h, undef, rfl⟩
theorem wpOp_Q {Q' : Exit → Act → World → Prop} {i : Nat} {K : Act → World → Prop} {a : Act} {w : World} (hQ : ∀ e a w, Q e a w → Q' e a w) (h : wpOp P ops Q i K a w) : wpOp P ops Q' i K a w := by
 have hl : LetsOut Q → LetsOut Q' := fun ⟨a, w, h⟩ => ⟨a, w, hQ _ _ _ h⟩
 unfold wpOp at h ⊢
 split at h
 ·exact h
 ·rename_i o ho
  split at h
  ·rename_i hw
   rw [if_pos hw]
   refine h.imp (fun h => ?_) (fun h => ⟨h.1, hl h.2⟩)
   unfold Oper.wp at h ⊢
   generalize (execOp a.eval o).run P w = r at h ⊢
   cases r with
   | ok n w' =>
    cases n with
    | enter f args => simp only [Oper.upon] at h ⊢; exact Calls.mono h fun e w'' he => by cases e <;> first | exact he | exact hQ _ _ _ he | exact hl he
    | _ => exact h
   | halt x w' =>
    cases x with
    | panic v => exact hQ _ _ _ h
    | _ => exact h
  ·rename_i hw
   rw [if_neg hw]; exact h
theorem wpAny_Q {Q' : Exit → Act → World → Prop} (hQ : ∀ e a w, Q e a w → Q' e a w) : ∀ {n : Nat} {L : Array Bool} {a : Act} {w : World}, wpAny P .any ops Q n L a w → wpAny P .any ops Q' n L a w
 | 0, _, _, _, h => ⟨h.1, hQ _ _ _ h.2⟩
 | n + 1, _, _, _, h => ⟨fun h0 => hQ _ _ _ (h.1 h0), fun i hi => wpOp_Q hQ (wpOp_mono (fun _ _ => wpAny_Q hQ) (h.2 i hi))⟩
def fR (P : Program) (a : Act) (o : Oper) (w : World) (u : Value) (w1 : World) : Prop := (execOp a.eval o).run P w = .ok (.value u) w1 ∨ ((execOp a.eval o).run P w = .ok .skip w1 ∧ u = undef)
theorem fR_det {a : Act} {o : Oper} {w w1 w2 : World} {u v : Value} (h1 : fR P a o w u w1) (h2 : fR P a o w v w2) : u = v ∧ w1 = w2 := by
 rcases h1 with h1 | ⟨h1, e1⟩ <;> rcases h2 with h2 | ⟨h2, e2⟩ <;> rw [h1] at h2
 ·injection h2 with h2 h3; injection h2 with h2; exact ⟨h2, h3⟩
 ·injection h2 with h2 h3; cases h2
 ·injection h2 with h2 h3; cases h2
 ·injection h2 with h2 h3; exact ⟨by rw [e1, e2], h3⟩
theorem fR_wp {a : Act} {o : Oper} {w w1 : World} {u : Value} {K : Act → World → Prop} (h : fR P a o w u w1) : o.wp P a w K Q ↔ K (a.put o.dst u) w1 := by
 unfold Oper.wp
 rcases h with h | ⟨h, rfl⟩ <;> rw [h]
 ·exact Iff.rfl
 ·exact Iff.rfl
theorem store_cases {t : TypeId} {p v : Operand} {o : Oper} {a : Act} {w : World} (ho : o.op = .store t p v) : (∃ w1, (execOp a.eval o).run P w = .ok .skip w1) ∨ ∃ x w1, (execOp a.eval o).run P w = .halt x w1 := by
 have : ∃ m : Sem Unit, execOp a.eval o = (do m; pure .skip) := by
  simp only [execOp, ho]
  exact ⟨_, rfl⟩
 obtain ⟨m, e⟩ := this
 rw [e, Sem.run_bind]
 cases m.run P w with
 | ok u w1 => left; exact ⟨w1, rfl⟩
 | halt x w1 => right; exact ⟨x, w1, rfl⟩
theorem app_cases {ys : Array Operand} {ts : Array TypeId} {o : Oper} {a : Act} {w : World} (ho : o.op = .call { callee := .builtin .append, args := ys, argTypes := ts }) : (∃ v w1, (execOp a.eval o).run P w = .ok (.value v) w1) ∨ ∃ x w1, (execOp a.eval o).run P w = .halt x w1 := by
 have : ∃ m : Sem Value, execOp a.eval o = (do let v ← m; pure (.value v)) := by
  simp only [execOp, ho, resolve, invoke, builtin, pure_bind]
  exact ⟨_, rfl⟩
 obtain ⟨m, e⟩ := this
 rw [e, Sem.run_bind]
 cases m.run P w with
 | ok u w1 => left; exact ⟨u, w1, rfl⟩
 | halt x w1 => right; exact ⟨x, w1, rfl⟩
theorem cpy_cases {ys : Array Operand} {ts : Array TypeId} {o : Oper} {a : Act} {w : World} (ho : o.op = .call { callee := .builtin .copy, args := ys, argTypes := ts }) : (∃ v w1, (execOp a.eval o).run P w = .ok (.value v) w1) ∨ ∃ x w1, (execOp a.eval o).run P w = .halt x w1 := by
 have : ∃ m : Sem Value, execOp a.eval o = (do let v ← m; pure (.value v)) := by
  simp only [execOp, ho, resolve, invoke, builtin, pure_bind]
  exact ⟨_, rfl⟩
 obtain ⟨m, e⟩ := this
 rw [e, Sem.run_bind]
 cases m.run P w with
 | ok u w1 => left; exact ⟨u, w1, rfl⟩
 | halt x w1 => right; exact ⟨x, w1, rfl⟩
theorem eff_cases {xs : List Operand} {o : Oper} {a : Act} {w : World} (ho : effOps o.op = some xs) : (∃ u w1, fR P a o w u w1) ∨ ∃ x w1, (execOp a.eval o).run P w = .halt x w1 := by
 unfold effOps at ho
 split at ho
 ·rename_i t p v hop
  rcases store_cases (P := P) (a := a) (w := w) hop with ⟨w1, h⟩ | h
  ·exact .inl ⟨_, w1, .inr ⟨h, rfl⟩⟩
  ·exact .inr h
 ·rename_i ys ts hop
  rcases app_cases (P := P) (a := a) (w := w) hop with ⟨v, w1, h⟩ | h
  ·exact .inl ⟨v, w1, .inl h⟩
  ·exact .inr h
 ·rename_i ys ts hop
  rcases cpy_cases (P := P) (a := a) (w := w) hop with ⟨v, w1, h⟩ | h
  ·exact .inl ⟨v, w1, .inl h⟩
  ·exact .inr h
 ·cases ho
theorem eff_eval {xs : List Operand} {o : Oper} {a b : Act} (ho : effOps o.op = some xs) (h : ∀ x ∈ xs, a.eval x = b.eval x) : execOp a.eval o = execOp b.eval o := by
 unfold effOps at ho
 split at ho
 ·rename_i t p v hop
  cases ho
  simp only [execOp, hop, h p (by simp), h v (by simp)]
 ·rename_i ys ts hop
  cases ho
  have : ys.map a.eval = ys.map b.eval := Array.map_congr_left fun x hx => h x (by simpa using hx)
  simp only [execOp, hop, resolve, invoke, builtin, pure_bind, this]
 ·rename_i ys ts hop
  cases ho
  have : ys.map a.eval = ys.map b.eval := Array.map_congr_left fun x hx => h x (by simpa using hx)
  simp only [execOp, hop, resolve, invoke, builtin, pure_bind, this]
 ·cases ho
theorem put_comm {a : Act} {d : Option Nat} {c : Nat} {u v : Value} (h : d ≠ some c) : (a.put d u).put (some c) v = (a.put (some c) v).put d u := by
 cases d with
 | none => rfl
 | some d =>
  have hne : d ≠ c := fun e => h (by rw [e])
  simp only [put_some]
  have e : (a.tmps.setIfInBounds d u).setIfInBounds c v = (a.tmps.setIfInBounds c v).setIfInBounds d u := by
   apply Array.ext
   ·simp
   ·intro i h1 h2
    have hi : i < a.tmps.size := by simpa using h1
    rw [Array.getElem_setIfInBounds (by simpa using hi), Array.getElem_setIfInBounds hi, Array.getElem_setIfInBounds (by simpa using hi), Array.getElem_setIfInBounds hi]
    by_cases e1 : d = i
    ·subst e1
     rw [if_neg (Ne.symm hne), if_pos rfl, if_pos rfl]
    ·rw [if_neg e1, if_neg e1]
  rw [e]
def fPV (a0 : Act) (f : FltS) : Value := match f.2.2.2 with
 | none => a0.tmps.getD f.2.2.1 undef
 | some (_, k) => match a0.tmps.getD f.2.2.1 undef with
  | .int _ n => .int .i64 (IntKind.i64.wrap (n - k))
  | _ => undef
def fI (N : Nat) (F : List FltS) (a0 : Act) (L : Array Bool) (a : Act) : Prop :=
 a.tmps.size = N ∧ (∀ f ∈ F, L.getD f.1 false = false → a.tmps.getD f.2.2.1 undef = a0.tmps.getD f.2.2.1 undef) ∧ ∀ f ∈ F, L.getD f.1 false = true → a.tmps.getD f.2.1 undef = fPV a0 f
def fE (P : Program) (ops : Array Oper) (e : Nat) (a : Act) (w : World) (a1 : Act) (w1 : World) : Prop :=
 ∃ o u, ops[e]? = some o ∧ fR P a o w u w1 ∧ a1 = a.put o.dst u
theorem getD_put {tm : Array Value} {d y : Nat} {u : Value} (h : d ≠ y) : (tm.setIfInBounds d u).getD y undef = tm.getD y undef := by
 simp [Array.getElem?_setIfInBounds_ne h]
theorem getD_put_self {tm : Array Value} {d : Nat} {u : Value} (h : d < tm.size) : (tm.setIfInBounds d u).getD d undef = u := by
 simp [h]
theorem fsB_spec {Fi : List FltS} {xs : List Operand} {f : FltS} (h : fsB N ops e Fi xs f = true) : ∃ o, ops[f.1]? = some o ∧ o.guard = none ∧ o.dst = some f.2.1 ∧ f.2.1 < N ∧ f.1 ≠ e ∧ (∀ x ∈ xs, isTmp f.2.1 x = false) ∧
  ((f.2.2.2 = none ∧ o.op = .move (.tmp f.2.2.1)) ∨ ∃ x k t t', f.2.2.2 = some (x, k) ∧ o.op = .binOp .sub t (.tmp x) (.const (.int .i64 k)) t' ∧ ∃ g ∈ Fi, g.2.1 = x ∧ g.2.2.1 = f.2.2.1 ∧ g.2.2.2 = none ∧ Region.waitsFor .any ops f.1 g.1 = true) ∧
  (∀ x ∈ o.after, Region.binds .any x = true → x.on ∈ Fi.map (·.1) ∧ x.on < f.1) ∧
  ∀ j q, ops[j]? = some q → (q.dst ≠ some f.2.2.1 ∨ (j ≠ e ∧ Region.waitsFor .any ops j f.1 = true)) ∧ (j = f.1 ∨ q.dst ≠ some f.2.1) := by
 unfold fsB at h
 cases ho : ops[f.1]? with
 | none => rw [ho] at h; cases h
 | some o =>
  rw [ho] at h
  simp only [Bool.and_eq_true, Option.isNone_iff_eq_none, beq_iff_eq, decide_eq_true_eq, bne_iff_ne, Bool.not_eq_true'] at h
  obtain ⟨⟨⟨⟨⟨⟨⟨h1, h2⟩, h3⟩, h4⟩, h5⟩, h7⟩, h8⟩, h9⟩ := h
  refine ⟨o, rfl, h1, h2, h3, h4, fun x hx => by simpa using List.all_eq_true.1 h5 x hx, ?_, fun x hx hb => ?_, fun j q hq => ?_⟩
  ·split at h7
   ·rename_i y e1 e2
    simp only [beq_iff_eq] at h7
    exact .inl ⟨e1, by rw [e2, h7]⟩
   ·rename_i x k t x' k' t' e1 e2
    simp only [Bool.and_eq_true, beq_iff_eq, List.any_eq_true, Option.isNone_iff_eq_none] at h7
    obtain ⟨⟨rfl, rfl⟩, g, hg, ⟨⟨⟨g1, g2⟩, g3⟩, g4⟩⟩ := h7
    exact .inr ⟨_, _, t, t', e1, e2, g, hg, g1, g2, g3, g4⟩
   ·cases h7
  ·have := Array.all_eq_true_iff_forall_mem.1 h8 x hx
   simpa [hb] using this
  ·have hj : j < ops.size := (Array.getElem?_eq_some_iff.1 hq).1
   have := List.all_eq_true.1 h9 j (List.mem_range.2 hj)
   rw [hq] at this
   simpa using this
theorem befB_spec {Fi : List Nat} {L : Array Bool} (hs : L.size = ops.size) (hcl : Closed ops L) (he : e ∈ Region.ready .any ops L) : ∀ {k i : Nat}, i < ops.size → befB ops e Fi k i = true → L.getD i true = true
 | 0, _, _, h => by simp [befB] at h
 | k + 1, i, hi, h => by
  simp only [befB, Bool.or_eq_true, List.any_eq_true, Bool.and_eq_true, decide_eq_true_eq, List.mem_range] at h
  have fin : L.getD i false = true → L.getD i true = true := fun h => by rw [getD_tf (by rw [hs]; exact hi)]; exact h
  rcases h with h | ⟨c, hc, ⟨⟨⟨h1, _⟩, _⟩, h2⟩, h3⟩
  ·obtain ⟨o, ho, x, hx, hb, hon⟩ := Region.waitsFor_spec h
   obtain ⟨_, o2, ho2, hall⟩ := mem_ready.1 he
   rw [ho] at ho2; cases ho2
   exact fin (by rw [← hon]; exact hall x hx hb)
  ·have hl := befB_spec hs hcl he hc h3
   obtain ⟨o, ho, x, hx, hb, hon⟩ := Region.waitsFor_spec h2
   refine fin ?_
   rw [← hon]
   exact hcl c o ho (by rw [← getD_tf (by rw [hs]; exact hc)]; exact hl) x hx hb
theorem flt_of {a0 : Act} (hc : fltB N ops e F = true) (hint : ∀ f ∈ F, f.2.2.2 ≠ none → ∃ n, a0.tmps.getD f.2.2.1 undef = .int .i64 n) (hQ : ∀ x a w, Q x a w → x = .normal) :
  Flt P ops (ops.modify e (addF (F.map (·.1)))) Q e (F.map (·.1)) (fI N F a0) (fE P ops e) := by
 unfold fltB at hc
 cases hoe : ops[e]? with
 | none => rw [hoe] at hc; cases hc
 | some oe =>
 rw [hoe] at hc
 simp only [Bool.and_eq_true, Option.isNone_iff_eq_none] at hc
 obtain ⟨⟨hg, hst⟩, hbef⟩ := hc
 split at hst
 case h_2 => cases hst
 rename_i xs hop
 have hes : e < ops.size := (Array.getElem?_eq_some_iff.1 hoe).1
 have SP : ∀ f ∈ F, _ := fun f hf => fsB_spec (List.all_eq_true.1 hst f hf)
 have mem : ∀ i, i ∈ F.map (·.1) → ∃ f ∈ F, f.1 = i := fun i hi => by
  obtain ⟨f, hf, e⟩ := List.mem_map.1 hi; exact ⟨f, hf, e⟩
 have noL : ∀ {R : Prop}, LetsOut Q → R := fun ⟨a, w, h⟩ => by cases hQ _ _ _ h
 have nl : ∀ (i : Nat) (L : Array Bool), L.size = ops.size → i ∈ Region.ready .any ops L → L.getD i false = false := fun i L hs hr => by
  obtain ⟨h0, o2, ho2, _⟩ := mem_ready.1 hr
  rw [← getD_tf (by rw [hs]; exact (Array.getElem?_eq_some_iff.1 ho2).1)]; exact h0
 have wl : ∀ (i g : Nat) (L : Array Bool), i ∈ Region.ready .any ops L → Region.waitsFor .any ops i g = true → L.getD g false = true := fun i g L hr h => by
  obtain ⟨_, o2, ho2, hall⟩ := mem_ready.1 hr
  obtain ⟨o3, ho3, y, hy, hb, hon⟩ := Region.waitsFor_spec h
  rw [ho2] at ho3; cases ho3
  have := hall y hy hb
  rw [hon] at this; exact this
 have EX : ∀ f ∈ F, ∀ (L : Array Bool) a o, L.size = ops.size → f.1 ∈ Region.ready .any ops L → fI N F a0 L a → ops[f.1]? = some o → ∀ w, (execOp a.eval o).run P w = .ok (.value (fPV a0 f)) w := by
  intro f hf L a o hs hr hI ho w
  obtain ⟨o', ho', _, _, _, _, _, hk, _⟩ := SP f hf
  rw [ho] at ho'; cases ho'
  obtain ⟨_, i1, i2⟩ := hI
  rcases hk with ⟨k1, k2⟩ | ⟨x, k, t1, t2, k1, k2, g, hg, g1, g2, g3, g4⟩
  ·simp only [execOp, k2, Act.eval, Sem.run_pure, fPV, k1]
   rw [i1 f hf (nl f.1 L hs hr)]
  ·obtain ⟨n, hn⟩ := hint f hf (by rw [k1]; simp)
   obtain ⟨_, o2, ho2, hall⟩ := mem_ready.1 hr
   obtain ⟨o3, ho3, y, hy, hb, hon⟩ := Region.waitsFor_spec g4
   rw [ho2] at ho3; cases ho3
   have hl := hall y hy hb
   rw [hon] at hl
   have hx := i2 g hg hl
   have hp : fPV a0 g = .int .i64 n := by
    unfold fPV; rw [g3]; simp only; rw [g2, hn]
   rw [g1, hp] at hx
   have hx' : a.eval (.tmp x) = .int .i64 n := hx
   have hf' : fPV a0 f = .int .i64 (IntKind.i64.wrap (n - k)) := by unfold fPV; rw [k1]; simp only; rw [hn]
   rw [hf']
   have e1 : execOp a.eval o = (do let v ← (do eqGuard .sub t1 (.tmp x) (.const (.int .i64 k)) (a.eval (.tmp x)) (.int .i64 k); binOp .sub t1 (a.eval (.tmp x)) (.int .i64 k)); pure (.value v)) := by
    simp only [execOp, k2]; rfl
   rw [e1, hx']
   simp [eqGuard, binOp, Op.intArith]
 have FR : ∀ f ∈ F, ∀ (L : Array Bool) a w K, L.size = ops.size → f.1 ∈ Region.ready .any ops L → fI N F a0 L a → (wpOp P ops Q f.1 K a w ↔ K (a.put (some f.2.1) (fPV a0 f)) w) := by
  intro f hf L a w K hs hr hI
  obtain ⟨o, ho, hgd, hdst, _⟩ := SP f hf
  have hrun := EX f hf L a o hs hr hI ho w
  unfold wpOp
  rw [ho]
  have hw : Region.wanted o (yielded ops a.tmps) = true := by simp [Region.wanted, hgd]
  simp only [hw, if_true]
  constructor
  ·rintro (h | ⟨_, h⟩)
   ·unfold Oper.wp at h
    rw [hrun, Oper.upon_value, hdst] at h
    exact h
   ·exact noL h
  ·intro h
   left
   unfold Oper.wp
   rw [hrun, Oper.upon_value, hdst]
   exact h
 have IF : ∀ f ∈ F, ∀ (L : Array Bool) a, L.size = ops.size → f.1 ∈ Region.ready .any ops L → fI N F a0 L a → fI N F a0 (L.setIfInBounds f.1 true) (a.put (some f.2.1) (fPV a0 f)) := by
  intro f hf L a hs hr hI
  obtain ⟨o, ho, _, hdst, hdN, _, _, _, _, hw⟩ := SP f hf
  obtain ⟨i0, i1, i2⟩ := hI
  refine ⟨by rw [put_some]; simpa using i0, fun g hg hl => ?_, fun g hg hl => ?_⟩
  ·obtain ⟨_, _, _, _, _, _, _, _, _, hwg⟩ := SP g hg
   have hfg : f.1 ≠ g.1 := fun e => by
    have hlt : g.1 < L.size := by rw [hs, ← e]; exact (Array.getElem?_eq_some_iff.1 ho).1
    rw [e] at hl; simp [hlt] at hl
   rw [getD_set_ne false hfg] at hl
   rcases (hwg f.1 o ho).1 with this | ⟨_, this⟩
   ·rw [hdst] at this
    rw [put_some, getD_put (fun e => this (by rw [e]))]
    exact i1 g hg hl
   ·rw [wl f.1 g.1 L hr this] at hl; cases hl
  ·obtain ⟨og, hog, _, hdg, _, _, _, _, _, hwg⟩ := SP g hg
   by_cases hfg : f.1 = g.1
   ·have hd' : f.2.1 = g.2.1 := by rw [hfg, hog] at ho; cases ho; rw [hdst] at hdg; exact Option.some.inj hdg
    have hk : fPV a0 f = fPV a0 g := by
     obtain ⟨_, h1, _, _, _, _, _, k1, _⟩ := SP f hf
     obtain ⟨_, h2, _, _, _, _, _, k2, _⟩ := SP g hg
     rw [hfg] at h1
     rw [h1] at h2; cases h2
     rcases k1 with ⟨a1, a2⟩ | ⟨x, k, t1, t2, a1, a2, q, hq, q1, q2, q3, _⟩ <;> rcases k2 with ⟨b1, b2⟩ | ⟨x', k', t1', t2', b1, b2, r, hr, r1, r2, r3, _⟩
     ·rw [a2] at b2
      have : f.2.2.1 = g.2.2.1 := by injection b2 with b2; injection b2
      unfold fPV; rw [a1, b1, this]
     ·rw [a2] at b2; cases b2
     ·rw [a2] at b2; cases b2
     ·rw [a2] at b2
      injection b2 with _ _ b3 b4
      injection b3 with b3
      injection b4 with b4
      injection b4 with _ b4
      have : f.2.2.1 = g.2.2.1 := by
       obtain ⟨oq, hoq, _, hdq, _, _, _, kq, _⟩ := SP q hq
       obtain ⟨orr, hor, _, hdr, _, _, _, kr, _, hwr⟩ := SP r hr
       have hqr : q.1 = r.1 := by
        rcases (hwr q.1 oq hoq).2 with h | h
        ·exact h
        ·exact absurd (by rw [hdq, q1, b3, r1]) h
       rw [hqr] at hoq
       rw [hoq] at hor; cases hor
       rcases kq with ⟨_, kq⟩ | ⟨_, _, _, _, kq, _⟩
       ·rcases kr with ⟨_, kr⟩ | ⟨_, _, _, _, kr, _⟩
        ·rw [kq] at kr
         injection kr with kr; injection kr with kr
         rw [← q2, ← r2, kr]
        ·rw [r3] at kr; cases kr
       ·rw [q3] at kq; cases kq
      unfold fPV; rw [a1, b1, this, b4]
    rw [put_some, hd', getD_put_self (by rw [i0, ← hd']; exact hdN), hk]
   ·have := (hwg f.1 o ho).2.resolve_left hfg
    rw [hdst] at this
    rw [put_some, getD_put (fun e => this (by rw [e]))]
    rw [getD_set_ne false hfg] at hl
    exact i2 g hg hl
 have EV : ∀ f ∈ F, ∀ (a : Act) u, execOp (a.put (some f.2.1) u).eval oe = execOp a.eval oe := by
  intro f hf a u
  obtain ⟨_, _, _, _, _, _, np, _⟩ := SP f hf
  refine eff_eval hop fun x hx => ?_
  have hx := np x hx
  cases x with
  | tmp y =>
   have hy : y ≠ f.2.1 := by simpa [isTmp] using hx
   simp only [Act.eval, put_some]
   exact getD_put (Ne.symm hy)
  | _ => rfl
 have EVR : ∀ f ∈ F, ∀ (a : Act) u {w v w1}, fR P (a.put (some f.2.1) u) oe w v w1 ↔ fR P a oe w v w1 := by
  intro f hf a u w v w1
  unfold fR; rw [EV f hf]
 have ED : ∀ f ∈ F, oe.dst ≠ some f.2.2.1 ∧ oe.dst ≠ some f.2.1 := by
  intro f hf
  obtain ⟨_, _, _, _, _, hne, _, _, _, hw⟩ := SP f hf
  obtain ⟨h1, h2⟩ := hw e oe hoe
  exact ⟨h1.resolve_right (fun h => h.1 rfl), h2.resolve_left (Ne.symm hne)⟩
 have IE : ∀ (L : Array Bool) a u, fI N F a0 L a → fI N F a0 L (a.put oe.dst u) := by
  intro L a u hI
  obtain ⟨i0, i1, i2⟩ := hI
  have put : ∀ y, oe.dst ≠ some y → (a.put oe.dst u).tmps.getD y undef = a.tmps.getD y undef := fun y hy => by
   cases hd' : oe.dst with
   | none => rfl
   | some d => rw [put_some]; exact getD_put (fun e => hy (by rw [hd', e]))
  exact ⟨by cases oe.dst <;> simpa [Act.put] using i0, fun g hg hl => by rw [put _ (ED g hg).1]; exact i1 g hg hl, fun g hg hl => by rw [put _ (ED g hg).2]; exact i2 g hg hl⟩
 refine ⟨hes, fun i hi => ?_, by simp, fun j hj => modify_ne hj, ⟨oe, addF (F.map (·.1)) oe, hoe, by rw [modify_e, hoe]; rfl, fun x hx => ?_, fun x hx hb => ?_, fun i hi => ?_⟩, fun i K a w => modify_op, fun i hi o ho x hx hb => ?_, fun L hs hcl her i hi hiF hie => ?_,
  fun i hie L a w K hs hr hI h => ?_, fun i hi L a w a1 w1 K hs hr hI hE h => ?_, fun i hi L a w K hs hr hI h hdom => ?_, fun L a w K hI h => ?_, fun a w a1 w1 K hE h => ?_, fun a w a1 w1 a2 w2 h1 h2 => ?_⟩
 ·obtain ⟨f, hf, rfl⟩ := mem i hi
  obtain ⟨o, ho, _, _, _, hne, _⟩ := SP f hf
  exact ⟨(Array.getElem?_eq_some_iff.1 ho).1, hne⟩
 ·simp only [addF, Array.mem_append]; exact .inl hx
 ·simp only [addF, Array.mem_append] at hx
  rcases hx with h | h
  ·exact .inl h
  ·right
   simp at h
   obtain ⟨q, hq, rfl⟩ := h
   simpa using hq
 ·refine ⟨⟨i, .phase⟩, ?_, rfl, rfl⟩
  simp only [addF, Array.mem_append]
  right
  simpa using hi
 ·obtain ⟨f, hf, rfl⟩ := mem i hi
  obtain ⟨o', ho', _, _, _, _, _, _, hed, _⟩ := SP f hf
  rw [ho] at ho'; cases ho'
  exact hed x hx hb
 ·have := List.all_eq_true.1 hbef i (List.mem_range.2 hi)
  simp only [Bool.or_eq_true, beq_iff_eq] at this
  rcases this with ((h | h) | h) | h
  ·exact absurd (by simpa using h) hiF
  ·exact absurd h hie
  ·exact .inl (befB_spec hs hcl her hi h)
  ·exact .inr fun f hf => List.all_eq_true.1 h f hf
 ·obtain ⟨_, o, ho, _⟩ := mem_ready.1 hr
  by_cases hiF : i ∈ F.map (·.1)
  ·obtain ⟨f, hf, rfl⟩ := mem i hiF
   rw [FR f hf L a w _ hs hr hI] at h ⊢
   exact ⟨h, IF f hf L a hs hr hI⟩
  ·refine wpOp_mono ?_ (wpOp_put ho h)
   rintro a' w' ⟨k1, u, k2⟩
   refine ⟨k1, ?_⟩
   obtain ⟨i0, i1, i2⟩ := hI
   have put : ∀ y, o.dst ≠ some y → a'.tmps.getD y undef = a.tmps.getD y undef := fun y hy => by
    rw [k2]
    cases hd' : o.dst with
    | none => rfl
    | some d => rw [put_some]; exact getD_put (fun e => hy (by rw [hd', e]))
   refine ⟨by rw [k2]; cases o.dst <;> simpa [Act.put] using i0, fun g hg hl => ?_, fun g hg hl => ?_⟩
   ·obtain ⟨_, _, _, _, _, _, _, _, _, hwg⟩ := SP g hg
    have hig : i ≠ g.1 := fun e => hiF (by rw [e]; exact List.mem_map_of_mem hg)
    rw [getD_set_ne false hig] at hl
    rcases (hwg i o ho).1 with this | ⟨_, this⟩
    ·rw [put _ this]; exact i1 g hg hl
    ·rw [wl i g.1 L hr this] at hl; cases hl
   ·obtain ⟨_, _, _, _, _, _, _, _, _, hwg⟩ := SP g hg
    have hig : i ≠ g.1 := fun e => hiF (by rw [e]; exact List.mem_map_of_mem hg)
    rw [put _ ((hwg i o ho).2.resolve_left hig)]
    rw [getD_set_ne false hig] at hl
    exact i2 g hg hl
 ·obtain ⟨f, hf, rfl⟩ := mem i hi
  obtain ⟨oe', u, hoe', hrun, rfl⟩ := hE
  rw [hoe] at hoe'; cases hoe'
  rw [FR f hf L a w _ hs hr hI] at h
  rw [FR f hf L _ w1 _ hs hr (IE L a u hI)]
  refine ⟨_, w, h, ⟨oe, u, hoe, (EVR f hf a _).2 hrun, put_comm (ED f hf).2⟩, IF f hf L a hs hr hI⟩
 ·obtain ⟨f, hf, rfl⟩ := mem i hi
  rw [FR f hf L a w _ hs hr hI] at h
  obtain ⟨a1, w1, oe', u, hoe', hrun, _⟩ := hdom _ _ h (IF f hf L a hs hr hI)
  rw [hoe] at hoe'; cases hoe'
  exact ⟨_, w1, oe, u, hoe, (EVR f hf a _).1 hrun, rfl⟩
 ·unfold wpOp at h
  rw [hoe] at h
  have hw : Region.wanted oe (yielded ops a.tmps) = true := by simp [Region.wanted, hg]
  simp only [hw, if_true] at h
  rcases h with h | ⟨_, h⟩
  ·rcases eff_cases (P := P) (a := a) (w := w) hop with ⟨u, w1, hrun⟩ | ⟨x, w1, hrun⟩
   ·exact ⟨_, w1, ⟨oe, u, hoe, hrun, rfl⟩, (fR_wp hrun).1 h⟩
   ·unfold Oper.wp at h
    rw [hrun] at h
    cases x with
    | panic v => exact absurd (hQ _ _ _ h) (by simp)
    | _ => exact h.elim
  ·exact noL h
 ·obtain ⟨oe', u, hoe', hrun, rfl⟩ := hE
  rw [hoe] at hoe'; cases hoe'
  unfold wpOp
  rw [hoe]
  have hw : Region.wanted oe (yielded ops a.tmps) = true := by simp [Region.wanted, hg]
  simp only [hw, if_true]
  left
  exact (fR_wp hrun).2 h
 ·obtain ⟨o1, u1, ho1, r1, rfl⟩ := h1
  obtain ⟨o2, u2, ho2, r2, rfl⟩ := h2
  rw [ho1] at ho2; cases ho2
  obtain ⟨rfl, rfl⟩ := fR_det r1 r2
  exact ⟨rfl, rfl⟩
end
end Go.Vc
namespace Go.Vc
open Go
section
variable {P : Program} {ops : Array Oper} {Q : Exit → Act → World → Prop} {R : Array Bool → World → Prop} {S : World → Prop}
def wpAnyR (P : Program) (ops : Array Oper) (Q : Exit → Act → World → Prop) (R : Array Bool → World → Prop) : Nat → Array Bool → Act → World → Prop
 | 0, listed, a, w => Region.ready .any ops listed = [] ∧ Q .normal a w
 | fuel + 1, listed, a, w =>
  (Region.ready .any ops listed = [] → Q .normal a w) ∧
  ∀ i ∈ Region.ready .any ops listed, wpOp P ops Q i (fun a' w' => R (listed.setIfInBounds i true) w' ∧ wpAnyR P ops Q R fuel (listed.setIfInBounds i true) a' w') a w
theorem wpAny_of_R : ∀ (fuel : Nat) (listed : Array Bool) (a : Act) (w : World), wpAnyR P ops Q R fuel listed a w → wpAny P .any ops Q fuel listed a w
 | 0, _, _, _, h => h
 | fuel + 1, _, _, _, h => ⟨h.1, fun i hi => wpOp_mono (fun a' w' h' => wpAny_of_R fuel _ a' w' h'.2) (h.2 i hi)⟩
def ClosedL (ops : Array Oper) (listed : Array Bool) : Prop :=
 listed.size = ops.size ∧ ∀ (j : Nat) (o : Oper), ops[j]? = some o → listed.getD j false = true → ∀ e ∈ o.after, Region.binds .any e = true → listed.getD e.on false = true
theorem ClosedL.set {listed : Array Bool} {i : Nat} (h : ClosedL ops listed) (hi : i ∈ Region.ready .any ops listed) : ClosedL ops (listed.setIfInBounds i true) := by
 obtain ⟨h1, o, ho, h2⟩ := mem_ready.1 hi
 refine ⟨by simp [h.1], fun j oj hj hl e he hb => ?_⟩
 by_cases e1 : i = j
 ·subst e1
  rw [ho] at hj; cases hj
  exact getD_set_true (h2 e he hb)
 ·rw [getD_set_ne false e1] at hl
  exact getD_set_true (h.2 j oj hj hl e he hb)
theorem wpAnyR_first {i : Nat} {oi : Oper} {v : Value} (hi : ops[i]? = some oi) (hsel : ∀ (j : Nat) (o : Oper) cs b, ops[j]? = some o → o.op ≠ .select cs b) (hQ : ∀ c a w, ¬ Q (.panic c) a w)
  (hR1 : ∀ listed w, R (listed.setIfInBounds i true) w ↔ R listed w) (hR2 : ∀ listed w, ClosedL ops listed → listed.getD i true = false → R listed w → S w) :
  ∀ (fuel : Nat) (listed : Array Bool) (a : Act) (w : World), ClosedL ops listed →
   (∀ j oj, ops[j]? = some oj → j ≠ i → listed.getD j true = false → (∀ e ∈ oj.after, Region.binds .any e = true → e.on ≠ i) → oi.apart ops oj = true) →
   i ∈ Region.ready .any ops listed → YieldsIf P ops S oi v a → R listed w →
   wpAnyR P ops Q R fuel (listed.setIfInBounds i true) (a.put oi.dst v) w → wpAnyR P ops Q R (fuel + 1) listed a w := by
 intro fuel
 induction fuel with
 | zero =>
  intro listed a w hcl _ hr hy hRl H
  refine ⟨fun h => (by rw [h] at hr; cases hr), fun j hj => ?_⟩
  by_cases hji : j = i
  ·subst hji; exact hy.wpOp hi (hR2 _ _ hcl (mem_ready.1 hr).1 hRl) ⟨(hR1 _ _).2 hRl, H⟩
  ·have := ready_mono hj hji
   rw [H.1] at this; cases this
 | succ fuel ih =>
  intro listed a w hcl hfree hr hy hRl H
  refine ⟨fun h => (by rw [h] at hr; cases hr), fun j hj => ?_⟩
  by_cases hji : j = i
  ·subst hji; exact hy.wpOp hi (hR2 _ _ hcl (mem_ready.1 hr).1 hRl) ⟨(hR1 _ _).2 hRl, H⟩
  ·have h1 := H.2 j (ready_mono hj hji)
   obtain ⟨hjun, oj, hoj, hall⟩ := mem_ready.1 hj
   have hiu := (mem_ready.1 hr).1
   have hnot : ∀ e ∈ oj.after, Region.binds .any e = true → e.on ≠ i := fun e he hb heq => by
    have h2 := hall e he hb
    rw [heq] at h2
    rcases Nat.lt_or_ge i listed.size with h' | h'
    ·simp [h'] at hiu h2; rw [hiu] at h2; cases h2
    ·simp [Array.getElem?_eq_none h'] at h2
   have h2 := wpOp_putIf hoj (hfree j oj hoj hji hjun hnot) (fun cs b => hsel i oi cs b hi) (fun cs b => hsel j oj cs b hoj) (fun c a w h => absurd h (hQ c _ w)) hy h1
   have hfree' : ∀ k ok, ops[k]? = some ok → k ≠ i → (listed.setIfInBounds j true).getD k true = false →
     (∀ e ∈ ok.after, Region.binds .any e = true → e.on ≠ i) → oi.apart ops ok = true := fun k ok hk hki hun hno => by
    refine hfree k ok hk hki ?_ hno
    by_cases hjk : j = k
    ·subst hjk; exact hjun
    ·rw [getD_set_ne true hjk] at hun; exact hun
   refine wpOp_mono (fun a' w' h3 => ?_) h2
   have hRj : R (listed.setIfInBounds j true) w' := by
    have h4 := h3.2.1
    rw [← Array.setIfInBounds_comm _ _ hji] at h4
    exact (hR1 _ _).1 h4
   refine ⟨hRj, ih (listed.setIfInBounds j true) a' w' (hcl.set hj) hfree' (ready_mono hr (Ne.symm hji)) h3.1 hRj ?_⟩
   rw [Array.setIfInBounds_comm _ _ hji]
   exact h3.2.2
def chkTake (ops : Array Oper) : Array Bool → List Nat → Bool
 | _, [] => true
 | listed, i :: I => (Region.ready .any ops listed).contains i && Region.free .any ops listed i && chkTake ops (listed.setIfInBounds i true) I
def setAll (listed : Array Bool) : List Nat → Array Bool
 | [] => listed
 | i :: I => setAll (listed.setIfInBounds i true) I
def putAll (ops : Array Oper) : List (Nat × Value) → Act → Act
 | [], a => a
 | (i, v) :: I, a => putAll ops I (match ops[i]? with | some o => a.put o.dst v | none => a)
def TakeOk (P : Program) (ops : Array Oper) (R : Array Bool → World → Prop) : List (Nat × Value) → Act → Prop
 | [], _ => True
 | (i, v) :: I, a => ∃ o, ops[i]? = some o ∧ o.guard = none ∧ (∀ listed w, ClosedL ops listed → listed.getD i true = false → R listed w → (execOp a.eval o).run P w = .ok (.value v) w) ∧ TakeOk P ops R I (a.put o.dst v)
theorem take_all (hns : Region.noSelect ops = true) (hQ : ∀ c a w, ¬ Q (.panic c) a w) : ∀ (I : List (Nat × Value)) (fuel : Nat) (listed : Array Bool) (a : Act) (w : World), chkTake ops listed (I.map (·.1)) = true → ClosedL ops listed →
  (∀ p ∈ I, ∀ listed w, R (listed.setIfInBounds p.1 true) w ↔ R listed w) → TakeOk P ops R I a → R listed w → wpAnyR P ops Q R fuel (setAll listed (I.map (·.1))) (putAll ops I a) w → wpAnyR P ops Q R (fuel + I.length) listed a w
 | [], fuel, listed, a, w, _, _, _, _, _, H => H
 | (i, v) :: I, fuel, listed, a, w, hc, hcl, hR, hT, hRl, H => by
  simp only [List.map_cons, chkTake, Bool.and_eq_true, List.contains_iff_mem] at hc
  obtain ⟨⟨hr, hf⟩, hc⟩ := hc
  obtain ⟨o, ho, hg, hy, hT⟩ := hT
  simp only [List.map_cons, setAll, putAll, ho] at H
  have hR1 := hR (i, v) (by simp)
  refine wpAnyR_first (S := fun w => (execOp a.eval o).run P w = .ok (.value v) w) (v := v) ho (Region.noSelect_spec hns) hQ hR1 hy (fuel + I.length) listed a w hcl (Region.free_spec ho hf) hr (.inl ⟨by simp [Region.wanted, hg], fun w h => h⟩) hRl ?_
  exact take_all hns hQ I fuel _ _ w hc (hcl.set hr) (fun p hp => hR p (by simp [hp])) hT ((hR1 _ _).2 hRl) H
def chkForce (ops : Array Oper) : Array Bool → List Nat → Bool
 | listed, [] => (Region.ready .any ops listed).isEmpty
 | listed, e :: E => Region.ready .any ops listed == [e] && chkForce ops (listed.setIfInBounds e true) E
def wpForce (P : Program) (ops : Array Oper) (Q : Exit → Act → World → Prop) (R : Array Bool → World → Prop) : List Nat → Array Bool → Act → World → Prop
 | [], _, a, w => Q .normal a w
 | e :: E, listed, a, w => wpOp P ops Q e (fun a' w' => R (listed.setIfInBounds e true) w' ∧ wpForce P ops Q R E (listed.setIfInBounds e true) a' w') a w
theorem force_all : ∀ (E : List Nat) (listed : Array Bool) (a : Act) (w : World), chkForce ops listed E = true → wpForce P ops Q R E listed a w → wpAnyR P ops Q R E.length listed a w
 | [], listed, a, w, hc, h => by
  simp only [chkForce, List.isEmpty_iff] at hc
  exact ⟨hc, h⟩
 | e :: E, listed, a, w, hc, h => by
  simp only [chkForce, Bool.and_eq_true, beq_iff_eq] at hc
  refine ⟨fun h0 => (by rw [hc.1] at h0; cases h0), fun i hi => ?_⟩
  rw [hc.1, List.mem_singleton] at hi
  subst hi
  exact wpOp_mono (fun a' w' h' => ⟨h'.1, force_all E _ a' w' hc.2 h'.2⟩) h
theorem wpOp_tmps {j : Nat} {o : Oper} (hj : ops[j]? = some o) {K : Act → World → Prop} {a : Act} {w : World} (h : wpOp P ops Q j K a w) :
  wpOp P ops Q j (fun a' w' => (∃ v, a'.tmps = (a.put o.dst v).tmps) ∧ K a' w') a w := by
 unfold wpOp at *
 simp only [hj] at *
 split
 ·rename_i hw
  simp only [hw, if_true] at h
  rcases h with h | h
  case inr => exact .inr h
  refine .inl ?_
  unfold Oper.wp at *
  generalize (execOp a.eval o).run P w = r at *
  cases r with
  | ok n w' =>
   cases n <;> simp only [Oper.upon] at h ⊢
   case value u => exact ⟨⟨_, rfl⟩, h⟩
   case skip => exact ⟨⟨_, rfl⟩, h⟩
   case defer d => exact ⟨⟨undef, by cases o.dst <;> rfl⟩, h⟩
   case enter f args =>
    refine Calls.mono h fun e w'' he => ?_
    cases e with
    | returned u => exact ⟨⟨_, rfl⟩, he⟩
    | panicked c => exact he
    | outgrown => exact he
   case row row args => exact Rows.mono h fun u w'' he => ⟨⟨_, rfl⟩, he⟩
  | halt x w' =>
   cases x <;> simp only [Oper.upon] at h ⊢
   case panic u => exact h
 ·rename_i hw
  simp only [hw] at h
  exact ⟨⟨_, rfl⟩, h⟩
end
end Go.Vc
namespace Go.Vc
open Go
section
variable {P : Program} {N : Nat} {Xb : Nat → Prop} {par : Nat → Option Value} {w0 : World} {a : Act} {w w' : World} {s s' s1 s2 : St} {K : St → Prop} {κ : V → Prop}
def splitM : Nat → List (Gd × I) → Option (List M3 × List (Gd × I))
 | 0, r => some ([], r)
 | n + 1, (g, .v d o xs) :: r => (splitM n r).map fun p => (⟨d, o, xs, g⟩ :: p.1, p.2)
 | _, _ => none
theorem splitM_spec : ∀ {n : Nat} {r : List (Gd × I)} {p : List M3 × List (Gd × I)}, splitM n r = some p → r = p.1.map M3.i ++ p.2 ∧ p.1.length = n
 | 0, r, p, h => by simp only [splitM, Option.some.injEq] at h; subst h; simp
 | n + 1, [], p, h => by simp [splitM] at h
 | n + 1, (g, i) :: r, p, h => by
  unfold splitM at h
  split at h
  ·rename_i h1; cases h1
  ·rename_i h1 h2
   cases h1; cases h2
   cases e : splitM n r with
   | none => rw [e] at h; cases h
   | some q =>
    rw [e] at h
    simp at h; subst h
    obtain ⟨h1, h2⟩ := splitM_spec e
    exact ⟨by rw [h1]; simp [M3.i], by simp [h2]⟩
  ·cases h
def chkG (P : Program) (N : Nat) (fz : Bool) (ops : Array Oper) (n : Nat) : List (Gd × I) → Bool
 | (none, .frz _) :: r => fz && chkG P N fz ops n r
 | r => match splitM n r with | some p => chkD P N fz ops p.1 p.2 | none => false
theorem chkG_spec {fz : Bool} {ops : Array Oper} {n : Nat} {r : List (Gd × I)} (h : chkG P N fz ops n r = true) :
  (∃ y r', r = (none, .frz y) :: r' ∧ fz = true ∧ chkG P N fz ops n r' = true) ∨ ∃ p, splitM n r = some p ∧ chkD P N fz ops p.1 p.2 = true := by
 unfold chkG at h
 split at h
 ·rename_i y r'
  simp only [Bool.and_eq_true] at h
  exact .inl ⟨y, r', rfl, h.1, h.2⟩
 ·right
  split at h
  ·rename_i p hp; exact ⟨p, hp, h⟩
  ·cases h
theorem frz_name {y : Nat} {K : St → Prop} (hk : wpI P (.frz y) K s) : ∃ s', K s' ∧ ∀ d, (s.get d).isName = false → (s'.get d).isName = false := by
 rw [wpI_frz] at hk
 cases hv : s.get y with
 | own m nl cs =>
  rw [hv, frzK_o] at hk
  refine ⟨_, hk.2.2, fun d hd => ?_⟩
  by_cases h : d = y
  ·subst h; rw [hv] at hd; cases hd
  ·rw [get_top_ne h, get_kill]; split
   ·rfl
   ·exact hd
 | _ => rw [hv] at hk; exact hk.elim
theorem frz_both {y : Nat} {N0 : Nat} (h : OkS Xb par N0 w0 a w s) (hX : ∀ b, ¬ Xb b) (hk : wpI P (.frz y) K s) : ∃ s', K s' ∧ OkS Xb par N0 w0 a w s' ∧ ∀ d, (s.get d).isName = false → (s'.get d).isName = false := by
 obtain ⟨ow, hG⟩ := h.gam
 have hk' : wpI P (.frz y) (fun s' => K s' ∧ ∀ d, (s.get d).isName = false → (s'.get d).isName = false) s := by
  rw [wpI_frz] at hk ⊢
  cases hv : s.get y with
  | own m nl cs =>
   rw [hv, frzK_o] at hk
   rw [frzK_o]
   refine ⟨hk.1, hk.2.1, hk.2.2, fun d hd => ?_⟩
   by_cases h : d = y
   ·subst h; rw [hv] at hd; cases hd
   ·rw [get_top_ne h, get_kill]; split
    ·rfl
    ·exact hd
  | _ => rw [hv] at hk; exact hk.elim
 obtain ⟨s', ow', ⟨h1, h2⟩, h3⟩ := frz_gam hG hX hk'
 exact ⟨s', h1, ⟨⟨ow', h3⟩, h.size, h.df, h.grow⟩, h2⟩
theorem noNm_mem : ∀ {dl : List M3} {tail : List (Gd × I)} {s : St}, noNm dl.length (dl.map M3.i ++ tail) s → ∀ p ∈ dl, (s.get p.d).isName = false
 | [], _, _, _, p, hp => by simp at hp
 | q :: dl, tail, s, h, p, hp => by
  simp only [List.length_cons, List.map_cons, List.cons_append, M3.i] at h
  rw [noNm_v] at h
  rcases List.mem_cons.1 hp with rfl | hp
  ·exact h.1
  ·exact noNm_mem h.2 p hp
theorem OkS.drew (h : OkS Xb par N w0 a w s) : OkS Xb par N w0 a { w with drawn := w.drawn + 1 } s := by
 obtain ⟨ow, hG⟩ := h.gam
 have hg : Grow (fun _ => False) w { w with drawn := w.drawn + 1 } := ⟨rfl, rfl, rfl, Nat.le_refl _, fun _ _ _ => rfl⟩
 exact ⟨⟨ow, hG.grow hg (fun _ _ => rfl) fun b p hb hp => absurd (hG.base b p hp).1 (by omega)⟩, h.size, h.df, h.grow.trans hg.any⟩
theorem drawn_any {fz : Bool} {ops : Array Oper} {n : Nat} {Q : Exit → Act → World → Prop} (hpar : ∀ z, 1000 ≤ z → par z = none) (hfz : fz = true → ∀ b, ¬ Xb b)
  (hQ : ∀ s' a' w', K s' → OkS Xb par N w0 a' w' s' → Q .normal a' w') :
  ∀ {r : List (Gd × I)} {s : St}, chkG P N fz ops n r = true → OkS Xb par N w0 a w s → noNm n r s → wpL P r K s → wpAny P .any ops Q ops.size (Array.replicate ops.size false) a { w with drawn := w.drawn + 1 }
 | r, s, hc, hO, hno, hk => by
  rcases chkG_spec hc with ⟨y, r', rfl, hf, hc'⟩ | ⟨p, hp, hd⟩
  ·obtain ⟨s', h1, h2, h3⟩ := frz_both hO (hfz hf) hk
   refine drawn_any hpar hfz hQ (r := r') (s := s') hc' h2 ?_ h1
   cases n with
   | zero => simp [noNm]
   | succ n =>
    rw [noNm_frz] at hno
    have : ∀ {m : Nat} {r : List (Gd × I)}, noNm m r s → noNm m r s' := by
     intro m r
     induction r generalizing m with
     | nil => intro _; cases m <;> simp [noNm]
     | cons q r ih =>
      obtain ⟨g, i⟩ := q
      intro h
      cases m with
      | zero => simp [noNm]
      | succ m =>
       cases i with
       | frz z => rw [noNm_frz] at h ⊢; exact ih h
       | st p v => exact ⟨trivial, ih h.2⟩
       | clr p z => exact ⟨trivial, ih h.2⟩
       | onl y => exact ⟨trivial, ih h.2⟩
       | tkr y => exact ⟨trivial, ih h.2⟩
       | sts p v k => exact ⟨trivial, ih h.2⟩
       | coa d f xs j =>
        cases d with
        | none => exact ⟨trivial, ih h.2⟩
        | some d => exact ⟨h3 _ h.1, ih h.2⟩
       | cox d f xs j =>
        cases d with
        | none => exact ⟨trivial, ih h.2⟩
        | some d => exact ⟨h3 _ h.1, ih h.2⟩
       | _ => exact ⟨h3 _ h.1, ih h.2⟩
    exact this hno
  ·obtain ⟨e1, e2⟩ := splitM_spec hp
   rw [e1] at hk hno
   rw [← e2] at hno
   obtain ⟨vs, v1, v2, v3⟩ := chain_ex hk
   have hD := hd
   simp only [chkD, Bool.and_eq_true, decide_eq_true_eq] at hD
   have inv0 : HeadInv .any ops p.1.length (Array.replicate ops.size false) :=
    ⟨by simp, fun j oj _ hl => (by rw [getD_replicate_false] at hl; cases hl), fun t _ ht => getD_in (by simpa using ht) (getD_replicate_false _ _)⟩
   have hfalse : ∀ j, j < ops.size → (Array.replicate ops.size false).getD j true = false := fun j hj => getD_in (by simpa using hj) (getD_replicate_false _ _)
   have hcnt : cnt (Array.replicate ops.size false) p.1.length = p.1.length := by
    have : ∀ m, m ≤ ops.size → cnt (Array.replicate ops.size false) m = m := by
     intro m
     induction m with
     | zero => intro _; rfl
     | succ m ih => intro h; simp only [cnt]; rw [hfalse m (by omega), ih (by omega)]; simp; omega
    exact this _ hD.1.1.1.1
   have := drawn_go (P := P) (Q := Q) hpar hfz hd v1 (noNm_mem hno) v3 (fun a w hO => wpL_list hpar hfz p.2 _ a w _ hD.2 hO v2 hQ) p.1.length (Array.replicate ops.size false) a { w with drawn := w.drawn + 1 } s hcnt inv0
    ⟨fun j q v hq _ hl => (by
     have hj := (List.getElem?_eq_some_iff.1 hq).1
     rw [hfalse j (by omega)] at hl; cases hl), fun y _ => rfl⟩ hO.drew
   rw [show p.1.length + (ops.size - p.1.length) = ops.size from by omega] at this
   exact this
termination_by r => r.length
theorem region_drawn {fz : Bool} {ops : Array Oper} {n id : Nat} {Q : Exit → Act → World → Prop} (hmo : P.follows .mixedOrders = true) (hpar : ∀ z, 1000 ≤ z → par z = none) (hfz : fz = true → ∀ b, ¬ Xb b)
  (hQ : ∀ s' a' w', K s' → OkS Xb par N w0 a' w' s' → Q .normal a' w') {r : List (Gd × I)} {s : St} (hc : chkG P N fz ops n r = true) (hO : OkS Xb par N w0 a w s) (hno : noNm n r s) (hk : wpL P r K s) : (Code.region id ops true).wp P Q a w :=
 wp_region_any hmo (drawn_any hpar hfz hQ hc hO hno hk)
def chkE (P : Program) (N : Nat) (fz : Bool) (ops : Array Oper) (n k : Nat) (h e t : List (Gd × I)) : Bool := match splitM n h with
 | some (dl, []) => decide (dl.length + 1 ≤ ops.size) && decide (k ≤ 2) && decide (k ≤ dl.length) && (List.range dl.length).all (fun i => match dl[i]? with | some p => opB P N ops dl i p | none => true) &&
   Region.seqB .any ops (ops.size - dl.length) dl.length (canon ops.size dl.length) && (List.range dl.length).all (fun j => decide (j < k) || befB ops dl.length [] 5 j) &&
   (dl.length + 1 == ops.size || (Region.sinkB .any ops (dl.length + 1) && Region.chainB .any ops (dl.length + 1))) && Region.seqB .any ops (ops.size - (dl.length + 1)) (dl.length + 1) (canon ops.size (dl.length + 1)) &&
   (match ops[dl.length]? with | some o => chkL P N fz ops e [o] && e.all (fun p => p.1.isNone) | none => false) && chkL P N fz ops t (ops.toList.drop (dl.length + 1)) && (dl.take k).all (fun p => p.g.isNone)
 | _ => false
theorem step_one {ops : Array Oper} {fz : Bool} {Q : Exit → Act → World → Prop} {next : Act → World → Prop} (hpar : ∀ z, 1000 ≤ z → par z = none) (hfz : fz = true → ∀ b, ¬ Xb b) {o : Oper} :
  ∀ (r : List (Gd × I)) (a : Act) (w : World) (s : St), chkL P N fz ops r [o] = true → r.all (fun p => p.1.isNone) = true → OkS Xb par N w0 a w s → wpL P r K s →
   (∀ s' a' w', K s' → OkS Xb par N w0 a' w' s' → next a' w') → o.wp P a w next Q ∧ o.guard = none
 | [], a, w, s, hc, hn, hO, hk, hQ => by simp [chkL] at hc
 | (g, i) :: r, a, w, s, hc, hn, hO, hk, hQ => by
  simp only [List.all_cons, Bool.and_eq_true, Option.isNone_iff_eq_none] at hn
  obtain ⟨rfl, hn⟩ := hn
  rcases chkL_cons hc with ⟨y, _, rfl, hf, hc'⟩ | ⟨y, _, rfl, hc'⟩ | ⟨y, _, rfl, hc'⟩ | ⟨o', os', e, hg, hi, hc'⟩
  ·obtain ⟨ow, hG⟩ := hO.gam
   obtain ⟨s', ow', h1, h2⟩ := frz_gam hG (hfz hf) hk
   exact step_one hpar hfz r a w s' hc' hn ⟨⟨ow', h2⟩, hO.size, hO.df, hO.grow⟩ h1 hQ
  ·obtain ⟨ow, hG⟩ := hO.gam
   obtain ⟨s', ow', h1, h2⟩ := onl_gam hG hk
   exact step_one hpar hfz r a w s' hc' hn ⟨⟨ow', h2⟩, hO.size, hO.df, hO.grow⟩ h1 hQ
  ·obtain ⟨ow, hG⟩ := hO.gam
   obtain ⟨s', ow', h1, h2⟩ := tkr_gam hG hk
   exact step_one hpar hfz r a w s' hc' hn ⟨⟨ow', h2⟩, hO.size, hO.df, hO.grow⟩ h1 hQ
  ·cases e
   have hgn : o.guard = none := by
    unfold gdOk at hg; split at hg
    ·rename_i h; exact h
    ·rename_i h _; cases h
    ·cases hg
   refine ⟨?_, hgn⟩
   obtain ⟨ow, hG⟩ := hO.gam
   refine wpI_goi hG hpar (by rw [hO.size]; exact hi) hk _ _ fun s' a' w' ow' hk' hgr hG' hsz hdf => ?_
   have hO' : OkS Xb par N w0 a' w' s' := ⟨⟨ow', hG'⟩, by rw [hsz]; exact hO.size, by rw [hdf]; exact hO.df, hO.grow.step rfl hgr⟩
   exact wpL_list (ops := ops) (Q := fun _ a w => next a w) hpar hfz r [] a' w' s' hc' hO' hk' hQ
structure Lat (ops : Array Oper) (n : Nat) (us : List Nat) (listed : Array Bool) : Prop where
 inv : HeadInv .any ops (n + 1) listed
 head : ∀ j, j < n + 1 → (listed.getD j true = false ↔ j ∈ us)
theorem lat_set {ops : Array Oper} {n i : Nat} {us : List Nat} {listed : Array Bool} (L : Lat ops n us listed) (hs : n + 1 ≤ ops.size) (hi : i ∈ Region.ready .any ops listed) (hin : i < n + 1) {us' : List Nat} (hu : ∀ j, j ∈ us' ↔ j ∈ us ∧ j ≠ i) : Lat ops n us' (listed.setIfInBounds i true) := by
 refine ⟨L.inv.set hi hin, fun j hj => ?_⟩
 rw [hu j, ← L.head j hj]
 by_cases e : i = j
 ·subst e
  have : i < listed.size := by rw [L.inv.size]; omega
  simp [this]
 ·rw [getD_set_ne true e]
  exact ⟨fun h => ⟨h, fun h' => e h'.symm⟩, fun h => h.1⟩
theorem lat_ready {ops : Array Oper} {n k : Nat} {us : List Nat} {listed : Array Bool} (L : Lat ops n us listed) (htl : n + 1 = ops.size ∨ (Region.sinkB .any ops (n + 1) = true ∧ Region.chainB .any ops (n + 1) = true)) (hk : k ∈ us) (hkn : k < n + 1) {i : Nat} (hi : i ∈ Region.ready .any ops listed) : i ∈ us ∧ i < n + 1 := by
 obtain ⟨hun, o, ho, _⟩ := mem_ready.1 hi
 have his : i < ops.size := (Array.getElem?_eq_some_iff.1 ho).1
 have hin : i < n + 1 := by
  rcases htl with h | ⟨h1, h2⟩
  ·omega
  ·refine Classical.byContradiction fun hh => ?_
   exact tail_waits h1 h2 (by omega) L.inv (n + 1 - k) k rfl hkn ((L.head k hkn).2 hk) i (by omega) hi
 exact ⟨(L.head i hin).1 hun, hin⟩
theorem lat_end {ops : Array Oper} {n : Nat} {listed : Array Bool} (L : Lat ops n [] listed) : listed = canon ops.size (n + 1) := by
 apply Array.ext_getElem?
 intro j
 by_cases hj : j < ops.size
 ·rw [canon_get hj, Array.getElem?_eq_getElem (by rw [L.inv.size]; exact hj)]
  have hjs : j < listed.size := by rw [L.inv.size]; exact hj
  by_cases hjn : j < n + 1
  ·have := L.head j hjn
   simp [hjs] at this
   simp [this, hjn]
  ·have := L.inv.tail j (by omega) hj
   simp [hjs] at this
   simp [this, hjn]
 ·rw [Array.getElem?_eq_none (by rw [L.inv.size]; omega), Array.getElem?_eq_none (by simp [canon]; omega)]
theorem getD_tt {listed : Array Bool} {j : Nat} (hj : j < listed.size) (h : ¬ listed.getD j true = false) : listed.getD j false = true := by
 simp [hj] at h ⊢; exact h
theorem lat_first {ops : Array Oper} {n i : Nat} {us : List Nat} {listed : Array Bool} {dl : List M3} {p : M3} (L : Lat ops n us listed) (hs : n + 1 ≤ ops.size) (hop : (List.range dl.length).all (fun i => match dl[i]? with | some p => opB P N ops dl i p | none => true) = true)
  (hp : dl[i]? = some p) (hi : i ∈ us) (hin : i < n + 1) (hle : ∀ j ∈ us, i ≤ j) : i ∈ Region.ready .any ops listed := by
 obtain ⟨o, ho, _, _, he⟩ := opB_edges hop hp
 refine mem_ready.2 ⟨(L.head i hin).2 hi, o, ho, fun e hee hb => ?_⟩
 have h1 := he e hee hb
 exact getD_tt (by rw [L.inv.size]; omega) fun hf => by
  have := hle _ ((L.head e.on (by omega)).1 hf); omega
theorem step_op {ops : Array Oper} {Q : Exit → Act → World → Prop} {next : Act → World → Prop} {o : Oper} {i : Nat} (ho : ops[i]? = some o) (h : o.wp P a w next Q ∧ o.guard = none) : wpOp P ops Q i next a w := by
 unfold wpOp
 rw [ho]
 simp only [show Region.wanted o (yielded ops a.tmps) = true by simp [Region.wanted, h.2], if_true]
 exact .inl h.1
theorem float_one {ops : Array Oper} {fz : Bool} {Q : Exit → Act → World → Prop} {next : Act → World → Prop} (hpar : ∀ z, 1000 ≤ z → par z = none) (hfz : fz = true → ∀ b, ¬ Xb b) {dl : List M3} {i : Nat} {p : M3}
  (hop : (List.range dl.length).all (fun i => match dl[i]? with | some p => opB P N ops dl i p | none => true) = true) (hp : dl[i]? = some p) (hg : p.g = none) (hO : OkS Xb par N w0 a w s) (hk : wpL P [p.i] K s)
  (hQ : ∀ s' a' w', K s' → OkS Xb par N w0 a' w' s' → next a' w') : wpOp P ops Q i next a w := by
 obtain ⟨o, ho, h1, h2, _⟩ := opB_edges hop hp
 refine step_op ho (step_one (ops := ops) (fz := fz) hpar hfz [p.i] a w s ?_ (by simp [M3.i, hg]) hO hk hQ)
 unfold M3.i chkL
 rw [hg] at h1 ⊢
 simp [h1, h2, chkL]
section
variable {ops : Array Oper} {fz : Bool} {n : Nat} {Q : Exit → Act → World → Prop} {t : List (Gd × I)} {dl : List M3} {listed : Array Bool}
theorem lat_close (hpar : ∀ z, 1000 ≤ z → par z = none) (hfz : fz = true → ∀ b, ¬ Xb b) (hQ : ∀ s' a' w', K s' → OkS Xb par N w0 a' w' s' → Q .normal a' w')
  (ht : chkL P N fz ops t (ops.toList.drop (n + 1)) = true) (hseq : Region.seqB .any ops (ops.size - (n + 1)) (n + 1) (canon ops.size (n + 1)) = true)
  (L : Lat ops n [] listed) (hO : OkS Xb par N w0 a w s) (hk : wpL P t K s) : wpAny P .any ops Q (ops.size - (n + 1)) listed a w := by
 have hl : (ops.toList.drop (n + 1)).length = ops.size - (n + 1) := by simp
 have := wpAny_of_seq (md := .any) (ops := ops) (Q' := Q) (ops.toList.drop (n + 1)) (n + 1) listed a w (fun j => by simp [List.getElem?_drop]) (by rw [hl, lat_end L]; exact hseq) (wpL_list hpar hfz t _ a w s ht hO hk hQ)
 rwa [hl] at this
theorem lat_one (hpar : ∀ z, 1000 ≤ z → par z = none) (hfz : fz = true → ∀ b, ¬ Xb b) (hQ : ∀ s' a' w', K s' → OkS Xb par N w0 a' w' s' → Q .normal a' w') (hs : n + 1 ≤ ops.size)
  (hop : (List.range dl.length).all (fun i => match dl[i]? with | some p => opB P N ops dl i p | none => true) = true) (htl : n + 1 = ops.size ∨ (Region.sinkB .any ops (n + 1) = true ∧ Region.chainB .any ops (n + 1) = true))
  (ht : chkL P N fz ops t (ops.toList.drop (n + 1)) = true) (hseq : Region.seqB .any ops (ops.size - (n + 1)) (n + 1) (canon ops.size (n + 1)) = true)
  {i : Nat} {p : M3} (hp : dl[i]? = some p) (hg : p.g = none) (hin : i < n + 1) (L : Lat ops n [i] listed) (hO : OkS Xb par N w0 a w s) (hk : wpL P [p.i] (wpL P t K) s) : wpAny P .any ops Q (ops.size - (n + 1) + 1) listed a w := by
 refine ⟨fun h0 => ?_, fun j hj => ?_⟩
 ·have := lat_first L hs hop hp (by simp) hin (by simp)
  rw [h0] at this; cases this
 ·obtain ⟨h1, h2⟩ := lat_ready L htl (by simp) hin hj
  obtain rfl : j = i := by simpa using h1
  refine float_one hpar hfz hop hp hg hO hk fun s' a' w' hk' hO' => ?_
  exact lat_close hpar hfz hQ ht hseq (lat_set L hs hj h2 (us' := []) (by simp)) hO' hk'
theorem lat_two (hpar : ∀ z, 1000 ≤ z → par z = none) (hfz : fz = true → ∀ b, ¬ Xb b) (hQ : ∀ s' a' w', K s' → OkS Xb par N w0 a' w' s' → Q .normal a' w') (hs : n + 1 ≤ ops.size)
  (hop : (List.range dl.length).all (fun i => match dl[i]? with | some p => opB P N ops dl i p | none => true) = true) (htl : n + 1 = ops.size ∨ (Region.sinkB .any ops (n + 1) = true ∧ Region.chainB .any ops (n + 1) = true))
  (ht : chkL P N fz ops t (ops.toList.drop (n + 1)) = true) (hseq : Region.seqB .any ops (ops.size - (n + 1)) (n + 1) (canon ops.size (n + 1)) = true)
  {i j : Nat} {p q : M3} (hp : dl[i]? = some p) (hq : dl[j]? = some q) (hg : p.g = none) (hgq : q.g = none) (hij : i < j) (hjn : j < n + 1) (L : Lat ops n [i, j] listed) (hO : OkS Xb par N w0 a w s)
  (hk : wpL P [p.i, q.i] (wpL P t K) s ∧ wpL P [q.i, p.i] (wpL P t K) s) : wpAny P .any ops Q (ops.size - (n + 1) + 1 + 1) listed a w := by
 obtain ⟨d, o, xs, g⟩ := p
 obtain ⟨d2, o2, xs2, g2⟩ := q
 cases hg
 cases hgq
 refine ⟨fun h0 => ?_, fun k hkr => ?_⟩
 ·have := lat_first L hs hop hp (by simp) (by omega) (by simp; omega)
  rw [h0] at this; cases this
 ·obtain ⟨h1, h2⟩ := lat_ready L htl (k := i) (by simp) (by omega) hkr
  have h1 : k = i ∨ k = j := by simpa using h1
  rcases h1 with rfl | rfl
  ·refine float_one (K := wpL P [M3.i ⟨d2, o2, xs2, none⟩] (wpL P t K)) hpar hfz hop hp rfl hO hk.1 fun s' a' w' hk' hO' => ?_
   exact lat_one hpar hfz hQ hs hop htl ht hseq hq rfl hjn (lat_set L hs hkr h2 (us' := [j]) (fun x => by simp; omega)) hO' hk'
  ·refine float_one (K := wpL P [M3.i ⟨d, o, xs, none⟩] (wpL P t K)) hpar hfz hop hq rfl hO hk.2 fun s' a' w' hk' hO' => ?_
   exact lat_one hpar hfz hQ hs hop htl ht hseq hp rfl (by omega) (lat_set L hs hkr h2 (us' := [i]) (fun x => by simp; omega)) hO' hk'
end
theorem cnt_one {listed : Array Bool} {i : Nat} : ∀ {n : Nat}, i < n → listed.getD i true = false → (∀ j, j < n → j ≠ i → listed.getD j true = true) → cnt listed n = 1
 | 0, h, _, _ => by omega
 | n + 1, h, hi, ho => by
  simp only [cnt]
  by_cases e : i = n
  ·subst e
   rw [hi]
   have : ∀ {m : Nat}, m ≤ i → cnt listed m = 0 := by
    intro m
    induction m with
    | zero => intro _; rfl
    | succ m ih => intro h; simp only [cnt]; rw [ho m (by omega) (by omega), ih (by omega)]; simp
   rw [this (Nat.le_refl _)]; simp
  ·rw [ho n (by omega) (Ne.symm e), cnt_one (n := n) (by omega) hi fun j hj hne => ho j (by omega) hne]; simp
theorem cnt_nil {listed : Array Bool} : ∀ {n : Nat}, (∀ j, j < n → listed.getD j true = true) → cnt listed n = 0
 | 0, _ => rfl
 | n + 1, h => by simp only [cnt]; rw [h n (by omega), cnt_nil fun j hj => h j (by omega)]; simp
theorem cnt_two {listed : Array Bool} {n : Nat} (hn : 2 ≤ n) (h0 : listed.getD 0 true = false) (h1 : listed.getD 1 true = false) (ho : ∀ j, 2 ≤ j → j < n → listed.getD j true = true) : cnt listed n = 2 := by
 induction n with
 | zero => omega
 | succ n ih =>
  simp only [cnt]
  by_cases e : n = 1
  ·subst e
   rw [h1]; simp [cnt, h0]
  ·rw [ho n (by omega) (by omega), ih (by omega) fun j h2 h3 => ho j h2 (by omega)]; simp
theorem drawn_anyE {fz : Bool} {ops : Array Oper} {n k : Nat} {h e t : List (Gd × I)} {Q : Exit → Act → World → Prop} (hpar : ∀ z, 1000 ≤ z → par z = none) (hfz : fz = true → ∀ b, ¬ Xb b)
  (hQ : ∀ s' a' w', K s' → OkS Xb par N w0 a' w' s' → Q .normal a' w') {s : St} (hc : chkE P N fz ops n k h e t = true) (hO : OkS Xb par N w0 a w s) (hno : noNm n h s) (hk : wpL P h (fun s1 => lateA P e t K s k h [] s1) s) :
  wpAny P .any ops Q ops.size (Array.replicate ops.size false) a { w with drawn := w.drawn + 1 } := by
 unfold chkE at hc
 split at hc
 case h_2 => cases hc
 rename_i dl hsp
 obtain ⟨e1, e2⟩ := splitM_spec hsp
 simp only [List.append_nil] at e1
 subst e1
 rw [← e2] at hno
 simp only [Bool.and_eq_true, decide_eq_true_eq, Bool.or_eq_true, beq_iff_eq] at hc
 obtain ⟨⟨⟨⟨⟨⟨⟨⟨⟨⟨hs, hk2⟩, hkl⟩, hop⟩, hseq0⟩, hwait⟩, htl⟩, hseq⟩, heo⟩, htc⟩, hgs⟩ := hc
 obtain ⟨oe, hoe⟩ : ∃ oe, ops[dl.length]? = some oe := ⟨_, Array.getElem?_eq_getElem (by omega)⟩
 rw [hoe] at heo
 simp only [Bool.and_eq_true] at heo
 obtain ⟨he1, he2⟩ := heo
 rw [← List.append_nil (dl.map M3.i)] at hk hno
 obtain ⟨vs, v1, v2, v3⟩ := chain_ex hk
 have v2 : lateA P e t K s k (dl.map M3.i ++ []) [] (ent dl vs s) := v2
 rw [List.append_nil] at v2
 have hfalse : ∀ j, j < ops.size → (Array.replicate ops.size false).getD j true = false := fun j hj => getD_in (by simpa using hj) (getD_replicate_false _ _)
 have inv0 : HeadInv .any ops dl.length (Array.replicate ops.size false) :=
  ⟨by simp, fun j oj _ hl => (by rw [getD_replicate_false] at hl; cases hl), fun t _ ht => getD_in (by simpa using ht) (getD_replicate_false _ _)⟩
 have hcnt : cnt (Array.replicate ops.size false) dl.length = dl.length := by
  have : ∀ m, m ≤ ops.size → cnt (Array.replicate ops.size false) m = m := by
   intro m
   induction m with
   | zero => intro _; rfl
   | succ m ih => intro h; simp only [cnt]; rw [hfalse m (by omega), ih (by omega)]; simp; omega
  exact this _ (by omega)
 have hnm := noNm_mem hno
 have dist : ∀ (i j : Nat) (p q : M3), dl[i]? = some p → dl[j]? = some q → p.d = q.d → i = j := fun i j p q hp hq e => by
  have := List.all_eq_true.1 hop j (List.mem_range.2 (List.getElem?_eq_some_iff.1 hq).1)
  rw [hq] at this
  simp only [opB] at this
  split at this
  ·simp only [Bool.and_eq_true] at this
   have := List.all_eq_true.1 this.2 i (List.mem_range.2 (List.getElem?_eq_some_iff.1 hp).1)
   rw [hp] at this
   simp only [Bool.and_eq_true, Bool.or_eq_true, beq_iff_eq, bne_iff_ne] at this
   rcases this.1.1 with h | h
   ·exact h
   ·exact absurd e h
  ·cases this
 have leaf0 : wpL P e (wpL P t K) (ent dl vs s) := by
  match k, hk2, hkl, v2 with
  | 0, _, _, v2 => rw [lateA_0] at v2; exact v2
  | 1, _, hkl, v2 =>
   match dl, hkl, v2 with
   | p :: dl, _, v2 => rw [List.map_cons, M3.i, lateA_s] at v2; have := v2.1; rw [lateA_0] at this; exact this
  | 2, _, hkl, v2 =>
   match dl, hkl, v2 with
   | p :: q :: dl, _, v2 =>
    rw [List.map_cons, M3.i, lateA_s] at v2
    have := v2.1
    rw [List.map_cons, M3.i, lateA_s] at this
    have := this.1
    rw [lateA_0] at this; exact this
 have := drawn_go0 (P := P) (Q := Q) hpar (by omega) hop hseq0 v1 hnm v3 (fun a w hO => by
   have hdrop : ops.toList.drop dl.length = oe :: ops.toList.drop (dl.length + 1) := by
    rw [List.drop_eq_getElem_cons (by simp; omega)]
    congr 1
    have := hoe
    rw [Array.getElem?_eq_getElem (by omega)] at this
    simpa using Option.some.inj this
   rw [hdrop]
   have h1 := step_one (ops := ops) (fz := fz) (Q := Q) (next := wpList P ops Q (ops.toList.drop (dl.length + 1))) hpar hfz e a w _ he1 he2 hO leaf0 fun s' a' w' hk' hO' => wpL_list hpar hfz t _ a' w' s' htc hO' hk' hQ
   simp only [wpList, show Region.wanted oe (yielded ops a.tmps) = true by simp [Region.wanted, h1.2], if_true]
   exact .inl h1.1) (fun m listed a w s' hcn inv hM hO' i hi hin => ?_) dl.length (Array.replicate ops.size false) a { w with drawn := w.drawn + 1 } s hcnt inv0
  ⟨fun j q v hq _ hl => (by
   have hj := (List.getElem?_eq_some_iff.1 hq).1
   rw [hfalse j (by omega)] at hl; cases hl), fun y _ => rfl⟩ hO.drew
 ·rw [show dl.length + (ops.size - dl.length) = ops.size from by omega] at this
  exact this
 ·
  have inv1 : HeadInv .any ops (dl.length + 1) listed := ⟨inv.size, inv.closed, fun t h1 h2 => inv.tail t (by omega) h2⟩
  have hid : i = dl.length := by
   obtain ⟨_, o, ho, _⟩ := mem_ready.1 hi
   have his : i < ops.size := (Array.getElem?_eq_some_iff.1 ho).1
   rcases htl with h | ⟨h1, h2⟩
   ·omega
   ·refine Classical.byContradiction fun hh => ?_
    exact tail_waits h1 h2 (by omega) inv1 (dl.length + 1 - dl.length) dl.length rfl (by omega) (inv.tail _ (Nat.le_refl _) (by omega)) i (by omega) hi
  subst hid
  have rest : ∀ j, k ≤ j → j < dl.length → listed.getD j true = true := fun j h1 h2 => by
   have := List.all_eq_true.1 hwait j (List.mem_range.2 h2)
   simp only [Bool.or_eq_true, decide_eq_true_eq] at this
   exact befB_spec inv.size inv.closed hi (by omega) (this.resolve_left (by omega))
  have vex : ∀ (i : Nat), i < dl.length → ∃ p v, dl[i]? = some p ∧ vs[i]? = some v := fun i hi =>
   ⟨dl[i], vs[i]'(by omega), List.getElem?_eq_getElem hi, List.getElem?_eq_getElem (by omega)⟩
  have gl : ∀ (j : Nat) (p : M3), dl[j]? = some p → listed.getD j true = true → s'.get p.d = (ent dl vs s).get p.d := fun j p hp hl => by
   obtain ⟨p', v, hp', hv⟩ := vex j (List.getElem?_eq_some_iff.1 hp).1
   rw [hp] at hp'; cases hp'
   rw [hM.on j p v hp hv hl, ent_some dist hp hv]
  have gu : ∀ (j : Nat) (p : M3), dl[j]? = some p → listed.getD j true = false → s'.get p.d = s.get p.d := fun j p hp hl =>
   hM.off p.d fun r q hq e => by rw [dist r j q p hq hp e]; exact hl
  have go : ∀ y, (∀ (j : Nat) (p : M3), dl[j]? = some p → p.d = y → False) → s'.get y = (ent dl vs s).get y := fun y hy => by
   rw [hM.off y fun j p hp e => (hy j p hp e).elim, ent_none fun q hq e => by
    obtain ⟨j, hj, ej⟩ := List.getElem_of_mem hq
    exact hy j q (by rw [← ej]; exact List.getElem?_eq_getElem hj) e]
  have HL : ∀ us : List Nat, (∀ j, j < dl.length → (listed.getD j true = false ↔ j ∈ us)) → (∀ j ∈ us, j < dl.length) → Lat ops dl.length us (listed.setIfInBounds dl.length true) := fun us h1 h2 => by
   refine ⟨inv1.set hi (by omega), fun j hj => ?_⟩
   by_cases e : dl.length = j
   ·subst e
    have hlt : dl.length < listed.size := by rw [inv.size]; omega
    simp only [Array.getD_eq_getD_getElem?, Array.getElem?_setIfInBounds_self_of_lt hlt, Option.getD_some]
    exact ⟨fun h => (by cases h), fun h => (by have := h2 _ h; omega)⟩
   ·rw [getD_set_ne true e]; exact h1 j (by omega)
  have fin1 : ∀ (i : Nat) (p : M3), dl[i]? = some p → p.g = none → i < k → listed.getD i true = false → (∀ j, j < dl.length → j ≠ i → listed.getD j true = true) → wpL P e (lateW P [p.i] (wpL P t K)) ((p.d, s.get p.d) :: ent dl vs s) →
    wpOp P ops Q dl.length (wpAny P .any ops Q (m + (ops.size - dl.length)) (listed.setIfInBounds dl.length true)) a w := by
   intro i p hp hg hik hun hoth hw
   have hil := (List.getElem?_eq_some_iff.1 hp).1
   have := cnt_one hil hun hoth
   obtain rfl : m = 0 := by omega
   have hO2 : OkS Xb par N w0 a w ((p.d, s.get p.d) :: ent dl vs s) := hO'.congr fun y => by
    by_cases e : y = p.d
    ·subst e; rw [get_top, gu i p hp hun]
    ·rw [get_top_ne e]
     by_cases hy : ∃ (j : Nat) (q : M3), dl[j]? = some q ∧ q.d = y
     ·obtain ⟨j, q, hq, rfl⟩ := hy
      exact (gl j q hq (hoth j (List.getElem?_eq_some_iff.1 hq).1 fun e' => e (by subst e'; rw [hp] at hq; cases hq; rfl))).symm
     ·exact (go y fun j q hq e => hy ⟨j, q, hq, e⟩).symm
   refine step_op hoe (step_one (ops := ops) (fz := fz) hpar hfz e a w _ he1 he2 hO2 hw fun s2 a2 w2 hk2 hO3 => ?_)
   rw [show 0 + (ops.size - dl.length) = ops.size - (dl.length + 1) + 1 by omega]
   exact lat_one hpar hfz hQ hs hop htl htc hseq hp hg (by omega) (HL [i] (fun j hj => by
    constructor
    ·intro h
     by_cases e : j = i
     ·simp [e]
     ·rw [hoth j hj e] at h; cases h
    ·intro h
     obtain rfl : j = i := by simpa using h
     exact hun) (by simpa using hil)) hO3 hk2
  have fin2 : ∀ (p q : M3), dl[0]? = some p → dl[1]? = some q → p.g = none → q.g = none → k = 2 → listed.getD 0 true = false → listed.getD 1 true = false → wpL P e (lateW P [p.i, q.i] (wpL P t K)) ((q.d, s.get q.d) :: (p.d, s.get p.d) :: ent dl vs s) →
    wpOp P ops Q dl.length (wpAny P .any ops Q (m + (ops.size - dl.length)) (listed.setIfInBounds dl.length true)) a w := by
   intro p q hp hq hg hgq hk' h0 h1 hw
   have hil := (List.getElem?_eq_some_iff.1 hq).1
   have := cnt_two (n := dl.length) (by omega) h0 h1 fun j h2 h3 => rest j (by omega) h3
   obtain rfl : m = 1 := by omega
   have hO2 : OkS Xb par N w0 a w ((q.d, s.get q.d) :: (p.d, s.get p.d) :: ent dl vs s) := hO'.congr fun y => by
    by_cases e : y = q.d
    ·subst e; rw [get_top, gu 1 q hq h1]
    ·rw [get_top_ne e]
     by_cases e0 : y = p.d
     ·subst e0; rw [get_top, gu 0 p hp h0]
     ·rw [get_top_ne e0]
      by_cases hy : ∃ (j : Nat) (q : M3), dl[j]? = some q ∧ q.d = y
      ·obtain ⟨j, r, hr, rfl⟩ := hy
       have hj0 : j ≠ 0 := fun e' => e0 (by subst e'; rw [hp] at hr; cases hr; rfl)
       have hj1 : j ≠ 1 := fun e' => e (by subst e'; rw [hq] at hr; cases hr; rfl)
       exact (gl j r hr (rest j (by omega) (List.getElem?_eq_some_iff.1 hr).1)).symm
      ·exact (go y fun j q hq e => hy ⟨j, q, hq, e⟩).symm
   refine step_op hoe (step_one (ops := ops) (fz := fz) hpar hfz e a w _ he1 he2 hO2 hw fun s2 a2 w2 hk2 hO3 => ?_)
   rw [show 1 + (ops.size - dl.length) = ops.size - (dl.length + 1) + 1 + 1 by omega]
   exact lat_two hpar hfz hQ hs hop htl htc hseq hp hq hg hgq (by omega) (by omega) (HL [0, 1] (fun j hj => by
    constructor
    ·intro h
     by_cases e : j = 0
     ·simp [e]
     ·by_cases e1 : j = 1
      ·simp [e1]
      ·rw [rest j (by omega) hj] at h; cases h
    ·intro h
     have : j = 0 ∨ j = 1 := by simpa using h
     rcases this with rfl | rfl
     ·exact h0
     ·exact h1) (by simp; omega)) hO3 hk2
  have hkc : k = 0 ∨ k = 1 ∨ k = 2 := by omega
  rcases hkc with rfl | rfl | rfl
  ·have := cnt_nil fun j hj => rest j (by omega) hj
   omega
  ·match dl, hkl, hgs, v2 with
   | p :: dl, _, hgs, v2 =>
    rw [List.map_cons, M3.i, lateA_s] at v2
    have hg : p.g = none := by simpa using hgs
    have hw := v2.2
    rw [lateA_0] at hw
    by_cases h0 : listed.getD 0 true = true
    ·have := cnt_nil (listed := listed) (n := (p :: dl).length) fun j hj => by
      by_cases e : j = 0
      ·subst e; exact h0
      ·exact rest j (by omega) hj
     omega
    ·exact fin1 0 p rfl hg (by omega) (by simpa using h0) (fun j hj hne => rest j (by omega) hj) hw
  ·match dl, hkl, hgs, v2 with
   | p :: q :: dl, _, hgs, v2 =>
    rw [List.map_cons, M3.i, lateA_s] at v2
    obtain ⟨va, vb⟩ := v2
    rw [List.map_cons, M3.i, lateA_s, lateA_0, lateA_0] at va
    rw [List.map_cons, M3.i, lateA_s, lateA_0, lateA_0] at vb
    have hg : p.g = none ∧ q.g = none := by simpa using hgs
    cases h0 : listed.getD 0 true with
    | true =>
     cases h1 : listed.getD 1 true with
     | true =>
      have := cnt_nil (listed := listed) (n := (p :: q :: dl).length) fun j hj => by
       by_cases e : j = 0
       ·subst e; exact h0
       ·by_cases e1 : j = 1
        ·subst e1; exact h1
        ·exact rest j (by omega) hj
      omega
     | false =>
      exact fin1 1 q rfl hg.2 (by omega) h1 (fun j hj hne => by
       by_cases e : j = 0
       ·subst e; exact h0
       ·exact rest j (by omega) hj) va.2
    | false =>
     cases h1 : listed.getD 1 true with
     | true =>
      exact fin1 0 p rfl hg.1 (by omega) h0 (fun j hj hne => by
       by_cases e : j = 1
       ·subst e; exact h1
       ·exact rest j (by omega) hj) vb.1
     | false => exact fin2 p q rfl rfl hg.1 hg.2 rfl h0 h1 vb.2
def chB (ops : Array Oper) : List Nat → Bool
 | i :: j :: r => decide (i < j) && Region.waitsFor .any ops j i && chB ops (j :: r)
 | _ => true
def chkR (P : Program) (N : Nat) (fz : Bool) (ops : Array Oper) (n : Nat) (c : List Nat) (h e t : List (Gd × I)) : Bool := match splitM n h with
 | some (dl, []) => decide (dl.length + 1 ≤ ops.size) && (List.range dl.length).all (fun i => match dl[i]? with | some p => opB P N ops dl i p | none => true) &&
   Region.seqB .any ops (ops.size - dl.length) dl.length (canon ops.size dl.length) && (List.range dl.length).all (fun j => c.contains j || befB ops dl.length [] 5 j) &&
   (dl.length + 1 == ops.size || (Region.sinkB .any ops (dl.length + 1) && Region.chainB .any ops (dl.length + 1))) && Region.seqB .any ops (ops.size - (dl.length + 1)) (dl.length + 1) (canon ops.size (dl.length + 1)) &&
   (match ops[dl.length]? with | some o => chkL P N fz ops e [o] && e.all (fun p => p.1.isNone) | none => false) && chkL P N fz ops t (ops.toList.drop (dl.length + 1)) &&
   chB ops c && c.all (fun i => match dl[i]? with | some p => p.g.isNone | none => false)
 | _ => false
theorem pick_cons {dl : List M3} {i : Nat} {r : List Nat} {p : M3} (h : dl[i]? = some p) : pickL (dl.map M3.i) (i :: r) = p.i :: pickL (dl.map M3.i) r := by
 rw [pickL_c, List.getElem?_map, h]; rfl
theorem chB_lt {ops : Array Oper} : ∀ {r : List Nat} {i : Nat}, chB ops (i :: r) = true → ∀ j ∈ r, i < j
 | [], _, _, j, hj => by cases hj
 | k :: r, i, h, j, hj => by
  simp only [chB, Bool.and_eq_true, decide_eq_true_eq] at h
  rcases List.mem_cons.1 hj with rfl | hj
  ·exact h.1.1
  ·exact Nat.lt_trans h.1.1 (chB_lt h.2 j hj)
theorem chB_tl {ops : Array Oper} {i : Nat} {r : List Nat} (h : chB ops (i :: r) = true) : chB ops r = true := by
 cases r with
 | nil => rfl
 | cons k r => simp only [chB, Bool.and_eq_true] at h; exact h.2
theorem chB_pred {ops : Array Oper} : ∀ {r : List Nat} {i : Nat}, chB ops (i :: r) = true → ∀ j ∈ r, ∃ q ∈ i :: r, Region.waitsFor .any ops j q = true
 | [], _, _, j, hj => by cases hj
 | k :: r, i, h, j, hj => by
  simp only [chB, Bool.and_eq_true] at h
  rcases List.mem_cons.1 hj with rfl | hj
  ·exact ⟨i, by simp, h.1.2⟩
  ·obtain ⟨q, hq, hw⟩ := chB_pred h.2 j hj
   exact ⟨q, by simp at hq ⊢; exact .inr hq, hw⟩
theorem chB_nodup {ops : Array Oper} : ∀ {c : List Nat}, chB ops c = true → c.Nodup
 | [], _ => List.nodup_nil
 | i :: r, h => List.nodup_cons.2 ⟨fun hm => by have := chB_lt h i hm; omega, chB_nodup (chB_tl h)⟩
theorem wait_un {ops : Array Oper} {n : Nat} {listed : Array Bool} (inv : HeadInv .any ops n listed) {i j : Nat} (hi : i < ops.size) (hj : j < ops.size) (hw : Region.waitsFor .any ops j i = true) (hu : listed.getD i true = false) : listed.getD j true = false := by
 refine Classical.byContradiction fun h => ?_
 obtain ⟨o, ho, x, hx, hb, hon⟩ := Region.waitsFor_spec hw
 have h1 := inv.closed j o ho (getD_tt (by rw [inv.size]; exact hj) h) x hx hb
 rw [hon] at h1
 rw [getD_both hu] at h1; cases h1
theorem chB_un {ops : Array Oper} {n : Nat} {listed : Array Bool} (inv : HeadInv .any ops n listed) : ∀ {r : List Nat} {i : Nat}, chB ops (i :: r) = true → (∀ j ∈ i :: r, j < ops.size) → listed.getD i true = false → ∀ j ∈ r, listed.getD j true = false
 | [], _, _, _, _, j, hj => by cases hj
 | k :: r, i, h, hb, hu, j, hj => by
  have h' := h
  simp only [chB, Bool.and_eq_true] at h'
  have hk := wait_un inv (hb i (by simp)) (hb k (by simp)) h'.1.2 hu
  rcases List.mem_cons.1 hj with rfl | hj
  ·exact hk
  ·exact chB_un inv h'.2 (fun q hq => hb q (by simp at hq ⊢; exact .inr hq)) hk j hj
theorem ch_suffix {ops : Array Oper} {n : Nat} {listed : Array Bool} (inv : HeadInv .any ops n listed) : ∀ {c : List Nat}, chB ops c = true → (∀ j ∈ c, j < ops.size) → ∃ pre r, c = pre ++ r ∧ ∀ j ∈ c, (listed.getD j true = false ↔ j ∈ r)
 | [], _, _ => ⟨[], [], rfl, fun j hj => by cases hj⟩
 | i :: c, h, hb => by
  cases hl : listed.getD i true with
  | false =>
   refine ⟨[], i :: c, rfl, fun j hj => ⟨fun _ => hj, fun _ => ?_⟩⟩
   rcases List.mem_cons.1 hj with rfl | hj
   ·exact hl
   ·exact chB_un inv h hb hl j hj
  | true =>
   obtain ⟨pre, r, e, hr⟩ := ch_suffix inv (chB_tl h) (fun j hj => hb j (by simp [hj]))
   refine ⟨i :: pre, r, by rw [e]; rfl, fun j hj => ?_⟩
   rcases List.mem_cons.1 hj with rfl | hj
   ·refine ⟨fun h' => (by rw [hl] at h'; cases h'), fun hm => ?_⟩
    have hin : j ∈ c := by rw [e]; simp [hm]
    have := (hr j hin).2 hm
    rw [this] at hl; cases hl
   ·exact hr j hj
theorem cnt_eq {listed : Array Bool} : ∀ {n : Nat}, cnt listed n = ((List.range n).filter fun j => !listed.getD j true).length
 | 0 => rfl
 | n + 1 => by
  simp only [cnt]
  rw [cnt_eq (n := n), List.range_succ, List.filter_append, List.length_append]
  cases h : listed.getD n true <;> simp only [List.filter_cons, List.filter_nil, h, Bool.not_false, Bool.not_true, if_true, Bool.false_eq_true, if_false, List.length_cons, List.length_nil] <;> omega
theorem cnt_list {listed : Array Bool} {n : Nat} {r : List Nat} (hn : r.Nodup) (hb : ∀ j ∈ r, j < n) (h : ∀ j, j < n → (listed.getD j true = false ↔ j ∈ r)) : cnt listed n = r.length := by
 rw [cnt_eq]
 refine List.Perm.length_eq ((List.perm_ext_iff_of_nodup (List.Pairwise.filter _ List.nodup_range) hn).2 fun j => ?_)
 rw [List.mem_filter, List.mem_range]
 constructor
 ·rintro ⟨h1, h2⟩; exact (h j h1).1 (by simpa using h2)
 ·intro hj; exact ⟨hb j hj, by rw [(h j (hb j hj)).2 hj]; rfl⟩
theorem rst_yes {s0 : St} {dl : List M3} {y : Nat} : ∀ {r : List Nat} {s : St}, (∀ i ∈ r, ∃ p, dl[i]? = some p) → (∃ i p, i ∈ r ∧ dl[i]? = some p ∧ p.d = y) → (rstL s0 (pickL (dl.map M3.i) r) s).get y = s0.get y
 | [], s, _, h => by obtain ⟨_, _, h, _⟩ := h; cases h
 | i :: r, s, h, hy => by
  obtain ⟨p, hp⟩ := h i (by simp)
  rw [pick_cons hp, M3.i, rstL_v, get_if]
  by_cases e : p.d = y
  ·rw [if_pos e, e]
  ·rw [if_neg e]
   refine rst_yes (fun j hj => h j (by simp [hj])) ?_
   obtain ⟨j, q, hj, hq, ed⟩ := hy
   rcases List.mem_cons.1 hj with rfl | hj
   ·rw [hp] at hq; cases hq; exact absurd ed e
   ·exact ⟨j, q, hj, hq, ed⟩
theorem rst_no {s0 : St} {dl : List M3} {y : Nat} : ∀ {r : List Nat} {s : St}, (∀ i ∈ r, ∃ p, dl[i]? = some p) → (¬ ∃ i p, i ∈ r ∧ dl[i]? = some p ∧ p.d = y) → (rstL s0 (pickL (dl.map M3.i) r) s).get y = s.get y
 | [], s, _, _ => rfl
 | i :: r, s, h, hy => by
  obtain ⟨p, hp⟩ := h i (by simp)
  rw [pick_cons hp, M3.i, rstL_v, get_if, if_neg fun e => hy ⟨i, p, by simp, hp, e⟩]
  refine rst_no (fun j hj => h j (by simp [hj])) ?_
  rintro ⟨j, q, hj, hq, ed⟩
  exact hy ⟨j, q, by simp [hj], hq, ed⟩
theorem lateC_last {e t : List (Gd × I)} {s0 : St} : ∀ {l : List (Gd × I)} {s : St}, lateC P e t K s0 l s → wpL P e (wpL P t K) s
 | [], _, h => h
 | _ :: l, _, h => lateC_last (l := l) h.2
theorem lateC_suf {e t : List (Gd × I)} {s0 : St} : ∀ {pre r : List (Gd × I)} {s : St}, lateC P e t K s0 (pre ++ r) s → r ≠ [] → wpL P e (wpL P r (wpL P t K)) (rstL s0 r s)
 | [], [], _, _, h => absurd rfl h
 | [], _ :: _, _, h, _ => h.1
 | _ :: pre, r, _, h, hr => lateC_suf (pre := pre) h.2 hr
theorem pick_app {h : List (Gd × I)} : ∀ {a b : List Nat}, pickL h (a ++ b) = pickL h a ++ pickL h b
 | [], _ => rfl
 | i :: a, b => by
  rw [List.cons_append, pickL_c, pickL_c]
  cases h[i]? with
  | none => exact pick_app
  | some f => simp only [pickO]; rw [pick_app]; rfl
section
variable {ops : Array Oper} {fz : Bool} {n : Nat} {Q : Exit → Act → World → Prop} {t : List (Gd × I)} {dl : List M3}
theorem lat_chain (hpar : ∀ z, 1000 ≤ z → par z = none) (hfz : fz = true → ∀ b, ¬ Xb b) (hQ : ∀ s' a' w', K s' → OkS Xb par N w0 a' w' s' → Q .normal a' w') (hs : n + 1 ≤ ops.size)
  (hop : (List.range dl.length).all (fun i => match dl[i]? with | some p => opB P N ops dl i p | none => true) = true) (htl : n + 1 = ops.size ∨ (Region.sinkB .any ops (n + 1) = true ∧ Region.chainB .any ops (n + 1) = true))
  (ht : chkL P N fz ops t (ops.toList.drop (n + 1)) = true) (hseq : Region.seqB .any ops (ops.size - (n + 1)) (n + 1) (canon ops.size (n + 1)) = true) :
  ∀ {r : List Nat} {listed : Array Bool} {a : Act} {w : World} {s : St}, chB ops r = true → (∀ i ∈ r, i < n ∧ ∃ p, dl[i]? = some p ∧ p.g = none) → Lat ops n r listed → OkS Xb par N w0 a w s →
   wpL P (pickL (dl.map M3.i) r) (wpL P t K) s → wpAny P .any ops Q (ops.size - (n + 1) + r.length) listed a w
 | [], listed, a, w, s, _, _, L, hO, hk => lat_close hpar hfz hQ ht hseq L hO hk
 | i :: r, listed, a, w, s, hc, hb, L, hO, hk => by
  obtain ⟨hin, p, hp, hg⟩ := hb i (by simp)
  obtain ⟨d, o, xs, g⟩ := p
  cases hg
  rw [pick_cons hp] at hk
  refine ⟨fun h0 => ?_, fun j hj => ?_⟩
  ·have := lat_first L hs hop hp (by simp) (by omega) (fun j hj => by
    rcases List.mem_cons.1 hj with rfl | hj
    ·exact Nat.le_refl _
    ·exact Nat.le_of_lt (chB_lt hc j hj))
   rw [h0] at this; cases this
  ·obtain ⟨h1, h2⟩ := lat_ready L htl (k := i) (by simp) (by omega) hj
   have hji : j = i := by
    rcases List.mem_cons.1 h1 with rfl | hjr
    ·rfl
    ·exfalso
     obtain ⟨q, hq, hw⟩ := chB_pred hc j hjr
     obtain ⟨o2, ho2, x, hx, hbx, hon⟩ := Region.waitsFor_spec hw
     obtain ⟨_, o3, ho3, hall⟩ := mem_ready.1 hj
     rw [ho2] at ho3; cases ho3
     have h5 := hall x hx hbx
     rw [hon] at h5
     have h6 := (L.head q (by have := (hb q hq).1; omega)).2 hq
     rw [getD_both h6] at h5; cases h5
   subst hji
   refine float_one (K := wpL P (pickL (dl.map M3.i) r) (wpL P t K)) hpar hfz hop hp rfl hO hk fun s' a' w' hk' hO' => ?_
   exact lat_chain hpar hfz hQ hs hop htl ht hseq (chB_tl hc) (fun q hq => hb q (by simp [hq])) (lat_set L hs hj h2 (us' := r) (fun x => by
    constructor
    ·intro hx; exact ⟨by simp [hx], fun e => by subst e; have := chB_lt hc _ hx; omega⟩
    ·rintro ⟨hx, hne⟩
     rcases List.mem_cons.1 hx with rfl | hx
     ·exact absurd rfl hne
     ·exact hx)) hO' hk'
end
theorem drawn_anyR {fz : Bool} {ops : Array Oper} {n : Nat} {c : List Nat} {h e t : List (Gd × I)} {Q : Exit → Act → World → Prop} (hpar : ∀ z, 1000 ≤ z → par z = none) (hfz : fz = true → ∀ b, ¬ Xb b)
  (hQ : ∀ s' a' w', K s' → OkS Xb par N w0 a' w' s' → Q .normal a' w') {s : St} (hc : chkR P N fz ops n c h e t = true) (hO : OkS Xb par N w0 a w s) (hno : noNm n h s) (hk : wpL P h (fun s1 => lateC P e t K s (pickL h c) s1) s) :
  wpAny P .any ops Q ops.size (Array.replicate ops.size false) a { w with drawn := w.drawn + 1 } := by
 unfold chkR at hc
 split at hc
 case h_2 => cases hc
 rename_i dl hsp
 obtain ⟨e1, e2⟩ := splitM_spec hsp
 simp only [List.append_nil] at e1
 subst e1
 rw [← e2] at hno
 simp only [Bool.and_eq_true, decide_eq_true_eq, Bool.or_eq_true, beq_iff_eq] at hc
 obtain ⟨⟨⟨⟨⟨⟨⟨⟨⟨hs, hop⟩, hseq0⟩, hwait⟩, htl⟩, hseq⟩, heo⟩, htc⟩, hch⟩, hgs⟩ := hc
 obtain ⟨oe, hoe⟩ : ∃ oe, ops[dl.length]? = some oe := ⟨_, Array.getElem?_eq_getElem (by omega)⟩
 rw [hoe] at heo
 simp only [Bool.and_eq_true] at heo
 obtain ⟨he1, he2⟩ := heo
 have hcb : ∀ i ∈ c, i < dl.length ∧ ∃ p, dl[i]? = some p ∧ p.g = none := fun i hi => by
  have := List.all_eq_true.1 hgs i hi
  cases hp : dl[i]? with
  | none => rw [hp] at this; cases this
  | some p => rw [hp] at this; exact ⟨(List.getElem?_eq_some_iff.1 hp).1, p, rfl, by simpa using this⟩
 generalize hpk : pickL (dl.map M3.i) c = pk at hk
 rw [← List.append_nil (dl.map M3.i)] at hk hno
 obtain ⟨vs, v1, v2, v3⟩ := chain_ex hk
 have v2 : lateC P e t K s pk (ent dl vs s) := v2
 have hfalse : ∀ j, j < ops.size → (Array.replicate ops.size false).getD j true = false := fun j hj => getD_in (by simpa using hj) (getD_replicate_false _ _)
 have inv0 : HeadInv .any ops dl.length (Array.replicate ops.size false) :=
  ⟨by simp, fun j oj _ hl => (by rw [getD_replicate_false] at hl; cases hl), fun t _ ht => getD_in (by simpa using ht) (getD_replicate_false _ _)⟩
 have hcnt : cnt (Array.replicate ops.size false) dl.length = dl.length := by
  have : ∀ m, m ≤ ops.size → cnt (Array.replicate ops.size false) m = m := by
   intro m
   induction m with
   | zero => intro _; rfl
   | succ m ih => intro h; simp only [cnt]; rw [hfalse m (by omega), ih (by omega)]; simp; omega
  exact this _ (by omega)
 have hnm := noNm_mem hno
 have dist : ∀ (i j : Nat) (p q : M3), dl[i]? = some p → dl[j]? = some q → p.d = q.d → i = j := fun i j p q hp hq e => by
  have := List.all_eq_true.1 hop j (List.mem_range.2 (List.getElem?_eq_some_iff.1 hq).1)
  rw [hq] at this
  simp only [opB] at this
  split at this
  ·simp only [Bool.and_eq_true] at this
   have := List.all_eq_true.1 this.2 i (List.mem_range.2 (List.getElem?_eq_some_iff.1 hp).1)
   rw [hp] at this
   simp only [Bool.and_eq_true, Bool.or_eq_true, beq_iff_eq, bne_iff_ne] at this
   rcases this.1.1 with h | h
   ·exact h
   ·exact absurd e h
  ·cases this
 have leaf0 : wpL P e (wpL P t K) (ent dl vs s) := lateC_last v2
 have := drawn_go0 (P := P) (Q := Q) hpar (by omega) hop hseq0 v1 hnm v3 (fun a w hO => by
   have hdrop : ops.toList.drop dl.length = oe :: ops.toList.drop (dl.length + 1) := by
    rw [List.drop_eq_getElem_cons (by simp; omega)]
    congr 1
    have := hoe
    rw [Array.getElem?_eq_getElem (by omega)] at this
    simpa using Option.some.inj this
   rw [hdrop]
   have h1 := step_one (ops := ops) (fz := fz) (Q := Q) (next := wpList P ops Q (ops.toList.drop (dl.length + 1))) hpar hfz e a w _ he1 he2 hO leaf0 fun s' a' w' hk' hO' => wpL_list hpar hfz t _ a' w' s' htc hO' hk' hQ
   simp only [wpList, show Region.wanted oe (yielded ops a.tmps) = true by simp [Region.wanted, h1.2], if_true]
   exact .inl h1.1) (fun m listed a w s' hcn inv hM hO' i hi hin => ?_) dl.length (Array.replicate ops.size false) a { w with drawn := w.drawn + 1 } s hcnt inv0
  ⟨fun j q v hq _ hl => (by
   have hj := (List.getElem?_eq_some_iff.1 hq).1
   rw [hfalse j (by omega)] at hl; cases hl), fun y _ => rfl⟩ hO.drew
 ·rw [show dl.length + (ops.size - dl.length) = ops.size from by omega] at this
  exact this
 ·
  have inv1 : HeadInv .any ops (dl.length + 1) listed := ⟨inv.size, inv.closed, fun t h1 h2 => inv.tail t (by omega) h2⟩
  have hid : i = dl.length := by
   obtain ⟨_, o, ho, _⟩ := mem_ready.1 hi
   have his : i < ops.size := (Array.getElem?_eq_some_iff.1 ho).1
   rcases htl with h | ⟨h1, h2⟩
   ·omega
   ·refine Classical.byContradiction fun hh => ?_
    exact tail_waits h1 h2 (by omega) inv1 (dl.length + 1 - dl.length) dl.length rfl (by omega) (inv.tail _ (Nat.le_refl _) (by omega)) i (by omega) hi
  subst hid
  obtain ⟨pre, r, ec, hr⟩ := ch_suffix inv hch (fun j hj => by have := (hcb j hj).1; omega)
  have hrc : ∀ j ∈ r, j ∈ c := fun j hj => by rw [ec]; simp [hj]
  have hU : ∀ j, j < dl.length → (listed.getD j true = false ↔ j ∈ r) := fun j hj => by
   by_cases hjc : j ∈ c
   ·exact hr j hjc
   ·have h1 := List.all_eq_true.1 hwait j (List.mem_range.2 hj)
    simp only [Bool.or_eq_true, List.contains_iff_mem] at h1
    have h2 := befB_spec inv.size inv.closed hi (by omega) (h1.resolve_left hjc)
    exact ⟨fun h => (by rw [h2] at h; cases h), fun h => absurd (hrc j h) hjc⟩
  have hsuf : ∀ (a b : List Nat), chB ops (a ++ b) = true → chB ops b = true := fun a b => by
   induction a with
   | nil => exact fun h => h
   | cons x a ih => exact fun h => ih (chB_tl h)
  have hcr : chB ops r = true := hsuf pre r (by rw [← ec]; exact hch)
  have hm : m + 1 = r.length := by
   rw [← cnt_list (chB_nodup hcr) (fun j hj => (hcb j (hrc j hj)).1) hU]; exact hcn.symm
  have hne : pickL (dl.map M3.i) r ≠ [] := by
   cases r with
   | nil => simp at hm
   | cons k r =>
    obtain ⟨_, p, hp, _⟩ := hcb k (hrc k (by simp))
    rw [pick_cons hp]; simp
  have vex : ∀ (i : Nat), i < dl.length → ∃ p v, dl[i]? = some p ∧ vs[i]? = some v := fun i hi =>
   ⟨dl[i], vs[i]'(by omega), List.getElem?_eq_getElem hi, List.getElem?_eq_getElem (by omega)⟩
  have hO2 : OkS Xb par N w0 a w (rstL s (pickL (dl.map M3.i) r) (ent dl vs s)) := hO'.congr fun y => by
   have hin : ∀ i ∈ r, ∃ p, dl[i]? = some p := fun j hj => (by obtain ⟨_, p, hp, _⟩ := hcb j (hrc j hj); exact ⟨p, hp⟩)
   by_cases hy : ∃ (j : Nat) (q : M3), j ∈ r ∧ dl[j]? = some q ∧ q.d = y
   ·rw [rst_yes hin hy]
    obtain ⟨j, q, hj, hq, rfl⟩ := hy
    exact (hM.off q.d fun k q' hq' e => by
     rw [dist k j q' q hq' hq e]
     exact (hU j (List.getElem?_eq_some_iff.1 hq).1).2 hj).symm
   ·rw [rst_no hin hy]
    by_cases hd : ∃ (j : Nat) (q : M3), dl[j]? = some q ∧ q.d = y
    ·obtain ⟨j, q, hq, rfl⟩ := hd
     have hjl := (List.getElem?_eq_some_iff.1 hq).1
     obtain ⟨q', v, hq', hv⟩ := vex j hjl
     rw [hq] at hq'; cases hq'
     have hlt : listed.getD j true = true := by
      cases hl : listed.getD j true with
      | true => rfl
      | false => exact absurd ⟨j, q, (hU j hjl).1 hl, hq, rfl⟩ hy
     rw [ent_some dist hq hv, hM.on j q v hq hv hlt]
    ·rw [ent_none fun q hq e => by
      obtain ⟨j, hj, ej⟩ := List.getElem_of_mem hq
      exact hd ⟨j, q, by rw [← ej]; exact List.getElem?_eq_getElem hj, e⟩]
     exact (hM.off y fun j q hq e => absurd ⟨j, q, hq, e⟩ hd).symm
  have hw : wpL P e (wpL P (pickL (dl.map M3.i) r) (wpL P t K)) (rstL s (pickL (dl.map M3.i) r) (ent dl vs s)) := by
   refine lateC_suf (pre := pickL (dl.map M3.i) pre) ?_ hne
   rw [← pick_app, ← ec, hpk]; exact v2
  refine step_op hoe (step_one (ops := ops) (fz := fz) hpar hfz e a w _ he1 he2 hO2 hw fun s2 a2 w2 hk2 hO3 => ?_)
  rw [show m + (ops.size - dl.length) = ops.size - (dl.length + 1) + r.length by omega]
  refine lat_chain hpar hfz hQ hs hop htl htc hseq hcr (fun j hj => hcb j (hrc j hj)) ⟨inv1.set hi (by omega), fun j hj => ?_⟩ hO3 hk2
  by_cases e : dl.length = j
  ·subst e
   have hlt : dl.length < listed.size := by rw [inv.size]; omega
   simp only [Array.getD_eq_getD_getElem?, Array.getElem?_setIfInBounds_self_of_lt hlt, Option.getD_some]
   exact ⟨fun h => (by cases h), fun h => (by have := (hcb _ (hrc _ h)).1; omega)⟩
  ·rw [getD_set_ne true e]; exact hU j (by omega)
theorem intsK_get {F : List FltS} : intsK F s → ∀ f ∈ F, f.2.2.2 ≠ none → ∃ g n, s.get f.2.2.1 = .t g (.i n) := by
 induction F with
 | nil => intro _ f hf; cases hf
 | cons q F ih =>
  obtain ⟨i, d, y, o⟩ := q
  intro h f hf hn
  cases o with
  | none =>
   rcases List.mem_cons.1 hf with rfl | hf
   ·exact absurd rfl hn
   ·exact ih h f hf hn
  | some q =>
   rcases List.mem_cons.1 hf with rfl | hf
   ·have h := h.1
    revert h
    simp only
    cases s.get y with
    | t g r => cases r <;> simp [isIV]
    | _ => simp [isIV]
   ·exact ih h.2 f hf hn
theorem flt_any {fz : Bool} {ops : Array Oper} {n e : Nat} {F : List FltS} {Q : Exit → Act → World → Prop} (hpar : ∀ z, 1000 ≤ z → par z = none) (hfz : fz = true → ∀ b, ¬ Xb b)
  (hQ : ∀ s' a' w', K s' → OkS Xb par N w0 a' w' s' → Q .normal a' w') {r : List (Gd × I)} {s : St} (hf : fltB N ops e F = true) (hy : ∀ f ∈ F, f.2.2.1 < 1000) (hc : chkG P N fz (ops.modify e (addF (F.map (·.1)))) n r = true) (hO : OkS Xb par N w0 a w s) (hi : intsK F s) (hno : noNm n r s) (hk : wpL P r K s) :
  wpAny P .any ops Q ops.size (Array.replicate ops.size false) a { w with drawn := w.drawn + 1 } := by
 let Qn : Exit → Act → World → Prop := fun x a w => x = .normal ∧ Q .normal a w
 refine wpAny_Q (Q := Qn) (fun x a w h => by obtain ⟨rfl, h⟩ := h; exact h) ?_
 have h1 := drawn_any (Q := Qn) hpar hfz (fun s' a' w' k o => ⟨rfl, hQ s' a' w' k o⟩) hc hO hno hk
 rw [Array.size_modify] at h1
 have he : e < ops.size := by
  unfold fltB at hf
  cases h : ops[e]? with
  | none => rw [h] at hf; cases hf
  | some o => exact (Array.getElem?_eq_some_iff.1 h).1
 have hfalse : ∀ j, j < ops.size → (Array.replicate ops.size false).getD j true = false := fun j hj => getD_in (by simpa using hj) (getD_replicate_false _ _)
 have hcnt : cnt (Array.replicate ops.size false) ops.size = ops.size := by
  have : ∀ m, m ≤ ops.size → cnt (Array.replicate ops.size false) m = m := by
   intro m
   induction m with
   | zero => intro _; rfl
   | succ m ih => intro h; simp only [cnt]; rw [hfalse m (by omega), ih (by omega)]; simp; omega
  exact this _ (Nat.le_refl _)
 have H := flt_of (P := P) (Q := Qn) (N := N) (a0 := a) hf (fun f hfm hn => ?_) (fun x a w h => h.1)
 ·refine H.relax ops.size _ a _ (by simp) hcnt (fun j oj _ hl => by rw [getD_replicate_false] at hl; cases hl) (hfalse e he) ⟨hO.size, fun _ _ _ => rfl, fun f _ hl => by rw [getD_replicate_false] at hl; cases hl⟩ h1
 ·obtain ⟨g, m, hg⟩ := intsK_get hi f hfm hn
  obtain ⟨ow, hG⟩ := hO.gam
  have hy' := hy f hfm
  obtain ⟨u, e1, e2⟩ := hG.ent f.2.2.1 (lv_iff.2 (.inl hy')) (by rw [hg]; rfl)
  rw [nmv_slot hy'] at e1
  rw [hg] at e2
  simp only [Rep, Fz] at e2
  exact ⟨m, by rw [Option.some.inj e1]; exact e2.1⟩
theorem region_flt {fz : Bool} {ops : Array Oper} {n e id : Nat} {F : List FltS} {Q : Exit → Act → World → Prop} (hmo : P.follows .mixedOrders = true) (hpar : ∀ z, 1000 ≤ z → par z = none) (hfz : fz = true → ∀ b, ¬ Xb b)
  (hQ : ∀ s' a' w', K s' → OkS Xb par N w0 a' w' s' → Q .normal a' w') {r : List (Gd × I)} {s : St} (hf : fltB N ops e F = true) (hy : ∀ f ∈ F, f.2.2.1 < 1000) (hc : chkG P N fz (ops.modify e (addF (F.map (·.1)))) n r = true) (hO : OkS Xb par N w0 a w s) (hi : intsK F s) (hno : noNm n r s) (hk : wpL P r K s) :
  (Code.region id ops true).wp P Q a w :=
 wp_region_any hmo (flt_any hpar hfz hQ hf hy hc hO hi hno hk)
def lkO : O → Bool
 | .mv => true
 | .ld => true
 | .fa _ => true
 | _ => false
def isLd : O → Bool
 | .ld => true
 | _ => false
section
variable {P : Program} {N : Nat} {Xb : Nat → Prop} {par : Nat → Option Value} {w0 : World} {a : Act} {w : World} {s : St} {K : St → Prop}
theorem ld_cell {lo : Nat} {ow : Ow} {κ : V → Prop} {p : X} {p' : Operand} (hG : Gam lo Xb par ow s a.tmps w) (h2 : xOk p p' = true) (hk : stepK P .ld [s.look p] κ) : ∃ ad x, a.eval p' = .pointer (some ad) ∧ w.cell? ad = some x := by
 have hx := xOk_sound hG h2
 generalize s.look p = wx at hx hk
 cases wx with
 | t g r =>
  cases r with
  | q cs k =>
   simp only [stepK] at hk
   obtain ⟨k1, k2⟩ := hk
   simp only [RepW, Fz] at hx
   obtain ⟨b, o, xs, e1, hb, hxs, hc⟩ := hx
   obtain ⟨x, f1, f2⟩ := hxs.get k k1
   exact ⟨_, x, e1, hc k x f1⟩
  | _ => simp [stepK] at hk
 | pe y j m nl cs =>
  simp only [stepK] at hk
  obtain ⟨k1, k2⟩ := hk
  obtain ⟨f1, f2, b, len, cap, f3, f4, f5⟩ := hx
  rcases f4.2 with h | ⟨hn, b', cap', arr, ty, xs, e, ho', hb, hs, hl, hm, ht, hx, hd⟩
  ·cases h.1
  ·cases e
   obtain ⟨x, g1, g2⟩ := hx.get j k1
   refine ⟨_, x, f5, ?_⟩
   rw [cell_of_row w b j arr ty (0, 0) hb]
   subst ht
   rw [List.getElem?_take, if_pos k1] at g1
   simpa using g1
 | pc z v ts =>
  simp only [stepK] at hk
  obtain ⟨n, b, arr, ty, f0, f1, f2, f3, f4, f5, f6, f7, f8, f9, f10⟩ := hx
  have hlt : z / 1000 - 1 < arr.size := by rw [f4]; exact f5
  have hcell : w.cell? ⟨b, z / 1000 - 1, none⟩ = some arr[z / 1000 - 1] := by
   rw [cell_of_row w b _ arr ty (0, 0) f2]; exact Array.getElem?_eq_getElem hlt
  exact ⟨_, _, f7, hcell⟩
 | _ => simp [stepK] at hk
theorem look_run {o : Oper} {o' : O} {xs : List X} {nx : Act → World → Prop} {lo : Nat} {ow : Ow} {κ : V → Prop} (hG : Gam lo Xb par ow s a.tmps w) (hk : stepK P o' (xs.map s.look) κ) (hl : lkO o' = true) (hc : chkV P o' xs o.op = true) (h : o.wp P a w nx fun _ _ _ => False) :
  ∃ u, (execOp a.eval o).run P w = .ok (.value u) w ∧ nx (a.put o.dst u) w := by
 have key : ∃ u, (execOp a.eval o).run P w = .ok (.value u) w := by
  unfold chkV at hc
  split at hc <;> try (first | (exfalso; simp [lkO] at hl; done) | (cases hc; done))
  ·rename_i ho; exact ⟨_, by simp [execOp, ho]; rfl⟩
  ·rename_i ho; exact ⟨_, by simp [execOp, ho]; rfl⟩
  ·rename_i p t p' ho
   simp only [Bool.and_eq_true] at hc
   obtain ⟨ad, u, hv, hcell⟩ := ld_cell hG hc.2 hk
   exact ⟨u, by simp [execOp, ho, Instr.loadAt, Instr.sureAddr, hv, loadVar, tyN_spec hc.1, hcell]⟩
  ·rename_i k p t p' f ho
   simp only [Bool.and_eq_true] at hc
   obtain ⟨fs, fl, inf, ht, hf, hoff, he, hs, _⟩ := tyFld_spec hc.1
   unfold Oper.wp at h
   cases hv : a.eval p' with
   | pointer ad =>
    cases ad with
    | none => simp [execOp, ho, Instr.fieldAt, run_underlying ht, hf, Instr.sureAddr, hv, Oper.upon] at h
    | some ad => exact ⟨.pointer (some (ad.add k)), by simp [execOp, ho, Instr.fieldAt, run_underlying ht, hf, Instr.sureAddr, hv, fieldPlace, sizeOf, typeInfo, he, hs, hoff]⟩
   | _ => simp [execOp, ho, Instr.fieldAt, run_underlying ht, hf, Instr.sureAddr, hv, Oper.upon] at h
 obtain ⟨u, e⟩ := key
 refine ⟨u, e, ?_⟩
 unfold Oper.wp at h
 rw [e] at h
 exact h
theorem look_any {o : Oper} {o' : O} {xs : List X} {u : Value} {w' : World} (hl : lkO o' = true) (hn : isLd o' = false) (hc : chkV P o' xs o.op = true) (h : (execOp a.eval o).run P w = .ok (.value u) w) :
  (execOp a.eval o).run P w' = .ok (.value u) w' := by
 unfold chkV at hc
 split at hc <;> try (first | (exfalso; simp [lkO] at hl; done) | (cases hc; done))
 ·rename_i ho; simp [execOp, ho] at h ⊢; exact h
 ·rename_i ho; simp [execOp, ho] at h ⊢; exact h
 ·simp [isLd] at hn
 ·rename_i k p t p' f ho
  simp only [Bool.and_eq_true] at hc
  obtain ⟨fs, fl, inf, ht, hf, hoff, he, hs, _⟩ := tyFld_spec hc.1
  cases hv : a.eval p' with
  | pointer ad =>
   cases ad with
   | none => simp [execOp, ho, Instr.fieldAt, run_underlying ht, hf, Instr.sureAddr, hv] at h
   | some ad =>
    simp [execOp, ho, Instr.fieldAt, run_underlying ht, hf, Instr.sureAddr, hv, fieldPlace, sizeOf, typeInfo, he, hs, hoff] at h ⊢
    exact h
  | _ => simp [execOp, ho, Instr.fieldAt, run_underlying ht, hf, Instr.sureAddr, hv] at h
theorem look_take {o : Oper} {p : M3} {v : V} (hO : OkS Xb par N w0 a w s) (hl : lkO p.o = true) (hci : chkI P N (.v p.d p.o p.xs) o = true) (hst : stepK P p.o (p.xs.map s.look) (· = v)) :
  ∃ u, (execOp a.eval o).run P w = .ok (.value u) w ∧ OkS Xb par N w0 (a.put o.dst u) w ((p.d, v) :: s) := by
 simp only [chkI, Bool.and_eq_true] at hci
 obtain ⟨d1, d2, d3⟩ := dstOk_spec hci.1
 obtain ⟨ow, hG⟩ := hO.gam
 refine look_run (nx := fun a' w' => OkS Xb par N w0 a' w' ((p.d, v) :: s)) hG hst hl hci.2 (stepK_goes hG hci.2 hst _ _ fun v' u w' hv' hgr hG' hn' hr' => ?_)
 subst hv'
 rw [d1, put_some]
 exact ⟨⟨_, hG'.put d3 (by rw [hO.size]; exact d2) hn' (hr' p.d)⟩, by simp [hO.size], hO.df, hO.grow.step rfl hgr.any⟩
theorem det_eq {d : Nat} {v : V} {u : Value} (hO : OkS Xb par N w0 a w s) (hd : d < 1000) (hdN : d < N) (hv : s.get d = v) (hdet : detV d s v) (hO' : OkS Xb par N w0 (a.put (some d) u) w ((d, v) :: s)) : a.tmps.getD d undef = u := by
 cases v with
 | al z =>
  obtain ⟨hh, hz⟩ := hdet
  obtain ⟨ow, hG⟩ := hO.gam
  obtain ⟨ow', hG'⟩ := hO'.gam
  have hzd : z ≠ d := fun e => by rw [e] at hh; simp [hangs] at hh
  obtain ⟨u1, e1, r1⟩ := hG.ent d (by simp [St.lv, hd]) (by rw [hv]; rfl)
  rw [hv] at r1
  have r1 := r1 hz
  rw [nmv_slot hd] at e1
  have hgz : St.get ((d, V.al z) :: s) z = s.get z := get_top_ne hzd
  obtain ⟨u2, e2, r2⟩ := hG'.ent d (by simp [St.lv, hd]) (by rw [get_top]; rfl)
  rw [get_top] at r2
  rw [nmv_slot hd] at e2
  have hlt : d < a.tmps.size := by rw [hO.size]; exact hdN
  have e3 : (a.put (some d) u).tmps.getD d undef = u := by simp [Act.put, hlt]
  rw [e3] at e2
  cases e2
  have r2 := r2 (by
   rw [hgz]
   have hlv : s.lv z = true → St.lv ((d, V.al z) :: s) z = true := fun hz => by
    rw [lv_iff] at hz ⊢
    rcases hz with hz | hz
    ·exact .inl hz
    ·right
     rw [get_top_ne (fun e => by simp [hangs, e, hd] at hh)]; exact hz
   clear r1 r2 hgz
   revert hz hlv
   generalize St.lv ((d, V.al z) :: s) z = b1
   generalize s.lv z = b2
   generalize s.get z = g
   intro hz hlv
   cases g with
   | own m nl cs => exact hlv hz
   | ag k => exact hz
   | _ => exact hz)
  rw [put_some] at r2
  have r2 : nmv (a.tmps.setIfInBounds d u) w z = some u := r2
  rw [nmv_put hh hd, r1] at r2
  rw [← e1] at r2
  exact Option.some.inj r2
 | _ => cases hdet
structure Ent where
 i : Nat
 o : Oper
 p : M3
 a : Act
 u : Value
def EnC (P : Program) (N : Nat) (ops : Array Oper) (w : World) : List Ent → Act → Prop
 | [], _ => True
 | e :: en, a => e.a = a ∧ ops[e.i]? = some e.o ∧ e.o.guard = none ∧ chkI P N (.v e.p.d e.p.o e.p.xs) e.o = true ∧ lkO e.p.o = true ∧ (execOp a.eval e.o).run P w = .ok (.value e.u) w ∧ EnC P N ops w en (a.put e.o.dst e.u)
def chkLk (P : Program) (N : Nat) (ops : Array Oper) : List Nat → List M3 → Bool
 | [], [] => true
 | i :: is, p :: dl => (match ops[i]? with | some o => o.guard.isNone && p.g.isNone && chkI P N (.v p.d p.o p.xs) o && lkO p.o | none => false) && chkLk P N ops is dl
 | _, _ => false
theorem looks_go {ops : Array Oper} : ∀ (dl : List M3) (is : List Nat) (a : Act) (s : St), chkLk P N ops is dl = true → OkS Xb par N w0 a w s → wpL P (dl.map M3.i) K s →
  ∃ (en : List Ent) (s1 : St), en.map (·.i) = is ∧ en.map (·.p) = dl ∧ EnC P N ops w en a ∧ K s1 ∧ OkS Xb par N w0 (putAll ops (en.map fun e => (e.i, e.u)) a) w s1
 | [], [], a, s, _, hO, hk => ⟨[], s, rfl, rfl, trivial, hk, hO⟩
 | [], _ :: _, _, _, hc, _, _ => by simp [chkLk] at hc
 | _ :: _, [], _, _, hc, _, _ => by simp [chkLk] at hc
 | p :: dl, i :: is, a, s, hc, hO, hk => by
  simp only [chkLk, Bool.and_eq_true] at hc
  obtain ⟨h1, h2⟩ := hc
  split at h1
  case h_2 => cases h1
  rename_i o ho
  simp only [Bool.and_eq_true, Option.isNone_iff_eq_none] at h1
  obtain ⟨⟨⟨g1, g2⟩, h3⟩, h4⟩ := h1
  obtain ⟨vs, v1, v2, v3⟩ := chain_ex (dl := [p]) (tail := dl.map M3.i) (show wpL P ([p].map M3.i ++ dl.map M3.i) K s from hk)
  match vs, v1 with
  | [v], _ =>
   obtain ⟨hn, hy⟩ := v3 0 p v rfl rfl
   have hy : Yld P p s v := hy
   unfold Yld at hy
   rw [g2] at hy
   have hy : stepK P p.o (p.xs.map s.look) (· = v) := hy
   have v2 : wpL P (dl.map M3.i) K ((p.d, v) :: re p s) := v2
   have hre : re p s = s := by unfold re; rw [g2]
   rw [hre] at v2
   obtain ⟨u, hu, hO'⟩ := look_take hO h4 h3 hy
   obtain ⟨en, s1, e1, e2, e3, e4, e5⟩ := looks_go dl is (a.put o.dst u) _ h2 hO' v2
   refine ⟨⟨i, o, p, a, u⟩ :: en, s1, by simp [e1], by simp [e2], ⟨rfl, ho, g1, h3, h4, hu, e3⟩, e4, ?_⟩
   simp only [List.map_cons, putAll, ho]
   exact e5
def offB (ops : Array Oper) (o oj : Oper) : Bool := match oj.dst with | some d => !(o.looksAt ops).contains d | none => true
def chkAp (ops : Array Oper) (es : List Nat) : List Nat → Bool
 | [] => true
 | i :: is => (match ops[i]? with | some o => offB ops o o && (is ++ es).all (fun j => match ops[j]? with | some oj => offB ops o oj && oj.dst != o.dst | none => false) | none => false) && chkAp ops es is
def InvA (en : List Ent) (a : Act) : Prop := ∀ e ∈ en, a.tmps.getD e.p.d undef = e.u ∧ ∀ x ∈ e.o.op.operands, a.eval x = e.a.eval x
theorem eval_tmps {a a' : Act} (h : a'.tmps = a.tmps) (x : Operand) : a'.eval x = a.eval x := by
 cases x <;> simp [Act.eval, h]
theorem off_eval {ops : Array Oper} {o oj : Oper} {v : Value} (h : offB ops o oj = true) : ∀ x ∈ o.op.operands, (a.put oj.dst v).eval x = a.eval x := by
 intro x hx
 refine Act.eval_put fun d hd e => ?_
 subst e
 unfold offB at h
 rw [hd] at h
 simp only [Bool.not_eq_true', List.contains_eq_mem, decide_eq_false_iff_not] at h
 apply h
 unfold Oper.looksAt
 rw [List.mem_append]; left
 rw [List.mem_filterMap]
 exact ⟨.tmp d, by simpa using hx, rfl⟩
theorem InvA.put {ops : Array Oper} {en : List Ent} {oj : Oper} {v : Value} (h : InvA en a) (hd : ∀ e ∈ en, e.o.dst = some e.p.d) (ho : ∀ e ∈ en, offB ops e.o oj = true ∧ oj.dst ≠ e.o.dst) : InvA en (a.put oj.dst v) := by
 intro e he
 obtain ⟨h1, h2⟩ := h e he
 obtain ⟨h3, h4⟩ := ho e he
 refine ⟨?_, fun x hx => by rw [off_eval h3 x hx]; exact h2 x hx⟩
 cases hj : oj.dst with
 | none => exact h1
 | some d =>
  have : d ≠ e.p.d := fun e1 => h4 (by rw [hj, hd e he, e1])
  simp only [Act.put]
  rw [← h1]
  simp [Array.getD_eq_getD_getElem?, Array.getElem?_setIfInBounds_ne this]
theorem en_inv {ops : Array Oper} {es : List Nat} : ∀ (en : List Ent) (pre : List Ent) (a : Act), EnC P N ops w en a → chkAp ops es (en.map (·.i)) = true → a.tmps.size = N → (∀ e ∈ pre, e.o.dst = some e.p.d) → InvA pre a →
  (∀ e ∈ pre, ∀ j ∈ en.map (·.i), ∀ oj, ops[j]? = some oj → offB ops e.o oj = true ∧ oj.dst ≠ e.o.dst) → InvA (pre ++ en) (putAll ops (en.map fun e => (e.i, e.u)) a)
 | [], pre, a, _, _, _, _, hI, _ => by simpa [putAll] using hI
 | e :: en, pre, a, hE, hc, hsz, hd, hI, hp => by
  obtain ⟨e1, e2, e3, e4, e5, e6, e7⟩ := hE
  simp only [List.map_cons, chkAp, e2, Bool.and_eq_true, List.all_eq_true] at hc
  obtain ⟨⟨c1, c2⟩, c3⟩ := hc
  simp only [chkI, Bool.and_eq_true] at e4
  obtain ⟨d1, d2, d3⟩ := dstOk_spec e4.1
  simp only [List.map_cons, putAll, e2]
  have := en_inv en (pre ++ [e]) (a.put e.o.dst e.u) e7 c3 (by rw [d1]; simp [Act.put, hsz]) (fun f hf => by
   rcases List.mem_append.1 hf with h | h
   ·exact hd f h
   ·rw [List.mem_singleton.1 h]; exact d1) (fun f hf => by
   rcases List.mem_append.1 hf with h | h
   ·exact hI.put (ops := ops) hd (fun g hg => hp g hg e.i (by simp) e.o e2) f h
   ·rw [List.mem_singleton.1 h]
    refine ⟨?_, fun x hx => by rw [off_eval c1 x hx, e1]⟩
    have : e.p.d < a.tmps.size := by omega
    rw [d1]; simp [Act.put, this]) (fun f hf j hj oj hoj => by
   rcases List.mem_append.1 hf with h | h
   ·exact hp f h j (by simp only [List.map_cons, List.mem_cons]; exact .inr hj) oj hoj
   ·rw [List.mem_singleton.1 h]
    have := c2 j (by rw [List.mem_append]; exact .inl hj)
    rw [hoj] at this
    simp only [Bool.and_eq_true, bne_iff_ne] at this
    exact this)
  rw [List.append_assoc] at this
  exact this
theorem heldAll_mem {ls : List (Gd × I)} {d : Nat} : ∀ {ds : List Nat}, HeldAll P ls ds s → d ∈ ds → HeldOne P ls d s
 | d' :: ds, h, hm => by
  rcases List.mem_cons.1 hm with rfl | hm
  ·exact h.1
  ·exact heldAll_mem h.2 hm
theorem lookOf_at : ∀ {dl : List M3} {p : M3}, p ∈ dl → dl.Pairwise (fun p q => p.d ≠ q.d) → lookOf (dl.map M3.i) p.d = some (p.o, p.xs)
 | q :: dl, p, hm, hp => by
  rw [List.pairwise_cons] at hp
  simp only [List.map_cons, M3.i, lookOf]
  rcases List.mem_cons.1 hm with rfl | hm
  ·simp
  ·have : q.d ≠ p.d := hp.1 p hm
   rw [show (q.d == p.d) = false by simpa using this]
   exact lookOf_at hm hp.2
def chkEs (P : Program) (N : Nat) (fz : Bool) (ops : Array Oper) (ips : List (Nat × M3)) : List Nat → List Nat → List (List (Gd × I) × List Nat) → Bool
 | _, [], [] => true
 | done, e :: es, (r, ds) :: effs => (match ops[e]? with | some o => chkL P N fz ops r [o] && r.all (fun p => p.1.isNone) | none => false) &&
   ips.all (fun ip => !isLd ip.2.o || (e :: done).any (fun j => Region.waitsFor .any ops j ip.1) || ds.contains ip.2.d) && chkEs P N fz ops ips (e :: done) es effs
 | _, _, _ => false
def HoldR (P : Program) (ops : Array Oper) (es0 : List Nat) (en : List Ent) (listed : Array Bool) (w : World) : Prop :=
 ∀ e ∈ en, isLd e.p.o = true → (∀ j ∈ es0, Region.waitsFor .any ops j e.i = true → listed.getD j true = false) → (execOp e.a.eval e.o).run P w = .ok (.value e.u) w
theorem force_go {ops : Array Oper} {fz : Bool} {Q : Exit → Act → World → Prop} (hpar : ∀ z, 1000 ≤ z → par z = none) (hfz : fz = true → ∀ b, ¬ Xb b) (hns : Region.noSelect ops = true)
  (hQ : ∀ s' a' w', K s' → OkS Xb par N w0 a' w' s' → Q .normal a' w') {es0 : List Nat} {en : List Ent}
  (hE : ∀ e ∈ en, ops[e.i]? = some e.o ∧ chkI P N (.v e.p.d e.p.o e.p.xs) e.o = true ∧ lkO e.p.o = true)
  (hpw : (en.map (·.p)).Pairwise fun p q => p.d ≠ q.d)
  (hap : ∀ e ∈ en, ∀ j ∈ es0, ∀ oj, ops[j]? = some oj → offB ops e.o oj = true ∧ oj.dst ≠ e.o.dst) :
  ∀ (es : List Nat) (effs : List (List (Gd × I) × List Nat)) (done : List Nat) (listed : Array Bool) (a : Act) (w : World) (s : St), chkEs P N fz ops (en.map fun e => (e.i, e.p)) done es effs = true →
   (∀ j ∈ done, j ∈ es0) → (∀ j ∈ es, j ∈ es0) → (∀ j ∈ done, listed.getD j false = true) → listed.size = ops.size → InvA en a → OkS Xb par N w0 a w s → heldL P ((en.map (·.p)).map M3.i) effs K s →
   wpForce P ops Q (HoldR P ops es0 en) es listed a w
 | [], [], _, _, a, w, s, _, _, _, _, _, _, hO, hk => hQ s a w hk hO
 | [], _ :: _, _, _, _, _, _, hc, _, _, _, _, _, _, _ => by simp [chkEs] at hc
 | _ :: _, [], _, _, _, _, _, hc, _, _, _, _, _, _, _ => by simp [chkEs] at hc
 | e :: es, (r, ds) :: effs, done, listed, a, w, s, hc, hd0, he0, hdl, hsz, hI, hO, hk => by
  simp only [chkEs, Bool.and_eq_true] at hc
  obtain ⟨⟨c1, c2⟩, c3⟩ := hc
  split at c1
  case h_2 => cases c1
  rename_i o ho
  simp only [Bool.and_eq_true] at c1
  have hst := step_one (ops := ops) (fz := fz) (Q := Q) (next := fun a' w' => ∃ s', (HeldAll P ((en.map (·.p)).map M3.i) ds s' ∧ heldL P ((en.map (·.p)).map M3.i) effs K s') ∧ OkS Xb par N w0 a' w' s') hpar hfz r a w s c1.1 c1.2 hO hk
   fun s' a' w' hk' hO' => ⟨s', hk', hO'⟩
  have hop := wpOp_tmps ho (step_op (i := e) ho hst)
  refine wpOp_mono (fun a' w' h => ?_) hop
  obtain ⟨⟨v, hv⟩, s', ⟨hA, hL⟩, hO'⟩ := h
  have hdst : ∀ f ∈ en, f.o.dst = some f.p.d := fun f hf => by
   have := (hE f hf).2.1
   simp only [chkI, Bool.and_eq_true] at this
   exact (dstOk_spec this.1).1
  have hI' : InvA en a' := by
   have := hI.put (ops := ops) (oj := o) (v := v) hdst fun f hf => hap f hf e (he0 e (by simp)) o ho
   intro f hf
   obtain ⟨i1, i2⟩ := this f hf
   exact ⟨by rw [hv]; exact i1, fun x hx => by rw [eval_tmps hv x]; exact i2 x hx⟩
  have hes : e < listed.size := by rw [hsz]; exact (Array.getElem?_eq_some_iff.1 ho).1
  have hdl' : ∀ j ∈ e :: done, (listed.setIfInBounds e true).getD j false = true := fun j hj => by
   rcases List.mem_cons.1 hj with rfl | hj
   ·simp [hes]
   ·exact getD_set_true (hdl j hj)
  refine ⟨fun f hf hld hun => ?_, force_go hpar hfz hns hQ hE hpw hap es effs (e :: done) (listed.setIfInBounds e true) a' w' s' c3 (fun j hj => by
   rcases List.mem_cons.1 hj with rfl | hj
   ·exact he0 _ (by simp)
   ·exact hd0 j hj) (fun j hj => he0 j (by simp [hj])) hdl' (by simp [hsz]) hI' hO' hL⟩
  have hcf := List.all_eq_true.1 c2 (f.i, f.p) (List.mem_map.2 ⟨f, hf, rfl⟩)
  simp only [hld, Bool.not_true, Bool.false_or, Bool.or_eq_true, List.any_eq_true] at hcf
  rcases hcf with ⟨j, hj, hw⟩ | hds
  ·have hj0 : j ∈ es0 := by
    rcases List.mem_cons.1 hj with rfl | hj
    ·exact he0 _ (by simp)
    ·exact hd0 j hj
   have h1 := hun j hj0 hw
   have h2 := hdl' j hj
   exfalso
   rcases Nat.lt_or_ge j (listed.setIfInBounds e true).size with h' | h'
   ·simp only [Array.getD_eq_getD_getElem?, Array.getElem?_eq_getElem h', Option.getD_some] at h1 h2
    rw [h1] at h2; cases h2
   ·simp [Array.getElem?_eq_none h'] at h2
  ·have hone := heldAll_mem hA (by simpa using hds : f.p.d ∈ ds)
   unfold HeldOne at hone
   rw [lookOf_at (List.mem_map.2 ⟨f, hf, rfl⟩) hpw] at hone
   obtain ⟨hdet, hstep⟩ := hone
   obtain ⟨g1, g2, g3⟩ := hE f hf
   obtain ⟨u, hu, hO2⟩ := look_take (p := f.p) hO' g3 g2 hstep
   simp only [chkI, Bool.and_eq_true] at g2
   obtain ⟨d1, d2, d3⟩ := dstOk_spec g2.1
   rw [d1] at hO2
   have := det_eq hO' d3 d2 rfl hdet hO2
   rw [(hI' f hf).1] at this
   rw [← this] at hu
   rw [execOp_congr (ρ := f.a.eval) (ρ' := a'.eval) f.o (Region.noSelect_spec hns f.i f.o · · g1) (fun x hx => ((hI' f hf).2 x hx).symm)]
   exact hu
def chkDist : List M3 → Bool
 | [] => true
 | p :: dl => dl.all (fun q => p.d != q.d) && chkDist dl
theorem chkDist_spec : ∀ {dl : List M3}, chkDist dl = true → dl.Pairwise fun p q => p.d ≠ q.d
 | [], _ => .nil
 | p :: dl, h => by
  simp only [chkDist, Bool.and_eq_true, List.all_eq_true, bne_iff_ne] at h
  exact .cons h.1 (chkDist_spec h.2)
def chkH (P : Program) (N : Nat) (fz : Bool) (ops : Array Oper) (is : List Nat) (ls : List (Gd × I)) (es : List Nat) (effs : List (List (Gd × I) × List Nat)) : Bool := match splitM is.length ls with
 | some (dl, []) => ops.size == es.length + is.length && Region.noSelect ops && chkTake ops (Array.replicate ops.size false) is && chkForce ops (setAll (Array.replicate ops.size false) is) es && chkLk P N ops is dl &&
   chkAp ops es is && is.all (fun i => !es.contains i) && chkDist dl && chkEs P N fz ops (is.zip dl) [] es effs
 | _ => false
theorem setAll_size : ∀ {I : List Nat} {listed : Array Bool}, (setAll listed I).size = listed.size
 | [], _ => rfl
 | i :: I, listed => by simp only [setAll]; rw [setAll_size]; simp
theorem chkAp_es {ops : Array Oper} {es : List Nat} : ∀ {is : List Nat}, chkAp ops es is = true → ∀ i ∈ is, ∀ o, ops[i]? = some o → ∀ j ∈ es, ∀ oj, ops[j]? = some oj → offB ops o oj = true ∧ oj.dst ≠ o.dst
 | [], _, i, hi, _, _, _, _, _, _ => by cases hi
 | i' :: is, h, i, hi, o, ho, j, hj, oj, hoj => by
  simp only [chkAp, Bool.and_eq_true] at h
  rcases List.mem_cons.1 hi with rfl | hi
  ·have h1 := h.1
   rw [ho] at h1
   simp only [Bool.and_eq_true, List.all_eq_true] at h1
   have := h1.2 j (List.mem_append_right _ hj)
   rw [hoj] at this
   simpa using this
  ·exact chkAp_es h.2 i hi o ho j hj oj hoj
theorem EnC.all {ops : Array Oper} : ∀ {en : List Ent} {a : Act}, EnC P N ops w en a → ∀ e ∈ en, ops[e.i]? = some e.o ∧ chkI P N (.v e.p.d e.p.o e.p.xs) e.o = true ∧ lkO e.p.o = true ∧ (execOp e.a.eval e.o).run P w = .ok (.value e.u) w
 | [], _, _, e, he => by cases he
 | e' :: en, a, h, e, he => by
  obtain ⟨h1, h2, h3, h4, h5, h6, h7⟩ := h
  rcases List.mem_cons.1 he with rfl | he
  ·exact ⟨h2, h4, h5, by rw [h1]; exact h6⟩
  ·exact EnC.all h7 e he
theorem EnC.take {ops : Array Oper} {es : List Nat} {en0 : List Ent} : ∀ {en : List Ent} {a : Act}, EnC P N ops w en a → (∀ e ∈ en, e ∈ en0) → TakeOk P ops (HoldR P ops es en0) (en.map fun e => (e.i, e.u)) a
 | [], _, _, _ => trivial
 | e :: en, a, h, hs => by
  obtain ⟨h1, h2, h3, h4, h5, h6, h7⟩ := h
  refine ⟨e.o, h2, h3, fun listed w' hcl hun hR => ?_, EnC.take h7 fun f hf => hs f (by simp [hf])⟩
  simp only [chkI, Bool.and_eq_true] at h4
  by_cases hld : isLd e.p.o = true
  ·rw [← h1]
   refine hR e (hs e (by simp)) hld fun j hj hw => ?_
   obtain ⟨o2, ho2, ed, he, hb, hon⟩ := Region.waitsFor_spec hw
   cases hh : listed.getD j true with
   | false => rfl
   | true =>
    exfalso
    have hjs : j < listed.size := by rw [hcl.1]; exact (Array.getElem?_eq_some_iff.1 ho2).1
    have hl : listed.getD j false = true := by simp [hjs] at hh ⊢; exact hh
    have := hcl.2 j o2 ho2 hl ed he hb
    rw [hon] at this
    rw [getD_both hun] at this; cases this
  ·exact look_any h5 (by simpa using hld) h4.2 h6
theorem drawn_anyH {ops : Array Oper} {fz : Bool} {is es : List Nat} {ls : List (Gd × I)} {effs : List (List (Gd × I) × List Nat)} {Q : Exit → Act → World → Prop} (hpar : ∀ z, 1000 ≤ z → par z = none) (hfz : fz = true → ∀ b, ¬ Xb b)
  (hQ : ∀ s' a' w', K s' → OkS Xb par N w0 a' w' s' → Q .normal a' w') (hQp : ∀ c a w, ¬ Q (.panic c) a w) (hc : chkH P N fz ops is ls es effs = true) (hO : OkS Xb par N w0 a w s) (hk : wpL P ls (heldL P ls effs K) s) :
  wpAny P .any ops Q ops.size (Array.replicate ops.size false) a { w with drawn := w.drawn + 1 } := by
 unfold chkH at hc
 split at hc
 case h_2 => cases hc
 rename_i dl hsp
 obtain ⟨e1, e2⟩ := splitM_spec hsp
 simp only [List.append_nil] at e1
 subst e1
 simp only [Bool.and_eq_true, beq_iff_eq] at hc
 obtain ⟨⟨⟨⟨⟨⟨⟨⟨hsz, hns⟩, htk⟩, hfo⟩, hlk⟩, hap⟩, hdj⟩, hds⟩, hes⟩ := hc
 obtain ⟨en, s1, n1, n2, hE, hk1, hO1⟩ := looks_go dl is a s hlk hO.drew hk
 have hall := hE.all
 have hdj' : ∀ i ∈ is, ∀ j ∈ es, i ≠ j := fun i hi j hj e => by
  have := List.all_eq_true.1 hdj i hi
  simp [e, hj] at this
 have hmi : (en.map fun e => (e.i, e.u)).map (·.1) = is := by rw [List.map_map]; exact n1
 have hzip : is.zip dl = en.map fun e => (e.i, e.p) := by rw [← n1, ← n2]; exact List.zip_map'
 have hfalse : ∀ j, (Array.replicate ops.size false).getD j false = false := fun j => getD_replicate_false _ _
 refine wpAny_of_R (R := HoldR P ops es en) _ _ _ _ ?_
 have hlen : ops.size = es.length + (en.map fun e => (e.i, e.u)).length := by rw [hsz, ← n1]; simp
 have := take_all (P := P) (ops := ops) (Q := Q) (R := HoldR P ops es en) hns hQp (en.map fun e => (e.i, e.u)) es.length (Array.replicate ops.size false) a { w with drawn := w.drawn + 1 } (by rw [hmi]; exact htk)
  ⟨by simp, fun j o _ hl => by rw [hfalse] at hl; cases hl⟩ (fun p hp listed w' => by
   obtain ⟨e, he, rfl⟩ := List.mem_map.1 hp
   have hei : e.i ∈ is := by rw [← n1]; exact List.mem_map.2 ⟨e, he, rfl⟩
   constructor
   ·intro h f hf hl hu
    exact h f hf hl fun j hj hw => by rw [getD_set_ne true (hdj' _ hei j hj)]; exact hu j hj hw
   ·intro h f hf hl hu
    exact h f hf hl fun j hj hw => by have := hu j hj hw; rwa [getD_set_ne true (hdj' _ hei j hj)] at this) (hE.take fun e he => he) (fun e he _ _ => (hall e he).2.2.2) (by
   rw [hmi]
   refine force_all es _ _ _ hfo (force_go hpar hfz hns hQ (fun e he => ⟨(hall e he).1, (hall e he).2.1, (hall e he).2.2.1⟩) (by rw [n2]; exact chkDist_spec hds) (fun e he j hj oj hoj => ?_) es effs [] _ _ _ s1 (by rw [← hzip]; exact hes) (by simp) (fun j hj => hj) (by simp) (by rw [setAll_size]; simp) ?_ hO1 (by rw [n2]; exact hk1))
   ·exact chkAp_es hap e.i (by rw [← n1]; exact List.mem_map.2 ⟨e, he, rfl⟩) e.o (hall e he).1 j hj oj hoj
   ·have := en_inv (es := es) en [] a hE (by rw [n1]; exact hap) hO.size (by simp) (fun e he => by cases he) (by simp)
    simpa using this)
 rw [← hlen] at this
 exact this
end
theorem T.leL_length : ∀ {ts ts' : List T}, T.leL ts ts' → ts.length = ts'.length
 | [], ts', h => by
  cases ts' with
  | nil => rfl
  | cons t ts => simp [T.leL] at h
 | t :: ts, ts', h => by
  cases ts' with
  | nil => simp [T.leL] at h
  | cons t' ts' => simp only [T.leL] at h; simp [T.leL_length h.2]
mutual
theorem Fz.le {ok : Nat → Prop} : ∀ {t t' : T} {v : Value}, T.le t t' → Fz ok w t v → Fz ok w t' v
 | .s nl cs, t', v, h, hf => by
  cases t' <;> simp only [T.le] at h <;> try exact h.elim
  ·simp [Fz]
  ·rename_i nl' cs'
   obtain ⟨h1, h2⟩ := h
   simp only [Fz] at hf ⊢
   rcases hf with ⟨z1, z2, z3⟩ | ⟨z1, b, o, sp, cap, xs, z2, z3, z4, z5, z6, z7⟩
   ·refine .inl ⟨z1, ?_, ?_⟩
    ·subst z2; cases cs' with
     | nil => rfl
     | cons t ts => simp [T.leL] at h2
    ·rcases h1 with rfl | rfl
     ·simp
     ·exact z3
   ·have hl := T.leL_length h2
    refine .inr ⟨?_, b, o, sp, cap, xs, by rw [← hl]; exact z2, by rw [← hl]; exact z3, z4, fun hne => z5 fun e => hne (List.eq_nil_of_length_eq_zero (by rw [← hl, e]; rfl)), FzL.le h2 z6, z7⟩
    rcases h1 with rfl | rfl
    ·simp
    ·exact z1
 | .q cs k, t', v, h, hf => by
  cases t' <;> simp only [T.le] at h <;> try exact h.elim
  ·simp [Fz]
  ·obtain ⟨rfl, h2⟩ := h
   have hl := T.leL_length h2
   simp only [Fz] at hf ⊢
   obtain ⟨b, o, xs, z1, z2, z3, z4⟩ := hf
   exact ⟨b, o, xs, z1, fun hne => z2 fun e => hne (List.eq_nil_of_length_eq_zero (by rw [← hl, e]; rfl)), FzL.le h2 z3, z4⟩
 | .c f cs, t', v, h, hf => by
  cases t' <;> simp only [T.le] at h <;> try exact h.elim
  ·simp [Fz]
  ·obtain ⟨rfl, h2⟩ := h
   simp only [Fz] at hf ⊢
   obtain ⟨xs, z1, z2⟩ := hf
   exact ⟨xs, z1, FzL.le h2 z2⟩
 | .a cs, t', v, h, hf => by
  cases t' <;> simp only [T.le] at h <;> try exact h.elim
  ·simp [Fz]
  ·simp only [Fz] at hf ⊢
   obtain ⟨xs, z1, z2⟩ := hf
   exact ⟨xs, z1, FzL.le h z2⟩
 | .u cs, t', v, h, hf => by
  cases t' <;> simp only [T.le] at h <;> try exact h.elim
  ·simp [Fz]
  ·simp only [Fz] at hf ⊢
   obtain ⟨xs, z1, z2⟩ := hf
   exact ⟨xs, z1, FzL.le h z2⟩
 | .i n, t', v, h, hf => by
  cases t' <;> simp only [T.le] at h <;> try exact h.elim
  ·simp [Fz]
  ·subst h; exact hf
 | .b n, t', v, h, hf => by
  cases t' <;> simp only [T.le] at h <;> try exact h.elim
  ·simp [Fz]
  ·subst h; exact hf
 | .any, t', v, h, hf => by
  cases t' <;> simp only [T.le] at h <;> try exact h.elim
  simp [Fz]
 | .w k n, t', v, h, hf => by
  cases t' <;> simp only [T.le] at h <;> try exact h.elim
  ·simp [Fz]
  ·obtain ⟨rfl, rfl⟩ := h; exact hf
 | .xv u t, t', v, h, hf => by
  cases t' <;> simp only [T.le] at h <;> try exact h.elim
  ·simp [Fz]
  ·obtain ⟨rfl, h2⟩ := h
   simp only [Fz] at hf ⊢
   exact ⟨hf.1, Fz.le h2 hf.2⟩
theorem FzL.le {ok : Nat → Prop} : ∀ {ts ts' : List T} {xs : List Value}, T.leL ts ts' → FzL ok w ts xs → FzL ok w ts' xs
 | [], ts', xs, h, hf => by
  cases ts' with
  | nil => exact hf
  | cons t ts => simp [T.leL] at h
 | t :: ts, ts', xs, h, hf => by
  cases ts' with
  | nil => simp [T.leL] at h
  | cons t' ts' =>
   simp only [T.leL] at h
   simp only [FzL] at hf ⊢
   obtain ⟨x, ys, e, h1, h2⟩ := hf
   exact ⟨x, ys, e, Fz.le h.1 h1, FzL.le h.2 h2⟩
end
mutual
theorem T.le_refl : ∀ t : T, T.le t t
 | .s nl cs => by simp only [T.le, or_true, true_and]; exact T.leL_refl cs
 | .q cs k => by simp only [T.le, true_and]; exact T.leL_refl cs
 | .c f cs => by simp only [T.le, true_and]; exact T.leL_refl cs
 | .a cs => by simp only [T.le]; exact T.leL_refl cs
 | .u cs => by simp only [T.le]; exact T.leL_refl cs
 | .i n => by simp [T.le]
 | .b n => by simp [T.le]
 | .any => by simp [T.le]
 | .w k n => by simp [T.le]
 | .xv e t => by simp only [T.le, true_and]; exact T.le_refl t
theorem T.leL_refl : ∀ ts : List T, T.leL ts ts
 | [] => by simp [T.leL]
 | t :: ts => by simp only [T.leL]; exact ⟨T.le_refl t, T.leL_refl ts⟩
end
theorem T.le_any (t : T) : T.le t .any := by cases t <;> simp [T.le]
theorem le_any {v : V} {g : G} : V.le v (.t g .any) := by
 cases v with
 | t h r => cases r <;> simp [V.le]
 | _ => simp [V.le]
theorem le_cases {v v' : V} (h : V.le v v') : v'.isAny = true ∨ v = v' ∨ (∃ m nl cs m' nl' cs', v = .own m nl cs ∧ v' = .own m' nl' cs' ∧ T.leL cs cs' ∧ (nl' = none ∨ nl = nl') ∧ (m = m' ∨ (scalL cs ∧ m < 10 ∧ m' < 10))) ∨
  (∃ g g' t t', v = .t g t ∧ v' = .t g' t' ∧ g.le g' ∧ T.le t t') := by
 by_cases ha : v'.isAny = true
 ·exact .inl ha
 right
 unfold V.le at h
 split at h
 ·exact absurd rfl ha
 ·exact .inr (.inr ⟨_, _, _, _, rfl, rfl, h⟩)
 ·exact .inr (.inl ⟨_, _, _, _, _, _, rfl, rfl, h⟩)
 ·exact .inl h
theorem okG_le {lo : Nat} {ow : Ow} {g g' : G} (h : g.le g') {b : Nat} (hk : okG lo ow g b) : okG lo ow g' b := by
 cases g <;> cases g' <;> simp only [G.le] at h <;> first | exact hk | exact hk.1 | (cases h; exact hk) | cases h
theorem St.le_get (h : s.le s') (y : Nat) : V.le (s.get y) (s'.get y) := by
 by_cases hex : ∃ p ∈ s', p.1 = y
 ·obtain ⟨p, hp, e1, e2⟩ := get_mem hex
  have := h p hp
  rw [e1, ← e2] at this; exact this
 ·rw [get_none fun p hp e => hex ⟨p, hp, e⟩]; exact le_any
theorem Gam.le {lo : Nat} {ow : Ow} {tm : Array Value} (h : Gam lo Xb par ow s tm w) (hle : s.le s') : Gam lo Xb par ow s' tm w := by
 have lec : ∀ y, (s'.get y).cont = true → s.get y = s'.get y := fun y hy => by
  rcases le_cases (St.le_get hle y) with h | h | ⟨m, nl, cs, m', nl', cs', _, h, _⟩ | ⟨g, g', t, t', _, h, _⟩
  ·obtain ⟨g, e⟩ := isAny_eq h; rw [e] at hy; cases hy
  ·exact h
  ·rw [h] at hy; cases hy
  ·rw [h] at hy; cases hy
 have lvs : ∀ y, s'.lv y = true → s.lv y = true := fun y hy => by
  rw [lv_iff] at hy ⊢
  rcases hy with hy | hy
  ·exact .inl hy
  ·right; rw [lec _ hy]; exact hy
 have al : ∀ y, okAl s' y → okAl s y := by
  intro y hy
  rw [okAl_iff] at hy ⊢
  rcases hy with ⟨⟨m, nl, cs, e⟩, hl⟩ | ⟨⟨k, e⟩, hl⟩
  ·rcases le_cases (St.le_get hle y) with h | h | ⟨m, nl, cs, m', nl', cs', h, _⟩ | ⟨g, g', t, t', _, h, _⟩
   ·rw [e] at h; cases h
   ·exact .inl ⟨⟨m, nl, cs, h.trans e⟩, lvs y hl⟩
   ·exact .inl ⟨⟨_, _, _, h⟩, lvs y hl⟩
   ·rw [e] at h; cases h
  ·exact .inr ⟨⟨k, by rw [lec y (by rw [e]; rfl), e]⟩, hl⟩
 have pe : ∀ y, okPe s' y → okPe s y := by
  intro y hy
  have := al y hy.al
  rw [okPe_iff] at hy
  obtain ⟨⟨m, nl, cs, e⟩, hl⟩ := hy
  rw [okAl_iff] at this
  rw [okPe_iff]
  rcases this with h | ⟨⟨k, e'⟩, _⟩
  ·exact h
  ·exfalso
   rcases le_cases (St.le_get hle y) with h | h | ⟨_, _, _, _, _, _, h, _⟩ | ⟨_, _, _, _, h, _⟩
   ·rw [e] at h; cases h
   ·rw [e, e'] at h; cases h
   ·rw [e'] at h; cases h
   ·rw [e'] at h; cases h
 have pc : ∀ y, okPc s' y → okPc s y := by
  intro y hy
  rw [okPc_iff] at hy ⊢
  obtain ⟨k, e⟩ := hy
  exact ⟨k, by rw [lec y (by rw [e]; rfl), e]⟩
 refine Gam.step (M := fun _ => True) (MG := fun _ => True) (I := fun _ => True) h h.base (Nat.le_refl _) (fun y hl hn => ?_) (fun _ _ _ h => h) (fun _ _ _ _ _ h => ⟨h, rfl⟩) ⟨trivial, trivial⟩ (fun z _ hz => ⟨al z hz, fun _ h => h⟩) (fun z _ hz => pe z hz)
  (fun z _ _ hz => ⟨pc z hz, fun _ h => h⟩) (fun _ _ _ _ h => ⟨h, rfl⟩)
 rcases le_cases (St.le_get hle y) with h1 | h1 | ⟨m, nl, cs, m', nl', cs', e1, e2, hc, h2, h3⟩ | ⟨g, g', t, t', e1, e2, hg, ht⟩
 ·rw [h1] at hn; cases hn
 ·exact .inr ⟨trivial, h1.symm, lvs y hl, V.ment_true _⟩
 ·left
  obtain ⟨u, e, hr⟩ := h.ent y (lvs y hl) (by rw [e1]; rfl)
  refine ⟨u, e, ?_⟩
  rw [e1] at hr
  rw [e2]
  obtain ⟨q1, q2⟩ := hr
  have hm : 10 ≤ m' → m = m' := fun h => by rcases h3 with h3 | h3; exact h3; omega
  have hlen := T.leL_length hc
  refine ⟨fun h => q1 (by rw [hm h]; exact h), ?_⟩
  rcases q2 with ⟨z1, z2, z3⟩ | ⟨hnl, b, cap, arr, ty, xs, z1, z2, z3, z4, z5, z6, z7, z8, z9⟩
  ·left; refine ⟨z1, List.eq_nil_of_length_eq_zero (by rw [← hlen, z2]; rfl), ?_⟩
   rcases h2 with rfl | rfl
   ·simp
   ·exact z3
  ·right
   refine ⟨by rcases h2 with rfl | rfl; simp; exact hnl, b, cap, arr, ty, xs, by rw [← hlen]; exact z1, z2, z3, z4, by rw [← hlen]; exact z5, z6, by rw [← hlen]; exact z7, ?_⟩
   rcases h3 with rfl | ⟨h3, _⟩
   ·exact ⟨z8.le hc, fun h => (z9 h).weak hc⟩
   ·exact ⟨(z8.scal h3).le hc, fun _ => (scal_deep h3 z8).veil⟩
 ·left
  obtain ⟨u, e, hr⟩ := h.ent y (lvs y hl) (by
   rw [e1]
   cases t with
   | any =>
    exfalso
    rw [e2] at hn
    cases t' <;> simp [T.le] at ht
    cases hn
   | _ => rfl)
  refine ⟨u, e, ?_⟩
  rw [e1] at hr
  rw [e2]
  exact Fz.le ht (Fz.mono (fun b hb => okG_le hg hb) hr)
theorem OkS.le (h : OkS Xb par N w0 a w s) (hle : s.le s') : OkS Xb par N w0 a w s' := by
 obtain ⟨ow, hG⟩ := h.gam
 exact ⟨⟨ow, hG.le hle⟩, h.size, h.df, h.grow⟩
theorem V.le_refl (v : V) : V.le v v := by
 cases v with
 | t g r => cases r <;> cases g <;> simp [V.le, T.le_refl, G.le]
 | own m nl cs => simp [V.le, T.leL_refl]
 | _ => simp [V.le]
theorem cl_le {ks : List Nat} : s.le (ks.map fun k => (k, s.get k)) := by
 intro p hp
 obtain ⟨k, _, rfl⟩ := List.mem_map.1 hp
 exact V.le_refl _
def chk (P : Program) (N : Nat) (fz : Bool) : C → Code → Bool
 | .skip, .skip => true
 | .rg n r, .region _ ops draw => bif draw then chkG P N fz ops n r else n == 0 && chkL P N fz ops r ops.toList
 | .rgE n k h e t, .region _ ops draw => draw && chkE P N fz ops n k h e t
 | .rgC n c h e t, .region _ ops draw => draw && chkR P N fz ops n c h e t
 | .rgH is es ls effs, .region _ ops draw => draw && chkH P N fz ops is ls es effs
 | .rgF n e F r, .region _ ops draw => draw && fltB N ops e F && F.all (fun f => decide (f.2.2.1 < 1000)) && chkG P N fz (ops.modify e (addF (F.map (·.1)))) n r
 | .seq a b, .seq x y => chk P N fz a x && chk P N fz b y
 | .cond x a b, .cond c t e => xOk x c && chk P N fz a t && chk P N fz b e
 | .block i b, .block j c => i == j && chk P N fz b c
 | .loop b, .loop c => chk P N fz b c
 | .exit i, .exit j => i == j
 | .ret, .ret => true
 | .cl _ b, c => chk P N fz b c
 | .no, _ => true
 | _, _ => false
def Ex.to : Ex → Exit
 | .n => .normal
 | .x i => .exit i
 | .r => .ret
theorem wpC_wp {fz : Bool} (hmo : P.follows .mixedOrders = true) (hpar : ∀ z, 1000 ≤ z → par z = none) (hfz : fz = true → ∀ b, ¬ Xb b) :
  ∀ (c : C) (code : Code) (Q : Ex → St → Prop) (R : Exit → Act → World → Prop) (a : Act) (w : World) (s : St), chk P N fz c code = true → OkS Xb par N w0 a w s → wpC P c Q s →
   (∀ e s' a' w', Q e s' → OkS Xb par N w0 a' w' s' → R e.to a' w') → code.wp P R a w := by
 intro c
 induction c with
 | no => intro code Q R a w s hc hO hk hR; exact hk.elim
 | skip =>
  intro code Q R a w s hc hO hk hR
  cases code <;> first | (simp [chk] at hc; done) | exact wp_skip (hR .n s a w hk hO)
 | rg n r =>
  intro code Q R a w s hc hO hk hR
  cases code <;> try (simp [chk] at hc; done)
  rename_i id ops draw
  obtain ⟨h1, h2⟩ := hk
  cases draw with
  | true =>
   simp only [chk, cond_true] at hc
   exact region_drawn (K := Q .n) hmo hpar hfz (fun s' a' w' hk hO => hR .n s' a' w' hk hO) hc hO h1 h2
  | false =>
   simp only [chk, cond_false, Bool.and_eq_true] at hc
   exact wp_region_list (wpL_list (K := Q .n) hpar hfz r ops.toList a w s hc.2 hO h2 fun s' a' w' hk hO => hR .n s' a' w' hk hO)
 | rgF n e F r =>
  intro code Q R a w s hc hO hk hR
  cases code <;> try (simp [chk] at hc; done)
  rename_i id ops draw
  obtain ⟨h0, h1, h2⟩ := hk
  simp only [chk, Bool.and_eq_true] at hc
  obtain ⟨⟨⟨c1, c2⟩, c3⟩, c4⟩ := hc
  rw [c1]
  exact region_flt (K := Q .n) hmo hpar hfz (fun s' a' w' hk hO => hR .n s' a' w' hk hO) c2 (fun f hf => of_decide_eq_true (List.all_eq_true.1 c3 f hf)) c4 hO h0 h1 h2
 | rgE n k d e t =>
  intro code Q R a w s hc hO hk hR
  cases code <;> try (simp [chk] at hc; done)
  rename_i id ops draw
  obtain ⟨h1, h2⟩ := hk
  simp only [chk, Bool.and_eq_true] at hc
  obtain ⟨c1, c2⟩ := hc
  rw [c1]
  exact wp_region_any hmo (drawn_anyE (K := Q .n) hpar hfz (fun s' a' w' hk hO => hR .n s' a' w' hk hO) c2 hO h1 h2)
 | rgC n k d e t =>
  intro code Q R a w s hc hO hk hR
  cases code <;> try (simp [chk] at hc; done)
  rename_i id ops draw
  obtain ⟨h1, h2⟩ := hk
  simp only [chk, Bool.and_eq_true] at hc
  obtain ⟨c1, c2⟩ := hc
  rw [c1]
  exact wp_region_any hmo (drawn_anyR (K := Q .n) hpar hfz (fun s' a' w' hk hO => hR .n s' a' w' hk hO) c2 hO h1 h2)
 | rgH is es ls effs =>
  intro code Q R a w s hc hO hk hR
  cases code <;> try (simp [chk] at hc; done)
  rename_i id ops draw
  simp only [chk, Bool.and_eq_true] at hc
  obtain ⟨c1, c2⟩ := hc
  rw [c1]
  have := drawn_anyH (K := Q .n) (Q := fun e a w => e = .normal ∧ R e a w) hpar hfz (fun s' a' w' hk hO => ⟨rfl, hR .n s' a' w' hk hO⟩) (fun c a w h => by cases h.1) c2 hO (show wpL P ls (heldL P ls effs (Q .n)) s from hk)
  exact Code.wp_mono (fun e a w h => h.2) (wp_region_any hmo this)
 | seq x y ih1 ih2 =>
  intro code Q R a w s hc hO hk hR
  cases code <;> try (simp [chk] at hc; done)
  rename_i cx cy
  simp only [chk, Bool.and_eq_true] at hc
  refine wp_seq (ih1 cx _ _ a w s hc.1 hO hk fun e s' a' w' hq hO' => ?_)
  cases e with
  | n => exact ih2 cy Q R a' w' s' hc.2 hO' hq hR
  | x j => exact hR (.x j) s' a' w' hq hO'
  | r => exact hR .r s' a' w' hq hO'
 | cond x c1 c2 ih1 ih2 =>
  intro code Q R a w s hc hO hk hR
  cases code <;> try (simp [chk] at hc; done)
  rename_i c' t e
  simp only [chk, Bool.and_eq_true] at hc
  obtain ⟨ow, hG⟩ := hO.gam
  have hx := xOk_sound hG hc.1.1
  have hk : condK (wpC P c1 Q s) (wpC P c2 Q s) (s.look x) := hk
  generalize s.look x = wx at hx hk
  cases wx with
  | t g r =>
   cases r with
   | b p =>
    have hv := repB hx
    obtain ⟨k1, k2⟩ := hk
    cases p with
    | true => exact wp_cond_true hv (ih1 t Q R a w s hc.1.2 hO (k1 rfl) hR)
    | false => exact wp_cond_false hv (ih2 e Q R a w s hc.2 hO (k2 rfl) hR)
   | _ => exact hk.elim
  | _ => exact hk.elim
 | block id b ih =>
  intro code Q R a w s hc hO hk hR
  cases code <;> try (simp [chk] at hc; done)
  rename_i id' c
  simp only [chk, Bool.and_eq_true, beq_iff_eq] at hc
  obtain ⟨rfl, hc⟩ := hc
  refine wp_block (ih c _ _ a w s hc hO hk fun e s' a' w' hq hO' => ?_)
  cases e with
  | n => exact hR .n s' a' w' hq hO'
  | x j =>
   simp only [blockK] at hq
   simp only [Ex.to, Exit.inBlock]
   by_cases hj : j = id
   ·subst hj
    simp only [BEq.rfl, cond_true] at hq
    simp only [if_true]
    exact hR .n s' a' w' hq hO'
   ·have : (j == id) = false := by simpa using hj
    rw [this] at hq
    simp only [hj, if_false]
    exact hR (.x j) s' a' w' hq hO'
  | r => exact hR .r s' a' w' hq hO'
 | loop b ih =>
  intro code Q R a w s hc hO hk hR
  cases code <;> try (simp [chk] at hc; done)
  rename_i c
  simp only [chk] at hc
  obtain ⟨ι, f, μ, ⟨i0, h0⟩, hround⟩ := hk
  let J : Act → World → Nat → Prop := fun a w n => ∃ i, μ i = n ∧ OkS Xb par N w0 a w (f i)
  have least : ∀ a w, (∃ i, OkS Xb par N w0 a w (f i)) → ∃ n, J a w n ∧ ∀ m, J a w m → n ≤ m := by
   rintro a w ⟨i, hi⟩
   have : ∀ n, (∃ k, k ≤ n ∧ J a w k) → ∃ n, J a w n ∧ ∀ m, J a w m → n ≤ m := by
    intro n
    induction n with
    | zero => rintro ⟨k, hk, hJ⟩; exact ⟨k, hJ, fun m _ => by omega⟩
    | succ n ihn =>
     rintro ⟨k, hk, hJ⟩
     by_cases h : ∃ k, k ≤ n ∧ J a w k
     ·exact ihn h
     ·exact ⟨k, hJ, fun m hm => Nat.le_of_not_lt fun hlt => h ⟨m, by omega, hm⟩⟩
   exact this (μ i) ⟨μ i, Nat.le_refl _, i, rfl, hi⟩
  open Classical in
  let ν : Act → World → Nat := fun a w => if h : ∃ i, OkS Xb par N w0 a w (f i) then Classical.choose (least a w h) else 0
  refine wp_loop (fun a w => ∃ i, OkS Xb par N w0 a w (f i)) ν ⟨i0, hO.le h0⟩ fun a w hI => ?_
  have hν : J a w (ν a w) ∧ ∀ m, J a w m → ν a w ≤ m := by
   simp only [ν, dif_pos hI]; exact Classical.choose_spec (least a w hI)
  obtain ⟨⟨i, hi, hOi⟩, _⟩ := hν
  refine ih c _ _ a w (f i) hc hOi (hround i) fun e s' a' w' hq hO' => ?_
  cases e with
  | n =>
   obtain ⟨j, hj, hle⟩ := hq
   have hI' : ∃ i, OkS Xb par N w0 a' w' (f i) := ⟨j, hO'.le hle⟩
   refine ⟨hI', ?_⟩
   have hν' : J a' w' (ν a' w') ∧ ∀ m, J a' w' m → ν a' w' ≤ m := by
    simp only [ν, dif_pos hI']; exact Classical.choose_spec (least a' w' hI')
   have := hν'.2 (μ j) ⟨j, rfl, hO'.le hle⟩
   omega
  | x j => exact hR (.x j) s' a' w' hq hO'
  | r => exact hR .r s' a' w' hq hO'
 | exit id =>
  intro code Q R a w s hc hO hk hR
  cases code <;> try (simp [chk] at hc; done)
  rename_i id'
  simp only [chk, beq_iff_eq] at hc
  subst hc
  exact wp_exit (hR (.x id) s a w hk hO)
 | ret =>
  intro code Q R a w s hc hO hk hR
  cases code <;> first | (simp [chk] at hc; done) | exact wp_ret (hR .r s a w hk hO)
 | cl ks b ih =>
  intro code Q R a w s hc hO hk hR
  exact ih code Q R a w _ (by cases code <;> simpa [chk] using hc) (hO.le cl_le) hk hR
end
end Go.Vc
namespace Go.Vc
open Go
def argSt : Nat → List T → St
 | _, [] => []
 | k, t :: ts => (k, V.mk .arg t) :: argSt (k + 1) ts
@[go_sem] theorem argSt_n {k : Nat} : argSt k [] = [] := _root_.id rfl
@[go_sem] theorem argSt_c {k : Nat} {t : T} {ts : List T} : argSt k (t :: ts) = (k, V.mk .arg t) :: argSt (k + 1) ts := _root_.id rfl
def retV : W → V → Prop
 | .t .fr t, .t .fr t' => V.le (.t .fr t) (.t .fr t')
 | .own _ m nl cs, .t .fr (.s nl' cs') => m < 2 ∧ T.leL cs cs' ∧ (nl' = none ∨ nl = nl')
 | _, _ => False
def ownr : W → Option Nat
 | .own y _ _ _ => some y
 | _ => none
def ownrs (us : List Nat) : W → List Nat
 | .own y _ _ _ => y :: us
 | _ => us
def retC (us : List Nat) : W → V → Prop
 | .own y m nl cs, .own m' nl' cs' => m < 2 ∧ m' < 2 ∧ V.le (.own m nl cs) (.own m' nl' cs') ∧ us.contains y = false
 | .t .fr t, .t .fr t' => V.le (.t .fr t) (.t .fr t')
 | _, _ => False
def retL (s : St) : List Nat → Nat → List Nat → St → Prop
 | _, _, [], [] => True
 | us, j, r :: rs, (k, v) :: R => k = 1000 * (100 + j) ∧ retC us (s.look (.s r)) v ∧ retL s (ownrs us (s.look (.s r))) (j + 1) rs R
 | _, _, _, _ => False
def V.isOwn : V → Bool
 | .own _ _ _ => true
 | _ => false
def ownIdx (s : St) : Nat → List Nat → St → Nat → Option Nat
 | j, r :: rs, (_, v) :: R, q => bif v.isOwn && ownr (s.look (.s r)) == some q then some j else ownIdx s (j + 1) rs R q
 | _, _, _, _ => none
theorem retC_cases {us : List Nat} {v : V} {w : W} (h : retC us w v) : (∃ y m nl cs m' nl' cs', w = .own y m nl cs ∧ v = .own m' nl' cs' ∧ m < 2 ∧ m' < 2 ∧ V.le (.own m nl cs) (.own m' nl' cs') ∧ y ∉ us) ∨ (∃ t t', w = .t .fr t ∧ v = .t .fr t' ∧ V.le (.t .fr t) (.t .fr t')) := by
 unfold retC at h
 split at h
 ·exact .inl ⟨_, _, _, _, _, _, _, rfl, rfl, h.1, h.2.1, h.2.2.1, by simpa using h.2.2.2⟩
 ·exact .inr ⟨_, _, rfl, rfl, h⟩
 ·exact h.elim
theorem retL_get {s : St} : ∀ {l us : List Nat} {j : Nat} {R' : St}, retL s us j l R' → ∀ p ∈ R', ∃ (i r : Nat), l[i]? = some r ∧ p.1 = 1000 * (100 + (j + i)) ∧
  ((∃ y m nl cs m' nl' cs', s.look (.s r) = .own y m nl cs ∧ p.2 = .own m' nl' cs' ∧ m < 2 ∧ m' < 2 ∧ V.le (.own m nl cs) (.own m' nl' cs') ∧ y ∉ us ∧ ownIdx s j l R' y = some (j + i)) ∨ (∃ t t', s.look (.s r) = .t .fr t ∧ p.2 = .t .fr t' ∧ V.le (.t .fr t) (.t .fr t')))
 | [], us, j, R', h, p, hp => by
  cases R' with
  | nil => simp at hp
  | cons q R' => exact h.elim
 | r :: l, us, j, [], h, p, hp => h.elim
 | r :: l, us, j, (k, v) :: R', h, p, hp => by
  obtain ⟨rfl, q1, q2⟩ := h
  rcases List.mem_cons.1 hp with rfl | hp
  ·refine ⟨0, r, by simp, rfl, ?_⟩
   rcases retC_cases q1 with ⟨y, m, nl, cs, m', nl', cs', e1, e2, z1, z2, z3, z4⟩ | h
   ·refine .inl ⟨y, m, nl, cs, m', nl', cs', e1, e2, z1, z2, z3, z4, ?_⟩
    subst e2
    simp [ownIdx, V.isOwn, ownr, e1]
   ·exact .inr h
  ·obtain ⟨i, r', e1, e2, e3⟩ := retL_get (j := j + 1) q2 p hp
   refine ⟨i + 1, r', by simpa using e1, by rw [e2, show j + 1 + i = j + (i + 1) from by omega], ?_⟩
   rcases e3 with ⟨y, m, nl, cs, m', nl', cs', f1, f2, z1, z2, z3, z4, z5⟩ | h
   ·have hne : (ownr (s.look (.s r)) == some y) = false ∧ y ∉ us := by
     cases hw : s.look (.s r) <;> rw [hw] at z4 <;> simp only [ownrs, ownr] at z4 ⊢ <;> simp at z4 ⊢ <;> first | exact z4 | exact ⟨fun h => z4.1 h.symm, z4.2⟩
    refine .inl ⟨y, m, nl, cs, m', nl', cs', f1, f2, z1, z2, z3, hne.2, ?_⟩
    simp only [ownIdx, hne.1, Bool.and_false, cond_false]
    rw [z5, show j + 1 + i = j + (i + 1) from by omega]
   ·exact .inr h
def retO (s : St) (rs : List Nat) : St → Prop
 | [(0, .own m' nl' cs')] => (match rs, s.look (.s (rs.headD 0)) with
  | [_], .own _ m nl cs => m < 2 ∧ m' < 2 ∧ V.le (.own m nl cs) (.own m' nl' cs')
  | _, _ => False)
 | [(0, .t g t)] => (match rs with | [r] => retV (s.look (.s r)) (.t g t) | _ => False)
 | (0, .tp n) :: R => n = rs.length ∧ rs.length ≠ 1 ∧ rs.length < 90 ∧ retL s [] 0 rs R
 | _ => False
def RetQ (rs : List Nat) (R : St) : Ex → St → Prop
 | .x _, _ => False
 | _, s => retO s rs R
section
variable {s s' : St} {rs : List Nat} {R : St} {r : Nat}
@[go_sem] theorem RetQ_r : RetQ rs R .r s = retO s rs R := _root_.id rfl
@[go_sem] theorem RetQ_n : RetQ rs R .n s = retO s rs R := _root_.id rfl
@[go_sem] theorem RetQ_x {j : Nat} : RetQ rs R (.x j) s = False := _root_.id rfl
def retOo (m' : Nat) (nl' : Option Bool) (cs' : List T) : W → Prop
 | .own _ m nl cs => m < 2 ∧ m' < 2 ∧ V.le (.own m nl cs) (.own m' nl' cs')
 | _ => False
@[go_sem] theorem retO_o {m' : Nat} {nl' : Option Bool} {cs' : List T} : retO s [r] [(0, .own m' nl' cs')] = retOo m' nl' cs' (s.look (.s r)) := by
 simp only [retO, retOo, List.headD]; cases s.look (.s r) <;> rfl
@[go_sem] theorem retOo_o {m' m y : Nat} {nl nl' : Option Bool} {cs cs' : List T} : retOo m' nl' cs' (.own y m nl cs) = (m < 2 ∧ m' < 2 ∧ V.le (.own m nl cs) (.own m' nl' cs')) := _root_.id rfl
@[go_sem] theorem retO_t {g : G} {t : T} : retO s [r] [(0, .t g t)] = retV (s.look (.s r)) (.t g t) := _root_.id rfl
@[go_sem] theorem retO_u {n : Nat} {R : St} : retO s rs ((0, .tp n) :: R) = (n = rs.length ∧ rs.length ≠ 1 ∧ rs.length < 90 ∧ retL s [] 0 rs R) := by cases R <;> rfl
@[go_sem] theorem retL_n {j : Nat} {us : List Nat} : retL s us j [] [] = True := by unfold retL; rfl
@[go_sem] theorem retL_c {j k : Nat} {v : V} {R : St} {us : List Nat} : retL s us j (r :: rs) ((k, v) :: R) = (k = 1000 * (100 + j) ∧ retC us (s.look (.s r)) v ∧ retL s (ownrs us (s.look (.s r))) (j + 1) rs R) := by rw [retL]
@[go_sem] theorem retC_o {y m m' : Nat} {nl nl' : Option Bool} {cs cs' : List T} {us : List Nat} : retC us (.own y m nl cs) (.own m' nl' cs') = (m < 2 ∧ m' < 2 ∧ V.le (.own m nl cs) (.own m' nl' cs') ∧ us.contains y = false) := _root_.id rfl
@[go_sem] theorem retC_t {t t' : T} {us : List Nat} : retC us (.t .fr t) (.t .fr t') = V.le (.t .fr t) (.t .fr t') := _root_.id rfl
@[go_sem] theorem ownrs_o {y m : Nat} {nl : Option Bool} {cs : List T} {us : List Nat} : ownrs us (.own y m nl cs) = y :: us := _root_.id rfl
@[go_sem] theorem ownrs_t {g : G} {t : T} {us : List Nat} : ownrs us (.t g t) = us := _root_.id rfl
@[go_sem] theorem cont_n {y : Nat} : List.contains [] y = false := _root_.id rfl
@[go_sem] theorem cont_c {y x : Nat} {us : List Nat} : List.contains (x :: us) y = (y == x || us.contains y) := List.contains_cons
@[congr] theorem retC_congr {v v' : V} {w w' : W} {us us' : List Nat} (h : us = us') (h1 : w = w') (h2 : v = v') : retC us w v = retC us' w' v' := by rw [h, h1, h2]
@[congr] theorem retL_congr {j : Nat} {us us' : List Nat} {R : St} (h0 : s = s') (h : us = us') : retL s us j rs R = retL s' us' j rs R := by rw [h, h0]
@[go_sem] theorem retV_t {t t' : T} : retV (.t .fr t) (.t .fr t') = V.le (.t .fr t) (.t .fr t') := _root_.id rfl
@[go_sem] theorem retV_o {y m : Nat} {nl nl' : Option Bool} {cs cs' : List T} : retV (.own y m nl cs) (.t .fr (.s nl' cs')) = (m < 2 ∧ T.leL cs cs' ∧ (nl' = none ∨ nl = nl')) := _root_.id rfl
@[congr] theorem RetQ_congr {e : Ex} (h : s = s') : RetQ rs R e s = RetQ rs R e s' := by rw [h]
@[congr] theorem retV_congr {w w' : W} {v v' : V} (h : w = w') (h' : v = v') : retV w v = retV w' v' := by rw [h, h']
end
section
variable {P : Program} {lo : Nat} {Xb : Nat → Prop} {par : Nat → Option Value} {ow : Ow} {tm : Array Value} {w0 w : World} {s : St}
def owOnly (ow : Ow) (y z : Nat) : Ow := fun b => match ow b with
 | some (q, r) => if q = y then some (z, r) else none
 | none => none
theorem Gam.lob (hG : Gam lo Xb par ow s tm w) (hX : ∀ b, ¬ Xb b) {b : Nat} {p : Nat × Nat} (h : ow b = some p) : lo ≤ b := by
 rcases (hG.base _ _ h).2 with h | h
 ·exact h
 ·exact absurd h (hX _)
theorem ret_fz (hG : Gam lo Xb par ow s tm w) (hX : ∀ b, ¬ Xb b) {r : Nat} {v : V} (hr : r < 1000) (h : retV (s.look (.s r)) v) : ∃ t, v = .t .fr t ∧ Fz (fun b => lo ≤ b) w t (tm.getD r undef) := by
 have hR := hG.look hr
 generalize s.look (.s r) = wx at h hR
 cases wx with
 | t g t =>
  cases g with
  | fr =>
   cases v with
   | t g' t' =>
    cases g' with
    | fr =>
     refine ⟨t', rfl, ?_⟩
     have hR : Fz (fun b => lo ≤ b) w t (tm.getD r undef) := Fz.mono (fun b hb => hb.2) hR
     have h : V.le (.t .fr t) (.t .fr t') := h
     rcases le_cases h with h | h | ⟨_, _, _, _, _, _, h, _⟩ | ⟨_, _, _, _, e1, e2, _, h2⟩
     ·obtain ⟨g, e⟩ := isAny_eq h; cases e; simp [Fz]
     ·cases h; exact hR
     ·cases h
     ·cases e1; cases e2; exact Fz.le h2 hR
    | _ => exact h.elim
   | _ => exact h.elim
  | _ => cases v <;> exact h.elim
 | own y m nl cs =>
  cases v with
  | t g' t' =>
   cases g' with
   | fr =>
    cases t' with
    | s nl' cs' =>
     obtain ⟨hm, hcl, h2⟩ := h
     refine ⟨_, rfl, ?_⟩
     obtain ⟨_, _, _, _, hO⟩ := hR
     refine Fz.le (t := .s nl' cs) (by simp only [T.le, or_true, true_and]; exact hcl) ?_
     simp only [Fz]
     rcases hO with ⟨z1, z2, z3⟩ | ⟨hnl, b, cap, arr, ty, xs, e1, ho, hb, hs, hle, hmx, ht, hx1, hd⟩
     ·left; refine ⟨z1, z2, ?_⟩
      rcases h2 with rfl | rfl
      ·simp
      ·exact z3
     ·right
      refine ⟨by rcases h2 with rfl | rfl; simp; exact hnl, b, 0, none, cap, xs, e1, hle, hmx, fun _ => ⟨hG.lob hX ho, rfl⟩, hx1.mono fun b' hb' => ?_, fun k v hk => ?_⟩
      ·have : m = 0 ∨ m = 1 := by omega
       rcases this with rfl | rfl
       ·exact hb'.2
       ·exact hG.lob hX hb'
      ·rw [cell_of_row w b (0 + k) arr ty (0, 0) hb]
       subst ht
       rw [List.getElem?_take] at hk
       split at hk
       ·simpa using hk
       ·cases hk
    | _ => exact h.elim
   | _ => exact h.elim
  | _ => exact h.elim
 | _ => exact h.elim
theorem resRep_fz {t : T} {u : Value} (h : Fz (fun b => w0.heap.size ≤ b) w t u) (hs : w0.heap.size ≤ w.heap.size) : ResRep w0.heap.size (fun _ => False) w u [(0, .t .fr t)] := by
 refine ⟨fun p hp => by simp at hp; subst hp; exact ⟨rfl, trivial⟩, fun _ => none, ⟨(fun b p h => (by cases h)), hs, fun y hl hn => ?_⟩⟩
 rw [get_if] at hn ⊢
 by_cases h0 : 0 = y
 ·rw [if_pos h0]
  subst h0
  exact ⟨u, by rw [nmv_slot (by omega)]; rfl, Fz.mono (fun b hb => ⟨rfl, hb⟩) h⟩
 ·rw [if_neg h0] at hn; cases hn
theorem resRep_own {y m m' : Nat} {nl nl' : Option Bool} {cs cs' : List T} {u : Value} (hG : Gam w0.heap.size Xb par ow s tm w) (hX : ∀ b, ¬ Xb b) (hO : OwnAt w0.heap.size par ow w y m nl cs u) (hm : m < 2) (hm' : m' < 2) (hle : V.le (.own m nl cs) (.own m' nl' cs')) :
  ResRep w0.heap.size (fun _ => False) w u [(0, .own m' nl' cs')] := by
 have oy : ∀ {b r}, ow b = some (y, r) → owOnly ow y 0 b = some (0, r) := fun h => by unfold owOnly; rw [h]; simp
 have on : ∀ {b}, ow b = none → owOnly ow y 0 b = none := fun h => by unfold owOnly; rw [h]
 have G1 : Gam w0.heap.size (fun _ => False) (fun _ => none) (owOnly ow y 0) [(0, .own m nl cs)] #[u] w := by
  refine ⟨fun b p hp => ?_, hG.low, fun z hl hn => ?_⟩
  ·cases e : ow b with
   | none => rw [on e] at hp; cases hp
   | some q => exact ⟨(hG.base b q e).1, .inl (hG.lob hX e)⟩
  ·rw [get_if] at hn ⊢
   by_cases h0 : 0 = z
   ·rw [if_pos h0]
    subst h0
    exact ⟨u, by rw [nmv_slot (by omega)]; rfl, OwnAt.ren (ow := ow) (y := y) (par := fun _ => none) (by omega) (fun b r h => oy h) (fun b h => on h) ⟨fun h => absurd h (by omega), hO.2⟩⟩
   ·rw [if_neg h0] at hn; cases hn
 refine ⟨fun p hp => by simp at hp; subst hp; exact ⟨rfl, hm'⟩, owOnly ow y 0, G1.le fun p hp => ?_⟩
 simp at hp; subst hp
 rw [get_if, if_pos rfl]; exact hle
theorem args_get : ∀ {ts : List T} {k : Nat} {vs : List Value} {tm : Array Value}, k + ts.length ≤ 1000 → FzL (fun _ => True) w ts vs → (∀ (j : Nat) (v : Value), vs[j]? = some v → tm.getD (k + j) undef = v) →
  ∀ y, ((argSt k ts).get y).isAny = false → y < 1000 ∧ Rep lo par (fun _ => none) tm w s y ((argSt k ts).get y) (tm.getD y undef)
 | [], k, vs, tm, _, _, _, y, hn => by simp [argSt, St.get, V.isAny] at hn
 | t :: ts, k, vs, tm, hk, hf, hv, y, hn => by
  simp only [FzL] at hf
  obtain ⟨x, xs, rfl, h1, h2⟩ := hf
  simp only [argSt] at hn ⊢
  rw [get_if] at hn ⊢
  by_cases hky : k = y
  ·rw [if_pos hky] at hn ⊢
   subst hky
   have e : tm.getD k undef = x := by simpa using hv 0 x (by simp)
   rw [e]
   refine ⟨by simp at hk; omega, (Fz.mk (g := .arg) (ow := fun _ => none) (fun b _ => rfl) h1).2 k⟩
  ·rw [if_neg hky] at hn ⊢
   exact args_get (k := k + 1) (by simp at hk ⊢; omega) h2 (fun j v hj => by rw [show k + 1 + j = k + (j + 1) from by omega]; exact hv (j + 1) v (by simpa using hj)) y hn
theorem run_resVars {F : ResultVar → Sem Value} {rs : List Nat} (hF : ∀ t w, (F (.tmp t)).run P w = .ok (tm.getD t undef) w) : ((rs.map ResultVar.tmp).toArray.mapM F).run P w = .ok (rs.map fun r => tm.getD r undef).toArray w := by
 rw [List.mapM_toArray]
 simp only [Sem.run_map]
 have : (List.mapM F (rs.map ResultVar.tmp)).run P w = .ok (rs.map fun r => tm.getD r undef) w := by
  induction rs with
  | nil => rfl
  | cons r l ih => simp only [List.map_cons, List.mapM_cons, Sem.run_bind, Sem.run_pure, Result.andThen_ok, ih, hF]
 rw [this]; rfl
theorem OwnAt.le {lo : Nat} {par : Nat → Option Value} {ow : Ow} {w : World} {y m m' : Nat} {nl nl' : Option Bool} {cs cs' : List T} {u : Value} (hm' : m' < 10) (hle : V.le (.own m nl cs) (.own m' nl' cs')) (h : OwnAt lo par ow w y m nl cs u) : OwnAt lo par ow w y m' nl' cs' u := by
 obtain ⟨q1, q2⟩ := h
 refine ⟨fun h => absurd h (by omega), ?_⟩
 rcases le_cases hle with h1 | h1 | ⟨_, _, _, _, _, _, e1, e2, hc, h2, h3⟩ | ⟨_, _, _, _, e1, _⟩
 ·cases h1
 ·cases h1; exact q2
 ·cases e1; cases e2
  have hlen := T.leL_length hc
  rcases q2 with ⟨z1, z2, z3⟩ | ⟨hnl, b, cap, arr, ty, xs, z1, z2, z3, z4, z5, z6, z7, z8, z9⟩
  ·left; refine ⟨z1, List.eq_nil_of_length_eq_zero (by rw [← hlen, z2]; rfl), ?_⟩
   rcases h2 with rfl | rfl
   ·simp
   ·exact z3
  ·right
   refine ⟨by rcases h2 with rfl | rfl; simp; exact hnl, b, cap, arr, ty, xs, by rw [← hlen]; exact z1, z2, z3, z4, by rw [← hlen]; exact z5, z6, by rw [← hlen]; exact z7, ?_⟩
   rcases h3 with rfl | ⟨h3, _⟩
   ·exact ⟨z8.le hc, fun h => (z9 h).weak hc⟩
   ·exact ⟨(z8.scal h3).le hc, fun _ => (scal_deep h3 z8).veil⟩
 ·cases e1
theorem ret_key {fn : Func} {rs : List Nat} {R : St} {w w' : World} {tm' : Array Value} {s' : St} {ow : Ow} (hres : fn.results = (rs.map ResultVar.tmp).toArray) (hrs : ∀ r ∈ rs, r < 1000)
  (hG : Gam w.heap.size (fun _ => False) (fun _ => none) ow s' tm' w') (hsz : w.heap.size ≤ w'.heap.size) (hR : retO s' rs R) :
  ∃ v, (results fn tm').run P w' = .ok v w' ∧ ResRep w.heap.size (fun _ => False) w' v R := by
 have hrun : (results fn tm').run P w' = .ok (if h : rs.length = 1 then tm'.getD (rs[0]'(by omega)) undef else .tuple (rs.map fun r => tm'.getD r undef).toArray) w' := by
  unfold results
  rw [hres]
  rw [Sem.run_bind, run_resVars (fun t w => rfl)]
  simp only [Result.andThen_ok, Sem.run_pure]
  congr 1
  by_cases h1 : rs.length = 1
  ·simp [h1]
  ·simp [h1]
 refine ⟨_, hrun, ?_⟩
 have one : ∀ {r : Nat}, rs = [r] → (if h : rs.length = 1 then tm'.getD (rs[0]'(by omega)) undef else .tuple (rs.map fun r => tm'.getD r undef).toArray) = tm'.getD r undef := by
  intro r e; subst e; simp
 unfold retO at hR
 split at hR
 ·rename_i m' nl' cs'
  split at hR
  ·rename_i r y m nl cs hlk
   obtain ⟨h1, h2, h3⟩ := hR
   rw [one rfl]
   have hr : r < 1000 := hrs r (by simp)
   have hx := hG.look hr
   simp only [List.headD] at hlk
   rw [hlk] at hx
   exact resRep_own hG (fun _ h => h) hx.2.2.2 h1 h2 h3
  ·exact hR.elim
 ·rename_i g t
  split at hR
  ·rename_i r
   rw [one rfl]
   obtain ⟨t', e, hfz⟩ := ret_fz hG (fun _ h => h) (hrs r (by simp)) hR
   cases e
   exact resRep_fz hfz hsz
  ·exact hR.elim
 ·rename_i n R'
  obtain ⟨rfl, h1, h90, hL⟩ := hR
  rw [dif_neg h1]
  have hm := retL_get (s := s') hL
  let ow2 : Ow := fun b => match ow b with
   | some (q, r) => (ownIdx s' 0 rs R' q).map fun j => (1000 * (100 + j), r)
   | none => none
  have ow2n : ∀ b, ow b = none → ow2 b = none := fun b hb => by simp only [ow2, hb]
  have ow2s : ∀ b q r j, ow b = some (q, r) → ownIdx s' 0 rs R' q = some j → ow2 b = some (1000 * (100 + j), r) := fun b q r j hb hj => by simp only [ow2, hb, hj]; rfl
  refine ⟨fun p hp => ?_, ow2, ⟨fun b p h => ?_, hsz, fun y hl hn => ?_⟩⟩
  ·rcases List.mem_cons.1 hp with rfl | hp
   ·exact ⟨rfl, trivial⟩
   ·obtain ⟨i, r, q1, q2, q4⟩ := hm p hp
    refine ⟨by omega, ?_⟩
    rcases q4 with ⟨y', m, nl, cs, m', nl', cs', _, e, _, h, _⟩ | ⟨t, t', _, e, _⟩
    ·rw [e]; exact h
    ·rw [e]; trivial
  ·cases e : ow b with
   | none => rw [ow2n b e] at h; cases h
   | some q =>
    have h1 := hG.base b q e
    exact ⟨h1.1, .inl (by rcases h1.2 with h | h; exact h; exact h.elim)⟩
  ·by_cases h0 : y = 0
   ·subst h0
    rw [get_top]
    exact ⟨_, by rw [nmv_slot (by omega)]; rfl, by omega, _, rfl, by simp⟩
   ·rw [get_top_ne h0] at hn ⊢
    have hex : ∃ p ∈ R', p.1 = y := by
     refine Classical.byContradiction fun hno => ?_
     rw [get_none fun p hp e => hno ⟨p, hp, e⟩] at hn; cases hn
    obtain ⟨p, hp, e1, e2⟩ := get_mem hex
    obtain ⟨i, r, q1, q2, q4⟩ := hm p hp
    rw [e2]
    have hi : i < rs.length := (List.getElem?_eq_some_iff.1 q1).1
    refine ⟨tm'.getD r undef, ?_, ?_⟩
    ·unfold nmv
     rw [if_neg (by omega), show y % 1000 = 0 from by omega]
     have : (#[Value.tuple (rs.map fun r => tm'.getD r undef).toArray] : Array Value).getD 0 undef = .tuple (rs.map fun r => tm'.getD r undef).toArray := rfl
     rw [this]
     simp only
     rw [if_pos (by omega), show y / 1000 - 100 = i from by omega]
     simp [q1]
    ·have hr : r < 1000 := hrs r (List.mem_of_getElem? q1)
     rcases q4 with ⟨y', m, nl, cs, m', nl', cs', g1, e, hm2, hm2', hle, _, hidx⟩ | ⟨t, t', g1, e, hle⟩
     ·rw [e]
      have hx := hG.look hr
      rw [g1] at hx
      have u2 := OwnAt.le (by omega) hle hx.2.2.2
      refine ⟨fun h => absurd h (by omega), ?_⟩
      have ny : y = 1000 * (100 + i) := by omega
      rcases u2.2 with h | ⟨hn', b, cap, arr, ty, xs, e', ho, hb, hs, hl', hmx, ht, hx, hdp⟩
      ·exact .inl h
      ·have bk : ∀ b r', ow b = some (y', r') → ow2 b = some (y, r') := fun b r' h => by rw [ny]; exact ow2s b y' r' i h (by rw [Nat.zero_add] at hidx; exact hidx)
       refine .inr ⟨hn', b, cap, arr, ty, xs, e', bk b 0 ho, hb, hs, hl', hmx, ht, hx.mono fun b' hb' => ?_, fun hm1 => ?_⟩
       ·have : m' = 0 ∨ m' = 1 := by omega
        rcases this with rfl | rfl
        ·exact ⟨ow2n b' hb'.1, hb'.2⟩
        ·exact bk b' 1 hb'
       ·obtain ⟨d1, d2⟩ := hdp hm1
        exact ⟨d1, fun k b hk => by obtain ⟨z1, z2⟩ := d2 k b hk; exact ⟨bk b 1 z1, z2⟩⟩
     ·rw [e]
      have hx := hG.look hr
      rw [g1] at hx
      have hx : Fz (okG w.heap.size ow .fr) w' t (tm'.getD r undef) := hx
      have hx2 : Fz (okG w.heap.size ow2 .fr) w' t (tm'.getD r undef) := Fz.mono (fun b hb => ⟨ow2n b hb.1, hb.2⟩) hx
      rcases le_cases hle with h | h | ⟨_, _, _, _, _, _, h, _⟩ | ⟨_, _, _, _, z1, z2, _, h2⟩
      ·obtain ⟨g, e⟩ := isAny_eq h; cases e; simp [Rep, Fz]
      ·cases h; exact hx2
      ·cases h
      ·cases z1; cases z2; exact Fz.le h2 hx2
 ·exact hR.elim
theorem callOk_of {f : FuncId} {fn : Func} {code : Code} {c : C} {ts : List T} {rs : List Nat} {R : St} (hf : P.funcs[f]? = some fn) (hb : fn.body = some code) (hmo : P.follows .mixedOrders = true)
  (hE : ∀ args w, (callFunc f args).run P w = .ok (.enter f args) w) (hres : fn.results = (rs.map ResultVar.tmp).toArray) (hc : chk P fn.ntmps true c code = true) (hts : ts.length ≤ fn.ntmps) (hts2 : ts.length ≤ 1000) (hrs : ∀ r ∈ rs, r < 1000)
  (hw : wpC P c (RetQ rs R) (argSt 0 ts)) : CallOk P f ts R := by
 refine ⟨hE, fun w vs hv => ?_⟩
 refine calls_of_wp hf hb ?_
 have hvl := hv.length
 have hO : OkS (fun _ => False) (fun _ => none) fn.ntmps w { tmps := vs.toArray ++ Array.replicate (fn.ntmps - vs.toArray.size) undef, defers := [] } w (argSt 0 ts) := by
  refine ⟨⟨fun _ => none, ⟨(fun b p h => (by cases h)), Nat.le_refl _, fun y hl hn => ?_⟩⟩, (by simp; omega), rfl, Grow.refl _ _⟩
  obtain ⟨h1, h2⟩ := args_get (lo := w.heap.size) (par := fun _ => none) (s := argSt 0 ts) (k := 0) (tm := vs.toArray ++ Array.replicate (fn.ntmps - vs.toArray.size) undef) (by omega) hv (fun j v hj => by
   have hjl : j < vs.length := (List.getElem?_eq_some_iff.1 hj).1
   rw [Nat.zero_add]
   have hj' := (List.getElem?_eq_some_iff.1 hj).2
   simp [Array.getElem?_append, hjl, hj']) y hn
  exact ⟨_, nmv_slot h1, h2⟩
 refine wpC_wp hmo (fun _ _ => rfl) (fun _ b h => h) c code (RetQ rs R) _ _ w (argSt 0 ts) hc hO hw fun e s' a' w' hq hO' => ?_
 have key : retO s' rs R → a'.defers = [] ∧ ∃ v, (results fn a'.tmps).run P w' = .ok v w' ∧ ∃ u, Ending.returned v = .returned u ∧ Grow (fun _ => False) w w' ∧ ResRep w.heap.size (fun _ => False) w' u R := by
  intro hR
  refine ⟨hO'.df, ?_⟩
  obtain ⟨ow, hG⟩ := hO'.gam
  obtain ⟨v, h1, h2⟩ := ret_key (P := P) (fn := fn) hres hrs hG hO'.grow.size hR
  exact ⟨v, h1, v, rfl, hO'.grow, h2⟩
 cases e with
 | n => exact key hq
 | r => exact key hq
 | x j => exact hq.elim
end
end Go.Vc
namespace Go.Vc
open Go
def ii (xs : List Int) : List T := xs.map .i
def bb (xs : List Bool) : List T := xs.map .b
def rr (xss : List (List Int)) : List T := xss.map fun r => .s none (ii r)
def ss (xs : List (List (List Int))) : List T := xs.map fun a => .s none (rr a)
@[go_sem] theorem take_nil_g {α : Type} {n : Nat} : List.take n ([] : List α) = [] := List.take_nil
@[go_sem] theorem drop_nil_g {α : Type} {n : Nat} : List.drop n ([] : List α) = [] := List.drop_nil
@[go_sem] theorem ii_len {xs : List Int} : (ii xs).length = xs.length := by simp [ii]
@[go_sem] theorem bb_len {xs : List Bool} : (bb xs).length = xs.length := by simp [bb]
@[go_sem] theorem rr_len {xs : List (List Int)} : (rr xs).length = xs.length := by simp [rr]
@[go_sem] theorem ss_len {xs : List (List (List Int))} : (ss xs).length = xs.length := by simp [ss]
@[go_sem] theorem ii_get {xs : List Int} {j : Nat} (h : j < xs.length) : (ii xs).getD j .any = .i (xs.getD j 0) := by simp [ii, List.getD, h]
@[go_sem] theorem bb_get {xs : List Bool} {j : Nat} (h : j < xs.length) : (bb xs).getD j .any = .b (xs.getD j false) := by simp [bb, List.getD, h]
@[go_sem] theorem rr_get {xs : List (List Int)} {j : Nat} (h : j < xs.length) : (rr xs).getD j .any = .s none (ii (xs.getD j [])) := by simp [rr, List.getD, h]
@[go_sem] theorem ss_get {xs : List (List (List Int))} {j : Nat} (h : j < xs.length) : (ss xs).getD j .any = .s none (rr (xs.getD j [])) := by simp [ss, List.getD, h]
@[go_sem] theorem ii_app {xs ys : List Int} : ii xs ++ ii ys = ii (xs ++ ys) := by simp [ii]
@[go_sem] theorem bb_app {xs ys : List Bool} : bb xs ++ bb ys = bb (xs ++ ys) := by simp [bb]
@[go_sem] theorem rr_app {xs ys : List (List Int)} : rr xs ++ rr ys = rr (xs ++ ys) := by simp [rr]
@[go_sem] theorem ss_app {xs ys : List (List (List Int))} : ss xs ++ ss ys = ss (xs ++ ys) := by simp [ss]
@[go_sem] theorem ii_app1 {xs : List Int} {y : Int} : ii xs ++ [.i y] = ii (xs ++ [y]) := by simp [ii]
@[go_sem] theorem bb_app1 {xs : List Bool} {y : Bool} : bb xs ++ [.b y] = bb (xs ++ [y]) := by simp [bb]
@[go_sem] theorem ii_set {xs : List Int} {j : Nat} {y : Int} : (ii xs).set j (.i y) = ii (xs.set j y) := by simp [ii]
@[go_sem] theorem bb_set {xs : List Bool} {j : Nat} {y : Bool} : (bb xs).set j (.b y) = bb (xs.set j y) := by simp [bb]
@[go_sem] theorem ii_take {xs : List Int} {j : Nat} : (ii xs).take j = ii (xs.take j) := by simp [ii]
@[go_sem] theorem ii_drop {xs : List Int} {j : Nat} : (ii xs).drop j = ii (xs.drop j) := by simp [ii]
@[go_sem] theorem bb_take {xs : List Bool} {j : Nat} : (bb xs).take j = bb (xs.take j) := by simp [bb]
@[go_sem] theorem bb_drop {xs : List Bool} {j : Nat} : (bb xs).drop j = bb (xs.drop j) := by simp [bb]
@[go_sem] theorem rr_take {xs : List (List Int)} {j : Nat} : (rr xs).take j = rr (xs.take j) := by simp [rr]
@[go_sem] theorem rr_drop {xs : List (List Int)} {j : Nat} : (rr xs).drop j = rr (xs.drop j) := by simp [rr]
@[go_sem] theorem ss_take {xs : List (List (List Int))} {j : Nat} : (ss xs).take j = ss (xs.take j) := by simp [ss]
@[go_sem] theorem ss_drop {xs : List (List (List Int))} {j : Nat} : (ss xs).drop j = ss (xs.drop j) := by simp [ss]
@[go_sem] theorem ii_rep {n : Nat} {y : Int} : List.replicate n (.i y) = ii (List.replicate n y) := by simp [ii]
@[go_sem] theorem bb_rep {n : Nat} {y : Bool} : List.replicate n (.b y) = bb (List.replicate n y) := by simp [bb]
@[go_sem] theorem scalL_ii {xs : List Int} : scalL (ii xs) = True := by
 refine eq_true fun t ht => ?_
 obtain ⟨x, _, rfl⟩ := List.mem_map.1 ht; trivial
@[go_sem] theorem scalL_bb {xs : List Bool} : scalL (bb xs) = True := by
 refine eq_true fun t ht => ?_
 obtain ⟨x, _, rfl⟩ := List.mem_map.1 ht; trivial
@[go_sem] theorem scalL_nil : scalL [] = True := eq_true fun t ht => by simp at ht
@[go_sem] theorem scalL_cons_i {y : Int} {cs : List T} : scalL (.i y :: cs) = scalL cs := by
 simp [scalL, T.scal]
@[go_sem] theorem scalL_cons_b {y : Bool} {cs : List T} : scalL (.b y :: cs) = scalL cs := by
 simp [scalL, T.scal]
@[go_sem] theorem scal_i' {y : Int} : T.scal (.i y) = True := _root_.id rfl
@[go_sem] theorem scal_b' {y : Bool} : T.scal (.b y) = True := _root_.id rfl
@[go_sem] theorem scal_s' {nl : Option Bool} {cs : List T} : T.scal (.s nl cs) = False := _root_.id rfl
@[go_sem] theorem all_rr {xs : List (List Int)} : (rr xs).all T.one = true := by simp [rr, T.one]
@[go_sem] theorem all_ss {xs : List (List (List Int))} : (ss xs).all T.one = true := by simp [ss, T.one]
@[go_sem] theorem all_cons {t : T} {ts : List T} : (t :: ts).all T.one = (t.one && ts.all T.one) := _root_.id rfl
@[go_sem] theorem all_nil : ([] : List T).all T.one = true := _root_.id rfl
section
variable {g g' : G} {t : T} {nl nl' : Option Bool} {cs cs' : List T}
@[go_sem] theorem stle_nil {s : St} : St.le s [] = True := eq_true fun p hp => by simp at hp
@[go_sem] theorem stle_cons {s s' : St} {k : Nat} {v : V} : St.le s ((k, v) :: s') = (V.le (s.get k) v ∧ St.le s s') := by
 simp [St.le]
@[go_sem] theorem vle_own {m m' : Nat} : V.le (.own m nl cs) (.own m' nl' cs') = (T.leL cs cs' ∧ (nl' = none ∨ nl = nl') ∧ (m = m' ∨ (scalL cs ∧ m < 10 ∧ m' < 10))) := _root_.id rfl
@[go_sem] theorem vle_any {v : V} : V.le v (.t g .any) = True := eq_true le_any
@[go_sem] theorem vle_i {n : Int} : V.le (.t g t) (.t g' (.i n)) = (g.le g' ∧ T.le t (.i n)) := by cases t <;> rfl
@[go_sem] theorem vle_b {n : Bool} : V.le (.t g t) (.t g' (.b n)) = (g.le g' ∧ T.le t (.b n)) := by cases t <;> rfl
@[go_sem] theorem vle_s : V.le (.t g t) (.t g' (.s nl cs)) = (g.le g' ∧ T.le t (.s nl cs)) := by cases t <;> rfl
@[go_sem] theorem vle_q {k : Nat} : V.le (.t g t) (.t g' (.q cs k)) = (g.le g' ∧ T.le t (.q cs k)) := by cases t <;> rfl
@[go_sem] theorem vle_c {k : Nat} : V.le (.t g t) (.t g' (.c k cs)) = (g.le g' ∧ T.le t (.c k cs)) := by cases t <;> rfl
@[go_sem] theorem vle_a : V.le (.t g t) (.t g' (.a cs)) = (g.le g' ∧ T.le t (.a cs)) := by cases t <;> rfl
@[go_sem] theorem vle_u : V.le (.t g t) (.t g' (.u cs)) = (g.le g' ∧ T.le t (.u cs)) := by cases t <;> rfl
@[go_sem] theorem vle_bx {k k' : Nat} : V.le (.bx k) (.bx k') = (k = k') := by simp [V.le]
@[go_sem] theorem vle_tp {k k' : Nat} : V.le (.tp k) (.tp k') = (k = k') := by simp [V.le]
@[go_sem] theorem vle_ag {k k' : Nat} : V.le (.ag k) (.ag k') = (k = k') := by simp [V.le]
@[go_sem] theorem vle_al {k k' : Nat} : V.le (.al k) (.al k') = (k = k') := by simp [V.le]
@[go_sem] theorem vle_pc {k k' : Nat} : V.le (.pc k) (.pc k') = (k = k') := by simp [V.le]
@[go_sem] theorem vle_pe {k k' j j' : Nat} : V.le (.pe k j) (.pe k' j') = (k = k' ∧ j = j') := by simp [V.le]
@[go_sem] theorem vle_clo {f f' : Nat} {c c' : List Cap} : V.le (.clo f c) (.clo f' c') = (f = f' ∧ c = c') := by simp [V.le]
@[go_sem] theorem gle_fa : G.le .fr .arg = True := _root_.id rfl
@[go_sem] theorem gle_ff : G.le .fr .fr = True := by simp [G.le]
@[go_sem] theorem gle_aa : G.le .arg .arg = True := by simp [G.le]
@[go_sem] theorem gle_rw {y z : Nat} : G.le (.rw y) (.rw z) = (y = z) := by simp [G.le]
@[go_sem] theorem gle_sp {y z : Nat} : G.le (.sp y) (.sp z) = (y = z) := by simp [G.le]
@[go_sem] theorem tle_i {n n' : Int} : T.le (.i n) (.i n') = (n = n') := _root_.id rfl
@[go_sem] theorem tle_b {n n' : Bool} : T.le (.b n) (.b n') = (n = n') := _root_.id rfl
@[go_sem] theorem tle_s : T.le (.s nl cs) (.s nl' cs') = ((nl' = none ∨ nl = nl') ∧ T.leL cs cs') := _root_.id rfl
@[go_sem] theorem tle_q {k k' : Nat} : T.le (.q cs k) (.q cs' k') = (k = k' ∧ T.leL cs cs') := _root_.id rfl
@[go_sem] theorem tle_c {k k' : Nat} : T.le (.c k cs) (.c k' cs') = (k = k' ∧ T.leL cs cs') := _root_.id rfl
@[go_sem] theorem tle_a : T.le (.a cs) (.a cs') = T.leL cs cs' := _root_.id rfl
@[go_sem] theorem tle_u : T.le (.u cs) (.u cs') = T.leL cs cs' := _root_.id rfl
@[go_sem] theorem tle_any : T.le t .any = True := eq_true (T.le_any t)
@[go_sem] theorem leL_self : T.leL cs cs = True := eq_true (T.leL_refl cs)
@[go_sem] theorem leL_nil : T.leL [] [] = True := _root_.id rfl
@[go_sem] theorem leL_cons {t' : T} : T.leL (t :: cs) (t' :: cs') = (T.le t t' ∧ T.leL cs cs') := _root_.id rfl
theorem leL_inj {α : Type} {f : α → T} (hf : ∀ a b, T.le (f a) (f b) ↔ a = b) : ∀ {xs ys : List α}, T.leL (xs.map f) (ys.map f) ↔ xs = ys
 | [], [] => by simp [T.leL]
 | [], _ :: _ => by simp [T.leL]
 | _ :: _, [] => by simp [T.leL]
 | x :: xs, y :: ys => by simp [T.leL, hf, leL_inj hf]
@[go_sem] theorem leL_ii {xs ys : List Int} : T.leL (ii xs) (ii ys) = (xs = ys) := propext (leL_inj fun a b => Iff.rfl)
@[go_sem] theorem leL_bb {xs ys : List Bool} : T.leL (bb xs) (bb ys) = (xs = ys) := propext (leL_inj fun a b => Iff.rfl)
@[go_sem] theorem leL_rr {xs ys : List (List Int)} : T.leL (rr xs) (rr ys) = (xs = ys) := propext (leL_inj fun a b => by simp [T.le, leL_ii])
@[go_sem] theorem leL_ss {xs ys : List (List (List Int))} : T.leL (ss xs) (ss ys) = (xs = ys) := propext (leL_inj fun a b => by simp [T.le, leL_rr])
theorem leL_append : ∀ {as bs as' bs' : List T}, T.leL as as' → T.leL bs bs' → T.leL (as ++ bs) (as' ++ bs')
 | [], bs, [], bs', _, h => h
 | a :: as, bs, [], bs', h, _ => h.elim
 | [], bs, a :: as, bs', h, _ => h.elim
 | a :: as, bs, a' :: as', bs', h, h' => ⟨h.1, leL_append h.2 h'⟩
theorem leL_rr_app {xs : List (List Int)} {r : List Int} : T.leL (rr xs ++ [.s nl (ii r)]) (rr (xs ++ [r])) := by
 rw [← rr_app]; exact leL_append (T.leL_refl _) (by simp [rr, T.leL, T.le, leL_ii])
theorem leL_ss_app {xs : List (List (List Int))} {r : List (List Int)} : T.leL (ss xs ++ [.s nl (rr r)]) (ss (xs ++ [r])) := by
 rw [← ss_app]; exact leL_append (T.leL_refl _) (by simp [ss, T.leL, T.le, leL_rr])
theorem leL_set : ∀ {as as' : List T} {j : Nat} {t t' : T}, T.leL as as' → T.le t t' → T.leL (as.set j t) (as'.set j t')
 | [], [], _, _, _, h, _ => h
 | a :: as, [], _, _, _, h, _ => h.elim
 | [], a :: as, _, _, _, h, _ => h.elim
 | a :: as, a' :: as', 0, _, _, h, h' => ⟨h', h.2⟩
 | a :: as, a' :: as', j + 1, _, _, h, h' => ⟨h.1, leL_set h.2 h'⟩
theorem leL_rr_set {xs : List (List Int)} {j : Nat} {r : List Int} : T.leL ((rr xs).set j (.s nl (ii r))) (rr (xs.set j r)) := by
 have : rr (xs.set j r) = (rr xs).set j (.s none (ii r)) := by simp [rr]
 rw [this]; exact leL_set (T.leL_refl _) (by simp [T.le, T.leL_refl])
end
theorem and_ctx {a a' b b' : Prop} (h1 : a = a') (h2 : a' → b = b') : (a ∧ b) = (a' ∧ b') := by
 subst h1
 by_cases h : a
 ·simp [h, h2 h]
 ·simp [h]
section
variable {P : Program} {κ : V → Prop} {g : G} {j k y m : Nat} {nl : Option Bool}
@[go_sem high] theorem ld_ii {xs : List Int} : stepK P .ld [.t g (.q (ii xs) k)] κ = (k < xs.length ∧ κ (.i (xs.getD k 0))) := by
 rw [stepK_ld, ii_len]; exact and_ctx rfl fun h => by rw [ii_get h]; rfl
@[go_sem high] theorem ld_bb {xs : List Bool} : stepK P .ld [.t g (.q (bb xs) k)] κ = (k < xs.length ∧ κ (.b (xs.getD k false))) := by
 rw [stepK_ld, bb_len]; exact and_ctx rfl fun h => by rw [bb_get h]; rfl
@[go_sem high] theorem ld_rr {xs : List (List Int)} : stepK P .ld [.t g (.q (rr xs) k)] κ = (k < xs.length ∧ κ (.t g (.s none (ii (xs.getD k []))))) := by
 rw [stepK_ld, rr_len]; exact and_ctx rfl fun h => by rw [rr_get h]; rfl
@[go_sem high] theorem ld_ss {xs : List (List (List Int))} : stepK P .ld [.t g (.q (ss xs) k)] κ = (k < xs.length ∧ κ (.t g (.s none (rr (xs.getD k []))))) := by
 rw [stepK_ld, ss_len]; exact and_ctx rfl fun h => by rw [ss_get h]; rfl
@[go_sem high] theorem ldo_ii {xs : List Int} : stepK P .ld [.pe y j m nl (ii xs)] κ = (j < xs.length ∧ κ (.i (xs.getD j 0))) := by
 rw [stepK_ldo, ii_len]; exact and_ctx rfl fun h => by rw [ii_get h]; rfl
@[go_sem high] theorem ldo_bb {xs : List Bool} : stepK P .ld [.pe y j m nl (bb xs)] κ = (j < xs.length ∧ κ (.b (xs.getD j false))) := by
 rw [stepK_ldo, bb_len]; exact and_ctx rfl fun h => by rw [bb_get h]; rfl
@[go_sem high] theorem ldo_rr {xs : List (List Int)} : stepK P .ld [.pe y j m nl (rr xs)] κ = (j < xs.length ∧ κ (.t (tagM m y) (.s none (ii (xs.getD j []))))) := by
 rw [stepK_ldo, rr_len]; exact and_ctx rfl fun h => by rw [rr_get h]; rfl
@[go_sem high] theorem ldo_ss {xs : List (List (List Int))} : stepK P .ld [.pe y j m nl (ss xs)] κ = (j < xs.length ∧ κ (.t (tagM m y) (.s none (rr (xs.getD j []))))) := by
 rw [stepK_ldo, ss_len]; exact and_ctx rfl fun h => by rw [ss_get h]; rfl
end
theorem inR_of {n : Int} (h1 : -1000000000000000000 ≤ n) (h2 : n ≤ 1000000000000000000) : inR n := by unfold inR; omega
end Go.Vc
namespace Go.Vc
open Go
def argV : Bool → T → V
 | true, .s nl cs => .own 11 nl cs
 | true, _ => .any
 | false, t => .mk .arg t
def argStX (i : Nat) : Nat → List T → St
 | _, [] => []
 | k, t :: ts => (k, argV (k == i) t) :: argStX i (k + 1) ts
@[go_sem] theorem argV_t {nl : Option Bool} {cs : List T} : argV true (.s nl cs) = .own 11 nl cs := _root_.id rfl
@[go_sem] theorem argV_f {t : T} : argV false t = .mk .arg t := _root_.id rfl
@[go_sem] theorem argStX_n {i k : Nat} : argStX i k [] = [] := _root_.id rfl
@[go_sem] theorem argStX_c {i k : Nat} {t : T} {ts : List T} : argStX i k (t :: ts) = (k, argV (k == i) t) :: argStX i (k + 1) ts := _root_.id rfl
def retXv : W → T → Prop
 | .t _ (.i n), .i n' => n = n'
 | .t _ (.b x), .b x' => x = x'
 | _, _ => False
def retXt (s : St) : List Nat → T → Prop
 | [], t => t = .u []
 | [r], t => retXv (s.look (.s r)) t
 | _, _ => False
def ownLe (nl' : Option Bool) (cs' : List T) : V → Prop
 | .own m nl cs => m = 11 ∧ T.leL cs cs' ∧ (nl' = none ∨ nl = nl')
 | _ => False
def RetX (rs : List Nat) (i : Nat) (t : T) (nl' : Option Bool) (cs' : List T) : Ex → St → Prop
 | .x _, _ => False
 | _, s => retXt s rs t ∧ ownLe nl' cs' (s.get i)
section
variable {s s' : St} {rs : List Nat} {i r : Nat} {t : T} {nl nl' : Option Bool} {cs cs' : List T}
@[go_sem] theorem RetX_n : RetX rs i t nl' cs' .n s = (retXt s rs t ∧ ownLe nl' cs' (s.get i)) := _root_.id rfl
@[go_sem] theorem RetX_r : RetX rs i t nl' cs' .r s = (retXt s rs t ∧ ownLe nl' cs' (s.get i)) := _root_.id rfl
@[go_sem] theorem RetX_x {j : Nat} : RetX rs i t nl' cs' (.x j) s = False := _root_.id rfl
@[go_sem] theorem retXt_0 : retXt s [] t = (t = .u []) := _root_.id rfl
@[go_sem] theorem retXt_1 : retXt s [r] t = retXv (s.look (.s r)) t := _root_.id rfl
@[go_sem] theorem retXv_i {g : G} {n n' : Int} : retXv (.t g (.i n)) (.i n') = (n = n') := _root_.id rfl
@[go_sem] theorem retXv_b {g : G} {n n' : Bool} : retXv (.t g (.b n)) (.b n') = (n = n') := _root_.id rfl
@[go_sem] theorem ownLe_o {m : Nat} : ownLe nl' cs' (.own m nl cs) = (m = 11 ∧ T.leL cs cs' ∧ (nl' = none ∨ nl = nl')) := _root_.id rfl
@[congr] theorem RetX_congr {e : Ex} (h : s = s') : RetX rs i t nl' cs' e s = RetX rs i t nl' cs' e s' := by rw [h]
end
section
variable {P : Program} {lo : Nat} {Xb : Nat → Prop} {par : Nat → Option Value} {ow : Ow} {tm : Array Value} {w0 w : World} {s : St}
theorem argsX_get {i : Nat} {u : Value} {nl : Option Bool} {cs : List T} : ∀ {ts : List T} {k : Nat} {vs : List Value} {tm : Array Value}, k + ts.length ≤ 1000 → vs.length = ts.length →
  (∀ (j : Nat) (tj : T) (vj : Value), k + j ≠ i → ts[j]? = some tj → vs[j]? = some vj → Fz (fun b => ow b = none) w tj vj) → (∀ j, k + j = i → vs[j]? = some u ∧ ts[j]? = some (.s nl cs) ∨ ts.length ≤ j) →
  OwnAt lo par ow w i 11 nl cs u → (∀ (j : Nat) (v : Value), vs[j]? = some v → tm.getD (k + j) undef = v) →
  ∀ y, ((argStX i k ts).get y).isAny = false → y < 1000 ∧ Rep lo par ow tm w s y ((argStX i k ts).get y) (tm.getD y undef)
 | [], k, vs, tm, _, _, _, _, _, _, y, hn => by simp [argStX, St.get, V.isAny] at hn
 | t :: ts, k, [], tm, _, hl, _, _, _, _, y, hn => by simp at hl
 | t :: ts, k, x :: xs, tm, hk, hl, hf, hi, hO, hv, y, hn => by
  simp only [argStX] at hn ⊢
  rw [get_if] at hn ⊢
  by_cases hky : k = y
  ·rw [if_pos hky] at hn ⊢
   subst hky
   have e : tm.getD k undef = x := by simpa using hv 0 x (by simp)
   simp only [List.length_cons] at hk
   refine ⟨by omega, ?_⟩
   rw [e]
   by_cases hki : k = i
   ·rcases hi 0 (by omega) with ⟨h1, h2⟩ | h
    ·simp only [List.getElem?_cons_zero, Option.some.injEq] at h1 h2
     subst h1 h2 hki
     rw [beq_self_eq_true, argV_t]
     exact hO
    ·simp at h
   ·have hki' : (k == i) = false := by simpa using hki
    rw [hki', argV_f]
    have h1 := hf 0 t x (by omega) rfl rfl
    cases t <;> exact Fz.mono (fun b hb => by first | exact hb | exact ⟨hb, trivial⟩) (by first | exact h1 | exact Fz.scal trivial h1)
  ·rw [if_neg hky] at hn ⊢
   simp only [List.length_cons] at hk hl
   refine argsX_get (k := k + 1) (ts := ts) (vs := xs) (by omega) (by omega) (fun j tj vj hj h1 h2 => hf (j + 1) tj vj (by omega) (by simpa using h1) (by simpa using h2)) (fun j hj => ?_) hO (fun j v hj => by
    have := hv (j + 1) v (by simpa using hj)
    rwa [show k + 1 + j = k + (j + 1) from by omega]) y hn
   rcases hi (j + 1) (by omega) with ⟨h1, h2⟩ | h
   ·exact .inl ⟨by simpa using h1, by simpa using h2⟩
   ·exact .inr (by simpa using h)
theorem callX_of {f : FuncId} {fn : Func} {code : Code} {c : C} {ts : List T} {rs : List Nat} {i : Nat} {t : T} {nl nl' : Option Bool} {cs cs' : List T} (hf : P.funcs[f]? = some fn) (hb : fn.body = some code) (hmo : P.follows .mixedOrders = true)
  (hE : ∀ args w, (callFunc f args).run P w = .ok (.enter f args) w) (hres : fn.results = (rs.map ResultVar.tmp).toArray) (hc : chk P fn.ntmps false c code = true) (hts : ts.length ≤ fn.ntmps) (hts2 : ts.length ≤ 1000) (hrs : ∀ r ∈ rs, r < 1000)
  (hi : ts[i]? = some (.s nl cs)) (hw : wpC P c (RetX rs i t nl' cs') (argStX i 0 ts)) : CallX P f i ts t nl' cs' := by
 refine ⟨hE, nl, cs, hi, fun w vs ow u hvl how hu hv hO => ?_⟩
 refine calls_of_wp hf hb ?_
 have hi1 : i < ts.length := (List.getElem?_eq_some_iff.1 hi).1
 have hOk : OkS (fun b => ow b ≠ none) (fun z => if z = i then some u else none) fn.ntmps w { tmps := vs.toArray ++ Array.replicate (fn.ntmps - vs.toArray.size) undef, defers := [] } w (argStX i 0 ts) := by
  refine ⟨⟨ow, ⟨(fun b p h => ⟨(how b p h).2, .inr (by rw [h]; simp)⟩), Nat.le_refl _, fun y hl hn => ?_⟩⟩, (by simp; omega), rfl, Grow.refl _ _⟩
  obtain ⟨h1, h2⟩ := argsX_get (lo := w.heap.size) (s := argStX i 0 ts) (k := 0) (tm := vs.toArray ++ Array.replicate (fn.ntmps - vs.toArray.size) undef) (by omega) hvl (fun j tj vj hj => hv j tj vj (by omega)) (fun j hj => by
   obtain rfl : j = i := by omega
   exact .inl ⟨hu, hi⟩) hO (fun j v hj => by
   have hjl : j < vs.length := (List.getElem?_eq_some_iff.1 hj).1
   rw [Nat.zero_add]
   have hj' := (List.getElem?_eq_some_iff.1 hj).2
   simp [Array.getElem?_append, hjl, hj']) y hn
  exact ⟨_, nmv_slot h1, h2⟩
 refine wpC_wp hmo (fun z hz => by rw [if_neg (by omega)]) (fun h => by cases h) c code (RetX rs i t nl' cs') _ _ w (argStX i 0 ts) hc hOk hw fun e s' a' w' hq hO' => ?_
 have key : retXt s' rs t ∧ ownLe nl' cs' (s'.get i) → a'.defers = [] ∧ ∃ v, (results fn a'.tmps).run P w' = .ok v w' ∧ ∃ r, Ending.returned v = .returned r ∧ Grow (fun b => ow b ≠ none) w w' ∧ Fz (fun _ => False) w' t r ∧
   ∃ ow' : Ow, (∀ b p, ow' b = some p → p.1 = i ∧ b < w'.heap.size ∧ (w.heap.size ≤ b ∨ ow b ≠ none)) ∧ OwnAt w.heap.size (fun _ => none) ow' w' i 1 nl' cs' u := by
  rintro ⟨hR, hown⟩
  refine ⟨hO'.df, ?_⟩
  obtain ⟨ow2, hG⟩ := hO'.gam
  have hrun : (results fn a'.tmps).run P w' = .ok (if h : rs.length = 1 then a'.tmps.getD (rs[0]'(by omega)) undef else .tuple (rs.map fun r => a'.tmps.getD r undef).toArray) w' := by
   unfold results
   rw [hres]
   rw [Sem.run_bind, run_resVars (fun t w => rfl)]
   simp only [Result.andThen_ok, Sem.run_pure]
   congr 1
   by_cases h1 : rs.length = 1
   ·simp [h1]
   ·simp [h1]
  refine ⟨_, hrun, _, rfl, hO'.grow, ?_, ?_⟩
  ·unfold retXt at hR
   split at hR
   ·subst hR; simp [Fz, FzL]
   ·rename_i r
    have hr : r < 1000 := hrs r (by simp)
    have hx := hG.look hr
    have e1 : (if h : ([r] : List Nat).length = 1 then a'.tmps.getD (([r] : List Nat)[0]'(by simp)) undef else .tuple (([r] : List Nat).map fun r => a'.tmps.getD r undef).toArray) = a'.tmps.getD r undef := by simp
    rw [e1]
    generalize s'.look (.s r) = wx at hR hx
    unfold retXv at hR
    split at hR
    ·subst hR; simp only [RepW, Fz] at hx ⊢; exact hx
    ·subst hR; simp only [RepW, Fz] at hx ⊢; exact hx
    ·exact hR.elim
   ·exact hR.elim
  ·cases hv' : s'.get i with
   | own m nl1 cs1 =>
    rw [hv', ownLe_o] at hown
    obtain ⟨rfl, h1, h2⟩ := hown
    have hle : s'.le [(i, .own 11 nl' cs')] := by
     intro p hp
     simp only [List.mem_singleton] at hp
     subst hp
     simp only
     rw [hv']
     exact ⟨h1, h2, .inl rfl⟩
    have hG2 := hG.le hle
    obtain ⟨uu, e1, e2⟩ := hG2.ent i (lv_iff.2 (.inl (by omega))) (by rw [get_top]; rfl)
    rw [get_top] at e2
    have hpu := e2.1 (by omega)
    simp only [if_true, Option.some.injEq] at hpu
    subst hpu
    refine ⟨owArg ow2 i i, fun b p hp => ?_, ⟨fun h => absurd h (by omega), ?_⟩⟩
    ·have : ∃ r, ow2 b = some (i, r) := Classical.byContradiction fun hno => by
      rw [owArg_none.2 fun r hr => hno ⟨r, hr⟩] at hp; cases hp
     obtain ⟨r, hr⟩ := this
     rw [owArg_y hr] at hp; cases hp
     exact ⟨rfl, (hG.base _ _ hr).1, (hG.base _ _ hr).2⟩
    ·rcases e2.2 with h | ⟨hn, b, cap, arr, ty, xs, e, ho, hb, hs, hl, hmx, ht, hx, hdp⟩
     ·exact .inl h
     ·refine .inr ⟨hn, b, cap, arr, ty, xs, e, owArg_y ho, hb, hs, hl, hmx, ht, hx.mono fun b hb => owArg_y hb, fun _ => ?_⟩
      obtain ⟨d1, d2⟩ := hdp rfl
      exact ⟨d1, fun k b hk => by obtain ⟨q1, q2⟩ := d2 k b hk; exact ⟨owArg_y q1, q2⟩⟩
   | _ => rw [hv'] at hown; exact hown.elim
 cases e with
 | n => exact key hq
 | r => exact key hq
 | x j => exact hq.elim
end
end Go.Vc
namespace Go.Vc
open Go
def argVC : Bool → T → V
 | true, .s nl cs => .own 1 nl cs
 | true, _ => .any
 | false, t => .mk .arg t
def argStC (is : List Nat) : Nat → List T → St
 | _, [] => []
 | k, t :: ts => (k, argVC (memB k is) t) :: argStC is (k + 1) ts
@[go_sem] theorem argVC_t {nl : Option Bool} {cs : List T} : argVC true (.s nl cs) = .own 1 nl cs := _root_.id rfl
@[go_sem] theorem argVC_f {t : T} : argVC false t = .mk .arg t := _root_.id rfl
@[go_sem] theorem argStC_n {is : List Nat} {k : Nat} : argStC is k [] = [] := _root_.id rfl
@[go_sem] theorem argStC_c {is : List Nat} {k : Nat} {t : T} {ts : List T} : argStC is k (t :: ts) = (k, argVC (memB k is) t) :: argStC is (k + 1) ts := _root_.id rfl
section
variable {P : Program} {lo : Nat} {Xb : Nat → Prop} {par : Nat → Option Value} {ow : Ow} {tm : Array Value} {w0 w : World} {s : St}
theorem resRep_ownX {y m m' : Nat} {nl nl' : Option Bool} {cs cs' : List T} {u : Value} (hG : Gam lo Xb par ow s tm w) (hO : OwnAt lo par ow w y m nl cs u) (hm : m < 2) (hm' : m' < 2) (hle : V.le (.own m nl cs) (.own m' nl' cs')) :
  ResRep lo Xb w u [(0, .own m' nl' cs')] := by
 have oy : ∀ {b r}, ow b = some (y, r) → owOnly ow y 0 b = some (0, r) := fun h => by unfold owOnly; rw [h]; simp
 have on : ∀ {b}, ow b = none → owOnly ow y 0 b = none := fun h => by unfold owOnly; rw [h]
 have G1 : Gam lo Xb (fun _ => none) (owOnly ow y 0) [(0, .own m nl cs)] #[u] w := by
  refine ⟨fun b p hp => ?_, hG.low, fun z hl hn => ?_⟩
  ·cases e : ow b with
   | none => rw [on e] at hp; cases hp
   | some q => exact hG.base b q e
  ·rw [get_if] at hn ⊢
   by_cases h0 : 0 = z
   ·rw [if_pos h0]
    subst h0
    exact ⟨u, by rw [nmv_slot (by omega)]; rfl, OwnAt.ren (ow := ow) (y := y) (par := fun _ => none) (by omega) (fun b r h => oy h) (fun b h => on h) ⟨fun h => absurd h (by omega), hO.2⟩⟩
   ·rw [if_neg h0] at hn; cases hn
 refine ⟨fun p hp => by simp at hp; subst hp; exact ⟨rfl, hm'⟩, owOnly ow y 0, G1.le fun p hp => ?_⟩
 simp at hp; subst hp
 rw [get_if, if_pos rfl]; exact hle
theorem argsC_get {is : List Nat} : ∀ {ts : List T} {k : Nat} {vs : List Value} {tm : Array Value}, k + ts.length ≤ 1000 → vs.length = ts.length →
  (∀ (j : Nat) (t : T) (v : Value), ts[j]? = some t → vs[j]? = some v → (k + j ∈ is → ∃ nl cs, t = .s nl cs ∧ OwnAt lo par ow w (k + j) 1 nl cs v) ∧ (k + j ∉ is → Fz (fun b => ow b = none) w t v)) →
  (∀ (j : Nat) (v : Value), vs[j]? = some v → tm.getD (k + j) undef = v) →
  ∀ y, ((argStC is k ts).get y).isAny = false → y < 1000 ∧ Rep lo par ow tm w s y ((argStC is k ts).get y) (tm.getD y undef)
 | [], k, vs, tm, _, _, _, _, y, hn => by simp [argStC, St.get, V.isAny] at hn
 | t :: ts, k, [], tm, _, hl, _, _, y, hn => by simp at hl
 | t :: ts, k, x :: xs, tm, hk, hl, hf, hv, y, hn => by
  simp only [argStC] at hn ⊢
  rw [get_if] at hn ⊢
  by_cases hky : k = y
  ·rw [if_pos hky] at hn ⊢
   subst hky
   have e : tm.getD k undef = x := by simpa using hv 0 x (by simp)
   simp only [List.length_cons] at hk
   refine ⟨by omega, ?_⟩
   rw [e]
   obtain ⟨f1, f2⟩ := hf 0 t x rfl rfl
   rw [Nat.add_zero] at f1 f2
   cases hm : memB k is with
   | true =>
    obtain ⟨nl, cs, rfl, h⟩ := f1 (memB_iff.1 hm)
    rw [argVC_t]; exact h
   | false =>
    have h1 := f2 fun h => by rw [memB_iff.2 h] at hm; cases hm
    rw [argVC_f]
    cases t <;> exact Fz.mono (fun b hb => by first | exact hb | exact ⟨hb, trivial⟩) (by first | exact h1 | exact Fz.scal trivial h1)
  ·rw [if_neg hky] at hn ⊢
   simp only [List.length_cons] at hk hl
   exact argsC_get (k := k + 1) (ts := ts) (vs := xs) (by omega) (by omega) (fun j t' v h1 h2 => by
    have := hf (j + 1) t' v (by simpa using h1) (by simpa using h2)
    rwa [show k + (j + 1) = k + 1 + j from by omega] at this) (fun j v hj => by
    have := hv (j + 1) v (by simpa using hj)
    rwa [show k + 1 + j = k + (j + 1) from by omega]) y hn
theorem callC_of {f : FuncId} {fn : Func} {code : Code} {c : C} {ts : List T} {r : Nat} {is : List Nat} {m' : Nat} {nl' : Option Bool} {cs' : List T} (hf : P.funcs[f]? = some fn) (hb : fn.body = some code) (hmo : P.follows .mixedOrders = true)
  (hE : ∀ args w, (callFunc f args).run P w = .ok (.enter f args) w) (hres : fn.results = #[ResultVar.tmp r]) (hc : chk P fn.ntmps false c code = true) (hts : ts.length ≤ fn.ntmps) (hts2 : ts.length ≤ 1000) (hr : r < 1000)
  (hw : wpC P c (RetQ [r] [(0, .own m' nl' cs')]) (argStC is 0 ts)) : CallC P f is ts [(0, .own m' nl' cs')] := by
 refine ⟨hE, fun w vs ow hvl how hv => ?_⟩
 refine calls_of_wp hf hb ?_
 have hOk : OkS (fun b => ow b ≠ none) (fun _ => none) fn.ntmps w { tmps := vs.toArray ++ Array.replicate (fn.ntmps - vs.toArray.size) undef, defers := [] } w (argStC is 0 ts) := by
  refine ⟨⟨ow, ⟨(fun b p h => ⟨(how b p h).2, .inr (by rw [h]; simp)⟩), Nat.le_refl _, fun y hl hn => ?_⟩⟩, (by simp; omega), rfl, Grow.refl _ _⟩
  obtain ⟨h1, h2⟩ := argsC_get (lo := w.heap.size) (par := fun _ => none) (s := argStC is 0 ts) (k := 0) (tm := vs.toArray ++ Array.replicate (fn.ntmps - vs.toArray.size) undef) (by omega) hvl (fun j t v h1 h2 => by
   rw [Nat.zero_add]; exact hv j t v h1 h2) (fun j v hj => by
   have hjl : j < vs.length := (List.getElem?_eq_some_iff.1 hj).1
   rw [Nat.zero_add]
   have hj' := (List.getElem?_eq_some_iff.1 hj).2
   simp [Array.getElem?_append, hjl, hj']) y hn
  exact ⟨_, nmv_slot h1, h2⟩
 refine wpC_wp hmo (fun _ _ => rfl) (fun h => by cases h) c code (RetQ [r] [(0, .own m' nl' cs')]) _ _ w (argStC is 0 ts) hc hOk hw fun e s' a' w' hq hO' => ?_
 have key : retO s' [r] [(0, .own m' nl' cs')] → a'.defers = [] ∧ ∃ v, (results fn a'.tmps).run P w' = .ok v w' ∧ ∃ u, Ending.returned v = .returned u ∧ Grow (fun b => ow b ≠ none) w w' ∧ ResRep w.heap.size (fun b => ow b ≠ none) w' u [(0, .own m' nl' cs')] := by
  intro hR
  refine ⟨hO'.df, ?_⟩
  obtain ⟨ow', hG⟩ := hO'.gam
  have hrun : (results fn a'.tmps).run P w' = .ok (a'.tmps.getD r undef) w' := by
   unfold results
   rw [hres, show (#[ResultVar.tmp r] : Array ResultVar) = ([r].map ResultVar.tmp).toArray from rfl]
   rw [Sem.run_bind, run_resVars (fun t w => rfl)]
   simp
  refine ⟨_, hrun, _, rfl, hO'.grow, ?_⟩
  rw [retO_o] at hR
  have hx := hG.look hr
  generalize s'.look (.s r) = wx at hR hx
  cases wx with
  | own y m nl cs =>
   rw [retOo_o] at hR
   exact resRep_ownX hG hx.2.2.2 hR.1 hR.2.1 hR.2.2
  | _ => exact hR.elim
 cases e with
 | n => exact key hq
 | r => exact key hq
 | x j => exact hq.elim
end
end Go.Vc
namespace Go.Vc
open Go
def partSt (k : Nat) : Nat → List T → St
 | _, [] => []
 | c, .s nl cs :: fs => (k + 1000 * (200 + c), .own 1 nl cs) :: partSt k (c + 1) fs
 | c, _ :: fs => partSt k (c + 1) fs
def argA (k : Nat) : T → St
 | .a fs => (k, .ag fs.length) :: partSt k 0 fs
 | _ => []
def argStA (i : Nat) : Nat → List T → St
 | _, [] => []
 | k, t :: ts => (bif k == i then argA k t else [(k, V.mk .arg t)]) ++ argStA i (k + 1) ts
@[go_sem] theorem partSt_n {k c : Nat} : partSt k c [] = [] := _root_.id rfl
@[go_sem] theorem partSt_s {k c : Nat} {nl : Option Bool} {cs fs : List T} : partSt k c (.s nl cs :: fs) = (k + 1000 * (200 + c), .own 1 nl cs) :: partSt k (c + 1) fs := _root_.id rfl
@[go_sem] theorem argA_a {k : Nat} {fs : List T} : argA k (.a fs) = (k, .ag fs.length) :: partSt k 0 fs := _root_.id rfl
@[go_sem] theorem argStA_n {i k : Nat} : argStA i k [] = [] := _root_.id rfl
@[go_sem] theorem argStA_c {i k : Nat} {t : T} {ts : List T} : argStA i k (t :: ts) = (bif k == i then argA k t else [(k, V.mk .arg t)]) ++ argStA i (k + 1) ts := _root_.id rfl
def RetA (rs : List Nat) (t : T) : Ex → St → Prop
 | .x _, _ => False
 | _, s => retXt s rs t
section
variable {s s' : St} {rs : List Nat} {t : T}
@[go_sem] theorem RetA_n : RetA rs t .n s = retXt s rs t := _root_.id rfl
@[go_sem] theorem RetA_r : RetA rs t .r s = retXt s rs t := _root_.id rfl
@[go_sem] theorem RetA_x {j : Nat} : RetA rs t (.x j) s = False := _root_.id rfl
@[congr] theorem RetA_congr {e : Ex} (h : s = s') : RetA rs t e s = RetA rs t e s' := by rw [h]
end
def retBV : V → V → Prop
 | .own m nl cs, .own m' nl' cs' => m < 2 ∧ m' < 2 ∧ V.le (.own m nl cs) (.own m' nl' cs')
 | _, _ => False
def retBL (s : St) (z : Nat) : Nat → St → Prop
 | _, [] => True
 | j, (k, v) :: R => k = 1000 * (200 + j) ∧ retBV (s.get (z + 1000 * (1 + j))) v ∧ retBL s z (j + 1) R
def retBb (s : St) (z : Nat) (R : St) (n : Nat) : V → Prop
 | .bx m => m = n ∧ R.length = n ∧ n < 90 ∧ retBL s z 0 R
 | _ => False
def retB (s : St) (z : Nat) : St → Prop
 | (0, .ag n) :: R => retBb s z R n (s.get z)
 | _ => False
def RetB (z : Nat) (R : St) : Ex → St → Prop
 | .x _, _ => False
 | _, s => retB s z R
section
variable {s s' : St} {z n m : Nat} {R : St}
@[go_sem] theorem RetB_n : RetB z R .n s = retB s z R := _root_.id rfl
@[go_sem] theorem RetB_r : RetB z R .r s = retB s z R := _root_.id rfl
@[go_sem] theorem RetB_x {j : Nat} : RetB z R (.x j) s = False := _root_.id rfl
@[go_sem] theorem retB_a : retB s z ((0, .ag n) :: R) = retBb s z R n (s.get z) := _root_.id rfl
@[go_sem] theorem retBb_b : retBb s z R n (.bx m) = (m = n ∧ R.length = n ∧ n < 90 ∧ retBL s z 0 R) := _root_.id rfl
@[go_sem] theorem retBL_n {j : Nat} : retBL s z j [] = True := _root_.id rfl
@[go_sem] theorem retBL_c {j k : Nat} {v : V} : retBL s z j ((k, v) :: R) = (k = 1000 * (200 + j) ∧ retBV (s.get (z + 1000 * (1 + j))) v ∧ retBL s z (j + 1) R) := _root_.id rfl
@[go_sem] theorem retBV_o {m m' : Nat} {nl nl' : Option Bool} {cs cs' : List T} : retBV (.own m nl cs) (.own m' nl' cs') = (m < 2 ∧ m' < 2 ∧ V.le (.own m nl cs) (.own m' nl' cs')) := _root_.id rfl
@[congr] theorem retBV_congr {v v' q q' : V} (h : v = v') (h' : q = q') : retBV v q = retBV v' q' := by rw [h, h']
@[congr] theorem retBb_congr {v v' : V} (h : v = v') : retBb s z R n v = retBb s z R n v' := by rw [h]
@[congr] theorem RetB_congr {e : Ex} (h : s = s') : RetB z R e s = RetB z R e s' := by rw [h]
end
section
variable {P : Program} {lo : Nat} {Xb : Nat → Prop} {par : Nat → Option Value} {ow : Ow} {tm : Array Value} {w0 w : World} {s : St}
theorem part_get {k : Nat} : ∀ {fs : List T} {c y : Nat}, ((partSt k c fs).get y).isAny = false → ∃ c' nl cs, fs[c']? = some (.s nl cs) ∧ y = k + 1000 * (200 + (c + c')) ∧ (partSt k c fs).get y = .own 1 nl cs
 | [], c, y, h => by simp [partSt, St.get, V.isAny] at h
 | t :: fs, c, y, h => by
  have next : ((partSt k (c + 1) fs).get y).isAny = false → ∃ c' nl cs, (t :: fs)[c']? = some (.s nl cs) ∧ y = k + 1000 * (200 + (c + c')) ∧ (partSt k (c + 1) fs).get y = .own 1 nl cs := fun h => by
   obtain ⟨c', nl, cs, e1, e2, e3⟩ := part_get h
   exact ⟨c' + 1, nl, cs, by simpa using e1, by omega, e3⟩
  cases t with
  | s nl cs =>
   rw [partSt_s, get_if] at h ⊢
   by_cases e : k + 1000 * (200 + c) = y
   ·rw [if_pos e]; exact ⟨0, nl, cs, rfl, by omega, rfl⟩
   ·rw [if_neg e] at h ⊢; exact next h
  | _ => exact next h
theorem get_app2 {E s : St} {y : Nat} : (E ++ s).get y = E.get y ∨ (E ++ s).get y = s.get y := by
 by_cases hex : ∃ p ∈ E, p.1 = y
 ·exact .inl (get_append_yes hex)
 ·exact .inr (get_append_no fun p hp e => hex ⟨p, hp, e⟩)
theorem argA_get {i : Nat} : ∀ {ts : List T} {k y : Nat}, ((argStA i k ts).get y).isAny = false →
  (∃ j t, ts[j]? = some t ∧ k + j ≠ i ∧ y = k + j ∧ (argStA i k ts).get y = V.mk .arg t) ∨
  (∃ j fs, ts[j]? = some (.a fs) ∧ k + j = i ∧ ((y = i ∧ (argStA i k ts).get y = .ag fs.length) ∨ ∃ c nl cs, fs[c]? = some (.s nl cs) ∧ y = i + 1000 * (200 + c) ∧ (argStA i k ts).get y = .own 1 nl cs))
 | [], k, y, h => by simp [argStA, St.get, V.isAny] at h
 | t :: ts, k, y, h => by
  rw [argStA_c] at h ⊢
  rcases get_app2 (E := bif k == i then argA k t else [(k, V.mk .arg t)]) (s := argStA i (k + 1) ts) (y := y) with e | e <;> rw [e] at h ⊢
  ·by_cases hk : k = i
   ·have hk' : (k == i) = true := by simpa using hk
    rw [hk', cond_true] at h ⊢
    right
    cases t with
    | a fs =>
     rw [argA_a, get_if] at h ⊢
     refine ⟨0, fs, rfl, by omega, ?_⟩
     by_cases e1 : k = y
     ·rw [if_pos e1]; exact .inl ⟨by omega, rfl⟩
     ·rw [if_neg e1] at h ⊢
      obtain ⟨c, nl, cs, q1, q2, q3⟩ := part_get h
      exact .inr ⟨c, nl, cs, q1, by rw [← hk, q2, Nat.zero_add], q3⟩
    | _ => simp [argA, St.get, V.isAny] at h
   ·have hk' : (k == i) = false := by simpa using hk
    rw [hk', cond_false, get_if] at h ⊢
    left
    by_cases e1 : k = y
    ·rw [if_pos e1]; exact ⟨0, t, rfl, by omega, by omega, rfl⟩
    ·rw [if_neg e1] at h; simp [St.get, V.isAny] at h
  ·rcases argA_get h with ⟨j, t', q1, q2, q3, q4⟩ | ⟨j, fs, q1, q2, q3⟩
   ·exact .inl ⟨j + 1, t', by simpa using q1, by omega, by omega, q4⟩
   ·exact .inr ⟨j + 1, fs, by simpa using q1, by omega, q3⟩
theorem callA_of {f : FuncId} {fn : Func} {code : Code} {c : C} {ts fs : List T} {rs : List Nat} {i : Nat} {t : T} (hf : P.funcs[f]? = some fn) (hb : fn.body = some code) (hmo : P.follows .mixedOrders = true)
  (hE : ∀ args w, (callFunc f args).run P w = .ok (.enter f args) w) (hres : fn.results = (rs.map ResultVar.tmp).toArray) (hc : chk P fn.ntmps false c code = true) (hts : ts.length ≤ fn.ntmps) (hts2 : ts.length ≤ 1000) (hrs : ∀ r ∈ rs, r < 1000)
  (hi : ts[i]? = some (.a fs)) (hw : wpC P c (RetA rs t) (argStA i 0 ts)) : CallA P f i ts t := by
 refine ⟨hE, fs, hi, fun w vs ow xs hvl how hu hxl hp hv => ?_⟩
 refine calls_of_wp hf hb ?_
 have hi1 : i < ts.length := (List.getElem?_eq_some_iff.1 hi).1
 have hOk : OkS (fun b => ow b ≠ none) (fun _ => none) fn.ntmps w { tmps := vs.toArray ++ Array.replicate (fn.ntmps - vs.toArray.size) undef, defers := [] } w (argStA i 0 ts) := by
  have htm : ∀ (j : Nat) (v : Value), vs[j]? = some v → (vs.toArray ++ Array.replicate (fn.ntmps - vs.toArray.size) undef).getD j undef = v := fun j v hj => by
   have hjl : j < vs.length := (List.getElem?_eq_some_iff.1 hj).1
   have hj' := (List.getElem?_eq_some_iff.1 hj).2
   simp [Array.getElem?_append, hjl, hj']
  refine ⟨⟨ow, ⟨(fun b p h => ⟨(how b p h).2, .inr (by rw [h]; simp)⟩), Nat.le_refl _, fun y hl hn => ?_⟩⟩, (by simp; omega), rfl, Grow.refl _ _⟩
  rcases argA_get hn with ⟨j, t', q1, q2, q3, q4⟩ | ⟨j, fs', q1, q2, q3⟩
  ·rw [Nat.zero_add] at q2 q3
   subst q3
   have hyl : y < ts.length := (List.getElem?_eq_some_iff.1 q1).1
   have hyv : y < vs.length := by omega
   have h1 := hv y t' _ q2 q1 (List.getElem?_eq_getElem hyv)
   have e := htm y _ (List.getElem?_eq_getElem hyv)
   rw [q4]
   refine ⟨_, nmv_slot (by omega), ?_⟩
   rw [e]
   cases t' <;> exact Fz.mono (fun b hb => by first | exact hb | exact ⟨hb, trivial⟩) (by first | exact h1 | exact Fz.scal trivial h1)
  ·rw [Nat.zero_add] at q2
   subst q2
   rw [hi] at q1; cases q1
   have e := htm j _ hu
   rcases q3 with ⟨rfl, q4⟩ | ⟨c, nl, cs, q5, q6, q7⟩
   ·rw [q4]
    refine ⟨_, nmv_slot (by omega), ?_⟩
    rw [e]
    exact ⟨by omega, xs, rfl, hxl⟩
   ·subst q6
    rw [q7]
    obtain ⟨nl', cs', x, z1, z2, z3⟩ := hp c _ q5
    cases z1
    refine ⟨x, ?_, z3⟩
    unfold nmv
    rw [if_neg (by omega), show (j + 1000 * (200 + c)) % 1000 = j by omega, e]
    simp only
    rw [if_pos (by omega), show (j + 1000 * (200 + c)) / 1000 - 200 = c by omega]
    simpa using z2
 refine wpC_wp hmo (fun _ _ => rfl) (fun h => by cases h) c code (RetA rs t) _ _ w (argStA i 0 ts) hc hOk hw fun e s' a' w' hq hO' => ?_
 have key : retXt s' rs t → a'.defers = [] ∧ ∃ v, (results fn a'.tmps).run P w' = .ok v w' ∧ ∃ r, Ending.returned v = .returned r ∧ Grow (fun b => ow b ≠ none) w w' ∧ Fz (fun _ => False) w' t r := by
  intro hR
  refine ⟨hO'.df, ?_⟩
  obtain ⟨ow2, hG⟩ := hO'.gam
  have hrun : (results fn a'.tmps).run P w' = .ok (if h : rs.length = 1 then a'.tmps.getD (rs[0]'(by omega)) undef else .tuple (rs.map fun r => a'.tmps.getD r undef).toArray) w' := by
   unfold results
   rw [hres]
   rw [Sem.run_bind, run_resVars (fun t w => rfl)]
   simp only [Result.andThen_ok, Sem.run_pure]
   congr 1
   by_cases h1 : rs.length = 1
   ·simp [h1]
   ·simp [h1]
  refine ⟨_, hrun, _, rfl, hO'.grow, ?_⟩
  unfold retXt at hR
  split at hR
  ·subst hR; simp [Fz, FzL]
  ·rename_i r
   have hr : r < 1000 := hrs r (by simp)
   have hx := hG.look hr
   have e1 : (if h : ([r] : List Nat).length = 1 then a'.tmps.getD (([r] : List Nat)[0]'(by simp)) undef else .tuple (([r] : List Nat).map fun r => a'.tmps.getD r undef).toArray) = a'.tmps.getD r undef := by simp
   rw [e1]
   generalize s'.look (.s r) = wx at hR hx
   unfold retXv at hR
   split at hR
   ·subst hR; simp only [RepW, Fz] at hx ⊢; exact hx
   ·subst hR; simp only [RepW, Fz] at hx ⊢; exact hx
   ·exact hR.elim
  ·exact hR.elim
 cases e with
 | n => exact key hq
 | r => exact key hq
 | x j => exact hq.elim
def owR (ow : Ow) (z : Nat) : Ow := fun b => match ow b with
 | some (q, r) => if 1000 ≤ q ∧ q % 1000 = z ∧ q / 1000 < 100 then some (q - z + 199000, r) else none
 | none => none
theorem retBL_get {z : Nat} : ∀ {R : St} {j y : Nat}, retBL s z j R → (R.get y).isAny = false → ∃ c, c < R.length ∧ y = 1000 * (200 + (j + c)) ∧ retBV (s.get (z + 1000 * (1 + (j + c)))) (R.get y)
 | [], j, y, _, h => by simp [St.get, V.isAny] at h
 | (k, v) :: R, j, y, hR, h => by
  rw [retBL_c] at hR
  rw [get_if] at h ⊢
  by_cases e : k = y
  ·rw [if_pos e]; exact ⟨0, by simp, by omega, hR.2.1⟩
  ·rw [if_neg e] at h ⊢
   obtain ⟨c, h1, h2, h3⟩ := retBL_get hR.2.2 h
   exact ⟨c + 1, by simp; omega, by omega, by rw [show j + (c + 1) = j + 1 + c by omega]; exact h3⟩
theorem retBL_good {z : Nat} : ∀ {R : St} {j : Nat}, retBL s z j R → RGood R
 | [], j, _ => fun p hp => by simp at hp
 | (k, v) :: R, j, hR => by
  rw [retBL_c] at hR
  intro p hp
  rcases List.mem_cons.1 hp with rfl | hp
  ·refine ⟨by simp only; omega, ?_⟩
   have := hR.2.1
   revert this
   cases s.get (z + 1000 * (1 + j)) with
   | own m nl cs =>
    cases v with
    | own m' nl' cs' => intro h; rw [retBV_o] at h; exact h.2.1
    | _ => intro h; exact h.elim
   | _ => cases v <;> (intro h; exact h.elim)
  ·exact retBL_good hR.2.2 p hp
theorem callB_of {f : FuncId} {fn : Func} {code : Code} {c : C} {ts : List T} {z n : Nat} {ty : TypeId} {R : St} (hf : P.funcs[f]? = some fn) (hb : fn.body = some code) (hmo : P.follows .mixedOrders = true)
  (hE : ∀ args w, (callFunc f args).run P w = .ok (.enter f args) w) (hres : fn.results = #[ResultVar.cell z ty]) (hty : tyStL P ty n = true) (hc : chk P fn.ntmps true c code = true) (hts : ts.length ≤ fn.ntmps) (hts2 : ts.length ≤ 1000) (hz : z < 1000)
  (hw : wpC P c (RetB z ((0, .ag n) :: R)) (argSt 0 ts)) : CallOk P f ts ((0, .ag n) :: R) := by
 refine ⟨hE, fun w vs hv => ?_⟩
 refine calls_of_wp hf hb ?_
 have hvl := hv.length
 have hO : OkS (fun _ => False) (fun _ => none) fn.ntmps w { tmps := vs.toArray ++ Array.replicate (fn.ntmps - vs.toArray.size) undef, defers := [] } w (argSt 0 ts) := by
  refine ⟨⟨fun _ => none, ⟨(fun b p h => (by cases h)), Nat.le_refl _, fun y hl hn => ?_⟩⟩, (by simp; omega), rfl, Grow.refl _ _⟩
  obtain ⟨h1, h2⟩ := args_get (lo := w.heap.size) (par := fun _ => none) (s := argSt 0 ts) (k := 0) (tm := vs.toArray ++ Array.replicate (fn.ntmps - vs.toArray.size) undef) (by omega) hv (fun j v hj => by
   have hjl : j < vs.length := (List.getElem?_eq_some_iff.1 hj).1
   rw [Nat.zero_add]
   have hj' := (List.getElem?_eq_some_iff.1 hj).2
   simp [Array.getElem?_append, hjl, hj']) y hn
  exact ⟨_, nmv_slot h1, h2⟩
 refine wpC_wp hmo (fun _ _ => rfl) (fun _ b h => h) c code (RetB z ((0, .ag n) :: R)) _ _ w (argSt 0 ts) hc hO hw fun e s' a' w' hq hO' => ?_
 have key : retB s' z ((0, .ag n) :: R) → a'.defers = [] ∧ ∃ v, (results fn a'.tmps).run P w' = .ok v w' ∧ ∃ u, Ending.returned v = .returned u ∧ Grow (fun _ => False) w w' ∧ ResRep w.heap.size (fun _ => False) w' u ((0, .ag n) :: R) := by
  intro hR
  rw [retB_a] at hR
  refine ⟨hO'.df, ?_⟩
  obtain ⟨ow, hG⟩ := hO'.gam
  cases hbx : s'.get z with
  | bx m =>
   rw [hbx, retBb_b] at hR
   obtain ⟨rfl, hRl, hn90, hRL⟩ := hR
   obtain ⟨b, arr, ty', e1, e2, e3, e4, e5, e6⟩ := hG.box hbx hz
   obtain ⟨t1, t2⟩ := tyStL_spec hty w'
   have htm : a'.tmps.getD z undef = .pointer (some ⟨b, 0, none⟩) := by rw [nmv_slot hz] at e1; simpa using e1
   have hcells := loadCells_run (P := P) (w := w') (ad := ⟨b, 0, none⟩) m 0 #[] arr.toList (by simpa using e4) fun j v hj => by
    have e : (⟨b, 0, none⟩ : Addr).add (0 + j) = ⟨b, j, none⟩ := by
     unfold Addr.add; split
     ·rename_i h0
      have : j = 0 := by omega
      subst this; rfl
     ·simp
    rw [e, cell_of_row w' b j arr ty' (0, 0) e2]; simpa using hj
   have hrun : (results fn a'.tmps).run P w' = .ok (.agg arr) w' := by
    unfold results
    rw [hres]
    have htm2 : a'.tmps[z]?.getD undef = .pointer (some ⟨b, 0, none⟩) := by simpa using htm
    simp [htm2, asAddr, loadVar, t1, t2, loadCells, hcells]
   refine ⟨_, hrun, _, rfl, hO'.grow, ?_, ?_⟩
   ·intro p hp
    rcases List.mem_cons.1 hp with rfl | hp
    ·exact ⟨rfl, trivial⟩
    ·exact retBL_good hRL p hp
   ·have oR : ∀ {c b r}, c < m → ow b = some (z + 1000 * (1 + c), r) → owR ow z b = some (1000 * (200 + c), r) := fun {c b r} hc h => by
     unfold owR; rw [h]
     simp only
     rw [if_pos (by omega)]
     congr 2; omega
    refine ⟨owR ow z, ⟨fun b' p hp => ?_, hG.low, fun y hl hn => ?_⟩⟩
    ·have : ∃ q, ow b' = some q := by
      unfold owR at hp
      split at hp
      ·rename_i q r hq; exact ⟨_, hq⟩
      ·cases hp
     obtain ⟨q, hq⟩ := this
     exact ⟨(hG.base _ _ hq).1, .inl (hG.lob (fun _ h => h) hq)⟩
    ·rw [get_if] at hn ⊢
     by_cases h0 : 0 = y
     ·rw [if_pos h0]
      subst h0
      exact ⟨.agg arr, by rw [nmv_slot (by omega)]; rfl, by omega, arr.toList, by simp, by simpa using e4⟩
     ·rw [if_neg h0] at hn ⊢
      obtain ⟨c, c1, c2, c3⟩ := retBL_get hRL hn
      rw [Nat.zero_add] at c2 c3
      have hlv : s'.lv (z + 1000 * (1 + c)) = true := lv_iff.2 (.inr (by rw [show (z + 1000 * (1 + c)) % 1000 = z by omega, hbx]; rfl))
      cases hx : s'.get (z + 1000 * (1 + c)) with
      | own m1 nl cs =>
       rw [hx] at c3
       cases hy : St.get R y with
       | own m2 nl2 cs2 =>
        rw [hy, retBV_o] at c3
        obtain ⟨u', f1, f2⟩ := hG.ent _ hlv (by rw [hx]; rfl)
        rw [e6 c (by omega)] at f1
        rw [hx] at f2
        refine ⟨u', ?_, ?_⟩
        ·subst c2
         unfold nmv
         rw [if_neg (by omega), show 1000 * (200 + c) % 1000 = 0 by omega]
         have : (#[Value.agg arr] : Array Value).getD 0 undef = .agg arr := rfl
         rw [this]
         simp only
         rw [if_pos (by omega), show 1000 * (200 + c) / 1000 - 200 = c by omega]
         exact f1
        ·have f2 : OwnAt w.heap.size (fun _ => none) ow w' (z + 1000 * (1 + c)) m1 nl cs u' := f2
         have h3 := OwnAt.le (by omega) c3.2.2 f2
         subst c2
         refine OwnAt.ren (ow := ow) (y := z + 1000 * (1 + c)) (par := fun _ => none) (by omega) (fun b r h => oR (by omega) h) (fun b h => by unfold owR; rw [h]) ⟨fun h => absurd h (by omega), h3.2⟩
       | _ => rw [hy] at c3; exact c3.elim
      | _ => rw [hx] at c3; cases hy : St.get R y <;> rw [hy] at c3 <;> exact c3.elim
  | _ => rw [hbx] at hR; exact hR.elim
 cases e with
 | n => exact key hq
 | r => exact key hq
 | x j => exact hq.elim
end
end Go.Vc
namespace Go.Vc
open Go
def retTV : V → T → Prop
 | .t .fr t, t' => T.le t t'
 | .own m nl cs, .s nl' cs' => m < 2 ∧ T.leL cs cs' ∧ (nl' = none ∨ nl = nl')
 | _, _ => False
def retTL (s : St) (z : Nat) : Nat → List T → Prop
 | _, [] => True
 | j, t :: ts => s.lv (z + 1000 * (1 + j)) = true ∧ (s.get (z + 1000 * (1 + j))).isAny = false ∧ retTV (s.get (z + 1000 * (1 + j))) t ∧ retTL s z (j + 1) ts
def retTb (s : St) (z r : Nat) (us : List T) (t : T) : V → Prop
 | .bx m => m = us.length ∧ m < 90 ∧ retTL s z 0 us ∧ retV (s.look (.s r)) (.t .fr t)
 | _ => False
def RetT (z r : Nat) (us : List T) (t : T) : Ex → St → Prop
 | .x _, _ => False
 | _, s => retTb s z r us t (s.get z)
section
variable {s s' : St} {z r j m : Nat} {us : List T} {t t' : T}
@[go_sem] theorem RetT_n : RetT z r us t .n s = retTb s z r us t (s.get z) := _root_.id rfl
@[go_sem] theorem RetT_r : RetT z r us t .r s = retTb s z r us t (s.get z) := _root_.id rfl
@[go_sem] theorem RetT_x : RetT z r us t (.x j) s = False := _root_.id rfl
@[go_sem] theorem retTb_b : retTb s z r us t (.bx m) = (m = us.length ∧ m < 90 ∧ retTL s z 0 us ∧ retV (s.look (.s r)) (.t .fr t)) := _root_.id rfl
@[go_sem] theorem retTL_n : retTL s z j [] = True := _root_.id rfl
@[go_sem] theorem retTL_c : retTL s z j (t :: us) = (s.lv (z + 1000 * (1 + j)) = true ∧ (s.get (z + 1000 * (1 + j))).isAny = false ∧ retTV (s.get (z + 1000 * (1 + j))) t ∧ retTL s z (j + 1) us) := _root_.id rfl
@[go_sem] theorem retTV_t : retTV (.t .fr t) t' = T.le t t' := _root_.id rfl
@[go_sem] theorem retTV_o {nl nl' : Option Bool} {cs cs' : List T} : retTV (.own m nl cs) (.s nl' cs') = (m < 2 ∧ T.leL cs cs' ∧ (nl' = none ∨ nl = nl')) := _root_.id rfl
@[congr] theorem retTV_congr {v v' : V} {u u' : T} (h : v = v') (h' : u = u') : retTV v u = retTV v' u' := by rw [h, h']
@[congr] theorem retTb_congr {v v' : V} (h : v = v') : retTb s z r us t v = retTb s z r us t v' := by rw [h]
@[congr] theorem RetT_congr {e : Ex} (h : s = s') : RetT z r us t e s = RetT z r us t e s' := by rw [h]
end
section
variable {P : Program} {lo : Nat} {Xb : Nat → Prop} {par : Nat → Option Value} {ow : Ow} {tm : Array Value} {w0 w : World} {s : St}
theorem own_fz (hG : Gam lo Xb par ow s tm w) (hX : ∀ b, ¬ Xb b) {y m : Nat} {nl nl' : Option Bool} {cs cs' : List T} {u : Value} (hO : OwnAt lo par ow w y m nl cs u) (hm : m < 2) (hcl : T.leL cs cs') (h2 : nl' = none ∨ nl = nl') : Fz (fun b => lo ≤ b) w (.s nl' cs') u := by
 obtain ⟨_, hO⟩ := hO
 refine Fz.le (t := .s nl' cs) (by simp only [T.le, or_true, true_and]; exact hcl) ?_
 simp only [Fz]
 rcases hO with ⟨z1, z2, z3⟩ | ⟨hnl, b, cap, arr, ty, xs, e1, ho, hb, hs, hle, hmx, ht, hx1, hd⟩
 ·left; refine ⟨z1, z2, ?_⟩
  rcases h2 with rfl | rfl
  ·simp
  ·exact z3
 ·right
  refine ⟨by rcases h2 with rfl | rfl; simp; exact hnl, b, 0, none, cap, xs, e1, hle, hmx, fun _ => ⟨hG.lob hX ho, rfl⟩, hx1.mono fun b' hb' => ?_, fun k v hk => ?_⟩
  ·have : m = 0 ∨ m = 1 := by omega
   rcases this with rfl | rfl
   ·exact hb'.2
   ·exact hG.lob hX hb'
  ·rw [cell_of_row w b (0 + k) arr ty (0, 0) hb]
   subst ht
   rw [List.getElem?_take] at hk
   split at hk
   ·simpa using hk
   ·cases hk
theorem FzL.mk_get {ok : Nat → Prop} : ∀ {ts : List T} {xs : List Value}, xs.length = ts.length → (∀ (k : Nat) (t : T), ts[k]? = some t → ∃ x, xs[k]? = some x ∧ Fz ok w t x) → FzL ok w ts xs
 | [], xs, hl, _ => by simpa [FzL] using List.eq_nil_of_length_eq_zero hl
 | t :: ts, [], hl, _ => by simp at hl
 | t :: ts, x :: xs, hl, h => by
  obtain ⟨x', e, hf⟩ := h 0 t rfl
  have e : x = x' := by simpa using e
  subst e
  exact ⟨x, xs, rfl, hf, FzL.mk_get (by simpa using hl) fun k t' hk => by
   have := h (k + 1) t' (by simpa using hk)
   simpa using this⟩
theorem retTL_get {z : Nat} : ∀ {us : List T} {j : Nat}, retTL s z j us → ∀ (k : Nat) (t : T), us[k]? = some t → s.lv (z + 1000 * (1 + (j + k))) = true ∧ (s.get (z + 1000 * (1 + (j + k)))).isAny = false ∧ retTV (s.get (z + 1000 * (1 + (j + k)))) t
 | [], j, _, k, t, h => by simp at h
 | u :: us, j, hR, 0, t, h => by
  rw [retTL_c] at hR
  have : u = t := by simpa using h
  subst this
  exact ⟨hR.1, hR.2.1, hR.2.2.1⟩
 | u :: us, j, hR, k + 1, t, h => by
  rw [retTL_c] at hR
  have := retTL_get hR.2.2.2 k t (by simpa using h)
  rwa [show j + 1 + k = j + (k + 1) by omega] at this
theorem callT_of {f : FuncId} {fn : Func} {code : Code} {c : C} {ts us : List T} {z r : Nat} {ty : TypeId} {t : T} (hf : P.funcs[f]? = some fn) (hb : fn.body = some code) (hmo : P.follows .mixedOrders = true)
  (hE : ∀ args w, (callFunc f args).run P w = .ok (.enter f args) w) (hres : fn.results = #[ResultVar.cell z ty, ResultVar.tmp r]) (hty : tyStL P ty us.length = true) (hc : chk P fn.ntmps true c code = true) (hts : ts.length ≤ fn.ntmps) (hts2 : ts.length ≤ 1000) (hz : z < 1000) (hr : r < 1000)
  (hw : wpC P c (RetT z r us t) (argSt 0 ts)) : CallOk P f ts [(0, .tp 2), (100000, .t .fr (.a us)), (101000, .t .fr t)] := by
 refine ⟨hE, fun w vs hv => ?_⟩
 refine calls_of_wp hf hb ?_
 have hvl := hv.length
 have hO : OkS (fun _ => False) (fun _ => none) fn.ntmps w { tmps := vs.toArray ++ Array.replicate (fn.ntmps - vs.toArray.size) undef, defers := [] } w (argSt 0 ts) := by
  refine ⟨⟨fun _ => none, ⟨(fun b p h => (by cases h)), Nat.le_refl _, fun y hl hn => ?_⟩⟩, (by simp; omega), rfl, Grow.refl _ _⟩
  obtain ⟨h1, h2⟩ := args_get (lo := w.heap.size) (par := fun _ => none) (s := argSt 0 ts) (k := 0) (tm := vs.toArray ++ Array.replicate (fn.ntmps - vs.toArray.size) undef) (by omega) hv (fun j v hj => by
   have hjl : j < vs.length := (List.getElem?_eq_some_iff.1 hj).1
   rw [Nat.zero_add]
   have hj' := (List.getElem?_eq_some_iff.1 hj).2
   simp [Array.getElem?_append, hjl, hj']) y hn
  exact ⟨_, nmv_slot h1, h2⟩
 refine wpC_wp hmo (fun _ _ => rfl) (fun _ b h => h) c code (RetT z r us t) _ _ w (argSt 0 ts) hc hO hw fun e s' a' w' hq hO' => ?_
 have key : retTb s' z r us t (s'.get z) → a'.defers = [] ∧ ∃ v, (results fn a'.tmps).run P w' = .ok v w' ∧ ∃ u, Ending.returned v = .returned u ∧ Grow (fun _ => False) w w' ∧ ResRep w.heap.size (fun _ => False) w' u [(0, .tp 2), (100000, .t .fr (.a us)), (101000, .t .fr t)] := by
  intro hR
  refine ⟨hO'.df, ?_⟩
  obtain ⟨ow, hG⟩ := hO'.gam
  cases hbx : s'.get z with
  | bx m =>
   rw [hbx, retTb_b] at hR
   obtain ⟨rfl, hn90, hRL, hRv⟩ := hR
   obtain ⟨b, arr, ty', e1, e2, e3, e4, e5, e6⟩ := hG.box hbx hz
   obtain ⟨t1, t2⟩ := tyStL_spec hty w'
   obtain ⟨t', et, hft⟩ := ret_fz hG (fun _ h => h) hr hRv
   cases et
   have htm : a'.tmps.getD z undef = .pointer (some ⟨b, 0, none⟩) := by rw [nmv_slot hz] at e1; simpa using e1
   have hcells := loadCells_run (P := P) (w := w') (ad := ⟨b, 0, none⟩) us.length 0 #[] arr.toList (by simpa using e4) fun j v hj => by
    have e : (⟨b, 0, none⟩ : Addr).add (0 + j) = ⟨b, j, none⟩ := by
     unfold Addr.add; split
     ·rename_i h0
      have : j = 0 := by omega
      subst this; rfl
     ·simp
    rw [e, cell_of_row w' b j arr ty' (0, 0) e2]; simpa using hj
   have hrun : (results fn a'.tmps).run P w' = .ok (.tuple #[.agg arr, a'.tmps.getD r undef]) w' := by
    unfold results
    rw [hres]
    have htm2 : a'.tmps[z]?.getD undef = .pointer (some ⟨b, 0, none⟩) := by simpa using htm
    simp [htm2, asAddr, loadVar, t1, t2, loadCells, hcells]
   have hagg : FzL (fun b => w.heap.size ≤ b) w' us arr.toList := FzL.mk_get (by simpa using e4) fun k u hk => by
    have hkl : k < us.length := (List.getElem?_eq_some_iff.1 hk).1
    obtain ⟨g1, g2, g3⟩ := retTL_get hRL k u hk
    rw [Nat.zero_add] at g1 g2 g3
    obtain ⟨x, f1, f2⟩ := hG.ent _ g1 g2
    rw [e6 k (by omega)] at f1
    refine ⟨x, by simpa using f1, ?_⟩
    cases hv : s'.get (z + 1000 * (1 + k)) with
    | t g t0 =>
     rw [hv] at f2 g3
     cases g with
     | fr =>
      rw [retTV_t] at g3
      exact Fz.le g3 (Fz.mono (fun b hb => hb.2) (f2 : Fz _ _ _ _))
     | _ => exact g3.elim
    | own m nl cs =>
     rw [hv] at f2 g3
     cases u with
     | s nl' cs' =>
      rw [retTV_o] at g3
      exact own_fz hG (fun _ h => h) f2 g3.1 g3.2.1 g3.2.2
     | _ => exact g3.elim
    | _ => rw [hv] at g3; cases u <;> exact g3.elim
   refine ⟨_, hrun, _, rfl, hO'.grow, ?_, ?_⟩
   ·intro p hp
    simp only [List.mem_cons, List.not_mem_nil, or_false] at hp
    rcases hp with rfl | rfl | rfl <;> exact ⟨by simp, trivial⟩
   ·refine ⟨fun _ => none, ⟨(fun b p h => (by cases h)), hG.low, fun y hl hn => ?_⟩⟩
    have lift : ∀ {t : T} {x : Value}, Fz (fun b => w.heap.size ≤ b) w' t x → Fz (okG w.heap.size (fun _ => none) .fr) w' t x := fun h => Fz.mono (fun b hb => ⟨rfl, hb⟩) h
    rw [get_if] at hn ⊢
    by_cases h0 : 0 = y
    ·rw [if_pos h0]
     subst h0
     exact ⟨.tuple #[.agg arr, a'.tmps.getD r undef], by rw [nmv_slot (by omega)]; rfl, by omega, [.agg arr, a'.tmps.getD r undef], rfl, rfl⟩
    ·rw [if_neg h0, get_if] at hn ⊢
     by_cases h1 : 100000 = y
     ·rw [if_pos h1]
      subst h1
      exact ⟨.agg arr, rfl, lift (by simp only [Fz]; exact ⟨arr.toList, by simp, hagg⟩)⟩
     ·rw [if_neg h1, get_if] at hn ⊢
      by_cases h2 : 101000 = y
      ·rw [if_pos h2]
       subst h2
       exact ⟨a'.tmps.getD r undef, rfl, lift hft⟩
      ·rw [if_neg h2] at hn; cases hn
  | _ => rw [hbx] at hR; exact hR.elim
 cases e with
 | n => exact key hq
 | r => exact key hq
 | x j => exact hq.elim
end
end Go.Vc
namespace Go.Vc
open Go
attribute [go_sem] Bool.not_false Bool.not_true decide_true decide_false Bool.false_and Bool.true_and Bool.and_false Bool.and_true Bool.or_false Bool.or_true Bool.true_or Bool.false_or List.cons_append List.nil_append true_and and_true decide_eq_true_eq decide_eq_false_iff_not Int.toNat_natCast true_implies false_implies Nat.lt_irrefl or_true true_or or_false false_or List.getD_cons_zero List.getD_cons_succ List.length_cons List.length_nil List.any_cons List.any_nil Int.le_refl ne_eq Classical.not_not Int.natCast_inj Bool.not_eq_eq_eq_not
section
variable {t : Nat} {s : St} {k1 k2 : St → Prop} {p1 p2 : Prop} {g : G}
@[go_sem high] theorem guardK_tt : guardK t s true k1 k2 (.t .fr (.b true)) = k1 ((t, .b true) :: s) := by simp [guardK]
@[go_sem high] theorem guardK_tf : guardK t s true k1 k2 (.t .fr (.b false)) = k2 ((t, .b false) :: s) := by simp [guardK]
@[go_sem high] theorem guardK_ft : guardK t s false k1 k2 (.t .fr (.b true)) = k2 ((t, .b true) :: s) := by simp [guardK]
@[go_sem high] theorem guardK_ff : guardK t s false k1 k2 (.t .fr (.b false)) = k1 ((t, .b false) :: s) := by simp [guardK]
@[go_sem high] theorem condK_t1 : condK p1 p2 (.t g (.b true)) = p1 := by simp [condK]
@[go_sem high] theorem condK_f1 : condK p1 p2 (.t g (.b false)) = p2 := by simp [condK]
end
section
variable {P : Program} {κ κ' : V → Prop} {K K' : St → Prop} {s : St}
theorem optK_mono {α : Type} {x : Option α} {k k' : α → Prop} (h : ∀ a, k a → k' a) (hk : optK x k) : optK x k' := by
 cases x with
 | none => exact hk
 | some a => exact h a hk
theorem CallK_mono {f : FuncId} {ts : List T} {k k' : St → Prop} (h : ∀ R, k R → k' R) (hk : CallK P f ts k) : CallK P f ts k' := by
 obtain ⟨R, h1, h2⟩ := hk; exact ⟨R, h1, h R h2⟩
theorem subK_mono {w : W} {l r : Int} (h : ∀ v, κ v → κ' v) (hk : subK w l r κ) : subK w l r κ' := by
 unfold subK at hk ⊢
 split at hk
 ·exact ⟨hk.1, h _ hk.2⟩
 ·exact ⟨hk.1, h _ hk.2⟩
 ·exact hk
theorem binK_mono {o : Bo} {a b : Int} (h : ∀ v, κ v → κ' v) (hk : binK o a b κ) : binK o a b κ' := by
 cases o <;> simp only [binK] at hk ⊢ <;> first | exact h _ hk | exact ⟨hk.1, h _ hk.2⟩ | exact ⟨hk.1, hk.2.1, h _ hk.2.2⟩ | exact ⟨hk.1, hk.2.1, hk.2.2.1, h _ hk.2.2.2⟩
theorem ubK_mono {o : Bo} {k : IntKind} {a b : Int} (h : ∀ v, κ v → κ' v) (hk : ubK o k a b κ) : ubK o k a b κ' := by
 cases o <;> simp only [ubK] at hk ⊢ <;> first | exact hk.elim | exact h _ hk | exact ⟨hk.1, hk.2.1, h _ hk.2.2⟩
theorem nilK_mono {nl : Option Bool} {cs : List T} {k k' : Bool → Prop} (h : ∀ a, k a → k' a) (hk : nilK nl cs k) : nilK nl cs k' := by
 cases nl with
 | none => exact ⟨hk.1, h _ hk.2⟩
 | some n => exact h _ hk
theorem foK_mono {z : Nat} {x y v : V} (h : ∀ v, κ v → κ' v) (hk : foK z κ x y v) : foK z κ' x y v := by
 unfold foK at hk ⊢
 split at hk
 ·exact ⟨hk.1, hk.2.1, h _ hk.2.2⟩
 ·exact ⟨hk.1, hk.2.1, hk.2.2.1, hk.2.2.2.1, h _ hk.2.2.2.2⟩
 ·exact hk.elim
theorem extF_mono {z : Nat} {t : T} {nl : Option Bool} {cs : List T} (h : ∀ v, κ v → κ' v) : ∀ {k : Nat}, extF z t nl cs κ k → extF z t nl cs κ' k
 | 0, hk => ⟨hk.1, h _ hk.2⟩
 | 1, hk => ⟨hk.1, h _ hk.2⟩
 | _ + 2, hk => hk.elim
theorem erI_mono {y j : Nat} {n : Int} {t : T} (h : ∀ v, κ v → κ' v) (hk : erI y j n κ t) : erI y j n κ' t := by
 cases t with
 | s nl row => exact ⟨hk.1, hk.2.1, h _ hk.2.2⟩
 | _ => exact hk.elim
theorem erS_mono {y j m : Nat} {nl : Option Bool} {cs : List T} {r t : T} (h : ∀ s, K s → K' s) (hk : erS s K y j m nl cs r t) : erS s K' y j m nl cs r t := by
 cases t with
 | s nl row => exact ⟨hk.1, h _ hk.2⟩
 | _ => exact hk.elim
theorem stepK_mono {o : O} {ws : List W} (h : ∀ v, κ v → κ' v) (hk : stepK P o ws κ) : stepK P o ws κ' := by
 unfold stepK at hk ⊢
 split at hk
 all_goals first
  | exact h _ hk
  | exact hk.elim
  | exact ⟨hk.1, h _ hk.2⟩
  | exact ⟨hk.1, hk.2.1, h _ hk.2.2⟩
  | exact binK_mono h hk
  | exact ⟨hk.1, ubK_mono h hk.2⟩
  | exact nilK_mono (fun _ => h _) hk
  | exact subK_mono h hk
  | exact optK_mono (fun _ => h _) hk
  | exact CallK_mono (fun _ => h _) hk
  | exact CallK_mono (fun _ => foK_mono h) hk
  | exact extF_mono h hk
  | exact ⟨hk.1, hk.2.1, hk.2.2.1, h _ hk.2.2.2⟩
  | exact ⟨hk.1, hk.2.1, hk.2.2.1, hk.2.2.2.1, h _ hk.2.2.2.2⟩
  | exact ⟨hk.1, hk.2.1, erI_mono h hk.2.2⟩
theorem stK_mono {w v : W} (h : ∀ s, K s → K' s) (hk : stK s K w v) : stK s K' w v := by
 unfold stK at hk ⊢
 split at hk
 all_goals first
  | exact hk.elim
  | exact ⟨hk.1, hk.2.1, h _ hk.2.2⟩
  | exact ⟨hk.1, hk.2.1, hk.2.2.1, h _ hk.2.2.2⟩
  | exact ⟨hk.1, hk.2.1, hk.2.2.1, hk.2.2.2.1, h _ hk.2.2.2.2⟩
  | exact ⟨hk.1, hk.2.1, hk.2.2.1, hk.2.2.2.1, hk.2.2.2.2.1, h _ hk.2.2.2.2.2⟩
  | exact ⟨hk.1, hk.2.1, hk.2.2.1, hk.2.2.2.1, hk.2.2.2.2.1, erS_mono h hk.2.2.2.2.2⟩
theorem tkK_mono {d x : Nat} {v : V} (h : ∀ s, K s → K' s) (hk : tkK d x s K v) : tkK d x s K' v := by
 unfold tkK at hk ⊢
 split at hk
 all_goals first
  | exact ⟨hk.1, hk.2.1, h _ hk.2.2⟩
  | exact ⟨hk.1, hk.2.1, hk.2.2.1, h _ hk.2.2.2⟩
theorem appK_mono {d : Nat} {y : Option Nat} {m : Nat} {nl : Option Bool} {cs : List T} {k : Nat} {w : W} (h : ∀ s, K s → K' s) (hk : appK d s K y m nl cs k w) : appK d s K' y m nl cs k w := by
 unfold appK at hk ⊢
 split at hk
 all_goals first
  | exact hk.elim
  | exact ⟨hk.1, hk.2.1, hk.2.2.1, h _ hk.2.2.2⟩
  | exact ⟨hk.1, hk.2.1, hk.2.2.1, hk.2.2.2.1, h _ hk.2.2.2.2⟩
  | exact ⟨hk.1, hk.2.1, hk.2.2.1, hk.2.2.2.1, hk.2.2.2.2.1, h _ hk.2.2.2.2.2⟩
  | exact ⟨hk.1, hk.2.1, hk.2.2.1, hk.2.2.2.1, hk.2.2.2.2.1, hk.2.2.2.2.2.1, h _ hk.2.2.2.2.2.2⟩
theorem stSK_mono {z y c : Nat} : ∀ {n j : Nat} {s : St}, (∀ s, K s → K' s) → stSK z y c j n s K → stSK z y c j n s K'
 | 0, _, _, h, hk => h _ hk
 | n + 1, j, s, h, hk => by
  rw [stSK_s] at hk ⊢
  unfold st1K at hk ⊢
  split at hk
  ·exact ⟨hk.1, hk.2.1, hk.2.2.1, hk.2.2.2.1, hk.2.2.2.2.1, stSK_mono h hk.2.2.2.2.2⟩
  ·exact ⟨hk.1, hk.2.1, hk.2.2.1, hk.2.2.2.1, stSK_mono h hk.2.2.2.2⟩
  ·exact hk.elim
theorem stFK_mono {g : G} {z : Nat} : ∀ {fs : List T} {j : Nat} {s : St}, (∀ s, K s → K' s) → stFK g z j fs s K → stFK g z j fs s K'
 | [], _, _, h, hk => h _ hk
 | _ :: _, _, _, h, hk => ⟨hk.1, stFK_mono h hk.2⟩
theorem stsK_mono {n : Nat} {w v : W} (h : ∀ s, K s → K' s) (hk : stsK n s K w v) : stsK n s K' w v := by
 unfold stsK at hk ⊢
 split at hk
 ·exact ⟨hk.1, hk.2.1, hk.2.2.1, hk.2.2.2.1, stSK_mono h hk.2.2.2.2⟩
 ·exact ⟨hk.1, hk.2.1, hk.2.2.1, hk.2.2.2.1, hk.2.2.2.2.1, stSK_mono h hk.2.2.2.2.2⟩
 ·exact ⟨hk.1, hk.2.1, hk.2.2.1, hk.2.2.2.1, hk.2.2.2.2.1, stFK_mono h hk.2.2.2.2.2⟩
 ·exact hk.elim
theorem coaK_mono {d : Option Nat} {f i : Nat} {ws : List W} {x : Option W} (h : ∀ s, K s → K' s) (hk : coaK P d f i s K ws x) : coaK P d f i s K' ws x := by
 unfold coaK at hk ⊢
 split at hk
 ·obtain ⟨h1, h2, h3, h4, t, h5, h6⟩ := hk
  exact ⟨h1, h2, h3, h4, t, h5, h _ h6⟩
 ·exact hk.elim
theorem copK_mono {d f i : Nat} {ws : List W} {x : Option W} (h : ∀ s, K s → K' s) (hk : copK P d f i s K ws x) : copK P d f i s K' ws x := by
 unfold copK at hk ⊢
 split at hk
 ·obtain ⟨h1, h2, h3, h4, h5, cs, R, h6, h7, h8⟩ := hk
  exact ⟨h1, h2, h3, h4, h5, cs, R, h6, h7, h _ h8⟩
 ·exact hk.elim
theorem conK_mono {d f : Nat} {ws : List W} (h : ∀ s, K s → K' s) (hk : conK P d f s K ws) : conK P d f s K' ws := by
 obtain ⟨h1, cs, h2, h3, h4, h5⟩ := hk
 exact ⟨h1, cs, h2, h3, h4, h _ h5⟩
theorem boxK_mono {d : Nat} {w : W} (h : ∀ s, K s → K' s) (hk : boxK d s K w) : boxK d s K' w := by
 unfold boxK at hk ⊢
 split at hk
 all_goals first
  | exact hk.elim
  | exact ⟨hk.1, h _ hk.2⟩
  | exact ⟨hk.1, hk.2.1, h _ hk.2.2⟩
  | exact ⟨hk.1, hk.2.1, stSK_mono h hk.2.2⟩
theorem litK_mono {d k : Nat} {ws : List W} (h : ∀ s, K s → K' s) (hk : litK d s K k ws) : litK d s K' k ws := by
 unfold litK at hk ⊢
 split at hk
 ·exact optK_mono (fun _ q => ⟨q.1, h _ q.2⟩) hk
 ·exact ⟨hk.1, hk.2.1, hk.2.2.1, h _ hk.2.2.2⟩
 ·exact optK_mono (fun _ q => ⟨q.1, h _ q.2⟩) hk
 ·exact hk.elim
theorem mkK_mono {d : Nat} {z : T} {w v : W} (h : ∀ s, K s → K' s) (hk : mkK d z s K w v) : mkK d z s K' w v := by
 unfold mkK at hk ⊢
 split at hk
 ·exact ⟨hk.1, hk.2.1, hk.2.2.1, h _ hk.2.2.2⟩
 ·exact hk.elim
theorem coCK_mono {d : Nat} {ws : List W} (h : ∀ s, K s → K' s) (hk : coCK P d s K ws) : coCK P d s K' ws := by
 unfold coCK at hk ⊢
 split at hk
 ·exact CallK_mono (fun _ => h _) hk
 ·exact CallK_mono (fun _ => h _) hk
 ·exact hk.elim
theorem CallXK_mono {f i : Nat} {ts : List T} {k k' : T → Option Bool → List T → Prop} (h : ∀ t nl cs, k t nl cs → k' t nl cs) (hk : CallXK P f i ts k) : CallXK P f i ts k' := by
 obtain ⟨t, nl, cs, h1, h2⟩ := hk; exact ⟨t, nl, cs, h1, h _ _ _ h2⟩
theorem coxK_mono {d : Option Nat} {f i : Nat} {ws : List W} {x : Option W} (h : ∀ s, K s → K' s) (hk : coxK P d f i s K ws x) : coxK P d f i s K' ws x := by
 unfold coxK at hk ⊢
 split at hk
 ·exact ⟨hk.1, hk.2.1, CallXK_mono (fun _ _ _ q => ⟨q.1, h _ q.2⟩) hk.2.2⟩
 ·exact ⟨hk.1, hk.2.1, hk.2.2.1, hk.2.2.2.1, CallXK_mono (fun _ _ _ q => ⟨q.1, h _ q.2⟩) hk.2.2.2.2⟩
 ·exact hk.elim
theorem cocZ_mono {ws : List W} : ∀ {is zs : List Nat} {k k' : List Nat → Prop}, (∀ zs, k zs → k' zs) → cocZ ws is zs k → cocZ ws is zs k'
 | [], zs, k, k', h, hk => h _ hk
 | i :: is, zs, k, k', h, hk => by
  simp only [cocZ] at hk ⊢
  unfold cocW at hk ⊢
  split at hk
  ·exact ⟨hk.1, hk.2.1, cocZ_mono h hk.2.2⟩
  ·exact hk.elim
theorem cocK_mono {d f : Nat} {is : List Nat} {ws : List W} (h : ∀ s, K s → K' s) (hk : cocK P d f is s K ws) : cocK P d f is s K' ws := by
 refine cocZ_mono (fun zs q => ?_) hk
 obtain ⟨h1, R, h2, h3⟩ := q
 exact ⟨h1, R, h2, h _ h3⟩
theorem frzK_mono {y : Nat} {v : V} (h : ∀ s, K s → K' s) (hk : frzK y s K v) : frzK y s K' v := by
 unfold frzK at hk ⊢
 split at hk
 ·exact ⟨hk.1, hk.2.1, h _ hk.2.2⟩
 ·exact hk.elim
theorem tkrK_mono {k : Nat} {v : W} (h : ∀ s, K s → K' s) (hk : tkrK k s K v) : tkrK k s K' v := by
 unfold tkrK at hk ⊢
 split at hk
 ·unfold tkrR at hk ⊢
  split at hk
  ·exact ⟨hk.1, hk.2.1, hk.2.2.1, hk.2.2.2.1, hk.2.2.2.2.1, hk.2.2.2.2.2.1, h _ hk.2.2.2.2.2.2⟩
  ·exact hk.elim
 ·exact ⟨hk.1, hk.2.1, hk.2.2.1, h _ hk.2.2.2⟩
 ·exact ⟨hk.1, hk.2.1, hk.2.2.1, h _ hk.2.2.2⟩
 ·exact hk.elim
theorem onlK_mono {y : Nat} {v : V} (h : ∀ s, K s → K' s) (hk : onlK y s K v) : onlK y s K' v := by
 unfold onlK at hk ⊢
 split at hk
 ·exact ⟨hk.1, h _ hk.2⟩
 ·exact hk.elim
theorem cutK_mono {d : Nat} {w v : W} (h : ∀ s, K s → K' s) (hk : cutK d s K w v) : cutK d s K' w v := by
 unfold cutK at hk ⊢
 split at hk
 ·exact ⟨hk.1, hk.2.1, hk.2.2.1, hk.2.2.2.1, h _ hk.2.2.2.2⟩
 ·exact hk.elim
theorem apzK_mono {d : Nat} {z : T} {w v : W} (h : ∀ s, K s → K' s) (hk : apzK d z s K w v) : apzK d z s K' w v := by
 unfold apzK at hk ⊢
 split at hk
 ·exact ⟨hk.1, hk.2.1, h _ hk.2.2⟩
 ·exact hk.elim
theorem wpI_mono {i : I} (h : ∀ s, K s → K' s) (hk : wpI P i K s) : wpI P i K' s := by
 cases i with
 | v d o xs => exact stepK_mono (fun _ => h _) hk
 | mkn d => exact h _ hk
 | tk d x => exact tkK_mono h hk
 | st p v => exact stK_mono h hk
 | app d x e k => exact optK_mono (fun _ => appK_mono h) hk
 | box d x => exact boxK_mono h hk
 | new d zs => exact h _ hk
 | lit d ps k => exact litK_mono h hk
 | mk d z l c => exact mkK_mono h hk
 | co d f xs => exact CallK_mono (fun _ => h _) hk
 | coC d xs => exact coCK_mono h hk
 | cox d f xs i => exact coxK_mono h hk
 | frz y => exact frzK_mono h hk
 | coc d f xs is => exact cocK_mono h hk
 | cut d x y => exact cutK_mono h hk
 | cpy d p q => exact optK_mono (fun _ => optK_mono fun _ q => ⟨q.1, q.2.1, q.2.2.1, q.2.2.2.1, h _ q.2.2.2.2⟩) hk
 | clr p z => exact optK_mono (fun _ q => ⟨q.1, q.2.1, q.2.2.1, q.2.2.2.1, h _ q.2.2.2.2⟩) hk
 | apz d x n z => exact apzK_mono h hk
 | onl y => exact onlK_mono h hk
 | tkr y => exact tkrK_mono h hk
 | sts p v n => exact stsK_mono h hk
 | coa d f xs i => exact coaK_mono h hk
 | cop d f xs i => exact copK_mono h hk
 | con d f xs => exact conK_mono h hk
theorem wpL_mono : ∀ {r : List (Gd × I)} {K K' : St → Prop} {s : St}, (∀ s, K s → K' s) → wpL P r K s → wpL P r K' s
 | [], K, K', s, h, hk => h s hk
 | (none, i) :: r, K, K', s, h, hk => by
  simp only [wpL] at hk ⊢
  exact wpI_mono (fun s => wpL_mono h) hk
 | (some g, i) :: r, K, K', s, h, hk => by
  simp only [wpL] at hk ⊢
  unfold guardK at hk ⊢
  split at hk
  ·exact ⟨fun e => wpI_mono (fun s => wpL_mono h) (hk.1 e), fun e => wpL_mono h (hk.2 e)⟩
  ·exact wpL_mono h hk
  ·exact hk
theorem lateW_mono {l : List (Gd × I)} (h : ∀ s, K s → K' s) (hk : lateW P l K s) : lateW P l K' s := by
 unfold lateW at hk ⊢
 split at hk
 ·exact h _ hk
 ·exact wpL_mono h hk
 ·exact ⟨wpL_mono h hk.1, wpL_mono h hk.2⟩
 ·exact hk.elim
theorem lateA_mono {e t : List (Gd × I)} {s0 : St} (h : ∀ s, K s → K' s) : ∀ {k : Nat} {f l : List (Gd × I)} {s : St}, lateA P e t K s0 k f l s → lateA P e t K' s0 k f l s
 | 0, f, l, s, hk => by rw [lateA_0] at hk ⊢; exact wpL_mono (fun _ => lateW_mono fun _ => wpL_mono h) hk
 | k + 1, [], l, s, hk => by cases hk
 | k + 1, (g, i) :: f, l, s, hk => by
  cases i with
  | v d o xs => rw [lateA_s] at hk ⊢; exact ⟨lateA_mono h hk.1, lateA_mono h hk.2⟩
  | _ => cases hk
theorem lateC_mono {e t : List (Gd × I)} {s0 : St} (h : ∀ s, K s → K' s) : ∀ {l : List (Gd × I)} {s : St}, lateC P e t K s0 l s → lateC P e t K' s0 l s
 | [], s, hk => wpL_mono (fun _ => wpL_mono h) hk
 | f :: l, s, hk => ⟨wpL_mono (fun _ => wpL_mono fun _ => wpL_mono h) hk.1, lateC_mono h hk.2⟩
theorem heldL_mono {ls : List (Gd × I)} (h : ∀ s, K s → K' s) : ∀ {effs : List (List (Gd × I) × List Nat)} {s : St}, heldL P ls effs K s → heldL P ls effs K' s
 | [], s, hk => h s hk
 | (r, ds) :: effs, s, hk => wpL_mono (fun _ hk => ⟨hk.1, heldL_mono h hk.2⟩) (show wpL P r (fun s' => HeldAll P ls ds s' ∧ heldL P ls effs K s') s from hk)
theorem wpC_mono : ∀ {c : C} {Q Q' : Ex → St → Prop} {s : St}, (∀ e s, Q e s → Q' e s) → wpC P c Q s → wpC P c Q' s := by
 intro c
 induction c with
 | no => intro Q Q' s h hk; exact hk.elim
 | skip => intro Q Q' s h hk; exact h _ _ hk
 | rg n ops => intro Q Q' s h hk; exact ⟨hk.1, wpL_mono (h .n) hk.2⟩
 | rgF n e F ops => intro Q Q' s h hk; exact ⟨hk.1, hk.2.1, wpL_mono (h .n) hk.2.2⟩
 | rgE n k d e t => intro Q Q' s h hk; exact ⟨hk.1, wpL_mono (fun _ => lateA_mono (h .n)) hk.2⟩
 | rgC n k d e t => intro Q Q' s h hk; exact ⟨hk.1, wpL_mono (fun _ => lateC_mono (h .n)) hk.2⟩
 | rgH is es ls effs => intro Q Q' s h hk; exact wpL_mono (fun _ => heldL_mono (h .n)) (show wpL P ls (heldL P ls effs (Q .n)) s from hk)
 | seq a b iha ihb =>
  intro Q Q' s h hk
  refine iha (fun e s q => ?_) hk
  cases e with
  | n => exact ihb h q
  | x j => exact h _ _ q
  | r => exact h _ _ q
 | cond x a b iha ihb =>
  intro Q Q' s h hk
  simp only [wpC] at hk ⊢
  unfold condK at hk ⊢
  split at hk
  ·exact ⟨fun e => iha h (hk.1 e), fun e => ihb h (hk.2 e)⟩
  ·exact hk
 | block id b ih =>
  intro Q Q' s h hk
  refine ih (fun e s q => ?_) hk
  cases e with
  | n => exact h _ _ q
  | x j =>
   simp only [blockK] at q ⊢
   cases hj : j == id <;> rw [hj] at q <;> exact h _ _ q
  | r => exact h _ _ q
 | loop b ih =>
  intro Q Q' s h hk
  obtain ⟨ι, f, μ, hi, hb⟩ := hk
  refine ⟨ι, f, μ, hi, fun i => ih (fun e s q => ?_) (hb i)⟩
  cases e with
  | n => exact q
  | x j => exact h _ _ q
  | r => exact h _ _ q
 | exit id => intro Q Q' s h hk; exact h _ _ hk
 | ret => intro Q Q' s h hk; exact h _ _ hk
 | cl ks c ih => intro Q Q' s h hk; exact ih h hk
theorem rowL_rr_eq {xs : List (List Int)} : rowL (rr xs) := by
 intro t ht
 obtain ⟨r, _, rfl⟩ := List.mem_map.1 ht
 show scalL (ii r)
 rw [scalL_ii]; trivial
@[go_sem] theorem rowL_rr {xs : List (List Int)} : rowL (rr xs) = True := eq_true rowL_rr_eq
def roundN (f : Nat → St) (I : Nat → Prop) (n j : Nat) (Q : Ex → St → Prop) : Ex → St → Prop
 | .n, s => j < n ∧ I (j + 1) ∧ s.le (f (j + 1))
 | .x k, s => Q (.x k) s
 | .r, s => Q .r s
section
variable {f : Nat → St} {I : Nat → Prop} {n j k : Nat} {Q : Ex → St → Prop} {s s' : St}
@[go_sem] theorem roundN_n : roundN f I n j Q .n s = (j < n ∧ I (j + 1) ∧ s.le (f (j + 1))) := _root_.id rfl
@[go_sem] theorem roundN_x : roundN f I n j Q (.x k) s = Q (.x k) s := _root_.id rfl
@[go_sem] theorem roundN_r : roundN f I n j Q .r s = Q .r s := _root_.id rfl
@[congr] theorem roundN_congr {e : Ex} (h : s = s') : roundN f I n j Q e s = roundN f I n j Q e s' := by rw [h]
theorem loopN {b : C} (n : Nat) (f : Nat → St) (I : Nat → Prop) (h0 : I 0 ∧ s.le (f 0)) (h : ∀ j, j ≤ n → I j → wpC P b (roundN f I n j Q) (f j)) : LoopK (wpC P b) Q s := by
 refine ⟨{j : Nat // j ≤ n ∧ I j}, fun i => f i.1, fun i => n - i.1, ⟨⟨0, by omega, h0.1⟩, h0.2⟩, fun i => wpC_mono (fun e s q => ?_) (h i.1 i.2.1 i.2.2)⟩
 cases e with
 | n => exact ⟨⟨i.1 + 1, by have := q.1; omega, q.2.1⟩, by have := q.1; simp only; omega, q.2.2⟩
 | x k => exact q
 | r => exact q
theorem loopG {b : C} {ι : Type} (f : ι → St) (μ : ι → Nat) (i0 : ι) (h0 : s.le (f i0)) (h : ∀ i, wpC P b (roundK f μ i Q) (f i)) : LoopK (wpC P b) Q s := ⟨ι, f, μ, ⟨i0, h0⟩, h⟩
end
end
section
variable {nl : Option Bool}
theorem leL_map {α : Type} {f g : α → T} (hf : ∀ a b, T.le (f a) (g b) ↔ a = b) : ∀ {xs ys : List α}, T.leL (xs.map f) (ys.map g) ↔ xs = ys
 | [], [] => by simp [T.leL]
 | [], y :: ys => by simp [T.leL]
 | x :: xs, [] => by simp [T.leL]
 | x :: xs, y :: ys => by simp [T.leL, hf, leL_map hf]
theorem le_row {nl : Option Bool} {r q : List Int} : T.le (.s nl (ii r)) (.s none (ii q)) ↔ r = q := by simp [T.le, leL_ii]
theorem leL_rr_set_eq : ∀ {xs ys : List (List Int)} {j : Nat} {r : List Int}, T.leL ((rr xs).set j (.s nl (ii r))) (rr ys) ↔ xs.set j r = ys
 | [], ys, j, r => by cases ys <;> simp [rr, T.leL]
 | x :: xs, [], 0, r => by simp [rr, T.leL]
 | x :: xs, [], j + 1, r => by simp [rr, T.leL]
 | x :: xs, y :: ys, 0, r => by
  have h : T.leL (rr xs) (rr ys) ↔ xs = ys := by rw [leL_rr]
  simp only [rr] at h
  simp only [rr, List.map_cons, List.set_cons_zero, T.leL, le_row, h, List.cons.injEq]
 | x :: xs, y :: ys, j + 1, r => by
  have h := leL_rr_set_eq (xs := xs) (ys := ys) (j := j) (r := r)
  simp only [rr] at h
  simp only [rr, List.map_cons, List.set_cons_succ, T.leL, le_row, h, List.cons.injEq]
@[go_sem high] theorem leL_rr_set1 {xs ys : List (List Int)} {j : Nat} {r : List Int} : T.leL ((rr xs).set j (.s nl (ii r))) (rr ys) = (xs.set j r = ys) := propext leL_rr_set_eq
theorem leL_rr_app_eq : ∀ {xs ys : List (List Int)} {r : List Int}, T.leL (rr xs ++ [.s nl (ii r)]) (rr ys) ↔ xs ++ [r] = ys
 | [], [], r => by simp [rr, T.leL]
 | [], [y], r => by simp [rr, T.leL, le_row]
 | [], y :: z :: ys, r => by simp [rr, T.leL]
 | x :: xs, [], r => by simp [rr, T.leL]
 | x :: xs, y :: ys, r => by
  have h := leL_rr_app_eq (xs := xs) (ys := ys) (r := r)
  simp only [rr] at h
  simp only [rr, List.map_cons, List.cons_append, T.leL, le_row, h, List.cons.injEq]
@[go_sem high] theorem leL_rr_app1 {xs ys : List (List Int)} {r : List Int} : T.leL (rr xs ++ [.s nl (ii r)]) (rr ys) = (xs ++ [r] = ys) := propext leL_rr_app_eq
theorem leL_rr_rep_eq : ∀ {n : Nat} {ys : List (List Int)}, T.leL (List.replicate n (.s nl [])) (rr ys) ↔ List.replicate n [] = ys
 | 0, [] => by simp [rr, T.leL]
 | 0, y :: ys => by simp [rr, T.leL]
 | n + 1, [] => by simp [rr, T.leL, List.replicate_succ]
 | n + 1, y :: ys => by
  have h := leL_rr_rep_eq (n := n) (ys := ys)
  simp only [rr] at h
  have h1 : T.le (.s nl []) (.s none (ii y)) ↔ [] = y := le_row (r := [])
  simp only [rr, List.map_cons, List.replicate_succ, T.leL, h1, h, List.cons.injEq]
@[go_sem high] theorem leL_rr_rep1 {n : Nat} {ys : List (List Int)} : T.leL (List.replicate n (.s nl [])) (rr ys) = (List.replicate n [] = ys) := propext leL_rr_rep_eq
@[go_sem high] theorem leL_rr_nil {ys : List (List Int)} : T.leL [] (rr ys) = (ys = []) := by cases ys <;> simp [rr, T.leL]
@[go_sem high] theorem leL_ii_nil {ys : List Int} : T.leL [] (ii ys) = (ys = []) := by cases ys <;> simp [ii, T.leL]
@[go_sem high] theorem leL_bb_nil {ys : List Bool} : T.leL [] (bb ys) = (ys = []) := by cases ys <;> simp [bb, T.leL]
@[go_sem high] theorem leL_ii_cons {x y : Int} {cs : List T} {ys : List Int} : T.leL (.i x :: cs) (ii (y :: ys)) = (x = y ∧ T.leL cs (ii ys)) := by simp [ii, T.leL, T.le]
@[go_sem high] theorem leL_rr_cons {x y : List Int} {cs : List T} {ys : List (List Int)} : T.leL (.s nl (ii x) :: cs) (rr (y :: ys)) = (x = y ∧ T.leL cs (rr ys)) := by
 simp only [rr, List.map_cons, T.leL, le_row]
def hols (k : Nat) (A : List (List Int)) : List T := (List.range A.length).map fun i => if i < k then .any else .s none (ii (A.getD i []))
@[go_sem] theorem hols_len {k : Nat} {A : List (List Int)} : (hols k A).length = A.length := by simp [hols]
theorem hols_at {k i : Nat} {A : List (List Int)} (h : i < A.length) : (hols k A).getD i .any = if i < k then .any else .s none (ii (A.getD i [])) := by
 simp [hols, List.getD, h]
@[go_sem] theorem hols_get {k : Nat} {A : List (List Int)} (h : k < A.length) : (hols k A).getD k .any = .s none (ii (A.getD k [])) := by rw [hols_at h, if_neg (by omega)]
theorem hols_0 {A : List (List Int)} : hols 0 A = rr A := by
 apply List.ext_getElem
 ·simp [hols, rr]
 ·intro i h1 h2
  have hi : i < A.length := by simpa [hols] using h1
  simp [hols, rr, hi]
theorem leL_of {cs cs' : List T} (hl : cs.length = cs'.length) (h : ∀ i, i < cs.length → T.le (cs.getD i .any) (cs'.getD i .any)) : T.leL cs cs' := by
 induction cs generalizing cs' with
 | nil => cases cs' with
  | nil => simp [T.leL]
  | cons t ts => simp at hl
 | cons t ts ih =>
  cases cs' with
  | nil => simp at hl
  | cons t' ts' =>
   simp only [T.leL]
   refine ⟨by simpa using h 0 (by simp), ih (by simpa using hl) fun i hi => ?_⟩
   simpa using h (i + 1) (by simpa using hi)
theorem le_any' {t : T} : T.le t .any := by simp [T.le]
@[go_sem] theorem leL_rr_hols {A : List (List Int)} : T.leL (rr A) (hols 0 A) = True := eq_true (by rw [hols_0, leL_rr])
@[go_sem] theorem leL_hols_set {k : Nat} {A : List (List Int)} : T.leL ((hols k A).set k .any) (hols (k + 1) A) = True := eq_true (by
 refine leL_of (by simp [hols]) fun i hi => ?_
 have hi : i < A.length := by simpa [hols] using hi
 rw [hols_at hi]
 by_cases h1 : i < k + 1
 ·rw [if_pos h1]; exact le_any'
 ·rw [if_neg h1, List.getD, List.getElem?_set_ne (by omega)]
  have := hols_at (k := k) hi
  rw [List.getD] at this
  rw [this, if_neg (by omega)]; exact T.le_refl _)
@[go_sem] theorem leL_hols_up {k : Nat} {A : List (List Int)} : T.leL (hols k A) (hols (k + 1) A) = True := eq_true (by
 refine leL_of (by simp [hols]) fun i hi => ?_
 have hi : i < A.length := by simpa [hols] using hi
 rw [hols_at hi, hols_at hi]
 by_cases h1 : i < k + 1
 ·rw [if_pos h1]; exact le_any'
 ·rw [if_neg h1, if_neg (by omega)]; exact T.le_refl _)
@[go_sem] theorem holL_hols {k : Nat} {A : List (List Int)} : holL (hols k A) = True := eq_true (by
 intro t ht
 simp only [hols, List.mem_map, List.mem_range] at ht
 obtain ⟨i, _, rfl⟩ := ht
 split
 ·exact .inl rfl
 ·refine .inr ?_
  intro t ht
  simp only [ii, List.mem_map] at ht
  obtain ⟨n, _, rfl⟩ := ht
  trivial)
@[go_sem] theorem holL_rr {A : List (List Int)} : holL (rr A) = True := eq_true (by rw [← hols_0, holL_hols]; trivial)
end
end Go.Vc
namespace Go.Vc
open Go Go.ChangeShapes Go.WideShapes Go.RowKit Go.Deep
section
variable {H : Type} {enc : TypeId × Value → H} {P : Program} {W W' : World}
theorem wf_inR {n : Int} (h : (Lit.int .i64 n).wf = true) : inR n := by
 simp only [Lit.wf, Bool.and_eq_true, decide_eq_true_eq] at h
 have h1 : IntKind.i64.min = -9223372036854775808 := by decide
 have h2 : IntKind.i64.max = 9223372036854775807 := by decide
 rw [h1, h2] at h; exact h
theorem fz_int {t : TypeId} {b0 : Nat} {v : Value} {d : DataW H} {ps : List MemPlace} (ht : P.underlying t = some (.int .i64)) (hval : Value.okWide P W .any b0 t v) (hd : DataW.Trod enc P W 0 (fun _ => true) true t v d ps) :
  ∃ n : Int, inR n ∧ Fz (fun _ => True) W (.i n) v := by
 obtain ⟨n, rfl, _, _, hw⟩ := open_int ht hval hd
 exact ⟨n, wf_inR hw, by simp only [Fz]; exact ⟨trivial, wf_inR hw⟩⟩
theorem fzL_ii {ok : Nat → Prop} : ∀ {xs : List Int}, (∀ n ∈ xs, inR n) → FzL ok W (ii xs) (xs.map fun n => Value.int .i64 n)
 | [], _ => by simp [ii, FzL]
 | x :: xs, h => by
  have := fzL_ii (ok := ok) (xs := xs) fun n hn => h n (by simp [hn])
  simp only [ii, List.map_cons, FzL] at this ⊢
  exact ⟨_, _, rfl, by simp only [Fz]; exact ⟨trivial, h x (by simp)⟩, this⟩
theorem fz_row {ok : Nat → Prop} {a : Addr} {len cap : Nat} {zs : List Int} (hl : len ≤ cap) (hm : cap ≤ maxLen) (hz : len ≤ zs.length) (hok : ok a.block) (hw : ∀ n ∈ zs, (Lit.int .i64 n).wf = true)
  (hc : ∀ i, i < len → W.cell? (a.add i) = some (.int .i64 (zs.getD i 0))) : Fz ok W (.s none (ii (zs.take len))) (.slice (some a) len cap) := by
 have hlen : (zs.take len).length = len := by rw [List.length_take]; omega
 simp only [Fz]
 right
 refine ⟨by simp, a.block, a.off, a.spot, cap, (zs.take len).map fun n => Value.int .i64 n, by rw [ii_len, hlen], by rw [ii_len, hlen]; exact hl, hm, fun hne => ⟨hok, ?_⟩, fzL_ii fun n hn => wf_inR (hw n (List.mem_of_mem_take hn)), fun k x hk => ?_⟩
 ·have h0 : 0 < len := by
   rcases Nat.eq_zero_or_pos len with h | h
   ·exfalso; apply hne; rw [h]; rfl
   ·exact h
  have := hc 0 h0
  rw [show a.add 0 = a from rfl] at this
  cases hs : a.spot with
  | none => rfl
  | some s =>
   unfold World.cell? at this
   rw [hs] at this
   split at this <;> simp at this
 ·rw [List.getElem?_map] at hk
  have hk' : k < len := by
   have : k < (zs.take len).length := by
    cases e : (zs.take len)[k]? with
    | none => rw [e] at hk; cases hk
    | some _ => exact (List.getElem?_eq_some_iff.1 e).1
   omega
  have h1 := hc k hk'
  have h2 : (zs.take len)[k]? = some (zs.getD k 0) := by
   rw [List.getElem?_take, if_pos hk', List.getD, List.getElem?_eq_getElem (by omega)]; rfl
  rw [h2] at hk
  simp only [Option.map_some, Option.some.injEq] at hk
  rw [← hk, ← h1]
  have h0 : a.spot = none := by
   cases hs : a.spot with
   | none => rfl
   | some s =>
    have := hc 0 (by omega)
    rw [show a.add 0 = a from rfl] at this
    unfold World.cell? at this
    rw [hs] at this
    split at this <;> simp at this
  congr 1
  unfold Addr.add
  split
  ·rename_i h; subst h; cases a; simp at h0 ⊢; exact h0.symm
  ·rfl
theorem cells_slice {a0 : Option Addr} {len cap : Nat} : (Value.slice a0 len cap).cells.toList = [.slice a0 len cap] := rfl
theorem fz_ints {t e : TypeId} {b0 : Nat} {v : Value} {d : DataW H} {ps : List MemPlace} (ht : P.underlying t = some (.slice e)) (he : P.underlying e = some (.int .i64)) (hc : P.cellsOf e = 1)
  (hval : Value.okWide P W .any b0 t v) (hd : DataW.Trod enc P W 0 (fun _ => true) true t v d ps) : ∃ xs : List Int, xs.length ≤ maxLen ∧ Fz (fun _ => True) W (.s none (ii xs)) v := by
 obtain ⟨a0, len, cap, rfl⟩ := okWide_slice ht hval
 obtain ⟨fuel, hf⟩ := hd
 rw [cells_slice] at hf
 rcases open_ints ht he hc hf with ⟨e1, _⟩ | ⟨a, len', cap', zs, e1, _, hl, hm, hz, _, hcell, hw⟩
 ·cases e1
  exact ⟨[], by simp, by simp [Fz, ii]⟩
 ·cases e1
  simp only [if_true] at hz
  refine ⟨zs.take len, by rw [List.length_take]; omega, fz_row hl hm (by omega) trivial hw fun i hi => hcell i (by omega)⟩
theorem fzL_rr {ok : Nat → Prop} : ∀ {xs : List (List Int)} {vs : List Value}, xs.length = vs.length → (∀ (j : Nat) (r : List Int) (v : Value), xs[j]? = some r → vs[j]? = some v → Fz ok W (.s none (ii r)) v) → FzL ok W (rr xs) vs
 | [], [], _, _ => by simp [rr, FzL]
 | x :: xs, v :: vs, hl, h => by
  have := fzL_rr (ok := ok) (xs := xs) (vs := vs) (by simpa using hl) fun j r v h1 h2 => h (j + 1) r v (by simpa using h1) (by simpa using h2)
  simp only [rr, List.map_cons, FzL] at this ⊢
  exact ⟨_, _, rfl, h 0 x v rfl rfl, this⟩
 | [], v :: vs, hl, _ => by simp at hl
 | x :: xs, [], hl, _ => by simp at hl
theorem fz_rows_cells {t e q : TypeId} {fuel : Nat} {v : Value} {x : DataW H × List MemPlace} (ht : P.underlying t = some (.slice e)) (he : P.underlying e = some (.slice q)) (hq : P.underlying q = some (.int .i64)) (ce : P.cellsOf e = 1) (cq : P.cellsOf q = 1)
  (hf : DataW.trod enc P W 0 (fun _ => true) true fuel t [v] = some x) : ∃ xs : List (List Int), xs.length ≤ maxLen ∧ (∀ r ∈ xs, r.length ≤ maxLen) ∧ Fz (fun _ => True) W (.s none (rr xs)) v := by
 rcases open_int_rows ht he hq ce cq hf with ⟨e1, _⟩ | ⟨a, len, cap, A, L, C, Z, e1, _, hl, hm, _, hrows⟩
 ·cases e1
  exact ⟨[], by simp, by simp, by simp [Fz, rr]⟩
 ·cases e1
  have hrl : ∀ j r, ((List.range len).map fun j => (Z j).take (L j))[j]? = some r → j < len ∧ r = (Z j).take (L j) := by
   intro j r h
   rw [List.getElem?_map] at h
   cases e : (List.range len)[j]? with
   | none => rw [e] at h; cases h
   | some k =>
    have hj : j < len := by have := (List.getElem?_eq_some_iff.1 e).1; simpa using this
    rw [List.getElem?_range hj] at e; cases e
    rw [List.getElem?_range hj] at h
    simp only [Option.map_some, Option.some.injEq] at h
    exact ⟨hj, h.symm⟩
  have h0 : 0 < len → a.spot = none := fun h0 => by
   cases hs : a.spot with
   | none => rfl
   | some s =>
    have := (hrows 0 (by omega)).1
    rw [show a.add 0 = a from rfl] at this
    unfold World.cell? at this
    rw [hs] at this
    split at this <;> simp at this
  refine ⟨(List.range len).map fun j => (Z j).take (L j), by simp; omega, fun r hr => ?_, ?_⟩
  ·obtain ⟨j, hj, rfl⟩ := List.mem_map.1 hr
   have hj : j < len := by simpa using hj
   obtain ⟨_, h1, h2, h3, _⟩ := hrows j (by omega)
   rw [List.length_take]; omega
  ·simp only [Fz]
   right
   refine ⟨by simp, a.block, a.off, a.spot, cap, (List.range len).map fun j => Value.slice (A j) (L j) (C j), by simp [rr_len], by simpa [rr_len] using hl, hm, fun hne => ⟨trivial, ?_⟩, fzL_rr (by simp) fun j r v h1 h2 => ?_, fun k y hk => ?_⟩
   ·apply h0
    rcases Nat.eq_zero_or_pos len with h | h
    ·exfalso; apply hne; rw [h]; rfl
    ·exact h
   ·obtain ⟨hj, rfl⟩ := hrl j r h1
    rw [List.getElem?_map, List.getElem?_range hj] at h2
    simp only [Option.map_some, Option.some.injEq] at h2
    subst h2
    obtain ⟨_, h3, h4, h5, h6, h7, h8⟩ := hrows j (by omega)
    cases hA : A j with
    | none =>
     have := h7 hA
     have hL : L j = 0 := by omega
     simp only [Fz]; left
     rw [hL, this]; simp [ii]
    | some a' => exact fz_row h3 h4 (by omega) trivial h6 fun i hi => (h8 a' hA).2 i (by omega)
   ·rw [List.getElem?_map] at hk
    cases e : (List.range len)[k]? with
    | none => rw [e] at hk; cases hk
    | some k' =>
     have hj : k < len := by have := (List.getElem?_eq_some_iff.1 e).1; simpa using this
     rw [List.getElem?_range hj] at hk
     simp only [Option.map_some, Option.some.injEq] at hk
     rw [← hk, ← (hrows k (by omega)).1]
     congr 1
     have hs := h0 (by omega)
     unfold Addr.add
     split
     ·rename_i h; subst h; cases a; simp at hs ⊢; exact hs.symm
     ·rfl
theorem fz_rows {t e q : TypeId} {b0 : Nat} {v : Value} {d : DataW H} {ps : List MemPlace} (ht : P.underlying t = some (.slice e)) (he : P.underlying e = some (.slice q)) (hq : P.underlying q = some (.int .i64)) (ce : P.cellsOf e = 1) (cq : P.cellsOf q = 1)
  (hval : Value.okWide P W .any b0 t v) (hd : DataW.Trod enc P W 0 (fun _ => true) true t v d ps) : ∃ xs : List (List Int), xs.length ≤ maxLen ∧ (∀ r ∈ xs, r.length ≤ maxLen) ∧ Fz (fun _ => True) W (.s none (rr xs)) v := by
 obtain ⟨a0, len, cap, rfl⟩ := okWide_slice ht hval
 obtain ⟨fuel, hf⟩ := hd
 rw [cells_slice] at hf
 exact fz_rows_cells ht he hq ce cq hf
theorem fz_ints_cells {t e : TypeId} {fuel : Nat} {v : Value} {x : DataW H × List MemPlace} (ht : P.underlying t = some (.slice e)) (he : P.underlying e = some (.int .i64)) (hc : P.cellsOf e = 1)
  (hf : DataW.trod enc P W 0 (fun _ => true) true fuel t [v] = some x) : ∃ xs : List Int, xs.length ≤ maxLen ∧ Fz (fun _ => True) W (.s none (ii xs)) v := by
 rcases open_ints ht he hc hf with ⟨e1, _⟩ | ⟨a, len', cap', zs, e1, _, hl, hm, hz, _, hcell, hw⟩
 ·cases e1
  exact ⟨[], by simp, by simp [Fz, ii]⟩
 ·cases e1
  simp only [if_true] at hz
  exact ⟨zs.take len', by rw [List.length_take]; omega, fz_row hl hm (by omega) trivial hw fun i hi => hcell i (by omega)⟩
theorem fz_rows2 {t e q : TypeId} {f0 f1 : Field} {b0 : Nat} {v : Value} {d : DataW H} {ps : List MemPlace} (ht : P.underlying t = some (.struct #[f0, f1])) (ct : P.cellsOf t = 2) (o0 : f0.offset = 0) (o1 : f1.offset = 1) (c0 : P.cellsOf f0.type = 1) (c1 : P.cellsOf f1.type = 1)
  (h0 : P.underlying f0.type = some (.slice e)) (h1 : P.underlying f1.type = some (.slice e)) (he : P.underlying e = some (.slice q)) (hq : P.underlying q = some (.int .i64)) (ce : P.cellsOf e = 1) (cq : P.cellsOf q = 1)
  (hval : Value.okWide P W .any b0 t v) (hd : DataW.Trod enc P W 0 (fun _ => true) true t v d ps) : ∃ xs ys : List (List Int), xs.length ≤ maxLen ∧ (∀ r ∈ xs, r.length ≤ maxLen) ∧ ys.length ≤ maxLen ∧ (∀ r ∈ ys, r.length ≤ maxLen) ∧
   Fz (fun _ => True) W (.a [.s none (rr xs), .s none (rr ys)]) v := by
 obtain ⟨cs, rfl, hsz⟩ := okWide_struct ht hval
 obtain ⟨fuel, hf⟩ := hd
 have hcl : cs.toList.length = 2 := by simpa [ct] using hsz
 have hcs : (Value.agg cs).cells.toList = cs.toList := rfl
 rw [hcs] at hf
 obtain ⟨_, _, n, _, _, g0, g1⟩ := trod_struct2 ht hf
 match hl : cs.toList, hcl with
 | [u0, u1], _ =>
  rw [hl, o0, c0] at g0
  rw [hl, o1, c1] at g1
  obtain ⟨xs, a1, a2, a3⟩ := fz_rows_cells h0 he hq ce cq g0
  obtain ⟨ys, b1, b2, b3⟩ := fz_rows_cells h1 he hq ce cq g1
  refine ⟨xs, ys, a1, a2, b1, b2, ?_⟩
  simp only [Fz]
  refine ⟨[u0, u1], by rw [← hl], ?_⟩
  simp only [FzL]
  exact ⟨u0, [u1], rfl, a3, u1, [], rfl, b3, rfl⟩
theorem fz_rows3 {t e q e' : TypeId} {f0 f1 f2 : Field} {b0 : Nat} {v : Value} {d : DataW H} {ps : List MemPlace} (ht : P.underlying t = some (.struct #[f0, f1, f2])) (ct : P.cellsOf t = 3) (o0 : f0.offset = 0) (o1 : f1.offset = 1) (o2 : f2.offset = 2) (c0 : P.cellsOf f0.type = 1) (c1 : P.cellsOf f1.type = 1) (c2 : P.cellsOf f2.type = 1)
  (h0 : P.underlying f0.type = some (.slice e)) (h1 : P.underlying f1.type = some (.slice e)) (h2 : P.underlying f2.type = some (.slice e')) (he : P.underlying e = some (.slice q)) (hq : P.underlying q = some (.int .i64)) (he' : P.underlying e' = some (.int .i64)) (ce : P.cellsOf e = 1) (cq : P.cellsOf q = 1) (ce' : P.cellsOf e' = 1)
  (hval : Value.okWide P W .any b0 t v) (hd : DataW.Trod enc P W 0 (fun _ => true) true t v d ps) : ∃ (xs ys : List (List Int)) (zs : List Int), xs.length ≤ maxLen ∧ (∀ r ∈ xs, r.length ≤ maxLen) ∧ ys.length ≤ maxLen ∧ (∀ r ∈ ys, r.length ≤ maxLen) ∧ zs.length ≤ maxLen ∧
   Fz (fun _ => True) W (.a [.s none (rr xs), .s none (rr ys), .s none (ii zs)]) v := by
 obtain ⟨cs, rfl, hsz⟩ := okWide_struct ht hval
 obtain ⟨fuel, hf⟩ := hd
 have hcl : cs.toList.length = 3 := by simpa [ct] using hsz
 have hcs : (Value.agg cs).cells.toList = cs.toList := rfl
 rw [hcs] at hf
 obtain ⟨_, _, _, n, _, _, g0, g1, g2⟩ := trod_struct3 ht hf
 match hl : cs.toList, hcl with
 | [u0, u1, u2], _ =>
  rw [hl, o0, c0] at g0
  rw [hl, o1, c1] at g1
  rw [hl, o2, c2] at g2
  obtain ⟨xs, a1, a2, a3⟩ := fz_rows_cells h0 he hq ce cq g0
  obtain ⟨ys, b1, b2, b3⟩ := fz_rows_cells h1 he hq ce cq g1
  obtain ⟨zs, d1, d2⟩ := fz_ints_cells h2 he' ce' g2
  refine ⟨xs, ys, zs, a1, a2, b1, b2, d1, ?_⟩
  simp only [Fz]
  refine ⟨[u0, u1, u2], by rw [← hl], ?_⟩
  simp only [FzL]
  exact ⟨u0, [u1, u2], rfl, a3, u1, [u2], rfl, b3, u2, [], rfl, d2, rfl⟩
theorem trodAll_stays (hl : laidOutB P = true) (hs : W.Since W.heap.size W') : ∀ {ts : List TypeId} {vs : List Value} {ds : List (DataW H)} {ps : List MemPlace}, (∀ t ∈ ts, P.readableRec t = true ∧ t < P.types.size) → (∀ p ∈ ps, p.block < W.heap.size) →
  DataW.TrodAll enc P W 0 (fun _ => true) true ts vs ds ps → DataW.TrodAll enc P W' 0 (fun b => decide (b < W.heap.size)) true ts vs ds ps
 | [], [], [], ps, _, _, h => h
 | t :: ts, vs, ds, ps, ht, hp, h => by
  obtain ⟨v, vs', d, ds', p, q, rfl, rfl, rfl, h1, h2⟩ := trodAll_cons h
  refine ⟨p, q, WideElems.Trod_stays hl (ht t (by simp)).1 (ht t (by simp)).2 h1 (fun x hx => hs.sameAt (hp x (by simp [hx]))) (fun x hx => by simpa using hp x (by simp [hx])), trodAll_stays hl hs (fun t h => ht t (by simp [h])) (fun x hx => hp x (by simp [hx])) h2, rfl⟩
 | [], _ :: _, _, _, _, _, h => by simp [DataW.TrodAll] at h
 | [], [], _ :: _, _, _, _, h => by simp [DataW.TrodAll] at h
theorem trodAll_len : ∀ {ts : List TypeId} {vs : List Value} {ds : List (DataW H)} {ps : List MemPlace} {sp : Nat → Bool} {hd : Bool}, DataW.TrodAll enc P W 0 sp hd ts vs ds ps → ds.length = ts.length
 | [], [], [], ps, _, _, h => rfl
 | t :: ts, vs, ds, ps, _, _, h => by
  obtain ⟨v, vs', d, ds', p, q, rfl, rfl, rfl, h1, h2⟩ := trodAll_cons h
  simp [trodAll_len h2]
 | [], _ :: _, _, _, _, _, h => by simp [DataW.TrodAll] at h
 | [], [], _ :: _, _, _, _, h => by simp [DataW.TrodAll] at h
theorem law_post {f : FuncId} {fn : Func} {s : ChangeSpec} {tb : TypeId} (hl : laidOutB P = true) (hr : ∀ t ∈ fn.params.toList, P.readableRec t = true ∧ t < P.types.size) (hres : fn.resultTypes = #[tb]) (htb : P.underlying tb = some .bool)
  (hv : s.vars = []) (hs : ∀ ds : List (DataW H), ds.length = fn.params.size → s.fn H ds = { results := [.lit (.bool true)], args := ds })
  {args : Array Value} {ds gs : List (DataW H)} {before : List MemPlace} (hW : DataW.Whole enc P fn.params.toList s.vars false W args.toList ds gs before) {ts : List T} (hf : FzL (fun _ => True) W ts args.toList) (hc : CallOk P f ts [(0, .b true)]) :
  Calls P f args W fun e W' => ∃ v, e = .returned v ∧ s.post enc P fn false true false false W args v W' := by
 have hW' := hW
 obtain ⟨p, q, hA, hV, rfl, hz, hn⟩ := hW
 rw [hv] at hV
 have hgs : gs = [] ∧ q = [] := by cases gs <;> simp [DataW.TrodVars] at hV; exact ⟨rfl, hV⟩
 obtain ⟨rfl, rfl⟩ := hgs
 have hcalls := hc.2 W args.toList hf
 rw [Array.toArray_toList] at hcalls
 refine hcalls.mono ?_
 rintro e W' ⟨u, rfl, hg, _, ow, hG⟩
 obtain ⟨u', e1, e2⟩ := hG.ent 0 (lv_iff.2 (.inl (by omega))) rfl
 rw [nmv_slot (by omega)] at e1
 have e1 : u = u' := by simpa using e1
 subst e1
 have e2 : u = .bool true := by
  have : Fz (okG W.heap.size ow .fr) W' (.b true) u := e2
  simpa [Fz] using this
 subst e2
 have hsn : W.Since W.heap.size W' := ⟨hg.os, hg.tape, hg.output, hg.size, fun k hk => hg.block k hk (fun h => h)⟩
 have hlen := trodAll_len hA
 have hfn := hs ds (by simpa using hlen)
 refine ⟨_, rfl, ds, [], p ++ [], [], p, [], hW', ?_, ?_, ?_, hsn.frame _, fun h => by cases h⟩
 ·rw [hres, List.append_nil, hfn]
  exact ⟨[], [], ⟨1, by simp [DataW.trod, htb, Value.cells]⟩, rfl, rfl⟩
 ·rw [List.append_nil, hfn]
  exact trodAll_stays hl hsn hr (fun x hx => hW'.lt x (by simp [hx])) hA
 ·rw [List.append_nil, hfn, hv]; rfl
end
section
variable {P : Program} {f : FuncId} {fn : Func} {s : ChangeSpec} {c : OpenClaim} {r : List (List Char)}
theorem make_of (h : behindMainWord (wordsSigns P.initOrder.toList) = "cut".toList :: r) : P.make = some .cut := by
 unfold Program.make
 rw [h]
 kernel_rfl
theorem strip_cut : stripLifts liftWords ("cut".toList :: r) = ([], "cut".toList :: r) := by kernel_rfl
theorem mayEnter_of (h : behindMainWord (wordsSigns P.initOrder.toList) = "cut".toList :: r) (h1 : P.laysLater = false) (h2 : P.bearsReflect = false) (h3 : P.doorFits [] = true) : P.mayEnter = true := by
 unfold Program.mayEnter
 rw [h]
 simp only [strip_cut, h1, h2, h3]
 simp
theorem liftsFinal_of (h : behindMainWord (wordsSigns P.initOrder.toList) = "cut".toList :: r) : P.liftsFinal = false := by
 unfold Program.liftsFinal Program.headLifts
 rw [h]
 simp only [strip_cut]
 kernel_rfl
theorem head_of (h : (behindMainWord (wordsSigns P.initOrder.toList)).head? = some "cut".toList) : ∃ r, behindMainWord (wordsSigns P.initOrder.toList) = "cut".toList :: r := by
 cases e : behindMainWord (wordsSigns P.initOrder.toList) with
 | nil => rw [e] at h; cases h
 | cons c r => rw [e] at h; simp only [List.head?_cons, Option.some.injEq] at h; exact ⟨r, by rw [h]⟩
structure PFacts (P : Program) : Prop where
 head : (behindMainWord (wordsSigns P.initOrder.toList)).head? = some "cut".toList
 later : P.laysLater = false
 refl : P.bearsReflect = false
 door : P.doorFits [] = true
 laid : laidOutB P = true
 mapsR : mapsRowed P = true
 stops : (P.stops == []) = true
 knobs : (P.stopKnobs == []) = true
 plain : P.plainKeys = true
 heard : P.stopsHeard = true
theorem joined_of (p : PFacts P) (hlift : c.lifted = false) (hmk : c.make = .cut) (hpk : c.plainKeys = true)
  (k0 : (c.wf (OpenSpec.ofChange s)) = true) (k3 : (fn.params.all (P.readableRec ·)) = true) (k4 : (namedTie P c.named s.vars) = true) (k5 : ((c.stops == [])) = true) (k7 : ((c.knobs == [])) = true) (k9 : ((c.inPlace == P.inPlace f)) = true) (k10 : ((c.unfollowed == P.unfollowed f)) = true) (k11 : ((c.recurses == P.recurses f)) = true) (k12 : ((c.named == P.varsNamed f)) = true) (k13 : ((c.maps == (fn.params.toList ++ s.plain.varTypes P).any (P.mapsRec ·))) = true) (k14 : ((c.ifaces == (fn.params.toList ++ s.plain.varTypes P).any (P.ifacesRec ·))) = true) (k15 : ((c.mapsOut == P.mapsAmong fn.resultTypes.toList)) = true) (k16 : ((c.loops == (fn.params.toList ++ s.plain.varTypes P).any (P.loopsFrom ·))) = true) (k17 : ((c.wideKeys == (fn.params.toList ++ s.plain.varTypes P ++ fn.resultTypes.toList).any (P.wideKeysFrom ·))) = true) (k18 : (s.vars.all (P.varReadable ·)) = true) (k19 : (fn.resultTypes.all (fun t => P.readableRec t && decide (t < P.types.size))) = true) (k20 : ((c.ifacesOut == fn.resultTypes.toList.any (P.ifacesRec ·))) = true) (k21 : ((c.loopsOut == fn.resultTypes.toList.any (P.loopsFrom ·))) = true) (k23 : (c.shortTexts.isNone) = true) (k28 : ((c.kinds == (if c.domain.isEmpty then [] else fn.params.toList.map fun t => match P.underlying t with | some (.int k) => some k | _ => none))) = true) (k29 : ((c.pinned == c.pinnedBy)) = true) (k30 : ((c.veiled == (fn.params.toList ++ s.plain.varTypes P ++ fn.resultTypes.toList).any (P.veiledRec ·))) = true) (k31 : (c.veiledFits P fn.params.toList (fn.params.toList ++ s.plain.varTypes P ++ fn.resultTypes.toList)) = true) : joinedFacts P f fn s c = true := by
 obtain ⟨r, h⟩ := head_of p.head
 have k1 := p.laid
 have k2 := p.mapsR
 have k6 := p.stops
 have k8 := p.knobs
 have k22 : (c.plainKeys == P.plainKeys) = true := by rw [hpk, p.plain]; rfl
 have k24 := p.heard
 have k25 := mayEnter_of h p.later p.refl p.door
 have k26 : (c.lifted == P.liftsFinal) = true := by rw [hlift, liftsFinal_of h]; rfl
 have k27 : (P.make == some c.make) = true := by rw [hmk, make_of h]; decide
 unfold joinedFacts
 simp only [Bool.and_eq_true]
 exact ⟨⟨⟨⟨⟨⟨⟨⟨⟨⟨⟨⟨⟨⟨⟨⟨⟨⟨⟨⟨⟨⟨⟨⟨⟨⟨⟨⟨⟨⟨⟨k0, k1⟩, k2⟩, k3⟩, k4⟩, k5⟩, k6⟩, k7⟩, k8⟩, k9⟩, k10⟩, k11⟩, k12⟩, k13⟩, k14⟩, k15⟩, k16⟩, k17⟩, k18⟩, k19⟩, k20⟩, k21⟩, k22⟩, k23⟩, k24⟩, k25⟩, k26⟩, k27⟩, k28⟩, k29⟩, k30⟩, k31⟩
end
end Go.Vc
