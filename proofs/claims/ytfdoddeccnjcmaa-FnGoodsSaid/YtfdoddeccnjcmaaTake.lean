/- Own work: contracts of functions that the claim reaches. No condition beyond those that each theorem names. -/
import Derived.Test.YtfdoddeccnjcmaaProg
import Derived.Test.YtfdoddeccnjcmaaGoods
import Derived.Test.YtfdoddeccnjcmaaRanks
import Derived.Test.YtfdoddeccnjcmaaRepeat
namespace Go.Proofs.Ytfdoddeccnjcmaa
open Go Go.Vc
set_option maxRecDepth 100000
set_option linter.unusedSimpArgs false
set_option linter.unusedVariables false
def K_impl_TakeTurns : List Nat := [0, 1, 4, 5, 6, 7, 8, 9, 10, 11, 29, 30, 40, 41, 42]
def C_impl_TakeTurns : C :=
  let ks := K_impl_TakeTurns
  (.seq
   (.rg 0 [(none, .mkn 4), (none, .v 5 .mv [.k (.b false)])])
   (.cl ks (.seq
   (.seq
   (.rg 0 [(none, .v 12 .mv [.s 0]), (none, .co 13 49 [.s 12]), (none, .v 14 .not [.s 13]), (none, .v 15 .mv [.s 14]), (some (15, false), .v 16 .mv [.s 0]), (some (15, false), .v 17 .len [.s 16]), (some (15, false), .v 18 .mv [.s 1]), (some (15, false), .co 19 90 [.s 17, .s 18]), (some (15, false), .v 20 .not [.s 19]), (none, .v 21 .pick [.s 15, .k (.b true), .s 20])])
   (.cond (.s 21)
   (.seq
   (.rg 0 [(none, .mkn 4), (none, .v 5 .mv [.k (.b false)])])
   .ret)
   .skip))
   (.cl ks (.seq
   (.rg 0 [(none, .lit 22 [.k (.i (-1))] 0), (none, .v 23 .mv [.s 0]), (none, .v 24 .idx [.s 23, .k (.i 0)]), (none, .v 25 .ld [.s 24]), (none, .v 26 .len [.s 25]), (none, .co 27 107 [.s 22, .s 26]), (none, .tk 6 27)])
   (.cl ks (.seq
   (.seq
   (.rg 0 [(none, .v 28 .mv [.s 6]), (none, .v 29 .len [.s 28]), (none, .v 30 .mv [.k (.i 0)])])
   (.cl ks (.block 0
   (.loop
   (.seq
   (.rg 0 [(none, .v 31 (.bin .lss) [.s 30, .s 29])])
   (.seq
   (.cond (.s 31)
   .skip
   (.exit 0))
   (.cl ks (.seq
   (.block 1
   (.seq
   (.rg 0 [(none, .v 32 .mv [.s 30]), (none, .tk 7 32)])
   (.cl ks (.seq
   (.rg 0 [(none, .v 33 .mv [.s 1]), (none, .v 34 .mv [.s 7]), (none, .v 35 .mv [.s 1]), (none, .v 36 .len [.s 35]), (none, .v 37 (.bin .rem) [.s 34, .s 36]), (none, .v 38 .idx [.s 33, .s 37]), (none, .v 39 .ld [.s 38]), (none, .tk 8 39)])
   (.cl ks (.seq
   (.rg 0 [(none, .v 9 .mv [.k (.i (-1))])])
   (.cl ks (.seq
   (.seq
   (.rg 0 [(none, .v 40 .mv [.s 6]), (none, .v 41 .len [.s 40]), (none, .v 42 .mv [.k (.i 0)])])
   (.cl ks (.block 2
   (.loop
   (.seq
   (.rg 0 [(none, .v 43 (.bin .lss) [.s 42, .s 41])])
   (.seq
   (.cond (.s 43)
   .skip
   (.exit 2))
   (.cl ks (.seq
   (.block 3
   (.seq
   (.rg 0 [(none, .v 44 .mv [.s 42]), (none, .v 45 .idx [.s 40, .s 42]), (none, .v 46 .ld [.s 45]), (none, .tk 10 44), (none, .tk 11 46)])
   (.cl ks (.seq
   (.rg 20 [(none, .v 47 .mv [.s 11]), (none, .v 48 (.bin .lss) [.s 47, .k (.i 0)]), (none, .v 49 .mv [.s 48]), (some (49, true), .v 50 .mv [.s 9]), (some (49, true), .v 51 (.bin .lss) [.s 50, .k (.i 0)]), (some (49, true), .v 52 .mv [.s 51]), (some (52, false), .v 53 .mv [.s 0]), (some (52, false), .v 54 .mv [.s 8]), (some (52, false), .v 55 .idx [.s 53, .s 54]), (some (52, false), .v 56 .ld [.s 55]), (some (52, false), .v 57 .mv [.s 10]), (some (52, false), .v 58 .idx [.s 56, .s 57]), (some (52, false), .v 59 .ld [.s 58]), (some (52, false), .v 60 .mv [.s 0]), (some (52, false), .v 61 .mv [.s 8]), (some (52, false), .v 62 .idx [.s 60, .s 61]), (some (52, false), .v 63 .ld [.s 62]), (some (52, false), .v 64 .mv [.s 9]), (some (52, false), .v 65 .idx [.s 63, .s 64]), (some (52, false), .v 66 .ld [.s 65]), (some (52, false), .v 67 (.bin .gtr) [.s 59, .s 66]), (some (49, true), .v 68 .pick [.s 52, .k (.b true), .s 67]), (none, .v 69 .pick [.s 49, .s 68, .k (.b false)])])
   (.cond (.s 69)
   (.rg 0 [(none, .v 70 .mv [.s 10]), (none, .tk 9 70)])
   .skip)))))
   (.cl ks (.rg 0 [(none, .v 71 (.bin .add) [.s 42, .k (.i 1)]), (none, .v 42 .mv [.s 71])]))))))))))
   (.cl ks (.rg 0 [(none, .v 72 .mv [.s 6]), (none, .v 73 .mv [.s 9]), (none, .v 74 .mv [.s 8]), (none, .v 75 .idx [.s 72, .s 73]), (none, .st (.s 75) (.s 74))]))))))))))
   (.cl ks (.rg 0 [(none, .v 76 (.bin .add) [.s 30, .k (.i 1)]), (none, .v 30 .mv [.s 76])]))))))))))
   (.cl ks (.seq
   (.rg 0 [(none, .v 77 .mv [.s 6]), (none, .tk 4 77), (none, .v 5 .mv [.k (.b true)])])
   .ret)))))))))

theorem chk_impl_TakeTurns : ∃ b, Try.f46.body = some b ∧ chk Try.prog Try.f46.ntmps true C_impl_TakeTurns b = true := ⟨_, rfl, by kernel_rfl⟩
/- spec_TakeTurns: not in this cut -/
/-- The first of the first k goods that are left which is worth most, or -1. -/
def tkbN (o row : List Int) : Nat → Int
  | 0 => -1
  | g + 1 => if o.getD g 0 < 0 ∧ (tkbN o row g < 0 ∨ row.getD (tkbN o row g).toNat 0 < row.getD g 0) then (g : Int) else tkbN o row g
theorem tkbN_bd {o row : List Int} : ∀ {k : Nat}, tkbN o row k = -1 ∨ (0 ≤ tkbN o row k ∧ tkbN o row k < k ∧ o.getD (tkbN o row k).toNat 0 < 0)
  | 0 => .inl rfl
  | g + 1 => by
    have ih := tkbN_bd (o := o) (row := row) (k := g)
    simp only [tkbN]
    split
    · rename_i h
      right
      refine ⟨by omega, by omega, ?_⟩
      rw [Int.toNat_natCast]; exact h.1
    · rcases ih with h | h
      · exact .inl h
      · exact .inr ⟨h.1, by omega, h.2.2⟩
theorem tkbN_ex {o row : List Int} : ∀ {k g : Nat}, g < k → o.getD g 0 < 0 → 0 ≤ tkbN o row k
  | 0, g, h, _ => by omega
  | k + 1, g, h, hn => by
    simp only [tkbN]
    split
    · omega
    · rename_i hc
      by_cases e : g = k
      · subst e
        have : ¬ tkbN o row g < 0 := fun hb => hc ⟨hn, .inl hb⟩
        omega
      · exact tkbN_ex (by omega) hn
/-- Who owns what after t turns. -/
def takN (vs : List (List Int)) (l : List Int) (m : Nat) : Nat → List Int
  | 0 => List.replicate m (-1)
  | t + 1 => (takN vs l m t).set (tkbN (takN vs l m t) (vs.getD (l.getD (t % l.length) 0).toNat []) m).toNat (l.getD (t % l.length) 0)
theorem takN_len {vs : List (List Int)} {l : List Int} {m : Nat} : ∀ {t : Nat}, (takN vs l m t).length = m
  | 0 => by simp [takN]
  | t + 1 => by simp only [takN, List.length_set]; exact takN_len
def freeN (o : List Int) : Nat := o.countP fun x => decide (x < 0)
theorem free_ex {o : List Int} (h : 0 < freeN o) : ∃ g, g < o.length ∧ o.getD g 0 < 0 := by
  obtain ⟨x, hx, hn⟩ := List.countP_pos_iff.1 h
  obtain ⟨g, hg, e⟩ := mem_getD 0 hx
  exact ⟨g, hg, by rw [e]; simpa using hn⟩
theorem free_set : ∀ {o : List Int} {b : Nat} {v : Int}, b < o.length → o.getD b 0 < 0 → 0 ≤ v → freeN (o.set b v) + 1 = freeN o
  | [], b, _, h, _, _ => by simp at h
  | x :: o, 0, v, _, hn, hv => by
    have h1 : decide (x < 0) = true := decide_eq_true hn
    have h2 : decide (v < 0) = false := decide_eq_false (by omega)
    simp [freeN, List.countP_cons, h1, h2]
  | x :: o, b + 1, v, h, hn, hv => by
    have ih := free_set (o := o) (b := b) (v := v) (by simpa using h) (by simpa using hn) hv
    simp only [freeN, List.set_cons_succ, List.countP_cons] at ih ⊢; omega
structure Tk (vs : List (List Int)) (l : List Int) (m : Nat) : Prop where
  V : Vals vs m
  ll : l.length = vs.length
  lb : ∀ i, i < l.length → 0 ≤ l.getD i 0 ∧ l.getD i 0 < vs.length
theorem tak_at {vs : List (List Int)} {l : List Int} {m : Nat} (K : Tk vs l m) {t : Nat} : 0 ≤ l.getD (t % l.length) 0 ∧ l.getD (t % l.length) 0 < vs.length := by
  have := K.V.n1
  exact K.lb _ (Nat.mod_lt _ (by rw [K.ll]; omega))
theorem tak_free {vs : List (List Int)} {l : List Int} {m : Nat} (K : Tk vs l m) : ∀ {t : Nat}, t ≤ m → freeN (takN vs l m t) = m - t
  | 0, _ => by simp [takN, freeN, List.countP_replicate]
  | t + 1, h => by
    have ih := tak_free K (t := t) (by omega)
    obtain ⟨g, hg, hn⟩ := free_ex (o := takN vs l m t) (by omega)
    rw [takN_len] at hg
    have h1 := tkbN_ex (row := vs.getD (l.getD (t % l.length) 0).toNat []) hg hn
    have h2 := (tkbN_bd (o := takN vs l m t) (row := vs.getD (l.getD (t % l.length) 0).toNat []) (k := m)).resolve_left (by omega)
    have h3 := free_set (o := takN vs l m t) (b := (tkbN (takN vs l m t) (vs.getD (l.getD (t % l.length) 0).toNat []) m).toNat) (v := l.getD (t % l.length) 0) (by rw [takN_len]; omega) h2.2.2 (tak_at K).1
    simp only [takN]; omega
theorem tak_best {vs : List (List Int)} {l : List Int} {m : Nat} (K : Tk vs l m) {t : Nat} (h : t < m) : 0 ≤ tkbN (takN vs l m t) (vs.getD (l.getD (t % l.length) 0).toNat []) m ∧ tkbN (takN vs l m t) (vs.getD (l.getD (t % l.length) 0).toNat []) m < m := by
  obtain ⟨g, hg, hn⟩ := free_ex (o := takN vs l m t) (by rw [tak_free K (by omega)]; omega)
  rw [takN_len] at hg
  have h1 := tkbN_ex (row := vs.getD (l.getD (t % l.length) 0).toNat []) hg hn
  have h2 := (tkbN_bd (o := takN vs l m t) (row := vs.getD (l.getD (t % l.length) 0).toNat []) (k := m)).resolve_left (by omega)
  exact ⟨h2.1, h2.2.1⟩
def takB (vs : List (List Int)) (l : List Int) : Bool := rectB vs 3 6 100 && rankB vs.length l
def takF (vs : List (List Int)) (l : List Int) : List Int := if takB vs l = true then takN vs l (vs.getD 0 []).length (vs.getD 0 []).length else []
theorem tk_of {vs : List (List Int)} {l : List Int} (h1 : rectB vs 3 6 100 = true) (h2 : rankB vs.length l = true) : Tk vs l (vs.getD 0 []).length := by
  have hl := rank_len h2
  exact ⟨vals_of h1, by omega, fun i hi => rank_bd h2 hi⟩
theorem impl_TakeTurns_ok {n1 n2 : Option Bool} (vs : List (List Int)) (l : List Int) (hl : vs.length ≤ 1048576) (hr : ∀ r ∈ vs, r.length ≤ 1048576) (hll : l.length ≤ 1048576) :
    CallOk Try.prog 46 [.s n1 (rr vs), .s n2 (ii l)] [(0, .tp 2), (100000, .own 1 none (ii (takF vs l))), (101000, .b (takB vs l))] := by
  obtain ⟨code0, hcd1, hcd2⟩ := chk_impl_TakeTurns; refine callOk_of Try.func46 hcd1 mo Try.call46 (rs := [4, 5]) (by kernel_rfl) hcd2 (by rw [Try.ntmps46]; simp) (by simp) (by decide) ?_; unfold C_impl_TakeTurns K_impl_TakeTurns; simp (config := { maxSteps := 2000000 }) only [go_sem, Nat.reduceBEq, Nat.reduceAdd, Nat.reduceMul, Nat.reduceMod, Nat.reduceLT, Nat.reduceDiv, Nat.reduceSub, Nat.reduceLeDiff, Int.reduceToNat, Int.reduceLT, Int.reduceLE, reduceCtorEq, List.take_nil, List.drop_nil]
  refine ⟨_, impl_ValuesOk_ok vs hl hr, ?_⟩; simp (config := { maxSteps := 2000000 }) only [go_sem, Nat.reduceBEq, Nat.reduceAdd, Nat.reduceMul, Nat.reduceMod, Nat.reduceLT, Nat.reduceDiv, Nat.reduceSub, Nat.reduceLeDiff, Int.reduceToNat, Int.reduceLT, Int.reduceLE, reduceCtorEq, List.take_nil, List.drop_nil]
  refine ⟨fun h0 => ?_, fun h0 => by simp [takF, takB, h0]⟩
  refine ⟨_, impl_RankingOk_ok _ l hll, ?_⟩; simp (config := { maxSteps := 2000000 }) only [go_sem, Nat.reduceBEq, Nat.reduceAdd, Nat.reduceMul, Nat.reduceMod, Nat.reduceLT, Nat.reduceDiv, Nat.reduceSub, Nat.reduceLeDiff, Int.reduceToNat, Int.reduceLT, Int.reduceLE, reduceCtorEq, List.take_nil, List.drop_nil]
  refine ⟨fun h1 => by simp [takF, takB, h0, h1], fun h1 => ?_⟩
  have hB : takB vs l = true := by simp [takB, h0, h1]
  have hF : takF vs l = takN vs l (vs.getD 0 []).length (vs.getD 0 []).length := if_pos hB
  have K := tk_of h0 h1
  rw [hF, hB]
  revert K
  generalize hm : (vs.getD 0 []).length = m
  intro K
  have hn3 := K.V.n3
  have hn1 := K.V.n1
  have hm6 := K.V.m6
  have hll2 := K.ll
  refine ⟨by omega, by omega, ?_⟩
  refine ⟨_, Repeat_ok (-1) m (by omega) (by omega), ?_⟩; simp (config := { maxSteps := 2000000 }) only [go_sem, Nat.reduceBEq, Nat.reduceAdd, Nat.reduceMul, Nat.reduceMod, Nat.reduceLT, Nat.reduceDiv, Nat.reduceSub, Nat.reduceLeDiff, Int.reduceToNat, Int.reduceLT, Int.reduceLE, reduceCtorEq, List.take_nil, List.drop_nil]
  refine loopN m (fun t => [(0, .t .arg (.s n1 (rr vs))), (1, .t .arg (.s n2 (ii l))), (6, .own 1 none (ii (takN vs l m t))), (29, .i m), (30, .i (t : Nat))]) (fun _ => True) ⟨trivial, by simp (config := { maxSteps := 2000000 }) only [go_sem, Nat.reduceBEq, Nat.reduceAdd, Nat.reduceMul, Nat.reduceMod, Nat.reduceLT, Nat.reduceDiv, Nat.reduceSub, Nat.reduceLeDiff, Int.reduceToNat, Int.reduceLT, Int.reduceLE, reduceCtorEq, List.take_nil, List.drop_nil]; simp [takN]⟩ fun t ht _ => ?_
  have htl := takN_len (vs := vs) (l := l) (m := m) (t := t)
  simp (config := { maxSteps := 2000000 }) only [go_sem, Nat.reduceBEq, Nat.reduceAdd, Nat.reduceMul, Nat.reduceMod, Nat.reduceLT, Nat.reduceDiv, Nat.reduceSub, Nat.reduceLeDiff, Int.reduceToNat, Int.reduceLT, Int.reduceLE, reduceCtorEq, List.take_nil, List.drop_nil]
  refine ⟨fun hlt => ?_, fun hge => ?_⟩
  · have ht' : t < m := by omega
    have hat := tak_at K (t := t)
    have hbest := tak_best K ht'
    have hs : takN vs l m (t + 1) = (takN vs l m t).set (tkbN (takN vs l m t) (vs.getD (l.getD (t % l.length) 0).toNat []) m).toNat (l.getD (t % l.length) 0) := rfl
    have hmod : ((t : Int).tmod (l.length : Int)) = ((t % l.length : Nat) : Int) := by simp [Int.tmod_eq_emod_of_nonneg]
    have hmlt : t % l.length < l.length := Nat.mod_lt _ (by omega)
    rw [hmod]
    rw [Int.toNat_natCast]
    refine ⟨by omega, by omega, hmlt, hmlt, ?_⟩
    revert htl hat hbest hs
    generalize takN vs l m t = o
    generalize l.getD (t % l.length) 0 = a
    intro htl hat hbest hs
    have hrl := K.V.len a.toNat (by omega)
    refine loopN m (fun g => [(0, .t .arg (.s n1 (rr vs))), (1, .t .arg (.s n2 (ii l))), (6, .own 1 none (ii o)), (29, .i m), (30, .i (t : Nat)), (8, .i a), (9, .i (tkbN o (vs.getD a.toNat []) g)), (40, .al 6), (41, .i m), (42, .i (g : Nat))]) (fun _ => True) ⟨trivial, by simp (config := { maxSteps := 2000000 }) only [go_sem, Nat.reduceBEq, Nat.reduceAdd, Nat.reduceMul, Nat.reduceMod, Nat.reduceLT, Nat.reduceDiv, Nat.reduceSub, Nat.reduceLeDiff, Int.reduceToNat, Int.reduceLT, Int.reduceLE, reduceCtorEq, List.take_nil, List.drop_nil]; simp [tkbN, htl]⟩ fun g hg _ => ?_
    have hbs : tkbN o (vs.getD a.toNat []) (g + 1) = if o.getD g 0 < 0 ∧ (tkbN o (vs.getD a.toNat []) g < 0 ∨ (vs.getD a.toNat []).getD (tkbN o (vs.getD a.toNat []) g).toNat 0 < (vs.getD a.toNat []).getD g 0) then (g : Int) else tkbN o (vs.getD a.toNat []) g := rfl
    have hbb := tkbN_bd (o := o) (row := vs.getD a.toNat []) (k := g)
    simp (config := { maxSteps := 2000000 }) only [go_sem, Nat.reduceBEq, Nat.reduceAdd, Nat.reduceMul, Nat.reduceMod, Nat.reduceLT, Nat.reduceDiv, Nat.reduceSub, Nat.reduceLeDiff, Int.reduceToNat, Int.reduceLT, Int.reduceLE, reduceCtorEq, List.take_nil, List.drop_nil]
    refine ⟨fun hlt2 => ?_, fun hge2 => ?_⟩
    · have hg' : g < m := by omega
      refine ⟨by omega, by omega, by omega, fun h2 => ⟨fun h3 => ⟨by omega, by omega, by omega, by omega, by omega, by omega, by omega, by omega, by omega, by omega, by omega, by omega, fun h4 => ?_, fun h4 => ?_⟩, fun h3 => ?_⟩, fun h2 => ?_⟩
      · exact ⟨inR_of (by omega) (by omega), hg', by rw [hbs, if_pos ⟨h2, .inr h4⟩], by simp⟩
      · exact ⟨inR_of (by omega) (by omega), hg', by rw [hbs, if_neg (fun hh => hh.2.elim h3 h4)], by simp⟩
      · exact ⟨inR_of (by omega) (by omega), hg', by rw [hbs, if_pos ⟨h2, .inl h3⟩], by simp⟩
      · exact ⟨inR_of (by omega) (by omega), hg', by rw [hbs, if_neg (fun h => h2 h.1)], by simp⟩
    · have : g = m := by omega
      subst this
      exact ⟨by omega, by omega, by omega, inR_of (by omega) (by omega), ht', hs.symm, by simp⟩
  · have : t = m := by omega
    subst this
    exact ⟨by omega, rfl⟩
end Go.Proofs.Ytfdoddeccnjcmaa
