/- Own work: contracts of functions that the claim reaches. No condition beyond those that each theorem names. -/
import Derived.Test.YtfdoddeccnjcmaaProg
import Derived.Test.YtfdoddeccnjcmaaEnvy
import Derived.Test.YtfdoddeccnjcmaaIdx
namespace Go.Proofs.Ytfdoddeccnjcmaa
open Go Go.Vc
set_option maxRecDepth 100000
set_option linter.unusedSimpArgs false
set_option linter.unusedVariables false
def K_impl_IsAlmostFree_1 : List Nat := [0, 1, 2, 3, 4, 5, 7]
def C_impl_IsAlmostFree_1 : C :=
  let ks := K_impl_IsAlmostFree_1
  (.seq
   (.rg 0 [(none, .v 7 .mv [.k (.b false)])])
   (.cl ks (.seq
   (.rg 15 [(none, .v 8 .ld [.s 1]), (none, .v 9 .mv [.s 0]), (none, .v 10 .idx [.s 8, .s 9]), (none, .v 11 .ld [.s 10]), (none, .v 12 .ld [.s 2]), (none, .v 13 (.bin .eql) [.s 11, .s 12]), (none, .v 14 .mv [.s 13]), (some (14, true), .v 15 .ld [.s 3]), (some (14, true), .v 16 .ld [.s 4]), (some (14, true), .v 17 .idx [.s 15, .s 16]), (some (14, true), .v 18 .ld [.s 17]), (some (14, true), .v 19 .mv [.s 0]), (some (14, true), .v 20 .idx [.s 18, .s 19]), (some (14, true), .v 21 .ld [.s 20]), (some (14, true), .v 22 .ld [.s 5]), (some (14, true), .v 23 (.bin .geq) [.s 21, .s 22]), (none, .v 24 .pick [.s 14, .s 23, .k (.b false)]), (none, .tk 7 24)])
   .ret)))

theorem chk_impl_IsAlmostFree_1 : ∃ b, Try.f115.body = some b ∧ chk Try.prog Try.f115.ntmps true C_impl_IsAlmostFree_1 b = true := ⟨_, rfl, by kernel_rfl⟩
def K_impl_IsAlmostFree : List Nat := [0, 1, 2, 3, 4, 5, 6, 7, 8, 9, 12, 13, 14, 19, 20, 21, 1002, 1003, 1005, 1007, 1008]
def C_impl_IsAlmostFree : C :=
  let ks := K_impl_IsAlmostFree
  (.seq
   (.rg 0 [(none, .box 2 (.s 0)), (none, .box 3 (.s 1)), (none, .v 4 .mv [.k (.b false)])])
   (.cl ks (.seq
   (.seq
   (.rg 0 [(none, .v 10 .ld [.s 2]), (none, .v 11 .ld [.s 3]), (none, .co 12 53 [.s 10, .s 11]), (none, .v 13 .len [.s 12]), (none, .v 14 .mv [.k (.i 0)])])
   (.cl ks (.block 0
   (.loop
   (.seq
   (.rg 0 [(none, .v 15 (.bin .lss) [.s 14, .s 13])])
   (.seq
   (.cond (.s 15)
   .skip
   (.exit 0))
   (.cl ks (.seq
   (.block 1
   (.seq
   (.rg 0 [(none, .v 16 .mv [.s 14]), (none, .v 17 .idx [.s 12, .s 14]), (none, .v 18 .ld [.s 17]), (none, .new 5 [.i 0]), (none, .st (.s 5) (.s 16)), (none, .tk 6 18)])
   (.cl ks (.seq
   (.rg 0 [(none, .v 19 .mv [.s 6]), (none, .v 20 .len [.s 19]), (none, .v 21 .mv [.k (.i 0)])])
   (.cl ks (.block 2
   (.loop
   (.seq
   (.rg 0 [(none, .v 22 (.bin .lss) [.s 21, .s 20])])
   (.seq
   (.cond (.s 22)
   .skip
   (.exit 2))
   (.cl ks (.seq
   (.block 3
   (.seq
   (.rg 0 [(none, .v 23 .mv [.s 21]), (none, .v 24 .idx [.s 19, .s 21]), (none, .v 25 .ld [.s 24]), (none, .new 7 [.i 0]), (none, .new 8 [.i 0]), (none, .st (.s 7) (.s 23)), (none, .st (.s 8) (.s 25))])
   (.cl ks (.seq
   (.rg 0 [(none, .v 26 (.clo 115) [.s 3, .s 7, .s 2, .s 5, .s 8]), (none, .tk 9 26)])
   (.cl ks (.seq
   (.rg 0 [(none, .v 27 .ld [.s 8]), (none, .v 28 (.bin .gtr) [.s 27, .k (.i 0)]), (none, .v 29 .mv [.s 28]), (some (29, true), .v 30 .ld [.s 3]), (some (29, true), .v 31 .len [.s 30]), (some (29, true), .co 32 91 [.s 31]), (some (29, true), .v 33 .mv [.s 9]), (some (29, true), .co 34 116 [.s 32, .s 33]), (some (29, true), .v 35 .not [.s 34]), (none, .v 36 .pick [.s 29, .s 35, .k (.b false)])])
   (.cond (.s 36)
   (.seq
   (.rg 0 [(none, .v 4 .mv [.k (.b false)])])
   .ret)
   .skip)))))))
   (.cl ks (.rg 0 [(none, .v 37 (.bin .add) [.s 21, .k (.i 1)]), (none, .v 21 .mv [.s 37])])))))))))))))
   (.cl ks (.rg 0 [(none, .v 38 (.bin .add) [.s 14, .k (.i 1)]), (none, .v 14 .mv [.s 38])]))))))))))
   (.cl ks (.seq
   (.rg 0 [(none, .v 39 .ld [.s 2]), (none, .v 40 .ld [.s 3]), (none, .co 41 50 [.s 39, .s 40]), (none, .tk 4 41)])
   .ret)))))

theorem chk_impl_IsAlmostFree : ∃ b, Try.f51.body = some b ∧ chk Try.prog Try.f51.ntmps true C_impl_IsAlmostFree b = true := ⟨_, rfl, by kernel_rfl⟩
/- spec_IsAlmostFree: not in this cut -/
/-- The most that person i gives for one of k's first g goods. -/
def bestN (r l : List Int) (k : Int) : Nat → Int
  | 0 => 0
  | g + 1 => if l.getD g 0 = k then max (bestN r l k g) (r.getD g 0) else bestN r l k g
theorem bestN_iff {r l : List Int} {k e : Int} : ∀ {g : Nat}, e ≤ bestN r l k g ↔ e ≤ 0 ∨ ∃ i, i < g ∧ l.getD i 0 = k ∧ e ≤ r.getD i 0
  | 0 => by simp [bestN]
  | g + 1 => by
    have ih := bestN_iff (r := r) (l := l) (k := k) (e := e) (g := g)
    simp only [bestN]
    constructor
    · intro h
      by_cases hk : l.getD g 0 = k
      · rw [if_pos hk] at h
        by_cases h1 : e ≤ r.getD g 0
        · exact .inr ⟨g, by omega, hk, h1⟩
        · rcases ih.1 (by omega) with h2 | ⟨i, a, b, c⟩
          · exact .inl h2
          · exact .inr ⟨i, by omega, b, c⟩
      · rw [if_neg hk] at h
        rcases ih.1 h with h2 | ⟨i, a, b, c⟩
        · exact .inl h2
        · exact .inr ⟨i, by omega, b, c⟩
    · intro h
      by_cases hk : l.getD g 0 = k
      · rw [if_pos hk]
        rcases h with h | ⟨i, a, b, c⟩
        · have := ih.2 (.inl h); omega
        · by_cases e1 : i = g
          · subst e1; omega
          · have := ih.2 (.inr ⟨i, by omega, b, c⟩); omega
      · rw [if_neg hk]
        refine ih.2 ?_
        rcases h with h | ⟨i, a, b, c⟩
        · exact .inl h
        · exact .inr ⟨i, by by_cases e1 : i = g; subst e1; exact absurd b hk; omega, b, c⟩
theorem bestN_bd {vs : List (List Int)} {l : List Int} {i : Nat} {k : Int} (V : Vals vs l.length) (hi : i < vs.length) : ∀ {g : Nat}, g ≤ l.length → 0 ≤ bestN (vs.getD i []) l k g ∧ bestN (vs.getD i []) l k g ≤ 100
  | 0, _ => by simp [bestN]
  | g + 1, h => by
    have := bestN_bd V hi (k := k) (g := g) (by omega)
    have hx := V.bd i g hi (by omega)
    simp only [bestN]; split <;> omega
def okAt (vs : List (List Int)) (l : List Int) (i k : Nat) : Bool := decide (envy vs l i k ≤ bestN (vs.getD i []) l k l.length)
def almB (vs : List (List Int)) (l : List Int) : Bool := (List.range vs.length).all fun i => (List.range vs.length).all fun k => okAt vs l i k
def almF (vs : List (List Int)) (l : List Int) : Bool := allocB vs l && almB vs l
theorem almB_bad {vs : List (List Int)} {l : List Int} {i k : Nat} (hi : i < vs.length) (hk : k < vs.length) (h : okAt vs l i k = false) : almB vs l = false := not_all_range hi (not_all_range hk h)
theorem impl_IsAlmostFree1_ok {n1 n2 : Option Bool} (vs : List (List Int)) (l : List Int) (V : Vals vs l.length) (i : Nat) (hi : i < vs.length) (g k e : Int) (h0 : 0 ≤ g) (h1 : g < l.length) :
    CallOk Try.prog 115 [.i g, .q [.s n2 (ii l)] 0, .q [.i k] 0, .q [.s n1 (rr vs)] 0, .q [.i i] 0, .q [.i e] 0] [(0, .b (decide (l.getD g.toNat 0 = k) && decide (e ≤ (vs.getD i []).getD g.toNat 0)))] := by
  have hrl := V.len i hi
  obtain ⟨code0, hcd1, hcd2⟩ := chk_impl_IsAlmostFree_1; refine callOk_of Try.func115 hcd1 mo Try.call115 (rs := [7]) (by kernel_rfl) hcd2 (by rw [Try.ntmps115]; simp) (by simp) (by decide) ?_; unfold C_impl_IsAlmostFree_1 K_impl_IsAlmostFree_1; simp (config := { maxSteps := 2000000 }) only [go_sem, Nat.reduceBEq, Nat.reduceAdd, Nat.reduceMul, Nat.reduceMod, Nat.reduceLT, Nat.reduceDiv, Nat.reduceSub, Nat.reduceLeDiff, Int.reduceToNat, Int.reduceLT, Int.reduceLE, reduceCtorEq, List.take_nil, List.drop_nil]
  refine ⟨h0, by omega, by omega, fun h2 => ⟨by omega, hi, hi, h0, by omega, by omega, by simp only [h2, decide_true, Bool.true_and]⟩, fun h2 => by simp only [h2, decide_false, Bool.false_and]⟩
theorem impl_IsAlmostFree_ok {n1 n2 : Option Bool} (vs : List (List Int)) (l : List Int) (hl : vs.length ≤ 1048576) (hr : ∀ r ∈ vs, r.length ≤ 1048576) (hll : l.length ≤ 1048576) :
    CallOk Try.prog 51 [.s n1 (rr vs), .s n2 (ii l)] [(0, .b (almF vs l))] := by
  obtain ⟨code0, hcd1, hcd2⟩ := chk_impl_IsAlmostFree; refine callOk_of Try.func51 hcd1 mo Try.call51 (rs := [4]) (by kernel_rfl) hcd2 (by rw [Try.ntmps51]; simp) (by simp) (by decide) ?_; unfold C_impl_IsAlmostFree K_impl_IsAlmostFree; simp (config := { maxSteps := 2000000 }) only [go_sem, Nat.reduceBEq, Nat.reduceAdd, Nat.reduceMul, Nat.reduceMod, Nat.reduceLT, Nat.reduceDiv, Nat.reduceSub, Nat.reduceLeDiff, Int.reduceToNat, Int.reduceLT, Int.reduceLE, reduceCtorEq, List.take_nil, List.drop_nil]
  refine ⟨_, impl_EnvyMatrix_ok vs l hl hr hll, ?_⟩; simp (config := { maxSteps := 2000000 }) only [go_sem, Nat.reduceBEq, Nat.reduceAdd, Nat.reduceMul, Nat.reduceMod, Nat.reduceLT, Nat.reduceDiv, Nat.reduceSub, Nat.reduceLeDiff, Int.reduceToNat, Int.reduceLT, Int.reduceLE, reduceCtorEq, List.take_nil, List.drop_nil]
  have hE : envF vs l = if allocB vs l = true then envM vs l vs.length else [] := rfl
  have hEl : (envF vs l).length ≤ 3 := by
    rw [hE]; by_cases h : allocB vs l = true
    · rw [if_pos h, envM_len]; exact (alloc_vals h).n3
    · rw [if_neg h]; simp
  refine loopN (envF vs l).length (fun j => [(0, .t .arg (.s n1 (rr vs))), (1, .t .arg (.s n2 (ii l))), (2, .bx 1), (1002, .t .arg (.s n1 (rr vs))), (3, .bx 1), (1003, .t .arg (.s n2 (ii l))), (12, .own 1 none (rr (envF vs l))), (13, .i (envF vs l).length), (14, .i (j : Nat))]) (fun j => ∀ i, i < j → ∀ k, k < vs.length → okAt vs l i k = true) ⟨by simp, by simp (config := { maxSteps := 2000000 }) only [go_sem, Nat.reduceBEq, Nat.reduceAdd, Nat.reduceMul, Nat.reduceMod, Nat.reduceLT, Nat.reduceDiv, Nat.reduceSub, Nat.reduceLeDiff, Int.reduceToNat, Int.reduceLT, Int.reduceLE, reduceCtorEq, List.take_nil, List.drop_nil]; simp⟩ fun j hj hI => ?_
  simp (config := { maxSteps := 2000000 }) only [go_sem, Nat.reduceBEq, Nat.reduceAdd, Nat.reduceMul, Nat.reduceMod, Nat.reduceLT, Nat.reduceDiv, Nat.reduceSub, Nat.reduceLeDiff, Int.reduceToNat, Int.reduceLT, Int.reduceLE, reduceCtorEq, List.take_nil, List.drop_nil]
  refine ⟨fun hlt => ?_, fun hge => ?_⟩
  · have hj' : j < (envF vs l).length := by omega
    have h : allocB vs l = true := by
      by_cases h : allocB vs l = true
      · exact h
      · rw [hE, if_neg h] at hj'; simp at hj'
    have V := alloc_vals h
    have v3 := V.n3
    have m6 := V.m6
    have hel : (envF vs l).length = vs.length := by rw [hE, if_pos h, envM_len]
    have hg : (envF vs l).getD j [] = envR vs l j vs.length := by rw [hE, if_pos h]; simp [envM, List.getD, show j < vs.length by omega]
    have hF : almF vs l = almB vs l := by simp [almF, h]
    have hgl := envR_len (vs := vs) (l := l) (i := j) (k := vs.length)
    rw [hg]
    refine ⟨by omega, hj', hj', ?_⟩
    refine loopN vs.length (fun k => [(0, .t .arg (.s n1 (rr vs))), (1, .t .arg (.s n2 (ii l))), (2, .bx 1), (1002, .t .arg (.s n1 (rr vs))), (3, .bx 1), (1003, .t .arg (.s n2 (ii l))), (12, .own 1 none (rr (envF vs l))), (13, .i (envF vs l).length), (14, .i (j : Nat)), (5, .bx 1), (1005, .i (j : Nat)), (19, .t (.rw 12) (.s none (ii (envR vs l j vs.length)))), (20, .i vs.length), (21, .i (k : Nat))]) (fun k => ∀ i, i < k → okAt vs l j i = true) ⟨by simp, by simp (config := { maxSteps := 2000000 }) only [go_sem, Nat.reduceBEq, Nat.reduceAdd, Nat.reduceMul, Nat.reduceMod, Nat.reduceLT, Nat.reduceDiv, Nat.reduceSub, Nat.reduceLeDiff, Int.reduceToNat, Int.reduceLT, Int.reduceLE, reduceCtorEq, List.take_nil, List.drop_nil]; simp [hgl]⟩ fun k hk hK => ?_
    simp (config := { maxSteps := 2000000 }) only [go_sem, Nat.reduceBEq, Nat.reduceAdd, Nat.reduceMul, Nat.reduceMod, Nat.reduceLT, Nat.reduceDiv, Nat.reduceSub, Nat.reduceLeDiff, Int.reduceToNat, Int.reduceLT, Int.reduceLE, reduceCtorEq, List.take_nil, List.drop_nil]
    refine ⟨fun hlt2 => ?_, fun hge2 => ?_⟩
    · have hk' : k < vs.length := by omega
      have hgk : (envR vs l j vs.length).getD k 0 = envy vs l j k := by simp [envR, List.getD, hk']
      have eb := envy_bd (k := k) V (show j < vs.length by omega)
      have fin : okAt vs l j k = true → ∀ i, i < k + 1 → okAt vs l j i = true := fun h0 i hi => by
        by_cases e : i = k
        · subst e; exact h0
        · exact hK i (by omega)
      rw [hgk]
      have hany : ((upto l.length).any fun g => decide (l.getD g.toNat 0 = (k : Int)) && decide (envy vs l j k ≤ (vs.getD j []).getD g.toNat 0)) = true ↔ ∃ i, i < l.length ∧ l.getD i 0 = (k : Int) ∧ envy vs l j k ≤ (vs.getD j []).getD i 0 := by
        rw [List.any_eq_true]
        constructor
        · rintro ⟨g, hg, h1⟩
          simp only [upto, List.mem_map, List.mem_range] at hg
          obtain ⟨i, hi, rfl⟩ := hg
          simp only [Int.toNat_natCast, Bool.and_eq_true, decide_eq_true_eq] at h1
          exact ⟨i, hi, h1.1, h1.2⟩
        · rintro ⟨i, hi, h1, h2⟩
          refine ⟨(i : Int), by simp only [upto, List.mem_map, List.mem_range]; exact ⟨i, hi, rfl⟩, ?_⟩
          simp only [Int.toNat_natCast, h1, h2, decide_true, Bool.and_self]
      have hok : okAt vs l j k = true ↔ envy vs l j k ≤ 0 ∨ ∃ i, i < l.length ∧ l.getD i 0 = (k : Int) ∧ envy vs l j k ≤ (vs.getD j []).getD i 0 := by
        unfold okAt; rw [decide_eq_true_eq]; exact bestN_iff
      refine ⟨by omega, by omega, by omega, fun hpos => ?_, fun hneg => ?_⟩
      · refine ⟨_, indices_ok (l.length : Int) (by omega) (by omega), ?_⟩; simp (config := { maxSteps := 2000000 }) only [go_sem, Nat.reduceBEq, Nat.reduceAdd, Nat.reduceMul, Nat.reduceMod, Nat.reduceLT, Nat.reduceDiv, Nat.reduceSub, Nat.reduceLeDiff, Int.reduceToNat, Int.reduceLT, Int.reduceLE, reduceCtorEq, List.take_nil, List.drop_nil]
        refine ⟨_, ContainsFuncI (xs := upto l.length) (fun g => decide (l.getD g.toNat 0 = (k : Int)) && decide (envy vs l j k ≤ (vs.getD j []).getD g.toNat 0)) (fun x hx => ?_) (by rw [upto_len]; omega), ?_⟩
        · simp only [upto, List.mem_map, List.mem_range] at hx
          obtain ⟨i, hi, rfl⟩ := hx
          exact impl_IsAlmostFree1_ok vs l V j (by omega) i k (envy vs l j k) (by omega) (by omega)
        · simp (config := { maxSteps := 2000000 }) only [go_sem, Nat.reduceBEq, Nat.reduceAdd, Nat.reduceMul, Nat.reduceMod, Nat.reduceLT, Nat.reduceDiv, Nat.reduceSub, Nat.reduceLeDiff, Int.reduceToNat, Int.reduceLT, Int.reduceLE, reduceCtorEq, List.take_nil, List.drop_nil]
          revert hany
          generalize ((upto l.length).any fun g => decide (l.getD g.toNat 0 = (k : Int)) && decide (envy vs l j k ≤ (vs.getD j []).getD g.toNat 0)) = b
          intro hany
          refine ⟨fun hb => ?_, fun hb => ?_⟩
          · have hno : okAt vs l j k = false := by
              rw [Bool.eq_false_iff]
              intro h0
              rcases hok.1 h0 with h1 | h1
              · omega
              · rw [hany.2 h1] at hb; cases hb
            rw [hF]; exact (almB_bad (by omega) hk' hno).symm
          · exact ⟨inR_of (by omega) (by omega), hk', fin (hok.2 (.inr (hany.1 hb))), by simp⟩
      · have h0 := hok.2 (.inl (by omega))
        exact ⟨inR_of (by omega) (by omega), by omega, fin h0, by simp⟩
    · have : k = vs.length := by omega
      subst this
      refine ⟨inR_of (by omega) (by omega), hj', fun i hi => ?_, by simp⟩
      by_cases e : i = j
      · subst e; exact hK
      · exact hI i (by omega)
  · have : j = (envF vs l).length := by omega
    subst this
    refine ⟨_, impl_AllocationOk_ok vs l hl hr hll, ?_⟩; simp (config := { maxSteps := 2000000 }) only [go_sem, Nat.reduceBEq, Nat.reduceAdd, Nat.reduceMul, Nat.reduceMod, Nat.reduceLT, Nat.reduceDiv, Nat.reduceSub, Nat.reduceLeDiff, Int.reduceToNat, Int.reduceLT, Int.reduceLE, reduceCtorEq, List.take_nil, List.drop_nil]
    by_cases h : allocB vs l = true
    · have hel : (envF vs l).length = vs.length := by rw [hE, if_pos h, envM_len]
      rw [hel] at hI
      have : almB vs l = true := all_range fun i hi => all_range fun k hk => hI i hi k hk
      simp [almF, h, this]
    · simp [almF, h]

end Go.Proofs.Ytfdoddeccnjcmaa
