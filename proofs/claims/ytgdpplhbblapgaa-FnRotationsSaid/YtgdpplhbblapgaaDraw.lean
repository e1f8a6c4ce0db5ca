/- Own work: contracts of functions that the claim reaches. No condition beyond those that each theorem names. -/
import Derived.Test.YtgdpplhbblapgaaProg
import Derived.Test.YtgdpplhbblapgaaCursor
import Derived.Test.YtgdpplhbblapgaaRankn
namespace Go.Proofs.Ytgdpplhbblapgaa
open Go Go.Vc
set_option maxRecDepth 100000
set_option linter.unusedSimpArgs false
set_option linter.unusedVariables false
theorem iter_exN {α : Type} {R : Nat → α → α → Prop} (step : ∀ k a, ∃ b, R k a b) (a : α) : ∃ f : Nat → α, f 0 = a ∧ ∀ k, R k (f k) (f (k + 1)) :=
 ⟨fun k => Nat.rec a (fun k p => Classical.choose (step k p)) k, rfl, fun k => Classical.choose_spec (step k _)⟩
theorem rank_of_nodup {m : Nat} {r : List Int} (h1 : 1 ≤ m) (h5 : m ≤ 5) (hl : r.length = m) (hb : ∀ x ∈ r, 0 ≤ x ∧ x < m) (hn : ∀ i j, i < r.length → j < r.length → i ≠ j → r.getD i 0 ≠ r.getD j 0) : rankB m r = true := by
 simp only [rankB, Bool.and_eq_true, inI, decide_eq_true_eq, List.all_eq_true, List.mem_range]
 refine ⟨⟨by omega, by omega⟩, fun i hi => ?_⟩
 simp only [rankAt, Bool.and_eq_true, Bool.not_eq_true', List.any_eq_false, inI, decide_eq_true_eq]
 have := hb _ (getD_mem (d := 0) hi)
 refine ⟨by omega, fun x hx e => ?_⟩
 obtain ⟨j, hj, rfl⟩ := List.mem_take_iff_getElem.1 hx
 have e2 : r.getD j 0 = r[j] := by simp [List.getD, show j < r.length by omega]
 exact hn i j hi (by omega) (by omega) (by rw [e2]; exact e)
theorem nodup_ne {r : List Int} (h : r.Nodup) {i j : Nat} (hi : i < r.length) (hj : j < r.length) (hne : i ≠ j) : r.getD i 0 ≠ r.getD j 0 := by
 rw [List.Nodup, List.pairwise_iff_getElem] at h
 have a1 : r.getD i 0 = r[i] := by simp [List.getD, hi]
 have a2 : r.getD j 0 = r[j] := by simp [List.getD, hj]
 rw [a1, a2]
 rcases Nat.lt_or_gt_of_ne hne with h' | h'
 ·exact h i j hi hj h'
 ·exact fun e => h j i hj hi h' e.symm
def swp (r : List Int) (i x : Nat) : List Int := (r.set i (r.getD x 0)).set x (r.getD i 0)
theorem swp_len {r : List Int} {i x : Nat} : (swp r i x).length = r.length := by simp [swp]
theorem swp_get {r : List Int} {i x p : Nat} (hi : i < r.length) (hx : x < r.length) : (swp r i x).getD p 0 = if p = x then r.getD i 0 else if p = i then r.getD x 0 else r.getD p 0 := by
 unfold swp
 by_cases e : p = x
 ·subst e; simp [List.getD, hx]
 ·rw [if_neg e]
  by_cases e2 : p = i
  ·subst e2
   rw [if_pos rfl]
   simp [List.getD, show x ≠ p by omega, hi]
  ·rw [if_neg e2]
   simp [List.getD, show x ≠ p by omega, show i ≠ p by omega]
theorem swp_rank {m : Nat} {r : List Int} {i x : Nat} (h : rankB m r = true) (hi : i < m) (hx : x < m) : rankB m (swp r i x) = true := by
 have hl := rank_len h
 have hl : r.length = m := by omega
 have hd := rank_nodup h
 have hm : 1 ≤ m ∧ m ≤ 5 := by
  simp only [rankB, Bool.and_eq_true, inI, decide_eq_true_eq] at h
  omega
 refine rank_of_nodup hm.1 hm.2 (by rw [swp_len]; exact hl) (fun v hv => ?_) fun p q hp hq hne => ?_
 ·obtain ⟨p, hp, rfl⟩ := mem_getD 0 hv
  rw [swp_len] at hp
  rw [swp_get (by omega) (by omega)]
  split
  ·exact rank_bd h (by omega)
  ·split
   ·exact rank_bd h (by omega)
   ·exact rank_bd h hp
 ·rw [swp_len] at hp hq
  rw [swp_get (by omega) (by omega), swp_get (by omega) (by omega)]
  have N : ∀ {a b : Nat}, a < r.length → b < r.length → a ≠ b → r.getD a 0 ≠ r.getD b 0 := fun ha hb hne => nodup_ne hd ha hb hne
  split <;> split <;> (try split) <;> (try split) <;> (first | (exact N (by omega) (by omega) (by omega)) | omega)
theorem upto_s {k : Nat} : upto (k + 1) = upto k ++ [(k : Int)] := by simp [upto, List.range_succ]
theorem upto_rank {m : Nat} (h1 : 1 ≤ m) (h5 : m ≤ 5) : rankB m (upto m) = true := by
 have g : ∀ i, i < m → (upto m).getD i 0 = i := fun i hi => by simp [upto, List.getD, hi]
 refine rank_of_nodup h1 h5 upto_len (fun x hx => mem_upto.1 hx) fun i j hi hj hne => ?_
 rw [upto_len] at hi hj
 rw [g i hi, g j hj]; omega
def K_spec_l03Draw : List Nat := [0, 1, 4, 5, 6, 7, 8, 9, 1000, 2000, 3000]
def C_spec_l03Draw : C :=
 let ks := K_spec_l03Draw
 (.seq
  (.rg 0 [(none, .mkn 4)])
  (.cl ks (.seq
  (.rg 0 [(none, .lit 10 [] 0), (none, .tk 5 10)])
  (.cl ks (.seq
  (.seq
  (.rg 0 [(none, .v 6 .mv [.k (.i 0)])])
  (.cl ks (.block 0
  (.loop
  (.seq
  (.seq
  (.rg 0 [(none, .v 11 .mv [.s 6]), (none, .v 12 .mv [.s 1]), (none, .v 13 (.bin .lss) [.s 11, .s 12])])
  (.cond (.s 13)
  .skip
  (.exit 0)))
  (.cl ks (.seq
  (.block 1
  (.rg 0 [(none, .v 16 .mv [.s 5]), (none, .v 17 .mv [.s 6]), (none, .lit 18 [.s 17] 0), (none, .app 19 (.s 16) (.s 18) 0), (none, .tk 5 19)]))
  (.cl ks (.rg 0 [(none, .v 14 .mv [.s 6]), (none, .v 15 (.bin .add) [.s 14, .k (.i 1)]), (none, .tk 6 15)])))))))))
  (.cl ks (.seq
  (.seq
  (.rg 0 [(none, .v 20 .mv [.s 1]), (none, .v 21 (.bin .sub) [.s 20, .k (.i 1)]), (none, .tk 7 21)])
  (.cl ks (.block 2
  (.loop
  (.seq
  (.seq
  (.rg 0 [(none, .v 22 .mv [.s 7]), (none, .v 23 (.bin .gtr) [.s 22, .k (.i 0)])])
  (.cond (.s 23)
  .skip
  (.exit 2)))
  (.cl ks (.seq
  (.block 3
  (.seq
  (.rg 0 [(none, .v 26 .mv [.s 0]), (none, .v 27 .mv [.s 7]), (none, .v 28 (.bin .add) [.s 27, .k (.i 1)]), (none, .cop 29 164 [.s 26, .s 28] 0), (none, .tk 8 29)])
  (.cl ks (.seq
  (.rg 0 [(none, .v 30 .mv [.s 5]), (none, .v 31 .mv [.s 7]), (none, .v 32 .idx [.s 30, .s 31]), (none, .v 33 .ld [.s 32]), (none, .tk 9 33)])
  (.cl ks (.seq
  (.rg 0 [(none, .v 34 .mv [.s 5]), (none, .v 35 .mv [.s 7]), (none, .v 36 .mv [.s 5]), (none, .v 37 .mv [.s 8]), (none, .v 38 .idx [.s 36, .s 37]), (none, .v 39 .ld [.s 38]), (none, .v 40 .idx [.s 34, .s 35]), (none, .st (.s 40) (.s 39))])
  (.cl ks (.rg 0 [(none, .v 41 .mv [.s 5]), (none, .v 42 .mv [.s 8]), (none, .v 43 .mv [.s 9]), (none, .v 44 .idx [.s 41, .s 42]), (none, .st (.s 44) (.s 43))]))))))))
  (.cl ks (.rg 0 [(none, .v 24 .mv [.s 7]), (none, .v 25 (.bin .sub) [.s 24, .k (.i 1)]), (none, .tk 7 25)])))))))))
  (.cl ks (.seq
  (.rg 0 [(none, .v 45 .mv [.s 5]), (none, .tk 4 45)])
  .ret)))))))))
theorem chk_spec_l03Draw : ∃ b, Try.f125.body = some b ∧ chk Try.prog Try.f125.ntmps false C_spec_l03Draw b = true ∧ dstB (fun k => k == 0) b = true := ⟨_, rfl, by kernel_rfl, by kernel_rfl⟩
def K_spec_MakeRanking : List Nat := [0, 1, 2, 6]
def C_spec_MakeRanking : C :=
 let ks := K_spec_MakeRanking
 (.seq
  (.rg 0 [(none, .mkn 6)])
  (.cl ks (.seq
  (.rg 0 [(none, .v 7 .mv [.s 0]), (none, .v 8 .mv [.s 1]), (none, .con 9 112 [.s 7, .s 8]), (none, .v 10 .mv [.s 2]), (none, .v 11 .mn [.s 10, .k (.i 5)]), (none, .v 12 .mx [.k (.i 1), .s 11]), (none, .cop 13 125 [.s 9, .s 12] 0), (none, .tk 6 13)])
  .ret)))
theorem chk_spec_MakeRanking : ∃ b, Try.f50.body = some b ∧ chk Try.prog Try.f50.ntmps true C_spec_MakeRanking b = true := ⟨_, rfl, by kernel_rfl⟩
theorem spec_l03Draw_ok (u : Value) (nl : Option Bool) {l : List Int} (C : CodeL l) {p : Int × Int} (h : Cur l p) {m : Nat} (h1 : 1 ≤ m) (h5 : m ≤ 5) : ∃ (q : Int × Int) (r : List Int), Cur l q ∧ rankB m r = true ∧ CallQ Try.prog 125 0 [.q (cur u nl l p) 0, .i m] (cur u nl l q) [(0, .own 1 none (ii r))] := by
 obtain ⟨F, F0, FltS⟩ := iter_exN (α := {a : List Int × (Int × Int) // rankB m a.1 = true ∧ Cur l a.2}) (R := fun k a b => k + 1 < m → ∃ x : Nat, x < m - k ∧ b.1.1 = swp a.1.1 (m - 1 - k) x ∧ CallQ Try.prog 164 0 [.q (cur u nl l a.1.2) 0, .i ((m : Int) - 1 - k + 1)] (cur u nl l b.1.2) [(0, .i x)]) (fun k a => by
  by_cases hk : k + 1 < m
  ·obtain ⟨q, x, hq, x0, x1, W⟩ := spec_l01Below_ok u nl C a.2.2 (n := (m : Int) - 1 - k + 1) (by omega) (by omega)
   obtain ⟨X, rfl⟩ : ∃ X : Nat, x = X := ⟨x.toNat, by omega⟩
   exact ⟨⟨(swp a.1.1 (m - 1 - k) X, q), swp_rank a.2.1 (by omega) (by omega), hq⟩, fun _ => ⟨X, by omega, rfl, W⟩⟩
  ·exact ⟨a, fun h => absurd h hk⟩) ⟨(upto m, p), upto_rank h1 h5, h⟩
 refine ⟨(F (m - 1)).1.2, (F (m - 1)).1.1, (F (m - 1)).2.2, (F (m - 1)).2.1, ?_⟩
 unfold cur at FltS ⊢
 obtain ⟨code0, hcd1, hcd2, hcd3⟩ := chk_spec_l03Draw; refine callQ_of Try.func125 hcd1 mo Try.call125 (r := 4) (i := 0) (by kernel_rfl) hcd2 hcd3 (by rw [Try.ntmps125]; simp) (by simp) (by decide) rfl rfl (by simp) ?_; unfold C_spec_l03Draw K_spec_l03Draw; simp (maxSteps := 2000000) only [go_sem, Nat.reduceBEq, Nat.reduceAdd, Nat.reduceMul, Nat.reduceMod, Nat.reduceLT, Nat.reduceDiv, Nat.reduceSub, Nat.reduceLeDiff, Int.reduceToNat, Int.reduceLT, Int.reduceLE, reduceCtorEq]
 refine loopN m (fun k => [(0, .bx 3), (1, .i m), (5, .own 1 (some false) (ii (upto k))), (6, .i (k : Nat)), (1000, .t .arg (.xv u (.s nl (byt l)))), (2000, .i p.1), (3000, .i p.2)]) (fun _ => True) ⟨trivial, by simp (maxSteps := 2000000) only [go_sem, Nat.reduceBEq, Nat.reduceAdd, Nat.reduceMul, Nat.reduceMod, Nat.reduceLT, Nat.reduceDiv, Nat.reduceSub, Nat.reduceLeDiff, Int.reduceToNat, Int.reduceLT, Int.reduceLE, reduceCtorEq, le_self]; simp [upto]⟩ fun k hk _ => ?_
 simp (maxSteps := 2000000) only [go_sem, Nat.reduceBEq, Nat.reduceAdd, Nat.reduceMul, Nat.reduceMod, Nat.reduceLT, Nat.reduceDiv, Nat.reduceSub, Nat.reduceLeDiff, Int.reduceToNat, Int.reduceLT, Int.reduceLE, reduceCtorEq, le_self]
 refine ⟨fun hlt => ?_, fun hge => ?_⟩
 ·refine ⟨by rw [upto_len]; omega, inR_of (by omega) (by omega), by omega, upto_s.symm, by simp⟩
 ·have ek : k = m := by omega
  rw [ek]
  refine ⟨inR_of (by omega) (by omega), ?_⟩
  refine loopN (m - 1) (fun k => [(0, .bx 3), (1, .i m), (5, .own 1 (some false) (ii (F k).1.1)), (7, .i ((m : Int) - 1 - k)), (1000, .t .arg (.xv u (.s nl (byt l)))), (2000, .i (F k).1.2.1), (3000, .i (F k).1.2.2)]) (fun _ => True) ⟨trivial, by simp (maxSteps := 2000000) only [go_sem, Nat.reduceBEq, Nat.reduceAdd, Nat.reduceMul, Nat.reduceMod, Nat.reduceLT, Nat.reduceDiv, Nat.reduceSub, Nat.reduceLeDiff, Int.reduceToNat, Int.reduceLT, Int.reduceLE, reduceCtorEq, le_self]; simp [F0]⟩ fun k hk _ => ?_
  have hrl : (F k).1.1.length = m := by have := rank_len (F k).2.1; omega
  simp (maxSteps := 2000000) only [go_sem, Nat.reduceBEq, Nat.reduceAdd, Nat.reduceMul, Nat.reduceMod, Nat.reduceLT, Nat.reduceDiv, Nat.reduceSub, Nat.reduceLeDiff, Int.reduceToNat, Int.reduceLT, Int.reduceLE, reduceCtorEq, le_self]
  refine ⟨fun hlt => ?_, fun hge => ?_⟩
  ·obtain ⟨x, x1, e, W⟩ := FltS k (by omega)
   refine ⟨inR_of (by omega) (by omega), ?_⟩
   refine ⟨_, _, W, ?_⟩
   simp (maxSteps := 2000000) only [go_sem, Nat.reduceBEq, Nat.reduceAdd, Nat.reduceMul, Nat.reduceMod, Nat.reduceLT, Nat.reduceDiv, Nat.reduceSub, Nat.reduceLeDiff, Int.reduceToNat, Int.reduceLT, Int.reduceLE, reduceCtorEq, le_self]
   have ei : ((m : Int) - 1 - k).toNat = m - 1 - k := by omega
   rw [ei]
   refine ⟨by omega, by omega, by omega, by omega, by omega, by omega, by omega, by omega, by omega, by omega, by rw [List.length_set]; omega, by rw [List.length_set]; omega, inR_of (by omega) (by omega), by omega, by rw [e]; rfl, by omega⟩
  ·have : k = m - 1 := by omega
   subst this
   exact ⟨rfl, Vc.T.le_refl _, rfl, rfl⟩
theorem spec_MakeRanking_ok (u : Value) (nl : Option Bool) {l : List Int} (C : CodeL l) {n : Int} (h0 : 0 ≤ n) (h1000 : n ≤ 1000) {m : Nat} (h1 : 1 ≤ m) (h5 : m ≤ 5) : ∃ r : List Int, rankB m r = true ∧ CallOk Try.prog 50 [.xv u (.s nl (byt l)), .i n, .i m] [(0, .own 1 none (ii r))] := by
 obtain ⟨p, hp, W⟩ := spec_l32New_ok u nl C h0 h1000
 obtain ⟨q, r, hq, hr, W1⟩ := spec_l03Draw_ok u nl C hp h1 h5
 refine ⟨r, hr, ?_⟩
 unfold cur at W W1
 obtain ⟨code0, hcd1, hcd2⟩ := chk_spec_MakeRanking; refine callOk_of Try.func50 hcd1 mo Try.call50 (rs := [6]) (by kernel_rfl) hcd2 (by rw [Try.ntmps50]; simp) (by simp) (by decide) ?_; unfold C_spec_MakeRanking K_spec_MakeRanking; simp (maxSteps := 2000000) only [go_sem, Nat.reduceBEq, Nat.reduceAdd, Nat.reduceMul, Nat.reduceMod, Nat.reduceLT, Nat.reduceDiv, Nat.reduceSub, Nat.reduceLeDiff, Int.reduceToNat, Int.reduceLT, Int.reduceLE, reduceCtorEq]
 refine ⟨_, W, ?_⟩
 simp (maxSteps := 2000000) only [go_sem, Nat.reduceBEq, Nat.reduceAdd, Nat.reduceMul, Nat.reduceMod, Nat.reduceLT, Nat.reduceDiv, Nat.reduceSub, Nat.reduceLeDiff, Int.reduceToNat, Int.reduceLT, Int.reduceLE, reduceCtorEq, le_self]
 rw [show max (1 : Int) (min (m : Int) 5) = m by omega]
 refine ⟨_, _, W1, ?_⟩
 simp (maxSteps := 2000000) only [go_sem, Nat.reduceBEq, Nat.reduceAdd, Nat.reduceMul, Nat.reduceMod, Nat.reduceLT, Nat.reduceDiv, Nat.reduceSub, Nat.reduceLeDiff, Int.reduceToNat, Int.reduceLT, Int.reduceLE, reduceCtorEq, le_self]
end Go.Proofs.Ytgdpplhbblapgaa
