/- Own work: contracts of functions that the claim reaches. No condition beyond those that each theorem names. -/
import Derived.Test.YtfdoddeccnjcmaaProg
import Derived.Test.YtfdoddeccnjcmaaCursor
import Derived.Test.YtfdoddeccnjcmaaGoods
namespace Go.Proofs.Ytfdoddeccnjcmaa
open Go Go.Vc
set_option maxRecDepth 100000
set_option linter.unusedSimpArgs false
set_option linter.unusedVariables false
def K_spec_l23Draw : List Nat := [0, 1, 4, 5, 6, 7, 8, 9, 10, 1000, 2000, 3000]
def C_spec_l23Draw : C :=
  let ks := K_spec_l23Draw
  (.seq
   (.rg 0 [(none, .mkn 4)])
   (.cl ks (.seq
   (.rg 0 [(none, .v 11 .mv [.s 0]), (none, .cop 12 127 [.s 11, .k (.i 3)] 0), (none, .v 13 (.bin .add) [.k (.i 1), .s 12]), (none, .tk 5 13)])
   (.cl ks (.seq
   (.rg 0 [(none, .v 14 .mv [.s 0]), (none, .v 15 .mv [.s 1]), (none, .cop 16 127 [.s 14, .s 15] 0), (none, .v 17 (.bin .add) [.k (.i 1), .s 16]), (none, .tk 6 17)])
   (.cl ks (.seq
   (.rg 0 [(none, .lit 18 [] 0), (none, .tk 7 18)])
   (.cl ks (.seq
   (.seq
   (.rg 0 [(none, .v 8 .mv [.k (.i 0)])])
   (.cl ks (.block 0
   (.loop
   (.seq
   (.seq
   (.rg 0 [(none, .v 19 .mv [.s 8]), (none, .v 20 .mv [.s 5]), (none, .v 21 (.bin .lss) [.s 19, .s 20])])
   (.cond (.s 21)
   .skip
   (.exit 0)))
   (.cl ks (.seq
   (.block 1
   (.seq
   (.rg 0 [(none, .lit 24 [] 0), (none, .tk 9 24)])
   (.cl ks (.seq
   (.seq
   (.rg 0 [(none, .v 10 .mv [.k (.i 0)])])
   (.cl ks (.block 2
   (.loop
   (.seq
   (.seq
   (.rg 0 [(none, .v 25 .mv [.s 10]), (none, .v 26 .mv [.s 6]), (none, .v 27 (.bin .lss) [.s 25, .s 26])])
   (.cond (.s 27)
   .skip
   (.exit 2)))
   (.cl ks (.seq
   (.block 3
   (.rg 0 [(none, .v 30 .mv [.s 9]), (none, .v 31 .mv [.s 0]), (none, .cop 32 127 [.s 31, .k (.i 12)] 0), (none, .lit 33 [.s 32] 0), (none, .app 34 (.s 30) (.s 33) 0), (none, .tk 9 34)]))
   (.cl ks (.rg 0 [(none, .v 28 .mv [.s 10]), (none, .v 29 (.bin .add) [.s 28, .k (.i 1)]), (none, .tk 10 29)])))))))))
   (.cl ks (.rg 0 [(none, .v 35 .mv [.s 7]), (none, .v 36 .mv [.s 9]), (none, .lit 37 [.s 36] 1), (none, .app 38 (.s 35) (.s 37) 1), (none, .tk 7 38)]))))))
   (.cl ks (.rg 0 [(none, .v 22 .mv [.s 8]), (none, .v 23 (.bin .add) [.s 22, .k (.i 1)]), (none, .tk 8 23)])))))))))
   (.cl ks (.seq
   (.rg 0 [(none, .v 39 .mv [.s 7]), (none, .tk 4 39)])
   .ret)))))))))))

theorem chk_spec_l23Draw : ∃ b, Try.f106.body = some b ∧ chk Try.prog Try.f106.ntmps false C_spec_l23Draw b = true ∧ dstB (fun k => k == 0) b = true := ⟨_, rfl, by kernel_rfl, by kernel_rfl⟩
def K_spec_MakeValues : List Nat := [0, 1, 4]
def C_spec_MakeValues : C :=
  let ks := K_spec_MakeValues
  (.seq
   (.rg 0 [(none, .mkn 4)])
   (.cl ks (.seq
   (.rg 0 [(none, .v 5 .mv [.s 0]), (none, .v 6 .mv [.s 1]), (none, .con 7 67 [.s 5, .s 6]), (none, .cop 8 106 [.s 7, .k (.i 5)] 0), (none, .tk 4 8)])
   .ret)))

theorem chk_spec_MakeValues : ∃ b, Try.f45.body = some b ∧ chk Try.prog Try.f45.ntmps true C_spec_MakeValues b = true := ⟨_, rfl, by kernel_rfl⟩
/-- The i-th row of g of a row of drawn numbers. -/
def drawR (X : Nat → Int) (g i k : Nat) : List Int := (List.range k).map fun j => X (i * g + j)
def drawM (X : Nat → Int) (g n : Nat) : List (List Int) := (List.range n).map fun i => drawR X g i g
theorem drawR_succ {X : Nat → Int} {g i k : Nat} : drawR X g i (k + 1) = drawR X g i k ++ [X (i * g + k)] := by simp [drawR, List.range_succ]
theorem drawM_succ {X : Nat → Int} {g n : Nat} : drawM X g (n + 1) = drawM X g n ++ [drawR X g n g] := by simp [drawM, List.range_succ]
theorem drawR_len {X : Nat → Int} {g i k : Nat} : (drawR X g i k).length = k := by simp [drawR]
theorem drawM_len {X : Nat → Int} {g n : Nat} : (drawM X g n).length = n := by simp [drawM]
theorem draw_rect {X : Nat → Int} {g n : Nat} (hX : ∀ t, 0 ≤ X t ∧ X t < 12) (h1 : 1 ≤ n) (h3 : n ≤ 3) (g1 : 1 ≤ g) (g5 : g ≤ 5) : rectB (drawM X g n) 3 6 100 = true ∧ ((drawM X g n).getD 0 []).length = g := by
  have e0 : ((drawM X g n).getD 0 []).length = g := by simp [drawM, List.getD, List.getElem?_range (show 0 < n by omega), drawR_len]
  refine ⟨?_, e0⟩
  simp only [rectB, Bool.and_eq_true, inI, decide_eq_true_eq, List.all_eq_true]
  rw [e0, drawM_len]
  refine ⟨⟨by omega, by omega⟩, fun r hr => ?_⟩
  obtain ⟨i, _, rfl⟩ := List.mem_map.1 hr
  refine ⟨drawR_len, fun x hx => ?_⟩
  obtain ⟨j, _, rfl⟩ := List.mem_map.1 hx
  have := hX (i * g + j)
  omega
theorem spec_l23Draw_ok (u : Value) (nl : Option Bool) {l : List Int} (C : CodeL l) {p : Int × Int} (h : Cur l p) : ∃ (q : Int × Int) (vs : List (List Int)), Cur l q ∧ rectB vs 3 6 100 = true ∧ (vs.getD 0 []).length ≤ 5 ∧ CallQ Try.prog 106 0 [.q (cur u nl l p) 0, .i 5] (cur u nl l q) [(0, .own 1 none (rr vs))] := by
  obtain ⟨p1, n, hp1, n0, n3, W1⟩ := spec_l01Below_ok u nl C h (n := 3) (by omega) (by omega)
  obtain ⟨p2, g, hp2, g0, g5, W2⟩ := spec_l01Below_ok u nl C hp1 (n := 5) (by omega) (by omega)
  obtain ⟨F, F0, FltS⟩ := iter_ex (α := {a : (Int × Int) × Int // Cur l a.1 ∧ 0 ≤ a.2 ∧ a.2 < 12}) (R := fun a b => CallQ Try.prog 127 0 [.q (cur u nl l a.1.1) 0, .i 12] (cur u nl l b.1.1) [(0, .i b.1.2)]) (fun a => by
    obtain ⟨q, x, hq, x0, x1, W⟩ := spec_l01Below_ok u nl C a.2.1 (n := 12) (by omega) (by omega)
    exact ⟨⟨(q, x), hq, x0, x1⟩, W⟩) ⟨(p2, 0), hp2, by simp, by simp⟩
  obtain ⟨N, rfl⟩ : ∃ N : Nat, n = N := ⟨n.toNat, by omega⟩
  obtain ⟨M, rfl⟩ : ∃ M : Nat, g = M := ⟨g.toNat, by omega⟩
  obtain ⟨X, hX⟩ : ∃ X : Nat → Int, X = fun t => (F (t + 1)).1.2 := ⟨_, rfl⟩
  have hXb : ∀ t, 0 ≤ X t ∧ X t < 12 := fun t => by rw [hX]; exact (F (t + 1)).2.2
  obtain ⟨r1, r2⟩ := draw_rect (n := N + 1) (g := M + 1) hXb (by omega) (by omega) (by omega) (by omega)
  refine ⟨(F ((N + 1) * (M + 1))).1.1, drawM X (M + 1) (N + 1), (F _).2.1, r1, by rw [r2]; omega, ?_⟩
  unfold cur at W1 W2 ⊢
  obtain ⟨code0, hcd1, hcd2, hcd3⟩ := chk_spec_l23Draw; refine callQ_of Try.func106 hcd1 mo Try.call106 (r := 4) (i := 0) (by kernel_rfl) hcd2 hcd3 (by rw [Try.ntmps106]; simp) (by simp) (by decide) rfl rfl (by simp) ?_; unfold C_spec_l23Draw K_spec_l23Draw; simp (config := { maxSteps := 2000000 }) only [go_sem, Nat.reduceBEq, Nat.reduceAdd, Nat.reduceMul, Nat.reduceMod, Nat.reduceLT, Nat.reduceDiv, Nat.reduceSub, Nat.reduceLeDiff, Int.reduceToNat, Int.reduceLT, Int.reduceLE, reduceCtorEq, List.take_nil, List.drop_nil]
  refine ⟨_, _, W1, ?_⟩
  simp (config := { maxSteps := 2000000 }) only [go_sem, Nat.reduceBEq, Nat.reduceAdd, Nat.reduceMul, Nat.reduceMod, Nat.reduceLT, Nat.reduceDiv, Nat.reduceSub, Nat.reduceLeDiff, Int.reduceToNat, Int.reduceLT, Int.reduceLE, reduceCtorEq, List.take_nil, List.drop_nil, le_self]
  refine ⟨inR_of (by omega) (by omega), ?_⟩
  refine ⟨_, _, W2, ?_⟩
  simp (config := { maxSteps := 2000000 }) only [go_sem, Nat.reduceBEq, Nat.reduceAdd, Nat.reduceMul, Nat.reduceMod, Nat.reduceLT, Nat.reduceDiv, Nat.reduceSub, Nat.reduceLeDiff, Int.reduceToNat, Int.reduceLT, Int.reduceLE, reduceCtorEq, List.take_nil, List.drop_nil, le_self]
  refine ⟨inR_of (by omega) (by omega), ?_⟩
  refine loopN (N + 1) (fun i => [(0, .bx 3), (1, .i 5), (5, .i (N + 1 : Nat)), (6, .i (M + 1 : Nat)), (7, .own 1 (some false) (rr (drawM X (M + 1) i))), (8, .i (i : Nat)), (1000, .t .arg (.xv u (.s nl (byt l)))), (2000, .i (F (i * (M + 1))).1.1.1), (3000, .i (F (i * (M + 1))).1.1.2)]) (fun _ => True) ⟨trivial, by simp (config := { maxSteps := 2000000 }) only [go_sem, Nat.reduceBEq, Nat.reduceAdd, Nat.reduceMul, Nat.reduceMod, Nat.reduceLT, Nat.reduceDiv, Nat.reduceSub, Nat.reduceLeDiff, Int.reduceToNat, Int.reduceLT, Int.reduceLE, reduceCtorEq, List.take_nil, List.drop_nil, le_self]; simp [drawM, F0]; omega⟩ fun i hi _ => ?_
  simp (config := { maxSteps := 2000000 }) only [go_sem, Nat.reduceBEq, Nat.reduceAdd, Nat.reduceMul, Nat.reduceMod, Nat.reduceLT, Nat.reduceDiv, Nat.reduceSub, Nat.reduceLeDiff, Int.reduceToNat, Int.reduceLT, Int.reduceLE, reduceCtorEq, List.take_nil, List.drop_nil, le_self]
  refine ⟨fun hlt => ?_, fun hge => ?_⟩
  · refine loopN (M + 1) (fun k => [(0, .bx 3), (1, .i 5), (5, .i (N + 1 : Nat)), (6, .i (M + 1 : Nat)), (7, .own 1 (some false) (rr (drawM X (M + 1) i))), (8, .i (i : Nat)), (9, .own 1 (some false) (ii (drawR X (M + 1) i k))), (10, .i (k : Nat)), (1000, .t .arg (.xv u (.s nl (byt l)))), (2000, .i (F (i * (M + 1) + k)).1.1.1), (3000, .i (F (i * (M + 1) + k)).1.1.2)]) (fun _ => True) ⟨trivial, by simp (config := { maxSteps := 2000000 }) only [go_sem, Nat.reduceBEq, Nat.reduceAdd, Nat.reduceMul, Nat.reduceMod, Nat.reduceLT, Nat.reduceDiv, Nat.reduceSub, Nat.reduceLeDiff, Int.reduceToNat, Int.reduceLT, Int.reduceLE, reduceCtorEq, List.take_nil, List.drop_nil, le_self]; simp [drawR]⟩ fun k hk _ => ?_
    simp (config := { maxSteps := 2000000 }) only [go_sem, Nat.reduceBEq, Nat.reduceAdd, Nat.reduceMul, Nat.reduceMod, Nat.reduceLT, Nat.reduceDiv, Nat.reduceSub, Nat.reduceLeDiff, Int.reduceToNat, Int.reduceLT, Int.reduceLE, reduceCtorEq, List.take_nil, List.drop_nil, le_self]
    refine ⟨fun hlt => ?_, fun hge => ?_⟩
    · have W3 := FltS (i * (M + 1) + k)
      unfold cur at W3
      refine ⟨_, _, W3, ?_⟩
      simp (config := { maxSteps := 2000000 }) only [go_sem, Nat.reduceBEq, Nat.reduceAdd, Nat.reduceMul, Nat.reduceMod, Nat.reduceLT, Nat.reduceDiv, Nat.reduceSub, Nat.reduceLeDiff, Int.reduceToNat, Int.reduceLT, Int.reduceLE, reduceCtorEq, List.take_nil, List.drop_nil, le_self]
      have hx : X (i * (M + 1) + k) = (F (i * (M + 1) + k + 1)).1.2 := by rw [hX]
      exact ⟨by rw [drawR_len]; omega, inR_of (by omega) (by omega), by omega, by rw [drawR_succ, hx], by simp, rfl, rfl⟩
    · have : k = M + 1 := by omega
      subst this
      have e : (i + 1) * (M + 1) = i * (M + 1) + (M + 1) := Nat.succ_mul _ _
      refine ⟨by simp, by rw [drawM_len]; omega, inR_of (by omega) (by omega), by omega, by rw [drawM_succ], by simp, by rw [e], by rw [e]⟩
  · have : i = N + 1 := by omega
    subst this
    exact ⟨rfl, Vc.T.le_refl _, rfl, rfl⟩
theorem spec_MakeValues_ok (u : Value) (nl : Option Bool) {l : List Int} (C : CodeL l) : ∃ vs : List (List Int), rectB vs 3 6 100 = true ∧ (vs.getD 0 []).length ≤ 5 ∧ CallOk Try.prog 45 [.xv u (.s nl (byt l)), .i 0] [(0, .own 1 none (rr vs))] := by
  obtain ⟨p, hp, W⟩ := spec_l32New_ok u nl C (n := 0) (by omega) (by omega)
  obtain ⟨q, vs, hq, r1, r2, W1⟩ := spec_l23Draw_ok u nl C hp
  refine ⟨vs, r1, r2, ?_⟩
  unfold cur at W W1
  obtain ⟨code0, hcd1, hcd2⟩ := chk_spec_MakeValues; refine callOk_of Try.func45 hcd1 mo Try.call45 (rs := [4]) (by kernel_rfl) hcd2 (by rw [Try.ntmps45]; simp) (by simp) (by decide) ?_; unfold C_spec_MakeValues K_spec_MakeValues; simp (config := { maxSteps := 2000000 }) only [go_sem, Nat.reduceBEq, Nat.reduceAdd, Nat.reduceMul, Nat.reduceMod, Nat.reduceLT, Nat.reduceDiv, Nat.reduceSub, Nat.reduceLeDiff, Int.reduceToNat, Int.reduceLT, Int.reduceLE, reduceCtorEq, List.take_nil, List.drop_nil]
  refine ⟨_, W, ?_⟩
  simp (config := { maxSteps := 2000000 }) only [go_sem, Nat.reduceBEq, Nat.reduceAdd, Nat.reduceMul, Nat.reduceMod, Nat.reduceLT, Nat.reduceDiv, Nat.reduceSub, Nat.reduceLeDiff, Int.reduceToNat, Int.reduceLT, Int.reduceLE, reduceCtorEq, List.take_nil, List.drop_nil, le_self]
  refine ⟨_, _, W1, ?_⟩
  simp (config := { maxSteps := 2000000 }) only [go_sem, Nat.reduceBEq, Nat.reduceAdd, Nat.reduceMul, Nat.reduceMod, Nat.reduceLT, Nat.reduceDiv, Nat.reduceSub, Nat.reduceLeDiff, Int.reduceToNat, Int.reduceLT, Int.reduceLE, reduceCtorEq, List.take_nil, List.drop_nil, le_self]

end Go.Proofs.Ytfdoddeccnjcmaa
