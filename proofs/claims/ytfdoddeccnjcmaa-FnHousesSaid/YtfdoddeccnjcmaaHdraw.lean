/- Own work: contracts of functions that the claim reaches. No condition beyond those that each theorem names. -/
import Derived.Test.YtfdoddeccnjcmaaProg
import Derived.Test.YtfdoddeccnjcmaaDraw
namespace Go.Proofs.Ytfdoddeccnjcmaa
open Go Go.Vc
set_option maxRecDepth 100000
set_option linter.unusedSimpArgs false
set_option linter.unusedVariables false
def K_spec_l22Draw : List Nat := [0, 1, 4, 5, 6, 7, 1000, 2000, 3000]
def C_spec_l22Draw : C :=
  let ks := K_spec_l22Draw
  (.seq
   (.rg 0 [(none, .mkn 4)])
   (.cl ks (.seq
   (.rg 0 [(none, .v 8 .mv [.s 0]), (none, .v 9 .mv [.s 1]), (none, .cop 10 127 [.s 8, .s 9] 0), (none, .v 11 (.bin .add) [.k (.i 1), .s 10]), (none, .tk 5 11)])
   (.cl ks (.seq
   (.rg 0 [(none, .lit 12 [] 0), (none, .tk 6 12)])
   (.cl ks (.seq
   (.seq
   (.rg 0 [(none, .v 7 .mv [.k (.i 0)])])
   (.cl ks (.block 0
   (.loop
   (.seq
   (.seq
   (.rg 0 [(none, .v 13 .mv [.s 7]), (none, .v 14 .mv [.s 5]), (none, .v 15 (.bin .lss) [.s 13, .s 14])])
   (.cond (.s 15)
   .skip
   (.exit 0)))
   (.cl ks (.seq
   (.block 1
   (.rg 0 [(none, .v 18 .mv [.s 6]), (none, .v 19 .mv [.s 0]), (none, .v 20 .mv [.s 5]), (none, .cop 21 89 [.s 19, .s 20] 0), (none, .lit 22 [.s 21] 1), (none, .app 23 (.s 18) (.s 22) 1), (none, .tk 6 23)]))
   (.cl ks (.rg 0 [(none, .v 16 .mv [.s 7]), (none, .v 17 (.bin .add) [.s 16, .k (.i 1)]), (none, .tk 7 17)])))))))))
   (.cl ks (.seq
   (.rg 0 [(none, .v 24 .mv [.s 6]), (none, .tk 4 24)])
   .ret)))))))))

theorem chk_spec_l22Draw : ∃ b, Try.f88.body = some b ∧ chk Try.prog Try.f88.ntmps false C_spec_l22Draw b = true ∧ dstB (fun k => k == 0) b = true := ⟨_, rfl, by kernel_rfl, by kernel_rfl⟩
def K_spec_MakeHouses : List Nat := [0, 1, 2, 6]
def C_spec_MakeHouses : C :=
  let ks := K_spec_MakeHouses
  (.seq
   (.rg 0 [(none, .mkn 6)])
   (.cl ks (.seq
   (.rg 0 [(none, .v 7 .mv [.s 0]), (none, .v 8 .mv [.s 1]), (none, .con 9 67 [.s 7, .s 8]), (none, .v 10 .mv [.s 2]), (none, .v 11 .mn [.s 10, .k (.i 5)]), (none, .v 12 .mx [.k (.i 1), .s 11]), (none, .cop 13 88 [.s 9, .s 12] 0), (none, .tk 6 13)])
   .ret)))

theorem chk_spec_MakeHouses : ∃ b, Try.f33.body = some b ∧ chk Try.prog Try.f33.ntmps true C_spec_MakeHouses b = true := ⟨_, rfl, by kernel_rfl⟩
theorem spec_l22Draw_ok (u : Value) (nl : Option Bool) {l : List Int} (C : CodeL l) {p : Int × Int} (h : Cur l p) {m : Nat} (h1 : 1 ≤ m) (h5 : m ≤ 5) : ∃ (q : Int × Int) (ls : List (List Int)), Cur l q ∧ 1 ≤ ls.length ∧ ls.length ≤ m ∧ (∀ r ∈ ls, rankB ls.length r = true) ∧ CallQ Try.prog 88 0 [.q (cur u nl l p) 0, .i m] (cur u nl l q) [(0, .own 1 none (rr ls))] := by
  obtain ⟨p1, n, hp1, n0, n3, W1⟩ := spec_l01Below_ok u nl C h (n := (m : Int)) (by omega) (by omega)
  obtain ⟨N, rfl⟩ : ∃ N : Nat, n = N := ⟨n.toNat, by omega⟩
  obtain ⟨F, F0, FltS⟩ := iter_ex (α := {a : (Int × Int) × List Int // Cur l a.1 ∧ rankB ((N + 1 : Nat) : Int) a.2 = true}) (R := fun a b => CallQ Try.prog 89 0 [.q (cur u nl l a.1.1) 0, .i ((N + 1 : Nat) : Int)] (cur u nl l b.1.1) [(0, .own 1 none (ii b.1.2))]) (fun a => by
    obtain ⟨q, r, hq, hr, W⟩ := spec_l03Draw_ok u nl C a.2.1 (m := N + 1) (by omega) (by omega)
    exact ⟨⟨(q, r), hq, hr⟩, W⟩) ⟨(p1, upto (N + 1)), hp1, upto_rank (by omega) (by omega)⟩
  obtain ⟨R, hR⟩ : ∃ R : Nat → List (List Int), R = fun k => (List.range k).map fun t => (F (t + 1)).1.2 := ⟨_, rfl⟩
  have Rs : ∀ k, R (k + 1) = R k ++ [(F (k + 1)).1.2] := fun k => by rw [hR]; simp [List.range_succ]
  have Rl : ∀ k, (R k).length = k := fun k => by rw [hR]; simp
  refine ⟨(F (N + 1)).1.1, R (N + 1), (F (N + 1)).2.1, by rw [Rl]; omega, by rw [Rl]; omega, fun r hr => ?_, ?_⟩
  · rw [hR] at hr
    obtain ⟨t, _, rfl⟩ := List.mem_map.1 hr
    rw [Rl]; exact (F (t + 1)).2.2
  unfold cur at W1 FltS ⊢
  obtain ⟨code0, hcd1, hcd2, hcd3⟩ := chk_spec_l22Draw; refine callQ_of Try.func88 hcd1 mo Try.call88 (r := 4) (i := 0) (by kernel_rfl) hcd2 hcd3 (by rw [Try.ntmps88]; simp) (by simp) (by decide) rfl rfl (by simp) ?_; unfold C_spec_l22Draw K_spec_l22Draw; simp (config := { maxSteps := 2000000 }) only [go_sem, Nat.reduceBEq, Nat.reduceAdd, Nat.reduceMul, Nat.reduceMod, Nat.reduceLT, Nat.reduceDiv, Nat.reduceSub, Nat.reduceLeDiff, Int.reduceToNat, Int.reduceLT, Int.reduceLE, reduceCtorEq, List.take_nil, List.drop_nil]
  refine ⟨_, _, W1, ?_⟩
  simp (config := { maxSteps := 2000000 }) only [go_sem, Nat.reduceBEq, Nat.reduceAdd, Nat.reduceMul, Nat.reduceMod, Nat.reduceLT, Nat.reduceDiv, Nat.reduceSub, Nat.reduceLeDiff, Int.reduceToNat, Int.reduceLT, Int.reduceLE, reduceCtorEq, List.take_nil, List.drop_nil, le_self]
  refine ⟨inR_of (by omega) (by omega), ?_⟩
  refine loopN (N + 1) (fun i => [(0, .bx 3), (1, .i m), (5, .i (N + 1 : Nat)), (6, .own 1 (some false) (rr (R i))), (7, .i (i : Nat)), (1000, .t .arg (.xv u (.s nl (byt l)))), (2000, .i (F i).1.1.1), (3000, .i (F i).1.1.2)]) (fun _ => True) ⟨trivial, by simp (config := { maxSteps := 2000000 }) only [go_sem, Nat.reduceBEq, Nat.reduceAdd, Nat.reduceMul, Nat.reduceMod, Nat.reduceLT, Nat.reduceDiv, Nat.reduceSub, Nat.reduceLeDiff, Int.reduceToNat, Int.reduceLT, Int.reduceLE, reduceCtorEq, List.take_nil, List.drop_nil, le_self]; simp [hR, F0]; omega⟩ fun i hi _ => ?_
  simp (config := { maxSteps := 2000000 }) only [go_sem, Nat.reduceBEq, Nat.reduceAdd, Nat.reduceMul, Nat.reduceMod, Nat.reduceLT, Nat.reduceDiv, Nat.reduceSub, Nat.reduceLeDiff, Int.reduceToNat, Int.reduceLT, Int.reduceLE, reduceCtorEq, List.take_nil, List.drop_nil, le_self]
  refine ⟨fun hlt => ?_, fun hge => ?_⟩
  · refine ⟨_, _, FltS i, ?_⟩
    simp (config := { maxSteps := 2000000 }) only [go_sem, Nat.reduceBEq, Nat.reduceAdd, Nat.reduceMul, Nat.reduceMod, Nat.reduceLT, Nat.reduceDiv, Nat.reduceSub, Nat.reduceLeDiff, Int.reduceToNat, Int.reduceLT, Int.reduceLE, reduceCtorEq, List.take_nil, List.drop_nil, le_self]
    exact ⟨by simp, by rw [Rl]; omega, inR_of (by omega) (by omega), by omega, (Rs i).symm, by simp⟩
  · have : i = N + 1 := by omega
    subst this
    exact ⟨rfl, Vc.T.le_refl _, rfl, rfl⟩
theorem spec_MakeHouses_ok (u : Value) (nl : Option Bool) {l : List Int} (C : CodeL l) {n : Int} (h0 : 0 ≤ n) (h1000 : n ≤ 1000) {m : Nat} (h1 : 1 ≤ m) (h5 : m ≤ 5) : ∃ ls : List (List Int), 1 ≤ ls.length ∧ ls.length ≤ m ∧ (∀ r ∈ ls, rankB ls.length r = true) ∧ CallOk Try.prog 33 [.xv u (.s nl (byt l)), .i n, .i m] [(0, .own 1 none (rr ls))] := by
  obtain ⟨p, hp, W⟩ := spec_l32New_ok u nl C h0 h1000
  obtain ⟨q, ls, hq, l1, l2, hr, W1⟩ := spec_l22Draw_ok u nl C hp h1 h5
  refine ⟨ls, l1, l2, hr, ?_⟩
  unfold cur at W W1
  obtain ⟨code0, hcd1, hcd2⟩ := chk_spec_MakeHouses; refine callOk_of Try.func33 hcd1 mo Try.call33 (rs := [6]) (by kernel_rfl) hcd2 (by rw [Try.ntmps33]; simp) (by simp) (by decide) ?_; unfold C_spec_MakeHouses K_spec_MakeHouses; simp (config := { maxSteps := 2000000 }) only [go_sem, Nat.reduceBEq, Nat.reduceAdd, Nat.reduceMul, Nat.reduceMod, Nat.reduceLT, Nat.reduceDiv, Nat.reduceSub, Nat.reduceLeDiff, Int.reduceToNat, Int.reduceLT, Int.reduceLE, reduceCtorEq, List.take_nil, List.drop_nil]
  refine ⟨_, W, ?_⟩
  simp (config := { maxSteps := 2000000 }) only [go_sem, Nat.reduceBEq, Nat.reduceAdd, Nat.reduceMul, Nat.reduceMod, Nat.reduceLT, Nat.reduceDiv, Nat.reduceSub, Nat.reduceLeDiff, Int.reduceToNat, Int.reduceLT, Int.reduceLE, reduceCtorEq, List.take_nil, List.drop_nil, le_self]
  rw [show max (1 : Int) (min (m : Int) 5) = m by omega]
  refine ⟨_, _, W1, ?_⟩
  simp (config := { maxSteps := 2000000 }) only [go_sem, Nat.reduceBEq, Nat.reduceAdd, Nat.reduceMul, Nat.reduceMod, Nat.reduceLT, Nat.reduceDiv, Nat.reduceSub, Nat.reduceLeDiff, Int.reduceToNat, Int.reduceLT, Int.reduceLE, reduceCtorEq, List.take_nil, List.drop_nil, le_self]

end Go.Proofs.Ytfdoddeccnjcmaa
