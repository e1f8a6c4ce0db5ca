/- Own work: contracts of functions that the claim reaches. No condition beyond those that each theorem names. -/
import Derived.Test.YtgdpplhbblapgaaProg
import Derived.Test.YtgdpplhbblapgaaDraw
import Derived.Test.YtgdpplhbblapgaaMkt
namespace Go.Proofs.Ytgdpplhbblapgaa
open Go Go.Vc
set_option maxRecDepth 100000
set_option linter.unusedSimpArgs false
set_option linter.unusedVariables false
def K_spec_l17Draw : List Nat := [0, 1, 4, 5, 6, 7, 8, 9, 10, 1000, 2000, 3000, 1004, 2004, 1006, 2006]
def C_spec_l17Draw : C :=
 let ks := K_spec_l17Draw
 (.seq
  (.rg 0 [(none, .new 4 [.s (some true) [], .s (some true) []])])
  (.cl ks (.seq
  (.rg 0 [(none, .v 11 .mv [.s 0]), (none, .v 12 .mv [.s 1]), (none, .cop 13 164 [.s 11, .s 12] 0), (none, .v 14 (.bin .add) [.k (.i 1), .s 13]), (none, .tk 5 14)])
  (.cl ks (.seq
  (.rg 0 [(none, .v 15 .bld [.k (.s (some true) []), .k (.s (some true) [])]), (none, .new 6 [.s (some true) [], .s (some true) []]), (none, .sts (.s 6) (.s 15) 2)])
  (.cl ks (.seq
  (.seq
  (.rg 0 [(none, .onl 1006), (none, .onl 2006), (none, .v 7 .mv [.k (.i 0)])])
  (.cl ks (.block 0
  (.loop
  (.seq
  (.seq
  (.rg 0 [(none, .v 16 .mv [.s 7]), (none, .v 17 .mv [.s 5]), (none, .v 18 (.bin .lss) [.s 16, .s 17])])
  (.cond (.s 18)
  .skip
  (.exit 0)))
  (.cl ks (.seq
  (.block 1
  (.rgH [0, 1, 2, 3] [4, 5, 6, 7, 8] [(none, .v 21 (.fa 0) [.s 6]), (none, .v 22 .ld [.s 21]), (none, .v 23 .mv [.s 0]), (none, .v 24 .mv [.s 5])] [([(none, .cop 25 125 [.s 23, .s 24] 0)], [22]), ([(none, .lit 26 [.s 25] 1)], [22]), ([(none, .app 27 (.s 22) (.s 26) 1)], []), ([(none, .v 28 (.fa 0) [.s 6])], []), ([(none, .st (.s 28) (.s 27))], [])]))
  (.cl ks (.rg 0 [(none, .v 19 .mv [.s 7]), (none, .v 20 (.bin .add) [.s 19, .k (.i 1)]), (none, .tk 7 20)])))))))))
  (.cl ks (.seq
  (.seq
  (.rg 0 [(none, .v 8 .mv [.k (.i 0)])])
  (.cl ks (.block 2
  (.loop
  (.seq
  (.seq
  (.rg 0 [(none, .v 29 .mv [.s 8]), (none, .v 30 .mv [.s 5]), (none, .v 31 (.bin .lss) [.s 29, .s 30])])
  (.cond (.s 31)
  .skip
  (.exit 2)))
  (.cl ks (.seq
  (.block 3
  (.rgH [0, 1, 2, 3] [4, 5, 6, 7, 8] [(none, .v 34 (.fa 1) [.s 6]), (none, .v 35 .ld [.s 34]), (none, .v 36 .mv [.s 0]), (none, .v 37 .mv [.s 5])] [([(none, .cop 38 125 [.s 36, .s 37] 0)], [35]), ([(none, .lit 39 [.s 38] 1)], [35]), ([(none, .app 40 (.s 35) (.s 39) 1)], []), ([(none, .v 41 (.fa 1) [.s 6])], []), ([(none, .st (.s 41) (.s 40))], [])]))
  (.cl ks (.rg 0 [(none, .v 32 .mv [.s 8]), (none, .v 33 (.bin .add) [.s 32, .k (.i 1)]), (none, .tk 8 33)])))))))))
  (.cl ks (.seq
  (.seq
  (.rg 0 [(none, .v 42 .mv [.s 5]), (none, .v 43 (.bin .gtr) [.s 42, .k (.i 1)]), (none, .v 44 .mv [.s 43]), (some (44, true), .v 45 .mv [.s 0]), (some (44, true), .cop 46 170 [.s 45, .k (.i 3)] 0), (none, .v 47 .pick [.s 44, .s 46, .k (.b false)])])
  (.cond (.s 47)
  (.seq
  (.rg 0 [(none, .v 9 .mv [.k (.i 0)])])
  (.cl ks (.block 4
  (.loop
  (.seq
  (.seq
  (.rg 0 [(none, .v 48 .mv [.s 9]), (none, .v 49 .mv [.s 5]), (none, .v 50 (.bin .lss) [.s 48, .s 49])])
  (.cond (.s 50)
  .skip
  (.exit 4)))
  (.cl ks (.seq
  (.block 5
  (.seq
  (.rg 0 [(none, .v 10 .mv [.k (.i 0)])])
  (.cl ks (.block 6
  (.loop
  (.seq
  (.seq
  (.rg 0 [(none, .v 53 .mv [.s 10]), (none, .v 54 .mv [.s 5]), (none, .v 55 (.bin .lss) [.s 53, .s 54])])
  (.cond (.s 55)
  .skip
  (.exit 6)))
  (.cl ks (.seq
  (.block 7
  (.seq
  (.rg 11 [(none, .v 58 (.fa 0) [.s 6]), (none, .v 59 .ld [.s 58]), (none, .v 60 .mv [.s 9]), (none, .v 61 .idx [.s 59, .s 60]), (none, .v 62 .lde [.s 61]), (none, .v 63 .mv [.s 10]), (none, .v 64 .mv [.s 9]), (none, .v 65 .mv [.s 10]), (none, .v 66 (.bin .add) [.s 64, .s 65]), (none, .v 67 .mv [.s 5]), (none, .v 68 (.bin .rem) [.s 66, .s 67]), (none, .v 69 .idx [.s 62, .s 63]), (none, .st (.s 69) (.s 68))])
  (.cl ks (.rg 12 [(none, .v 70 (.fa 1) [.s 6]), (none, .v 71 .ld [.s 70]), (none, .v 72 .mv [.s 9]), (none, .v 73 .idx [.s 71, .s 72]), (none, .v 74 .lde [.s 73]), (none, .v 75 .mv [.s 10]), (none, .v 76 .mv [.s 9]), (none, .v 77 .mv [.s 10]), (none, .v 78 (.bin .add) [.s 76, .s 77]), (none, .v 79 (.bin .add) [.s 78, .k (.i 1)]), (none, .v 80 .mv [.s 5]), (none, .v 81 (.bin .rem) [.s 79, .s 80]), (none, .v 82 .idx [.s 74, .s 75]), (none, .st (.s 82) (.s 81))]))))
  (.cl ks (.rg 0 [(none, .v 56 .mv [.s 10]), (none, .v 57 (.bin .add) [.s 56, .k (.i 1)]), (none, .tk 10 57)]))))))))))
  (.cl ks (.rg 0 [(none, .v 51 .mv [.s 9]), (none, .v 52 (.bin .add) [.s 51, .k (.i 1)]), (none, .tk 9 52)])))))))))
  .skip))
  (.cl ks (.seq
  (.rg 0 [(none, .v 83 (.lds 2) [.s 6]), (none, .sts (.s 4) (.s 83) 2)])
  .ret)))))))))))))
theorem chk_spec_l17Draw : ∃ b, Try.f118.body = some b ∧ chk Try.prog Try.f118.ntmps false C_spec_l17Draw b = true ∧ dstB (fun k => k == 0) b = true := ⟨_, rfl, by kernel_rfl, by kernel_rfl⟩
def K_spec_MakeMarket : List Nat := [0, 1, 2, 6, 1006, 2006]
def C_spec_MakeMarket : C :=
 let ks := K_spec_MakeMarket
 (.seq
  (.rg 0 [(none, .new 6 [.s (some true) [], .s (some true) []])])
  (.cl ks (.seq
  (.rg 0 [(none, .v 7 .mv [.s 0]), (none, .v 8 .mv [.s 1]), (none, .con 9 112 [.s 7, .s 8]), (none, .v 10 .mv [.s 2]), (none, .v 11 .mn [.s 10, .k (.i 5)]), (none, .v 12 .mx [.k (.i 1), .s 11]), (none, .cop 13 118 [.s 9, .s 12] 0), (none, .sts (.s 6) (.s 13) 2)])
  .ret)))
theorem chk_spec_MakeMarket : ∃ b, Try.f43.body = some b ∧ chk Try.prog Try.f43.ntmps true C_spec_MakeMarket b = true := ⟨_, rfl, by kernel_rfl⟩
def K_spec_l01Once : List Nat := [0, 1, 4, 1000, 2000, 3000]
def C_spec_l01Once : C :=
 let ks := K_spec_l01Once
 (.seq
  (.rg 0 [(none, .v 4 .mv [.k (.b false)])])
  (.cl ks (.seq
  (.rg 0 [(none, .v 5 .mv [.s 0]), (none, .v 6 .mv [.s 1]), (none, .cop 7 164 [.s 5, .s 6] 0), (none, .v 8 (.bin .eql) [.s 7, .k (.i 0)]), (none, .tk 4 8)])
  .ret)))
theorem chk_spec_l01Once : ∃ b, Try.f170.body = some b ∧ chk Try.prog Try.f170.ntmps false C_spec_l01Once b = true ∧ dstB (fun k => k == 0) b = true := ⟨_, rfl, by kernel_rfl, by kernel_rfl⟩
def shR (n d i : Nat) (r : List Int) (k : Nat) : List Int := (List.range n).map fun q => if q < k then (((i + q + d) % n : Nat) : Int) else r.getD q 0
def shM (n d : Nat) (x : List (List Int)) (i k : Nat) : List (List Int) := (List.range n).map fun t => if t < i then shR n d t (x.getD t []) n else if t = i then shR n d t (x.getD t []) k else x.getD t []
theorem shR_len {n d i k : Nat} {r : List Int} : (shR n d i r k).length = n := by simp [shR]
theorem shM_len {n d i k : Nat} {x : List (List Int)} : (shM n d x i k).length = n := by simp [shM]
theorem shR_0 {n d i : Nat} {r : List Int} (h : r.length = n) : shR n d i r 0 = r := by
 apply List.ext_getElem
 ·rw [shR_len, h]
 ·intro q h1 h2
  simp [shR, List.getD, h2]
theorem shR_s {n d i k : Nat} {r : List Int} (hk : k < n) : (shR n d i r k).set k (((i + k + d) % n : Nat) : Int) = shR n d i r (k + 1) := by
 apply List.ext_getElem
 ·simp [shR_len]
 ·intro q h1 h2
  simp only [shR, List.getElem_set, List.getElem_map, List.getElem_range]
  by_cases e : k = q
  ·subst e; simp
  ·rw [if_neg e]
   by_cases e2 : q < k
   ·rw [if_pos e2, if_pos (by omega)]
   ·rw [if_neg e2, if_neg (by omega)]
theorem shM_0 {n d : Nat} {x : List (List Int)} (h : x.length = n) (hr : ∀ r ∈ x, r.length = n) : shM n d x 0 0 = x := by
 apply List.ext_getElem
 ·rw [shM_len, h]
 ·intro t h1 h2
  have e : x.getD t [] = x[t] := by simp [List.getD, h2]
  simp only [shM, List.getElem_map, List.getElem_range]
  rw [if_neg (by omega), e, shR_0 (hr _ (List.getElem_mem h2))]
  simp
theorem shM_n {n d i : Nat} {x : List (List Int)} (h : x.length = n) (hr : ∀ r ∈ x, r.length = n) : shM n d x i n = shM n d x (i + 1) 0 := by
 unfold shM
 refine List.map_congr_left fun t ht => ?_
 have ht : t < n := by simpa using ht
 by_cases e : t < i
 ·rw [if_pos e, if_pos (by omega)]
 ·rw [if_neg e]
  by_cases e2 : t = i
  ·subst e2; rw [if_pos rfl, if_pos (by omega)]
  ·rw [if_neg e2, if_neg (by omega)]
   split
   ·rw [shR_0 (hr _ (getD_mem (by omega)))]
   ·rfl
theorem shM_at {n d i k : Nat} {x : List (List Int)} (hi : i < n) : (shM n d x i k).getD i [] = shR n d i (x.getD i []) k := by
 simp [shM, List.getD, hi]
theorem shM_s {n d i k : Nat} {x : List (List Int)} (hi : i < n) (hk : k < n) : (shM n d x i k).set i ((shR n d i (x.getD i []) k).set k (((i + k + d) % n : Nat) : Int)) = shM n d x i (k + 1) := by
 rw [shR_s hk]
 apply List.ext_getElem
 ·simp [shM_len]
 ·intro q h1 h2
  simp only [shM, List.getElem_set, List.getElem_map, List.getElem_range]
  by_cases e : i = q
  ·subst e; simp
  ·rw [if_neg e]
   rw [if_neg (show ¬ q = i by omega), if_neg (show ¬ q = i by omega)]
theorem shR_rank {n d i : Nat} {r : List Int} (h1 : 1 ≤ n) (h5 : n ≤ 5) : rankB n (shR n d i r n) = true := by
 have g : ∀ q, q < n → (shR n d i r n).getD q 0 = (((i + q + d) % n : Nat) : Int) := fun q hq => by simp [shR, List.getD, hq]
 refine rank_of_nodup h1 h5 shR_len (fun v hv => ?_) fun p q hp hq hne => ?_
 ·obtain ⟨q, hq, rfl⟩ := mem_getD 0 hv
  rw [shR_len] at hq
  rw [g q hq]
  have := Nat.mod_lt (i + q + d) (show 0 < n by omega)
  omega
 ·rw [shR_len] at hp hq
  rw [g p hp, g q hq]
  intro e
  have e : (i + p + d) % n = (i + q + d) % n := by omega
  rcases (by omega : n = 1 ∨ n = 2 ∨ n = 3 ∨ n = 4 ∨ n = 5) with rfl | rfl | rfl | rfl | rfl <;> omega
theorem shM_rank {n d : Nat} {x : List (List Int)} (h1 : 1 ≤ n) (h5 : n ≤ 5) : ∀ r ∈ shM n d x n 0, rankB n r = true := by
 intro r hr
 simp only [shM, List.mem_map, List.mem_range] at hr
 obtain ⟨t, ht, rfl⟩ := hr
 rw [if_pos ht]
 exact shR_rank h1 h5
theorem tmod_nat {a b : Nat} : Int.tmod (a : Int) (b : Int) = ((a % b : Nat) : Int) := by
 rw [Int.tmod_eq_emod_of_nonneg (by omega)]; rfl
theorem rows_ex (u : Value) (nl : Option Bool) {l : List Int} (C : CodeL l) {p : Int × Int} (h : Cur l p) {m : Nat} (h1 : 1 ≤ m) (h5 : m ≤ 5) : ∃ (F : Nat → Int × Int) (R : Nat → List (List Int)), F 0 = p ∧ R 0 = [] ∧ (∀ k, Cur l (F k)) ∧ (∀ k, (R k).length = k) ∧ (∀ k, ∀ r ∈ R k, rankB m r = true) ∧
  ∀ k, ∃ r, R (k + 1) = R k ++ [r] ∧ CallQ Try.prog 125 0 [.q (cur u nl l (F k)) 0, .i m] (cur u nl l (F (k + 1))) [(0, .own 1 none (ii r))] := by
 obtain ⟨F, F0, FltS⟩ := iter_ex (α := {a : (Int × Int) × List Int // Cur l a.1 ∧ rankB (m : Int) a.2 = true}) (R := fun a b => CallQ Try.prog 125 0 [.q (cur u nl l a.1.1) 0, .i m] (cur u nl l b.1.1) [(0, .own 1 none (ii b.1.2))]) (fun a => by
  obtain ⟨q, r, hq, hr, W⟩ := spec_l03Draw_ok u nl C a.2.1 (m := m) (by omega) (by omega)
  exact ⟨⟨(q, r), hq, hr⟩, W⟩) ⟨(p, upto m), h, upto_rank (by omega) (by omega)⟩
 refine ⟨fun k => (F k).1.1, fun k => (List.range k).map fun t => (F (t + 1)).1.2, by show (F 0).1.1 = p; rw [F0], rfl, fun k => (F k).2.1, by simp, fun k r hr => ?_, fun k => ⟨(F (k + 1)).1.2, by simp [List.range_succ], FltS k⟩⟩
 obtain ⟨t, _, rfl⟩ := List.mem_map.1 hr
 exact (F (t + 1)).2.2
theorem spec_l01Once_ok (u : Value) (nl : Option Bool) {l : List Int} (C : CodeL l) {p : Int × Int} (h : Cur l p) {n : Int} (h1 : 1 ≤ n) (h2 : n ≤ 256) : ∃ q b, Cur l q ∧ CallQ Try.prog 170 0 [.q (cur u nl l p) 0, .i n] (cur u nl l q) [(0, .b b)] := by
 obtain ⟨q, x, hq, x0, x1, W⟩ := spec_l01Below_ok u nl C h h1 h2
 refine ⟨q, decide (x = 0), hq, ?_⟩
 unfold cur at W ⊢
 obtain ⟨code0, hcd1, hcd2, hcd3⟩ := chk_spec_l01Once; refine callQ_of Try.func170 hcd1 mo Try.call170 (r := 4) (i := 0) (by kernel_rfl) hcd2 hcd3 (by rw [Try.ntmps170]; simp) (by simp) (by decide) rfl rfl (by simp) ?_; unfold C_spec_l01Once K_spec_l01Once; simp (maxSteps := 2000000) only [go_sem, Nat.reduceBEq, Nat.reduceAdd, Nat.reduceMul, Nat.reduceMod, Nat.reduceLT, Nat.reduceDiv, Nat.reduceSub, Nat.reduceLeDiff, Int.reduceToNat, Int.reduceLT, Int.reduceLE, reduceCtorEq]
 refine ⟨_, _, W, ?_⟩
 simp (maxSteps := 2000000) only [go_sem, Nat.reduceBEq, Nat.reduceAdd, Nat.reduceMul, Nat.reduceMod, Nat.reduceLT, Nat.reduceDiv, Nat.reduceSub, Nat.reduceLeDiff, Int.reduceToNat, Int.reduceLT, Int.reduceLE, reduceCtorEq, le_self]
theorem spec_l17Draw_ok (u : Value) (nl : Option Bool) {l : List Int} (C : CodeL l) {p : Int × Int} (h : Cur l p) {m : Nat} (h1 : 1 ≤ m) (h5 : m ≤ 5) : ∃ (q : Int × Int) (x y : List (List Int)), Cur l q ∧ marketB x y = true ∧ x.length ≤ m ∧
  CallQ Try.prog 118 0 [.q (cur u nl l p) 0, .i m] (cur u nl l q) [(0, .ag 2), (200000, .own 1 none (rr x)), (201000, .own 1 none (rr y))] := by
 obtain ⟨p1, n, hp1, n0, n3, W1⟩ := spec_l01Below_ok u nl C h (n := (m : Int)) (by omega) (by omega)
 obtain ⟨N, rfl⟩ : ∃ N : Nat, n = N := ⟨n.toNat, by omega⟩
 obtain ⟨F, R, F0, R0, FC, RL, RR, FltS⟩ := rows_ex u nl C hp1 (m := N + 1) (by omega) (by omega)
 obtain ⟨G, S, G0, S0, GC, SL, SR, GS⟩ := rows_ex u nl C (FC (N + 1)) (m := N + 1) (by omega) (by omega)
 obtain ⟨p2, b, hp2, W2⟩ := spec_l01Once_ok u nl C (GC (N + 1)) (n := 3) (by omega) (by omega)
 have hm : ∀ x y : List (List Int), x.length = N + 1 → y.length = N + 1 → (∀ r ∈ x, rankB ((N + 1 : Nat) : Int) r = true) → (∀ r ∈ y, rankB ((N + 1 : Nat) : Int) r = true) → marketB x y = true := fun x y hx hy rx ry => by
  simp only [marketB, Bool.and_eq_true, inI, decide_eq_true_eq, ranksB, List.all_eq_true, hx, hy]
  exact ⟨⟨⟨by omega, trivial⟩, rx⟩, ry⟩
 have hRL : ∀ r ∈ R (N + 1), r.length = N + 1 := fun r hr => by have := rank_len (RR _ r hr); omega
 have hSL : ∀ r ∈ S (N + 1), r.length = N + 1 := fun r hr => by have := rank_len (SR _ r hr); omega
 by_cases hN : 1 ≤ N
 ·cases b with
  | true =>
   refine ⟨p2, shM (N + 1) 0 (R (N + 1)) (N + 1) 0, shM (N + 1) 1 (S (N + 1)) (N + 1) 0, hp2, hm _ _ shM_len shM_len (shM_rank (by omega) (by omega)) (shM_rank (by omega) (by omega)), by rw [shM_len]; omega, ?_⟩
   unfold cur at W1 W2 FltS GS ⊢
   obtain ⟨code0, hcd1, hcd2, hcd3⟩ := chk_spec_l17Draw; refine callQB_of Try.func118 hcd1 mo Try.call118 (z := 4) (ty := 39) (n := 2) (i := 0) (by kernel_rfl) (by kernel_rfl) hcd2 hcd3 (by rw [Try.ntmps118]; simp) (by simp) (by decide) rfl rfl (by simp) ?_; unfold C_spec_l17Draw K_spec_l17Draw; simp (maxSteps := 2000000) only [go_sem, Nat.reduceBEq, Nat.reduceAdd, Nat.reduceMul, Nat.reduceMod, Nat.reduceLT, Nat.reduceDiv, Nat.reduceSub, Nat.reduceLeDiff, Int.reduceToNat, Int.reduceLT, Int.reduceLE, reduceCtorEq]
   refine ⟨_, _, W1, ?_⟩
   simp (maxSteps := 2000000) only [go_sem, Nat.reduceBEq, Nat.reduceAdd, Nat.reduceMul, Nat.reduceMod, Nat.reduceLT, Nat.reduceDiv, Nat.reduceSub, Nat.reduceLeDiff, Int.reduceToNat, Int.reduceLT, Int.reduceLE, reduceCtorEq, le_self]
   refine ⟨inR_of (by omega) (by omega), ?_⟩
   refine loopN (N + 1) (fun i => [(0, .bx 3), (1, .i m), (4, .bx 2), (5, .i (N + 1 : Nat)), (6, .bx 2), (7, .i (i : Nat)), (1000, .t .arg (.xv u (.s nl (byt l)))), (2000, .i (F i).1), (3000, .i (F i).2), (1004, .t .fr (.s (some true) [])), (2004, .t .fr (.s (some true) [])), (1006, .own 1 none (rr (R i))), (2006, .own 1 none [])]) (fun _ => True) ⟨trivial, by simp (maxSteps := 2000000) only [go_sem, Nat.reduceBEq, Nat.reduceAdd, Nat.reduceMul, Nat.reduceMod, Nat.reduceLT, Nat.reduceDiv, Nat.reduceSub, Nat.reduceLeDiff, Int.reduceToNat, Int.reduceLT, Int.reduceLE, reduceCtorEq, le_self]; simp [R0, F0]; omega⟩ fun i hi _ => ?_
   simp (maxSteps := 2000000) only [go_sem, Nat.reduceBEq, Nat.reduceAdd, Nat.reduceMul, Nat.reduceMod, Nat.reduceLT, Nat.reduceDiv, Nat.reduceSub, Nat.reduceLeDiff, Int.reduceToNat, Int.reduceLT, Int.reduceLE, reduceCtorEq, le_self]
   refine ⟨fun hlt => ?_, fun hge => ?_⟩
   ·obtain ⟨r, e, W⟩ := FltS i
    refine ⟨_, _, W, ?_⟩
    simp (maxSteps := 2000000) only [go_sem, Nat.reduceBEq, Nat.reduceAdd, Nat.reduceMul, Nat.reduceMod, Nat.reduceLT, Nat.reduceDiv, Nat.reduceSub, Nat.reduceLeDiff, Int.reduceToNat, Int.reduceLT, Int.reduceLE, reduceCtorEq, le_self]
    exact ⟨by simp, by rw [RL]; omega, inR_of (by omega) (by omega), by omega, by simp, e.symm⟩
   ·have : i = N + 1 := by omega
    subst this
    refine loopN (N + 1) (fun i => [(0, .bx 3), (1, .i m), (4, .bx 2), (5, .i (N + 1 : Nat)), (6, .bx 2), (8, .i (i : Nat)), (1000, .t .arg (.xv u (.s nl (byt l)))), (2000, .i (G i).1), (3000, .i (G i).2), (1004, .t .fr (.s (some true) [])), (2004, .t .fr (.s (some true) [])), (1006, .own 1 none (rr (R (N + 1)))), (2006, .own 1 none (rr (S i)))]) (fun _ => True) ⟨trivial, by simp (maxSteps := 2000000) only [go_sem, Nat.reduceBEq, Nat.reduceAdd, Nat.reduceMul, Nat.reduceMod, Nat.reduceLT, Nat.reduceDiv, Nat.reduceSub, Nat.reduceLeDiff, Int.reduceToNat, Int.reduceLT, Int.reduceLE, reduceCtorEq, le_self]; simp [S0, G0]; try omega⟩ fun i hi _ => ?_
    simp (maxSteps := 2000000) only [go_sem, Nat.reduceBEq, Nat.reduceAdd, Nat.reduceMul, Nat.reduceMod, Nat.reduceLT, Nat.reduceDiv, Nat.reduceSub, Nat.reduceLeDiff, Int.reduceToNat, Int.reduceLT, Int.reduceLE, reduceCtorEq, le_self]
    refine ⟨fun hlt => ?_, fun hge => ?_⟩
    ·obtain ⟨r, e, W⟩ := GS i
     refine ⟨_, _, W, ?_⟩
     simp (maxSteps := 2000000) only [go_sem, Nat.reduceBEq, Nat.reduceAdd, Nat.reduceMul, Nat.reduceMod, Nat.reduceLT, Nat.reduceDiv, Nat.reduceSub, Nat.reduceLeDiff, Int.reduceToNat, Int.reduceLT, Int.reduceLE, reduceCtorEq, le_self]
     exact ⟨by simp, by rw [SL]; omega, inR_of (by omega) (by omega), by omega, by simp, e.symm⟩
    ·have : i = N + 1 := by omega
     subst this
     refine ⟨fun _ => ?_, fun hx => absurd (show (1 : Int) < ((N + 1 : Nat) : Int) by omega) hx⟩
     refine ⟨_, _, W2, ?_⟩
     simp (maxSteps := 2000000) only [go_sem, Nat.reduceBEq, Nat.reduceAdd, Nat.reduceMul, Nat.reduceMod, Nat.reduceLT, Nat.reduceDiv, Nat.reduceSub, Nat.reduceLeDiff, Int.reduceToNat, Int.reduceLT, Int.reduceLE, reduceCtorEq, le_self]
     refine loopN (N + 1) (fun i => [(0, .bx 3), (1, .i m), (4, .bx 2), (5, .i (N + 1 : Nat)), (6, .bx 2), (9, .i (i : Nat)), (1000, .t .arg (.xv u (.s nl (byt l)))), (2000, .i p2.1), (3000, .i p2.2), (1004, .t .fr (.s (some true) [])), (2004, .t .fr (.s (some true) [])), (1006, .own 1 none (rr (shM (N + 1) 0 (R (N + 1)) i 0))), (2006, .own 1 none (rr (shM (N + 1) 1 (S (N + 1)) i 0)))]) (fun _ => True) ⟨trivial, by simp (maxSteps := 2000000) only [go_sem, Nat.reduceBEq, Nat.reduceAdd, Nat.reduceMul, Nat.reduceMod, Nat.reduceLT, Nat.reduceDiv, Nat.reduceSub, Nat.reduceLeDiff, Int.reduceToNat, Int.reduceLT, Int.reduceLE, reduceCtorEq, le_self]; simp [shM_0 (RL _) hRL, shM_0 (SL _) hSL]; try omega⟩ fun i hi _ => ?_
     simp (maxSteps := 2000000) only [go_sem, Nat.reduceBEq, Nat.reduceAdd, Nat.reduceMul, Nat.reduceMod, Nat.reduceLT, Nat.reduceDiv, Nat.reduceSub, Nat.reduceLeDiff, Int.reduceToNat, Int.reduceLT, Int.reduceLE, reduceCtorEq, le_self]
     refine ⟨fun hlt => ?_, fun hge => ?_⟩
     ·refine loopN (N + 1) (fun k => [(0, .bx 3), (1, .i m), (4, .bx 2), (5, .i (N + 1 : Nat)), (6, .bx 2), (9, .i (i : Nat)), (10, .i (k : Nat)), (1000, .t .arg (.xv u (.s nl (byt l)))), (2000, .i p2.1), (3000, .i p2.2), (1004, .t .fr (.s (some true) [])), (2004, .t .fr (.s (some true) [])), (1006, .own 1 none (rr (shM (N + 1) 0 (R (N + 1)) i k))), (2006, .own 1 none (rr (shM (N + 1) 1 (S (N + 1)) i k)))]) (fun _ => True) ⟨trivial, by simp (maxSteps := 2000000) only [go_sem, Nat.reduceBEq, Nat.reduceAdd, Nat.reduceMul, Nat.reduceMod, Nat.reduceLT, Nat.reduceDiv, Nat.reduceSub, Nat.reduceLeDiff, Int.reduceToNat, Int.reduceLT, Int.reduceLE, reduceCtorEq, le_self]; simp⟩ fun k hk _ => ?_
      simp (maxSteps := 2000000) only [go_sem, Nat.reduceBEq, Nat.reduceAdd, Nat.reduceMul, Nat.reduceMod, Nat.reduceLT, Nat.reduceDiv, Nat.reduceSub, Nat.reduceLeDiff, Int.reduceToNat, Int.reduceLT, Int.reduceLE, reduceCtorEq, le_self]
      refine ⟨fun hlt => ?_, fun hge => ?_⟩
      ·have eM : ∀ (d : Nat) (z : List (List Int)), (rr (shM (N + 1) d z i k)).getD i T.any = .s none (ii (shR (N + 1) d i (z.getD i []) k)) := fun d z => by
        rw [rr_get (by rw [shM_len]; omega), shM_at (by omega)]
       have em := er_sm (j := i) (n := N + 1) (by omega) (by omega)
       have ed := er_sd (j := i) (n := N + 1) (by omega) (by omega)
       refine ⟨by omega, by rw [shM_len]; omega, by rw [shM_len]; omega, inR_of (by omega) (by omega), by omega, by rw [shM_len]; omega, ?_⟩
       rw [eM]
       simp (maxSteps := 2000000) only [go_sem, Nat.reduceBEq, Nat.reduceAdd, Nat.reduceMul, Nat.reduceMod, Nat.reduceLT, Nat.reduceDiv, Nat.reduceSub, Nat.reduceLeDiff, Int.reduceToNat, Int.reduceLT, Int.reduceLE, reduceCtorEq, le_self, em, ed, eM]
       simp only [shM_len, shR_len, Nat.add_zero]
       have t0 : ((i : Int) + k).tmod ((N + 1 : Nat) : Int) = (((i + k + 0) % (N + 1) : Nat) : Int) := by rw [← tmod_nat]; simp
       have t1 : ((i : Int) + k + 1).tmod ((N + 1 : Nat) : Int) = (((i + k + 1) % (N + 1) : Nat) : Int) := by rw [← tmod_nat]; simp
       rw [t0, t1]
       exact ⟨by omega, by omega, by omega, by omega, by omega, by omega, by omega, inR_of (by omega) (by omega), inR_of (by omega) (by omega), by omega, by omega, by omega, by omega, by omega, by omega, inR_of (by omega) (by omega), by omega, by simp, shM_s (by omega) (by omega), shM_s (by omega) (by omega)⟩
      ·have : k = N + 1 := by omega
       subst this
       exact ⟨inR_of (by omega) (by omega), by omega, by simp, shM_n (RL _) hRL, shM_n (SL _) hSL⟩
     ·have : i = N + 1 := by omega
      subst this
      exact ⟨by omega, rfl, rfl⟩
  | false =>
   refine ⟨p2, R (N + 1), S (N + 1), hp2, hm _ _ (RL _) (SL _) (RR _) (SR _), by rw [RL]; omega, ?_⟩
   unfold cur at W1 W2 FltS GS ⊢
   obtain ⟨code0, hcd1, hcd2, hcd3⟩ := chk_spec_l17Draw; refine callQB_of Try.func118 hcd1 mo Try.call118 (z := 4) (ty := 39) (n := 2) (i := 0) (by kernel_rfl) (by kernel_rfl) hcd2 hcd3 (by rw [Try.ntmps118]; simp) (by simp) (by decide) rfl rfl (by simp) ?_; unfold C_spec_l17Draw K_spec_l17Draw; simp (maxSteps := 2000000) only [go_sem, Nat.reduceBEq, Nat.reduceAdd, Nat.reduceMul, Nat.reduceMod, Nat.reduceLT, Nat.reduceDiv, Nat.reduceSub, Nat.reduceLeDiff, Int.reduceToNat, Int.reduceLT, Int.reduceLE, reduceCtorEq]
   refine ⟨_, _, W1, ?_⟩
   simp (maxSteps := 2000000) only [go_sem, Nat.reduceBEq, Nat.reduceAdd, Nat.reduceMul, Nat.reduceMod, Nat.reduceLT, Nat.reduceDiv, Nat.reduceSub, Nat.reduceLeDiff, Int.reduceToNat, Int.reduceLT, Int.reduceLE, reduceCtorEq, le_self]
   refine ⟨inR_of (by omega) (by omega), ?_⟩
   refine loopN (N + 1) (fun i => [(0, .bx 3), (1, .i m), (4, .bx 2), (5, .i (N + 1 : Nat)), (6, .bx 2), (7, .i (i : Nat)), (1000, .t .arg (.xv u (.s nl (byt l)))), (2000, .i (F i).1), (3000, .i (F i).2), (1004, .t .fr (.s (some true) [])), (2004, .t .fr (.s (some true) [])), (1006, .own 1 none (rr (R i))), (2006, .own 1 none [])]) (fun _ => True) ⟨trivial, by simp (maxSteps := 2000000) only [go_sem, Nat.reduceBEq, Nat.reduceAdd, Nat.reduceMul, Nat.reduceMod, Nat.reduceLT, Nat.reduceDiv, Nat.reduceSub, Nat.reduceLeDiff, Int.reduceToNat, Int.reduceLT, Int.reduceLE, reduceCtorEq, le_self]; simp [R0, F0]; omega⟩ fun i hi _ => ?_
   simp (maxSteps := 2000000) only [go_sem, Nat.reduceBEq, Nat.reduceAdd, Nat.reduceMul, Nat.reduceMod, Nat.reduceLT, Nat.reduceDiv, Nat.reduceSub, Nat.reduceLeDiff, Int.reduceToNat, Int.reduceLT, Int.reduceLE, reduceCtorEq, le_self]
   refine ⟨fun hlt => ?_, fun hge => ?_⟩
   ·obtain ⟨r, e, W⟩ := FltS i
    refine ⟨_, _, W, ?_⟩
    simp (maxSteps := 2000000) only [go_sem, Nat.reduceBEq, Nat.reduceAdd, Nat.reduceMul, Nat.reduceMod, Nat.reduceLT, Nat.reduceDiv, Nat.reduceSub, Nat.reduceLeDiff, Int.reduceToNat, Int.reduceLT, Int.reduceLE, reduceCtorEq, le_self]
    exact ⟨by simp, by rw [RL]; omega, inR_of (by omega) (by omega), by omega, by simp, e.symm⟩
   ·have : i = N + 1 := by omega
    subst this
    refine loopN (N + 1) (fun i => [(0, .bx 3), (1, .i m), (4, .bx 2), (5, .i (N + 1 : Nat)), (6, .bx 2), (8, .i (i : Nat)), (1000, .t .arg (.xv u (.s nl (byt l)))), (2000, .i (G i).1), (3000, .i (G i).2), (1004, .t .fr (.s (some true) [])), (2004, .t .fr (.s (some true) [])), (1006, .own 1 none (rr (R (N + 1)))), (2006, .own 1 none (rr (S i)))]) (fun _ => True) ⟨trivial, by simp (maxSteps := 2000000) only [go_sem, Nat.reduceBEq, Nat.reduceAdd, Nat.reduceMul, Nat.reduceMod, Nat.reduceLT, Nat.reduceDiv, Nat.reduceSub, Nat.reduceLeDiff, Int.reduceToNat, Int.reduceLT, Int.reduceLE, reduceCtorEq, le_self]; simp [S0, G0]; try omega⟩ fun i hi _ => ?_
    simp (maxSteps := 2000000) only [go_sem, Nat.reduceBEq, Nat.reduceAdd, Nat.reduceMul, Nat.reduceMod, Nat.reduceLT, Nat.reduceDiv, Nat.reduceSub, Nat.reduceLeDiff, Int.reduceToNat, Int.reduceLT, Int.reduceLE, reduceCtorEq, le_self]
    refine ⟨fun hlt => ?_, fun hge => ?_⟩
    ·obtain ⟨r, e, W⟩ := GS i
     refine ⟨_, _, W, ?_⟩
     simp (maxSteps := 2000000) only [go_sem, Nat.reduceBEq, Nat.reduceAdd, Nat.reduceMul, Nat.reduceMod, Nat.reduceLT, Nat.reduceDiv, Nat.reduceSub, Nat.reduceLeDiff, Int.reduceToNat, Int.reduceLT, Int.reduceLE, reduceCtorEq, le_self]
     exact ⟨by simp, by rw [SL]; omega, inR_of (by omega) (by omega), by omega, by simp, e.symm⟩
    ·have : i = N + 1 := by omega
     subst this
     refine ⟨fun _ => ?_, fun hx => absurd (show (1 : Int) < ((N + 1 : Nat) : Int) by omega) hx⟩
     refine ⟨_, _, W2, ?_⟩
     simp (maxSteps := 2000000) only [go_sem, Nat.reduceBEq, Nat.reduceAdd, Nat.reduceMul, Nat.reduceMod, Nat.reduceLT, Nat.reduceDiv, Nat.reduceSub, Nat.reduceLeDiff, Int.reduceToNat, Int.reduceLT, Int.reduceLE, reduceCtorEq, le_self]
     omega
 ·refine ⟨G (N + 1), R (N + 1), S (N + 1), GC _, hm _ _ (RL _) (SL _) (RR _) (SR _), by rw [RL]; omega, ?_⟩
  unfold cur at W1 W2 FltS GS ⊢
  obtain ⟨code0, hcd1, hcd2, hcd3⟩ := chk_spec_l17Draw; refine callQB_of Try.func118 hcd1 mo Try.call118 (z := 4) (ty := 39) (n := 2) (i := 0) (by kernel_rfl) (by kernel_rfl) hcd2 hcd3 (by rw [Try.ntmps118]; simp) (by simp) (by decide) rfl rfl (by simp) ?_; unfold C_spec_l17Draw K_spec_l17Draw; simp (maxSteps := 2000000) only [go_sem, Nat.reduceBEq, Nat.reduceAdd, Nat.reduceMul, Nat.reduceMod, Nat.reduceLT, Nat.reduceDiv, Nat.reduceSub, Nat.reduceLeDiff, Int.reduceToNat, Int.reduceLT, Int.reduceLE, reduceCtorEq]
  refine ⟨_, _, W1, ?_⟩
  simp (maxSteps := 2000000) only [go_sem, Nat.reduceBEq, Nat.reduceAdd, Nat.reduceMul, Nat.reduceMod, Nat.reduceLT, Nat.reduceDiv, Nat.reduceSub, Nat.reduceLeDiff, Int.reduceToNat, Int.reduceLT, Int.reduceLE, reduceCtorEq, le_self]
  refine ⟨inR_of (by omega) (by omega), ?_⟩
  refine loopN (N + 1) (fun i => [(0, .bx 3), (1, .i m), (4, .bx 2), (5, .i (N + 1 : Nat)), (6, .bx 2), (7, .i (i : Nat)), (1000, .t .arg (.xv u (.s nl (byt l)))), (2000, .i (F i).1), (3000, .i (F i).2), (1004, .t .fr (.s (some true) [])), (2004, .t .fr (.s (some true) [])), (1006, .own 1 none (rr (R i))), (2006, .own 1 none [])]) (fun _ => True) ⟨trivial, by simp (maxSteps := 2000000) only [go_sem, Nat.reduceBEq, Nat.reduceAdd, Nat.reduceMul, Nat.reduceMod, Nat.reduceLT, Nat.reduceDiv, Nat.reduceSub, Nat.reduceLeDiff, Int.reduceToNat, Int.reduceLT, Int.reduceLE, reduceCtorEq, le_self]; simp [R0, F0]; omega⟩ fun i hi _ => ?_
  simp (maxSteps := 2000000) only [go_sem, Nat.reduceBEq, Nat.reduceAdd, Nat.reduceMul, Nat.reduceMod, Nat.reduceLT, Nat.reduceDiv, Nat.reduceSub, Nat.reduceLeDiff, Int.reduceToNat, Int.reduceLT, Int.reduceLE, reduceCtorEq, le_self]
  refine ⟨fun hlt => ?_, fun hge => ?_⟩
  ·obtain ⟨r, e, W⟩ := FltS i
   refine ⟨_, _, W, ?_⟩
   simp (maxSteps := 2000000) only [go_sem, Nat.reduceBEq, Nat.reduceAdd, Nat.reduceMul, Nat.reduceMod, Nat.reduceLT, Nat.reduceDiv, Nat.reduceSub, Nat.reduceLeDiff, Int.reduceToNat, Int.reduceLT, Int.reduceLE, reduceCtorEq, le_self]
   exact ⟨by simp, by rw [RL]; omega, inR_of (by omega) (by omega), by omega, by simp, e.symm⟩
  ·have : i = N + 1 := by omega
   subst this
   refine loopN (N + 1) (fun i => [(0, .bx 3), (1, .i m), (4, .bx 2), (5, .i (N + 1 : Nat)), (6, .bx 2), (8, .i (i : Nat)), (1000, .t .arg (.xv u (.s nl (byt l)))), (2000, .i (G i).1), (3000, .i (G i).2), (1004, .t .fr (.s (some true) [])), (2004, .t .fr (.s (some true) [])), (1006, .own 1 none (rr (R (N + 1)))), (2006, .own 1 none (rr (S i)))]) (fun _ => True) ⟨trivial, by simp (maxSteps := 2000000) only [go_sem, Nat.reduceBEq, Nat.reduceAdd, Nat.reduceMul, Nat.reduceMod, Nat.reduceLT, Nat.reduceDiv, Nat.reduceSub, Nat.reduceLeDiff, Int.reduceToNat, Int.reduceLT, Int.reduceLE, reduceCtorEq, le_self]; simp [S0, G0]; try omega⟩ fun i hi _ => ?_
   simp (maxSteps := 2000000) only [go_sem, Nat.reduceBEq, Nat.reduceAdd, Nat.reduceMul, Nat.reduceMod, Nat.reduceLT, Nat.reduceDiv, Nat.reduceSub, Nat.reduceLeDiff, Int.reduceToNat, Int.reduceLT, Int.reduceLE, reduceCtorEq, le_self]
   refine ⟨fun hlt => ?_, fun hge => ?_⟩
   ·obtain ⟨r, e, W⟩ := GS i
    refine ⟨_, _, W, ?_⟩
    simp (maxSteps := 2000000) only [go_sem, Nat.reduceBEq, Nat.reduceAdd, Nat.reduceMul, Nat.reduceMod, Nat.reduceLT, Nat.reduceDiv, Nat.reduceSub, Nat.reduceLeDiff, Int.reduceToNat, Int.reduceLT, Int.reduceLE, reduceCtorEq, le_self]
    exact ⟨by simp, by rw [SL]; omega, inR_of (by omega) (by omega), by omega, by simp, e.symm⟩
   ·have : i = N + 1 := by omega
    subst this
    refine ⟨fun hx => absurd hx (show ¬ (1 : Int) < ((N + 1 : Nat) : Int) by omega), fun _ => ?_⟩
    exact ⟨by omega, rfl, Vc.T.le_refl _, rfl, rfl⟩
theorem spec_MakeMarket_ok (u : Value) (nl : Option Bool) {l : List Int} (C : CodeL l) {n : Int} (h0 : 0 ≤ n) (h1000 : n ≤ 1000) {m : Nat} (h1 : 1 ≤ m) (h5 : m ≤ 5) : ∃ x y : List (List Int), marketB x y = true ∧ x.length ≤ m ∧ CallOk Try.prog 43 [.xv u (.s nl (byt l)), .i n, .i m] [(0, .ag 2), (200000, .own 1 none (rr x)), (201000, .own 1 none (rr y))] := by
 obtain ⟨p, hp, W⟩ := spec_l32New_ok u nl C h0 h1000
 obtain ⟨q, x, y, hq, hxy, hx, W1⟩ := spec_l17Draw_ok u nl C hp h1 h5
 refine ⟨x, y, hxy, hx, ?_⟩
 unfold cur at W W1
 obtain ⟨code0, hcd1, hcd2⟩ := chk_spec_MakeMarket; refine callB_of Try.func43 hcd1 mo Try.call43 (z := 6) (ty := 39) (n := 2) (by kernel_rfl) (by kernel_rfl) hcd2 (by rw [Try.ntmps43]; simp) (by simp) (by decide) ?_; unfold C_spec_MakeMarket K_spec_MakeMarket; simp (maxSteps := 2000000) only [go_sem, Nat.reduceBEq, Nat.reduceAdd, Nat.reduceMul, Nat.reduceMod, Nat.reduceLT, Nat.reduceDiv, Nat.reduceSub, Nat.reduceLeDiff, Int.reduceToNat, Int.reduceLT, Int.reduceLE, reduceCtorEq]
 refine ⟨_, W, ?_⟩
 simp (maxSteps := 2000000) only [go_sem, Nat.reduceBEq, Nat.reduceAdd, Nat.reduceMul, Nat.reduceMod, Nat.reduceLT, Nat.reduceDiv, Nat.reduceSub, Nat.reduceLeDiff, Int.reduceToNat, Int.reduceLT, Int.reduceLE, reduceCtorEq, le_self]
 rw [show max (1 : Int) (min (m : Int) 5) = m by omega]
 refine ⟨_, _, W1, ?_⟩
 simp (maxSteps := 2000000) only [go_sem, Nat.reduceBEq, Nat.reduceAdd, Nat.reduceMul, Nat.reduceMod, Nat.reduceLT, Nat.reduceDiv, Nat.reduceSub, Nat.reduceLeDiff, Int.reduceToNat, Int.reduceLT, Int.reduceLE, reduceCtorEq, le_self]
end Go.Proofs.Ytgdpplhbblapgaa
