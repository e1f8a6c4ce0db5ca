/- Own work: contracts of functions that the claim reaches. No condition beyond those that each theorem names. -/
import Derived.Test.YtgdpplhbblapgaaProg
import Derived.Test.YtgdpplhbblapgaaMkt
namespace Go.Proofs.Ytgdpplhbblapgaa
open Go Go.Vc
set_option maxRecDepth 100000
set_option linter.unusedSimpArgs false
set_option linter.unusedVariables false
def K_impl_sumOf : List Nat := [0, 2, 3, 5, 6, 7, 8]
def C_impl_sumOf : C :=
 let ks := K_impl_sumOf
 (.seq
  (.rg 0 [(none, .v 2 .mv [.k (.i 0)])])
  (.cl ks (.seq
  (.rg 0 [(none, .v 3 .mv [.k (.i 0)])])
  (.cl ks (.seq
  (.seq
  (.rg 0 [(none, .v 6 .mv [.s 0]), (none, .v 7 .len [.s 6]), (none, .v 8 .mv [.k (.i 0)])])
  (.cl ks (.block 0
  (.loop
  (.seq
  (.rg 0 [(none, .v 9 (.bin .lss) [.s 8, .s 7])])
  (.seq
  (.cond (.s 9)
  .skip
  (.exit 0))
  (.cl ks (.seq
  (.block 1
  (.seq
  (.rg 0 [(none, .v 10 .idx [.s 6, .s 8]), (none, .v 11 .ld [.s 10]), (none, .tk 5 11)])
  (.cl ks (.rg 0 [(none, .v 12 .mv [.s 3]), (none, .v 13 .mv [.s 5]), (none, .v 14 (.bin .add) [.s 12, .s 13]), (none, .tk 3 14)]))))
  (.cl ks (.rg 0 [(none, .v 15 (.bin .add) [.s 8, .k (.i 1)]), (none, .v 8 .mv [.s 15])]))))))))))
  (.cl ks (.seq
  (.rg 0 [(none, .v 16 .mv [.s 3]), (none, .tk 2 16)])
  .ret)))))))
theorem chk_impl_sumOf : ∃ b, Try.f116.body = some b ∧ chk Try.prog Try.f116.ntmps true C_impl_sumOf b = true := ⟨_, rfl, by kernel_rfl⟩
def K_impl_IsMatching : List Nat := [0, 1, 2, 4, 1002, 2002]
def C_impl_IsMatching : C :=
 let ks := K_impl_IsMatching
 (.seq
  (.rg 0 [(none, .v 2 .boxS [.s 0]), (none, .v 4 .mv [.k (.b false)])])
  (.cl ks (.seq
  (.rg 0 [(none, .v 5 (.lds 2) [.s 2]), (none, .co 6 119 [.s 5]), (none, .v 7 .mv [.s 6]), (some (7, true), .v 8 (.fa 0) [.s 2]), (some (7, true), .v 9 .ld [.s 8]), (some (7, true), .v 10 .len [.s 9]), (some (7, true), .v 11 .mv [.s 1]), (some (7, true), .co 12 172 [.s 10, .s 11]), (none, .v 13 .pick [.s 7, .s 12, .k (.b false)]), (none, .tk 4 13)])
  .ret)))
theorem chk_impl_IsMatching : ∃ b, Try.f123.body = some b ∧ chk Try.prog Try.f123.ntmps true C_impl_IsMatching b = true := ⟨_, rfl, by kernel_rfl⟩
def K_impl_Market_places : List Nat := [0, 1, 2, 4, 5, 6, 7, 8, 9, 10, 11, 12, 1002, 2002]
def C_impl_Market_places : C :=
 let ks := K_impl_Market_places
 (.seq
  (.rg 0 [(none, .v 2 .boxS [.s 0]), (none, .mkn 4), (none, .mkn 5)])
  (.cl ks (.seq
  (.rg 0 [(none, .mkn 6), (none, .mkn 7)])
  (.cl ks (.seq
  (.seq
  (.rg 0 [(none, .v 10 .mv [.s 1]), (none, .v 11 .len [.s 10]), (none, .v 12 .mv [.k (.i 0)])])
  (.cl ks (.block 0
  (.loop
  (.seq
  (.rg 0 [(none, .v 13 (.bin .lss) [.s 12, .s 11])])
  (.seq
  (.cond (.s 13)
  .skip
  (.exit 0))
  (.cl ks (.seq
  (.block 1
  (.seq
  (.rg 0 [(none, .v 14 .mv [.s 12]), (none, .v 15 .idx [.s 10, .s 12]), (none, .v 16 .ld [.s 15]), (none, .tk 8 14), (none, .tk 9 16)])
  (.cl ks (.seq
  (.rg 0 [(none, .v 17 .mv [.s 6]), (none, .v 18 (.fa 0) [.s 2]), (none, .v 19 .ld [.s 18]), (none, .v 20 .mv [.s 8]), (none, .v 21 .idx [.s 19, .s 20]), (none, .v 22 .ld [.s 21]), (none, .v 23 .mv [.s 9]), (none, .co 24 110 [.s 22, .s 23]), (none, .lit 25 [.s 24] 0), (none, .app 26 (.s 17) (.s 25) 0), (none, .tk 6 26)])
  (.cl ks (.rg 0 [(none, .v 27 .mv [.s 7]), (none, .v 28 (.fa 1) [.s 2]), (none, .v 29 .ld [.s 28]), (none, .v 30 .mv [.s 9]), (none, .v 31 .idx [.s 29, .s 30]), (none, .v 32 .ld [.s 31]), (none, .v 33 .mv [.s 8]), (none, .co 34 110 [.s 32, .s 33]), (none, .lit 35 [.s 34] 0), (none, .app 36 (.s 27) (.s 35) 0), (none, .tk 7 36)]))))))
  (.cl ks (.rg 0 [(none, .v 37 (.bin .add) [.s 12, .k (.i 1)]), (none, .v 12 .mv [.s 37])]))))))))))
  (.cl ks (.seq
  (.rg 0 [(none, .v 38 .mv [.s 6]), (none, .v 39 .mv [.s 7]), (none, .tk 4 38), (none, .tk 5 39)])
  .ret)))))))
theorem chk_impl_Market_places : ∃ b, Try.f124.body = some b ∧ chk Try.prog Try.f124.ntmps true C_impl_Market_places b = true := ⟨_, rfl, by kernel_rfl⟩
def K_impl_PlaceSums : List Nat := [0, 1, 2, 4, 5, 6, 7, 1002, 2002]
def C_impl_PlaceSums : C :=
 let ks := K_impl_PlaceSums
 (.seq
  (.rg 0 [(none, .v 2 .boxS [.s 0]), (none, .v 4 .mv [.k (.i 0)]), (none, .v 5 .mv [.k (.i 0)])])
  (.cl ks (.seq
  (.seq
  (.rg 0 [(none, .v 8 (.lds 2) [.s 2]), (none, .v 9 .mv [.s 1]), (none, .co 10 123 [.s 8, .s 9]), (none, .v 11 .not [.s 10])])
  (.cond (.s 11)
  (.seq
  (.rg 0 [(none, .v 4 .mv [.k (.i (-1))]), (none, .v 5 .mv [.k (.i (-1))])])
  .ret)
  .skip))
  (.cl ks (.seq
  (.rg 0 [(none, .v 13 (.lds 2) [.s 2]), (none, .v 14 .mv [.s 1]), (none, .co 15 124 [.s 13, .s 14]), (none, .tk 12 15), (none, .tk 16 100012), (none, .tk 17 101012), (none, .tk 6 16), (none, .tk 7 17)])
  (.cl ks (.seq
  (.rg 0 [(none, .v 18 .mv [.s 6]), (none, .co 19 116 [.s 18]), (none, .v 20 .mv [.s 7]), (none, .co 21 116 [.s 20]), (none, .tk 4 19), (none, .tk 5 21)])
  .ret)))))))
theorem chk_impl_PlaceSums : ∃ b, Try.f48.body = some b ∧ chk Try.prog Try.f48.ntmps true C_impl_PlaceSums b = true := ⟨_, rfl, by kernel_rfl⟩
def tab (f : Nat → Int) (k : Nat) : List Int := (List.range k).map f
theorem tab_len {f : Nat → Int} {k : Nat} : (tab f k).length = k := by simp [tab]
theorem tab_get {f : Nat → Int} {k i : Nat} (h : i < k) : (tab f k).getD i 0 = f i := by simp [tab, List.getD, h]
theorem tab_s {f : Nat → Int} {k : Nat} : tab f (k + 1) = tab f k ++ [f k] := by simp [tab, List.range_succ]
def sumN (xs : List Int) : Nat → Int
 | 0 => 0
 | j + 1 => sumN xs j + xs.getD j 0
def sumF (f : Nat → Int) : Nat → Int
 | 0 => 0
 | j + 1 => sumF f j + f j
theorem sumN_tab {f : Nat → Int} {k : Nat} : ∀ {j : Nat}, j ≤ k → sumN (tab f k) j = sumF f j
 | 0, _ => rfl
 | j + 1, h => by simp only [sumN, sumF]; rw [sumN_tab (by omega), tab_get h]
theorem sumF_bd {f : Nat → Int} {n : Nat} (h : ∀ i, i < n → 0 ≤ f i ∧ f i < 5) : ∀ {j : Nat}, j ≤ n → 0 ≤ sumF f j ∧ sumF f j ≤ 5 * j
 | 0, _ => by simp [sumF]
 | j + 1, hj => by
  have h1 := sumF_bd h (j := j) (by omega)
  have h2 := h j (by omega)
  simp only [sumF]; omega
theorem sumN_bd {xs : List Int} {B : Int} (h : ∀ x ∈ xs, 0 ≤ x ∧ x ≤ B) : ∀ {j : Nat}, j ≤ xs.length → 0 ≤ sumN xs j ∧ sumN xs j ≤ B * j
 | 0, _ => by simp [sumN]
 | j + 1, hj => by
  have h1 := sumN_bd h (j := j) (by omega)
  have h2 := h _ (getD_mem (d := 0) (show j < xs.length by omega))
  simp only [sumN]
  have : B * ((j + 1 : Nat) : Int) = B * j + B := by rw [Int.natCast_add, Int.mul_add]; simp
  omega
theorem impl_sumOf_ok {n1 : Option Bool} (xs : List Int) (hl : xs.length ≤ 1048576) (hb : ∀ x ∈ xs, 0 ≤ x ∧ x ≤ 1000000000) : CallOk Try.prog 116 [.s n1 (ii xs)] [(0, .i (sumN xs xs.length))] := by
 obtain ⟨code0, hcd1, hcd2⟩ := chk_impl_sumOf; refine callOk_of Try.func116 hcd1 mo Try.call116 (rs := [2]) (by kernel_rfl) hcd2 (by rw [Try.ntmps116]; simp) (by simp) (by decide) ?_; unfold C_impl_sumOf K_impl_sumOf; simp (maxSteps := 2000000) only [go_sem, Nat.reduceBEq, Nat.reduceAdd, Nat.reduceMul, Nat.reduceMod, Nat.reduceLT, Nat.reduceDiv, Nat.reduceSub, Nat.reduceLeDiff, Int.reduceToNat, Int.reduceLT, Int.reduceLE, reduceCtorEq]
 refine loopN xs.length (fun j => [(0, .t .arg (.s n1 (ii xs))), (3, .i (sumN xs j)), (6, .t .arg (.s n1 (ii xs))), (7, .i xs.length), (8, .i (j : Nat))]) (fun _ => True) ⟨trivial, by simp (maxSteps := 2000000) only [go_sem, Nat.reduceBEq, Nat.reduceAdd, Nat.reduceMul, Nat.reduceMod, Nat.reduceLT, Nat.reduceDiv, Nat.reduceSub, Nat.reduceLeDiff, Int.reduceToNat, Int.reduceLT, Int.reduceLE, reduceCtorEq]; simp [sumN]⟩ fun j hj _ => ?_
 simp (maxSteps := 2000000) only [go_sem, Nat.reduceBEq, Nat.reduceAdd, Nat.reduceMul, Nat.reduceMod, Nat.reduceLT, Nat.reduceDiv, Nat.reduceSub, Nat.reduceLeDiff, Int.reduceToNat, Int.reduceLT, Int.reduceLE, reduceCtorEq]
 refine ⟨fun hlt => ?_, fun hge => ?_⟩
 ·have hj' : j < xs.length := by omega
  have h1 := sumN_bd hb hj
  have h2 := hb _ (getD_mem (d := 0) hj')
  exact ⟨by omega, hj', hj', inR_of (by omega) (by omega), inR_of (by omega) (by omega), hj', rfl, by simp⟩
 ·have : j = xs.length := by omega
  subst this
  rfl
def matchB (x y : List (List Int)) (l : List Int) : Bool := marketB x y && rankB x.length l
theorem impl_IsMatching_ok {n1 n2 n3 : Option Bool} (x y : List (List Int)) (l : List Int) (hx : x.length ≤ 1048576) (kx : ∀ r ∈ x, r.length ≤ 1048576) (hy : y.length ≤ 1048576) (ky : ∀ r ∈ y, r.length ≤ 1048576) (hl : l.length ≤ 1048576) :
  CallOk Try.prog 123 [.a [.s n1 (rr x), .s n2 (rr y)], .s n3 (ii l)] [(0, .b (matchB x y l))] := by
 obtain ⟨code0, hcd1, hcd2⟩ := chk_impl_IsMatching; refine callOk_of Try.func123 hcd1 mo Try.call123 (rs := [4]) (by kernel_rfl) hcd2 (by rw [Try.ntmps123]; simp) (by simp) (by decide) ?_; unfold C_impl_IsMatching K_impl_IsMatching; simp (maxSteps := 2000000) only [go_sem, Nat.reduceBEq, Nat.reduceAdd, Nat.reduceMul, Nat.reduceMod, Nat.reduceLT, Nat.reduceDiv, Nat.reduceSub, Nat.reduceLeDiff, Int.reduceToNat, Int.reduceLT, Int.reduceLE, reduceCtorEq]
 refine ⟨_, impl_MarketOk_ok x y hx kx hy ky, ?_⟩; simp (maxSteps := 2000000) only [go_sem, Nat.reduceBEq, Nat.reduceAdd, Nat.reduceMul, Nat.reduceMod, Nat.reduceLT, Nat.reduceDiv, Nat.reduceSub, Nat.reduceLeDiff, Int.reduceToNat, Int.reduceLT, Int.reduceLE, reduceCtorEq]
 refine ⟨fun h0 => ?_, fun h0 => by simp [matchB, h0]⟩
 refine ⟨_, impl_RankingOk_ok _ l hl, ?_⟩; simp (maxSteps := 2000000) only [go_sem, Nat.reduceBEq, Nat.reduceAdd, Nat.reduceMul, Nat.reduceMod, Nat.reduceLT, Nat.reduceDiv, Nat.reduceSub, Nat.reduceLeDiff, Int.reduceToNat, Int.reduceLT, Int.reduceLE, reduceCtorEq]
 simp [matchB, h0]
def placeM (x : List (List Int)) (l : List Int) (i : Nat) : Int := placeI (x.getD i []) (l.getD i 0)
def placeW (y : List (List Int)) (l : List Int) (i : Nat) : Int := placeI (y.getD (l.getD i 0).toNat []) i
section
variable {x y : List (List Int)} {l : List Int} {n : Nat}
theorem plM (M : Mk x y n) (R : rankB n l = true) {i : Nat} (hi : i < n) : 0 ≤ placeM x l i ∧ placeM x l i < 5 := by
 have hl := rank_len R
 have hb := rank_bd R (i := i) (by omega)
 have hr := M.m.rk i hi
 obtain ⟨j, h1, _, h3⟩ := placeI_mem (rank_all hr hb.1 hb.2)
 have := rank_len hr; have := M.m.n5
 unfold placeM; rw [h3]; omega
theorem plW (M : Mk x y n) (R : rankB n l = true) {i : Nat} (hi : i < n) : 0 ≤ placeW y l i ∧ placeW y l i < 5 := by
 have hl := rank_len R
 have hb := rank_bd R (i := i) (by omega)
 have hr := M.w.rk (l.getD i 0).toNat (by omega)
 obtain ⟨j, h1, _, h3⟩ := placeI_mem (rank_all hr (a := (i : Int)) (by omega) (by omega))
 have := rank_len hr; have := M.m.n5
 unfold placeW; rw [h3]; omega
end
theorem places_ok {n1 n2 n3 : Option Bool} (x y : List (List Int)) (l : List Int) (n : Nat) (M : Mk x y n) (R : rankB n l = true) :
  CallOk Try.prog 124 [.a [.s n1 (rr x), .s n2 (rr y)], .s n3 (ii l)] [(0, .tp 2), (100000, .own 1 none (ii (tab (placeM x l) n))), (101000, .own 1 none (ii (tab (placeW y l) n)))] := by
 obtain ⟨code0, hcd1, hcd2⟩ := chk_impl_Market_places; refine callOk_of Try.func124 hcd1 mo Try.call124 (rs := [4, 5]) (by kernel_rfl) hcd2 (by rw [Try.ntmps124]; simp) (by simp) (by decide) ?_; unfold C_impl_Market_places K_impl_Market_places; simp (maxSteps := 2000000) only [go_sem, Nat.reduceBEq, Nat.reduceAdd, Nat.reduceMul, Nat.reduceMod, Nat.reduceLT, Nat.reduceDiv, Nat.reduceSub, Nat.reduceLeDiff, Int.reduceToNat, Int.reduceLT, Int.reduceLE, reduceCtorEq]
 have n5 := M.m.n5
 have hl := rank_len R
 have hxn := M.m.n1
 have hyn := M.w.n1
 refine loopN n (fun k => [(0, .t .arg (.a [.s n1 (rr x), .s n2 (rr y)])), (1, .t .arg (.s n3 (ii l))), (2, .t .arg (.q [.s n1 (rr x), .s n2 (rr y)] 0)), (6, .own 1 none (ii (tab (placeM x l) k))), (7, .own 1 none (ii (tab (placeW y l) k))), (10, .t .arg (.s n3 (ii l))), (11, .i (n : Nat)), (12, .i (k : Nat))]) (fun _ => True) ⟨trivial, by simp (maxSteps := 2000000) only [go_sem, Nat.reduceBEq, Nat.reduceAdd, Nat.reduceMul, Nat.reduceMod, Nat.reduceLT, Nat.reduceDiv, Nat.reduceSub, Nat.reduceLeDiff, Int.reduceToNat, Int.reduceLT, Int.reduceLE, reduceCtorEq]; simp [tab]; omega⟩ fun k hk _ => ?_
 simp (maxSteps := 2000000) only [go_sem, Nat.reduceBEq, Nat.reduceAdd, Nat.reduceMul, Nat.reduceMod, Nat.reduceLT, Nat.reduceDiv, Nat.reduceSub, Nat.reduceLeDiff, Int.reduceToNat, Int.reduceLT, Int.reduceLE, reduceCtorEq]
 refine ⟨fun hlt => ?_, fun hge => ?_⟩
 ·have hk' : k < n := by omega
  have hxl := M.m.len
  have hyl := M.w.len
  have hb := rank_bd R (i := k) (by omega)
  have hr1 := rank_len (M.m.rk k hk')
  have hr2 := rank_len (M.w.rk (l.getD k 0).toNat (by omega))
  refine ⟨by omega, by omega, by omega, by omega, by omega, by omega, ?_⟩
  refine ⟨_, impl_PlaceOf_ok (x.getD k []) (l.getD k 0) (by omega), ?_⟩; simp (maxSteps := 2000000) only [go_sem, Nat.reduceBEq, Nat.reduceAdd, Nat.reduceMul, Nat.reduceMod, Nat.reduceLT, Nat.reduceDiv, Nat.reduceSub, Nat.reduceLeDiff, Int.reduceToNat, Int.reduceLT, Int.reduceLE, reduceCtorEq]
  have e1 : placeI (x.getD k []) (l.getD k 0) = placeM x l k := rfl
  rw [e1, ← tab_s, tab_len]
  refine ⟨by omega, by omega, by omega, by omega, ?_⟩
  refine ⟨_, impl_PlaceOf_ok (y.getD (l.getD k 0).toNat []) (k : Nat) (by omega), ?_⟩; simp (maxSteps := 2000000) only [go_sem, Nat.reduceBEq, Nat.reduceAdd, Nat.reduceMul, Nat.reduceMod, Nat.reduceLT, Nat.reduceDiv, Nat.reduceSub, Nat.reduceLeDiff, Int.reduceToNat, Int.reduceLT, Int.reduceLE, reduceCtorEq]
  exact ⟨by rw [tab_len]; omega, inR_of (by omega) (by omega), hk', by rw [tab_s]; rfl, by simp⟩
 ·have : k = n := by omega
  subst this
  exact ⟨by omega, rfl, rfl⟩
theorem impl_PlaceSums_ok {n1 n2 n3 : Option Bool} (x y : List (List Int)) (l : List Int) (h0 : marketB x y = true) (R : rankB x.length l = true) (hx : x.length ≤ 1048576) (kx : ∀ r ∈ x, r.length ≤ 1048576) (hy : y.length ≤ 1048576) (ky : ∀ r ∈ y, r.length ≤ 1048576) :
  CallOk Try.prog 48 [.a [.s n1 (rr x), .s n2 (rr y)], .s n3 (ii l)] [(0, .tp 2), (100000, .i (sumF (placeM x l) x.length)), (101000, .i (sumF (placeW y l) x.length))] := by
 obtain ⟨code0, hcd1, hcd2⟩ := chk_impl_PlaceSums; refine callOk_of Try.func48 hcd1 mo Try.call48 (rs := [4, 5]) (by kernel_rfl) hcd2 (by rw [Try.ntmps48]; simp) (by simp) (by decide) ?_; unfold C_impl_PlaceSums K_impl_PlaceSums; simp (maxSteps := 2000000) only [go_sem, Nat.reduceBEq, Nat.reduceAdd, Nat.reduceMul, Nat.reduceMod, Nat.reduceLT, Nat.reduceDiv, Nat.reduceSub, Nat.reduceLeDiff, Int.reduceToNat, Int.reduceLT, Int.reduceLE, reduceCtorEq]
 have M := mk_of h0
 have n5 := M.m.n5
 have hl := rank_len R
 have hm : matchB x y l = true := by simp [matchB, h0, R]
 refine ⟨_, impl_IsMatching_ok x y l hx kx hy ky (by omega), ?_⟩; simp (maxSteps := 2000000) only [go_sem, Nat.reduceBEq, Nat.reduceAdd, Nat.reduceMul, Nat.reduceMod, Nat.reduceLT, Nat.reduceDiv, Nat.reduceSub, Nat.reduceLeDiff, Int.reduceToNat, Int.reduceLT, Int.reduceLE, reduceCtorEq]
 refine ⟨fun h => absurd (hm.symm.trans h) (by simp), fun _ => ?_⟩
 refine ⟨_, places_ok x y l x.length M R, ?_⟩; simp (maxSteps := 2000000) only [go_sem, Nat.reduceBEq, Nat.reduceAdd, Nat.reduceMul, Nat.reduceMod, Nat.reduceLT, Nat.reduceDiv, Nat.reduceSub, Nat.reduceLeDiff, Int.reduceToNat, Int.reduceLT, Int.reduceLE, reduceCtorEq]
 have bM := fun i hi => plM M R (i := i) hi
 have bW := fun i hi => plW M R (i := i) hi
 have tM : ∀ v ∈ tab (placeM x l) x.length, 0 ≤ v ∧ v ≤ 1000000000 := fun v hv => by
  simp only [tab, List.mem_map, List.mem_range] at hv
  obtain ⟨i, hi, e⟩ := hv; have := bM i hi; omega
 have tW : ∀ v ∈ tab (placeW y l) x.length, 0 ≤ v ∧ v ≤ 1000000000 := fun v hv => by
  simp only [tab, List.mem_map, List.mem_range] at hv
  obtain ⟨i, hi, e⟩ := hv; have := bW i hi; omega
 refine ⟨_, impl_sumOf_ok _ (by rw [tab_len]; omega) tM, ?_⟩; simp (maxSteps := 2000000) only [go_sem, Nat.reduceBEq, Nat.reduceAdd, Nat.reduceMul, Nat.reduceMod, Nat.reduceLT, Nat.reduceDiv, Nat.reduceSub, Nat.reduceLeDiff, Int.reduceToNat, Int.reduceLT, Int.reduceLE, reduceCtorEq]
 refine ⟨_, impl_sumOf_ok _ (by rw [tab_len]; omega) tW, ?_⟩; simp (maxSteps := 2000000) only [go_sem, Nat.reduceBEq, Nat.reduceAdd, Nat.reduceMul, Nat.reduceMod, Nat.reduceLT, Nat.reduceDiv, Nat.reduceSub, Nat.reduceLeDiff, Int.reduceToNat, Int.reduceLT, Int.reduceLE, reduceCtorEq]
 rw [tab_len, tab_len, sumN_tab (Nat.le_refl _), sumN_tab (Nat.le_refl _)]
 exact ⟨by omega, rfl, rfl⟩
end Go.Proofs.Ytgdpplhbblapgaa
