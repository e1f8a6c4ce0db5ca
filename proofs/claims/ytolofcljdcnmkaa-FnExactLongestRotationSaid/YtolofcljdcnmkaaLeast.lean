/- Own work: contracts of functions that the claim reaches. No condition beyond those that each theorem names. -/
import Derived.Test.YtolofcljdcnmkaaProg
import Derived.Test.YtolofcljdcnmkaaMkt
namespace Go.Proofs.Ytolofcljdcnmkaa
open Go Go.Vc
set_option maxRecDepth 100000
set_option linter.unusedSimpArgs false
set_option linter.unusedVariables false
/- impl_sumOf: not in this cut -/
/- slices_Max_Sint_int: not in this cut -/
def K_impl_IsMatching : List Nat := [0, 1, 2, 4, 1002, 2002]
def C_impl_IsMatching : C :=
  let ks := K_impl_IsMatching
  (.seq
    (.rg 0 [(none, .v 2 .boxS [.s 0]), (none, .v 4 .mv [.k (.b false)])])
    (.cl ks (.seq
      (.rg 0 [(none, .v 5 (.lds 2) [.s 2]), (none, .co 6 40 [.s 5]), (none, .v 7 .mv [.s 6]), (some (7, true), .v 8 (.fa 0) [.s 2]), (some (7, true), .v 9 .ld [.s 8]), (some (7, true), .v 10 .len [.s 9]), (some (7, true), .v 11 .mv [.s 1]), (some (7, true), .co 12 64 [.s 10, .s 11]), (none, .v 13 .pick [.s 7, .s 12, .k (.b false)]), (none, .tk 4 13)])
      .ret)))

theorem chk_impl_IsMatching : ∃ b, Try.f60.body = some b ∧ chk Try.prog Try.f60.ntmps true C_impl_IsMatching b = true := ⟨_, rfl, by kernel_rfl⟩
def K_spec_IsMatching : List Nat := [0, 1, 2, 4, 1002, 2002]
def C_spec_IsMatching : C :=
  let ks := K_spec_IsMatching
  (.seq
    (.rg 0 [(none, .v 2 .boxS [.s 0]), (none, .v 4 .mv [.k (.b false)])])
    (.cl ks (.seq
      (.rg 0 [(none, .v 5 (.lds 2) [.s 2]), (none, .co 6 20 [.s 5]), (none, .v 7 .mv [.s 6]), (some (7, true), .v 8 (.fa 0) [.s 2]), (some (7, true), .v 9 .ld [.s 8]), (some (7, true), .v 10 .len [.s 9]), (some (7, true), .v 11 .mv [.s 1]), (some (7, true), .co 12 48 [.s 10, .s 11]), (none, .v 13 .pick [.s 7, .s 12, .k (.b false)]), (none, .tk 4 13)])
      .ret)))

theorem chk_spec_IsMatching : ∃ b, Try.f49.body = some b ∧ chk Try.prog Try.f49.ntmps true C_spec_IsMatching b = true := ⟨_, rfl, by kernel_rfl⟩
/- impl_Market_places: not in this cut -/
/- impl_PlaceSums: not in this cut -/
/- spec_PlaceSums: not in this cut -/
/- impl_RegretOf: not in this cut -/
/- spec_RegretOf: not in this cut -/
def tab (f : Nat → Int) (k : Nat) : List Int := (List.range k).map f
theorem tab_len {f : Nat → Int} {k : Nat} : (tab f k).length = k := by simp [tab]
theorem tab_get {f : Nat → Int} {k i : Nat} (h : i < k) : (tab f k).getD i 0 = f i := by simp [tab, List.getD, h]
theorem tab_s {f : Nat → Int} {k : Nat} : tab f (k + 1) = tab f k ++ [f k] := by simp [tab, List.range_succ]
/-- The sum of the first j. -/
def sumN (xs : List Int) : Nat → Int
  | 0 => 0
  | j + 1 => sumN xs j + xs.getD j 0
def sumF (f : Nat → Int) : Nat → Int
  | 0 => 0
  | j + 1 => sumF f j + f j
theorem sumN_tab {f : Nat → Int} {k : Nat} : ∀ {j : Nat}, j ≤ k → sumN (tab f k) j = sumF f j
  | 0, _ => rfl
  | j + 1, h => by simp only [sumN, sumF]; rw [sumN_tab (by omega), tab_get h]
theorem sumF_bd {f : Nat → Int} {n : Nat} (h : ∀ i, i < n → 0 ≤ f i ∧ f i < 5) : ∀ {j : Nat}, j ≤ n → 0 ≤ sumF f j ∧ sumF f j ≤ 5 * j
  | 0, _ => by simp [sumF]
  | j + 1, hj => by
    have h1 := sumF_bd h (j := j) (by omega)
    have h2 := h j (by omega)
    simp only [sumF]; omega
theorem sumN_bd {xs : List Int} {B : Int} (h : ∀ x ∈ xs, 0 ≤ x ∧ x ≤ B) : ∀ {j : Nat}, j ≤ xs.length → 0 ≤ sumN xs j ∧ sumN xs j ≤ B * j
  | 0, _ => by simp [sumN]
  | j + 1, hj => by
    have h1 := sumN_bd h (j := j) (by omega)
    have h2 := h _ (getD_mem (d := 0) (show j < xs.length by omega))
    simp only [sumN]
    have : B * ((j + 1 : Nat) : Int) = B * j + B := by rw [Int.natCast_add, Int.mul_add]; simp
    omega
/-- The greatest of the first j + 1. -/
def maxN (xs : List Int) : Nat → Int
  | 0 => xs.getD 0 0
  | j + 1 => max (maxN xs j) (xs.getD (j + 1) 0)
def maxF (f : Nat → Int) : Nat → Int
  | 0 => f 0
  | j + 1 => max (maxF f j) (f (j + 1))
theorem maxN_tab {f : Nat → Int} {k : Nat} : ∀ {j : Nat}, j < k → maxN (tab f k) j = maxF f j
  | 0, h => tab_get h
  | j + 1, h => by simp only [maxN, maxF]; rw [maxN_tab (by omega), tab_get h]
def matchB (x y : List (List Int)) (l : List Int) : Bool := marketB x y && rankB x.length l
theorem impl_IsMatching_ok {n1 n2 n3 : Option Bool} (x y : List (List Int)) (l : List Int) (hx : x.length ≤ 1048576) (kx : ∀ r ∈ x, r.length ≤ 1048576) (hy : y.length ≤ 1048576) (ky : ∀ r ∈ y, r.length ≤ 1048576) (hl : l.length ≤ 1048576) :
    CallOk Try.prog 60 [.a [.s n1 (rr x), .s n2 (rr y)], .s n3 (ii l)] [(0, .b (matchB x y l))] := by
  obtain ⟨code0, hcd1, hcd2⟩ := chk_impl_IsMatching; refine callOk_of Try.func60 hcd1 mo Try.call60 (rs := [4]) (by kernel_rfl) hcd2 (by rw [Try.ntmps60]; simp) (by simp) (by decide) ?_; unfold C_impl_IsMatching K_impl_IsMatching; simp (config := { maxSteps := 2000000 }) only [go_sem, Nat.reduceBEq, Nat.reduceAdd, Nat.reduceMul, Nat.reduceMod, Nat.reduceLT, Nat.reduceDiv, Nat.reduceSub, Nat.reduceLeDiff, Int.reduceToNat, Int.reduceLT, Int.reduceLE, reduceCtorEq, List.take_nil, List.drop_nil]
  refine ⟨_, impl_MarketOk_ok x y hx kx hy ky, ?_⟩; simp (config := { maxSteps := 2000000 }) only [go_sem, Nat.reduceBEq, Nat.reduceAdd, Nat.reduceMul, Nat.reduceMod, Nat.reduceLT, Nat.reduceDiv, Nat.reduceSub, Nat.reduceLeDiff, Int.reduceToNat, Int.reduceLT, Int.reduceLE, reduceCtorEq, List.take_nil, List.drop_nil]
  refine ⟨fun h0 => ?_, fun h0 => by simp [matchB, h0]⟩
  refine ⟨_, impl_RankingOk_ok _ l hl, ?_⟩; simp (config := { maxSteps := 2000000 }) only [go_sem, Nat.reduceBEq, Nat.reduceAdd, Nat.reduceMul, Nat.reduceMod, Nat.reduceLT, Nat.reduceDiv, Nat.reduceSub, Nat.reduceLeDiff, Int.reduceToNat, Int.reduceLT, Int.reduceLE, reduceCtorEq, List.take_nil, List.drop_nil]
  simp [matchB, h0]
theorem spec_IsMatching_ok {n1 n2 n3 : Option Bool} (x y : List (List Int)) (l : List Int) (hx : x.length ≤ 1048576) (kx : ∀ r ∈ x, r.length ≤ 1048576) (hy : y.length ≤ 1048576) (ky : ∀ r ∈ y, r.length ≤ 1048576) (hl : l.length ≤ 1048576) :
    CallOk Try.prog 49 [.a [.s n1 (rr x), .s n2 (rr y)], .s n3 (ii l)] [(0, .b (matchB x y l))] := by
  obtain ⟨code0, hcd1, hcd2⟩ := chk_spec_IsMatching; refine callOk_of Try.func49 hcd1 mo Try.call49 (rs := [4]) (by kernel_rfl) hcd2 (by rw [Try.ntmps49]; simp) (by simp) (by decide) ?_; unfold C_spec_IsMatching K_spec_IsMatching; simp (config := { maxSteps := 2000000 }) only [go_sem, Nat.reduceBEq, Nat.reduceAdd, Nat.reduceMul, Nat.reduceMod, Nat.reduceLT, Nat.reduceDiv, Nat.reduceSub, Nat.reduceLeDiff, Int.reduceToNat, Int.reduceLT, Int.reduceLE, reduceCtorEq, List.take_nil, List.drop_nil]
  refine ⟨_, spec_MarketOk_ok x y hx kx hy ky, ?_⟩; simp (config := { maxSteps := 2000000 }) only [go_sem, Nat.reduceBEq, Nat.reduceAdd, Nat.reduceMul, Nat.reduceMod, Nat.reduceLT, Nat.reduceDiv, Nat.reduceSub, Nat.reduceLeDiff, Int.reduceToNat, Int.reduceLT, Int.reduceLE, reduceCtorEq, List.take_nil, List.drop_nil]
  refine ⟨fun h0 => ?_, fun h0 => by simp [matchB, h0]⟩
  refine ⟨_, spec_RankingOk_ok _ l hl, ?_⟩; simp (config := { maxSteps := 2000000 }) only [go_sem, Nat.reduceBEq, Nat.reduceAdd, Nat.reduceMul, Nat.reduceMod, Nat.reduceLT, Nat.reduceDiv, Nat.reduceSub, Nat.reduceLeDiff, Int.reduceToNat, Int.reduceLT, Int.reduceLE, reduceCtorEq, List.take_nil, List.drop_nil]
  simp [matchB, h0]
/-- The place of man i's woman in his list, and his in hers. -/
def placeM (x : List (List Int)) (l : List Int) (i : Nat) : Int := placeI (x.getD i []) (l.getD i 0)
def placeW (y : List (List Int)) (l : List Int) (i : Nat) : Int := placeI (y.getD (l.getD i 0).toNat []) i
section
variable {x y : List (List Int)} {l : List Int} {n : Nat}
theorem plM (M : Mk x y n) (R : rankB n l = true) {i : Nat} (hi : i < n) : 0 ≤ placeM x l i ∧ placeM x l i < 5 := by
  have hl := rank_len R
  have hb := rank_bd R (i := i) (by omega)
  have hr := M.m.rk i hi
  obtain ⟨j, h1, _, h3⟩ := placeI_mem (rank_all hr hb.1 hb.2)
  have := rank_len hr; have := M.m.n5
  unfold placeM; rw [h3]; omega
theorem plW (M : Mk x y n) (R : rankB n l = true) {i : Nat} (hi : i < n) : 0 ≤ placeW y l i ∧ placeW y l i < 5 := by
  have hl := rank_len R
  have hb := rank_bd R (i := i) (by omega)
  have hr := M.w.rk (l.getD i 0).toNat (by omega)
  obtain ⟨j, h1, _, h3⟩ := placeI_mem (rank_all hr (a := (i : Int)) (by omega) (by omega))
  have := rank_len hr; have := M.m.n5
  unfold placeW; rw [h3]; omega
end
/-- What a matching costs: 0 the sum of the places, 1 the greatest one, else how far the two sums are apart. -/
def regN (x y : List (List Int)) (l : List Int) : Nat → Int
  | 0 => 0
  | k + 1 => max (regN x y l k) (max (placeM x l k) (placeW y l k))
theorem regN_eq {x y : List (List Int)} {l : List Int} : ∀ {k : Nat}, (∀ i, i < k + 1 → 0 ≤ placeM x l i) → (∀ i, i < k + 1 → 0 ≤ placeW y l i) → regN x y l (k + 1) = max (maxF (placeM x l) k) (maxF (placeW y l) k)
  | 0, h1, h2 => by
    have a := h1 0 (by omega)
    have b := h2 0 (by omega)
    simp only [regN, maxF]; omega
  | k + 1, h1, h2 => by
    have ih := regN_eq (k := k) (fun i hi => h1 i (by omega)) (fun i hi => h2 i (by omega))
    have e : regN x y l (k + 1 + 1) = max (regN x y l (k + 1)) (max (placeM x l (k + 1)) (placeW y l (k + 1))) := rfl
    rw [e, ih]; simp only [maxF]; omega
/- spec_l18Cost: not in this cut -/
/- impl_CalmMatching_1: not in this cut -/
/- impl_EqualMatching_1: not in this cut -/
/- impl_EvenMatching_1: not in this cut -/
/- impl_Market_leastMatching: not in this cut -/
/- spec_l18Least: not in this cut -/
def costF (x y : List (List Int)) (kd : Int) (l : List Int) : Int :=
  if kd = 0 then sumF (placeM x l) x.length + sumF (placeW y l) x.length else if kd = 1 then regN x y l x.length
  else max (sumF (placeM x l) x.length - sumF (placeW y l) x.length) (sumF (placeW y l) x.length - sumF (placeM x l) x.length)
/-- The first of the first k with the least cost. -/
def bestL (c : List Int → Int) (S : List (List Int)) : Nat → List Int
  | 0 => []
  | k + 1 => if k = 0 ∨ c (S.getD k []) < c (bestL c S k) then S.getD k [] else bestL c S k
theorem bestL_mem {c : List Int → Int} {S : List (List Int)} : ∀ {k : Nat}, k + 1 ≤ S.length → bestL c S (k + 1) ∈ S
  | 0, h => by simp only [bestL, true_or, if_true]; exact getD_mem (d := []) h
  | k + 1, h => by
    rw [bestL]
    split
    · exact getD_mem (d := []) h
    · exact bestL_mem (by omega)
def nlK (k : Nat) : Option Bool := if k = 0 then some true else none
end Go.Proofs.Ytolofcljdcnmkaa
