/- Own work: contracts of functions that the claim reaches. No condition beyond those that each theorem names. -/
import Derived.Test.YtgdpplhbblapgaaProg
import Derived.Test.YtgdpplhbblapgaaMkt
namespace Go.Proofs.Ytgdpplhbblapgaa
open Go Go.Vc
set_option maxRecDepth 100000
set_option linter.unusedSimpArgs false
set_option linter.unusedVariables false
def K_impl_IsMatching : List Nat := [0, 1, 2, 4, 1002, 2002]
def C_impl_IsMatching : C :=
  let ks := K_impl_IsMatching
  (.seq
   (.rg 0 [(none, .v 2 .boxS [.s 0]), (none, .v 4 .mv [.k (.b false)])])
   (.cl ks (.seq
   (.rg 0 [(none, .v 5 (.lds 2) [.s 2]), (none, .co 6 119 [.s 5]), (none, .v 7 .mv [.s 6]), (some (7, true), .v 8 (.fa 0) [.s 2]), (some (7, true), .v 9 .ld [.s 8]), (some (7, true), .v 10 .len [.s 9]), (some (7, true), .v 11 .mv [.s 1]), (some (7, true), .co 12 172 [.s 10, .s 11]), (none, .v 13 .pick [.s 7, .s 12, .k (.b false)]), (none, .tk 4 13)])
   .ret)))

theorem chk_impl_IsMatching : ∃ b, Try.f123.body = some b ∧ chk Try.prog Try.f123.ntmps true C_impl_IsMatching b = true := ⟨_, rfl, by kernel_rfl⟩
def K_spec_IsMatching : List Nat := [0, 1, 2, 4, 1002, 2002]
def C_spec_IsMatching : C :=
  let ks := K_spec_IsMatching
  (.seq
   (.rg 0 [(none, .v 2 .boxS [.s 0]), (none, .v 4 .mv [.k (.b false)])])
   (.cl ks (.seq
   (.rg 0 [(none, .v 5 (.lds 2) [.s 2]), (none, .co 6 157 [.s 5]), (none, .v 7 .mv [.s 6]), (some (7, true), .v 8 (.fa 0) [.s 2]), (some (7, true), .v 9 .ld [.s 8]), (some (7, true), .v 10 .len [.s 9]), (some (7, true), .v 11 .mv [.s 1]), (some (7, true), .co 12 67 [.s 10, .s 11]), (none, .v 13 .pick [.s 7, .s 12, .k (.b false)]), (none, .tk 4 13)])
   .ret)))

theorem chk_spec_IsMatching : ∃ b, Try.f155.body = some b ∧ chk Try.prog Try.f155.ntmps true C_spec_IsMatching b = true := ⟨_, rfl, by kernel_rfl⟩
/- spec_PlaceSums: not in this cut -/
/- spec_RegretOf: not in this cut -/
def sumF (f : Nat → Int) : Nat → Int
  | 0 => 0
  | j + 1 => sumF f j + f j
theorem sumF_bd {f : Nat → Int} {n : Nat} (h : ∀ i, i < n → 0 ≤ f i ∧ f i < 5) : ∀ {j : Nat}, j ≤ n → 0 ≤ sumF f j ∧ sumF f j ≤ 5 * j
  | 0, _ => by simp [sumF]
  | j + 1, hj => by
    have h1 := sumF_bd h (j := j) (by omega)
    have h2 := h j (by omega)
    simp only [sumF]; omega
def matchB (x y : List (List Int)) (l : List Int) : Bool := marketB x y && rankB x.length l
theorem impl_IsMatching_ok {n1 n2 n3 : Option Bool} (x y : List (List Int)) (l : List Int) (hx : x.length ≤ 1048576) (kx : ∀ r ∈ x, r.length ≤ 1048576) (hy : y.length ≤ 1048576) (ky : ∀ r ∈ y, r.length ≤ 1048576) (hl : l.length ≤ 1048576) :
    CallOk Try.prog 123 [.a [.s n1 (rr x), .s n2 (rr y)], .s n3 (ii l)] [(0, .b (matchB x y l))] := by
  obtain ⟨code0, hcd1, hcd2⟩ := chk_impl_IsMatching; refine callOk_of Try.func123 hcd1 mo Try.call123 (rs := [4]) (by kernel_rfl) hcd2 (by rw [Try.ntmps123]; simp) (by simp) (by decide) ?_; unfold C_impl_IsMatching K_impl_IsMatching; simp (config := { maxSteps := 2000000 }) only [go_sem, Nat.reduceBEq, Nat.reduceAdd, Nat.reduceMul, Nat.reduceMod, Nat.reduceLT, Nat.reduceDiv, Nat.reduceSub, Nat.reduceLeDiff, Int.reduceToNat, Int.reduceLT, Int.reduceLE, reduceCtorEq, List.take_nil, List.drop_nil]
  refine ⟨_, impl_MarketOk_ok x y hx kx hy ky, ?_⟩; simp (config := { maxSteps := 2000000 }) only [go_sem, Nat.reduceBEq, Nat.reduceAdd, Nat.reduceMul, Nat.reduceMod, Nat.reduceLT, Nat.reduceDiv, Nat.reduceSub, Nat.reduceLeDiff, Int.reduceToNat, Int.reduceLT, Int.reduceLE, reduceCtorEq, List.take_nil, List.drop_nil]
  refine ⟨fun h0 => ?_, fun h0 => by simp [matchB, h0]⟩
  refine ⟨_, impl_RankingOk_ok _ l hl, ?_⟩; simp (config := { maxSteps := 2000000 }) only [go_sem, Nat.reduceBEq, Nat.reduceAdd, Nat.reduceMul, Nat.reduceMod, Nat.reduceLT, Nat.reduceDiv, Nat.reduceSub, Nat.reduceLeDiff, Int.reduceToNat, Int.reduceLT, Int.reduceLE, reduceCtorEq, List.take_nil, List.drop_nil]
  simp [matchB, h0]
theorem spec_IsMatching_ok {n1 n2 n3 : Option Bool} (x y : List (List Int)) (l : List Int) (hx : x.length ≤ 1048576) (kx : ∀ r ∈ x, r.length ≤ 1048576) (hy : y.length ≤ 1048576) (ky : ∀ r ∈ y, r.length ≤ 1048576) (hl : l.length ≤ 1048576) :
    CallOk Try.prog 155 [.a [.s n1 (rr x), .s n2 (rr y)], .s n3 (ii l)] [(0, .b (matchB x y l))] := by
  obtain ⟨code0, hcd1, hcd2⟩ := chk_spec_IsMatching; refine callOk_of Try.func155 hcd1 mo Try.call155 (rs := [4]) (by kernel_rfl) hcd2 (by rw [Try.ntmps155]; simp) (by simp) (by decide) ?_; unfold C_spec_IsMatching K_spec_IsMatching; simp (config := { maxSteps := 2000000 }) only [go_sem, Nat.reduceBEq, Nat.reduceAdd, Nat.reduceMul, Nat.reduceMod, Nat.reduceLT, Nat.reduceDiv, Nat.reduceSub, Nat.reduceLeDiff, Int.reduceToNat, Int.reduceLT, Int.reduceLE, reduceCtorEq, List.take_nil, List.drop_nil]
  refine ⟨_, spec_MarketOk_ok x y hx kx hy ky, ?_⟩; simp (config := { maxSteps := 2000000 }) only [go_sem, Nat.reduceBEq, Nat.reduceAdd, Nat.reduceMul, Nat.reduceMod, Nat.reduceLT, Nat.reduceDiv, Nat.reduceSub, Nat.reduceLeDiff, Int.reduceToNat, Int.reduceLT, Int.reduceLE, reduceCtorEq, List.take_nil, List.drop_nil]
  refine ⟨fun h0 => ?_, fun h0 => by simp [matchB, h0]⟩
  refine ⟨_, spec_RankingOk_ok _ l hl, ?_⟩; simp (config := { maxSteps := 2000000 }) only [go_sem, Nat.reduceBEq, Nat.reduceAdd, Nat.reduceMul, Nat.reduceMod, Nat.reduceLT, Nat.reduceDiv, Nat.reduceSub, Nat.reduceLeDiff, Int.reduceToNat, Int.reduceLT, Int.reduceLE, reduceCtorEq, List.take_nil, List.drop_nil]
  simp [matchB, h0]
/-- The place of man i's woman in his list, and his in hers. -/
def placeM (x : List (List Int)) (l : List Int) (i : Nat) : Int := placeI (x.getD i []) (l.getD i 0)
section
variable {x y : List (List Int)} {l : List Int} {n : Nat}
theorem plM (M : Mk x y n) (R : rankB n l = true) {i : Nat} (hi : i < n) : 0 ≤ placeM x l i ∧ placeM x l i < 5 := by
  have hl := rank_len R
  have hb := rank_bd R (i := i) (by omega)
  have hr := M.m.rk i hi
  obtain ⟨j, h1, _, h3⟩ := placeI_mem (rank_all hr hb.1 hb.2)
  have := rank_len hr; have := M.m.n5
  unfold placeM; rw [h3]; omega
end
/- spec_l18Cost: not in this cut -/
/- spec_l18Least: not in this cut -/
end Go.Proofs.Ytgdpplhbblapgaa
