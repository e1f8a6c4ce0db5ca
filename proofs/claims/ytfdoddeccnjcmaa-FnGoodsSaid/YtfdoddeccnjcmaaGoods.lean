/- Own work: contracts of functions that the claim reaches. No condition beyond those that each theorem names. -/
import Derived.Test.YtfdoddeccnjcmaaProg
import Derived.Test.YtfdoddeccnjcmaaLaws
namespace Go.Proofs.Ytfdoddeccnjcmaa
open Go Go.Vc
set_option maxRecDepth 100000
set_option linter.unusedSimpArgs false
set_option linter.unusedVariables false
/- spec_ValuesOk: not in this cut -/
def K_impl_ValuesOk : List Nat := [0, 2]
def C_impl_ValuesOk : C :=
  let ks := K_impl_ValuesOk
  (.seq
   (.rg 0 [(none, .v 2 .mv [.k (.b false)])])
   (.cl ks (.seq
   (.rg 0 [(none, .v 3 .mv [.s 0]), (none, .co 4 114 [.s 3, .k (.i 3), .k (.i 6), .k (.i 100)]), (none, .tk 2 4)])
   .ret)))

theorem chk_impl_ValuesOk : ∃ b, Try.f49.body = some b ∧ chk Try.prog Try.f49.ntmps true C_impl_ValuesOk b = true := ⟨_, rfl, by kernel_rfl⟩
theorem impl_ValuesOk_ok {nl : Option Bool} (xs : List (List Int)) (hl : xs.length ≤ 1048576) (hr : ∀ r ∈ xs, r.length ≤ 1048576) : CallOk Try.prog 49 [.s nl (rr xs)] [(0, .b (rectB xs 3 6 100))] := by
  obtain ⟨code0, hcd1, hcd2⟩ := chk_impl_ValuesOk; refine callOk_of Try.func49 hcd1 mo Try.call49 (rs := [2]) (by kernel_rfl) hcd2 (by rw [Try.ntmps49]; simp) (by simp) (by decide) ?_; unfold C_impl_ValuesOk K_impl_ValuesOk; simp (config := { maxSteps := 2000000 }) only [go_sem, Nat.reduceBEq, Nat.reduceAdd, Nat.reduceMul, Nat.reduceMod, Nat.reduceLT, Nat.reduceDiv, Nat.reduceSub, Nat.reduceLeDiff, Int.reduceToNat, Int.reduceLT, Int.reduceLE, reduceCtorEq, List.take_nil, List.drop_nil]
  refine ⟨_, rectangle_ok xs 3 6 100 hl hr, ?_⟩; simp (config := { maxSteps := 2000000 }) only [go_sem, Nat.reduceBEq, Nat.reduceAdd, Nat.reduceMul, Nat.reduceMod, Nat.reduceLT, Nat.reduceDiv, Nat.reduceSub, Nat.reduceLeDiff, Int.reduceToNat, Int.reduceLT, Int.reduceLE, reduceCtorEq, List.take_nil, List.drop_nil]
/- spec_AllocationOk: not in this cut -/
def K_impl_AllocationOk : List Nat := [0, 1, 4]
def C_impl_AllocationOk : C :=
  let ks := K_impl_AllocationOk
  (.seq
   (.rg 0 [(none, .v 4 .mv [.k (.b false)])])
   (.cl ks (.seq
   (.rg 0 [(none, .v 5 .mv [.s 0]), (none, .co 6 49 [.s 5]), (none, .v 7 .mv [.s 6]), (some (7, true), .v 8 .mv [.s 1]), (some (7, true), .v 9 .len [.s 8]), (some (7, true), .v 10 .mv [.s 0]), (some (7, true), .v 11 .idx [.s 10, .k (.i 0)]), (some (7, true), .v 12 .ld [.s 11]), (some (7, true), .v 13 .len [.s 12]), (some (7, true), .v 14 (.bin .eql) [.s 9, .s 13]), (none, .v 15 .pick [.s 7, .s 14, .k (.b false)]), (none, .v 16 .mv [.s 15]), (some (16, true), .v 17 .mv [.s 1]), (some (16, true), .v 18 .mv [.s 0]), (some (16, true), .v 19 .len [.s 18]), (some (16, true), .v 20 (.bin .sub) [.s 19, .k (.i 1)]), (some (16, true), .co 21 82 [.s 17, .k (.i (-1)), .s 20]), (none, .v 22 .pick [.s 16, .s 21, .k (.b false)]), (none, .tk 4 22)])
   .ret)))

theorem chk_impl_AllocationOk : ∃ b, Try.f50.body = some b ∧ chk Try.prog Try.f50.ntmps true C_impl_AllocationOk b = true := ⟨_, rfl, by kernel_rfl⟩
/- spec_l23Worth: not in this cut -/
def K_impl_worth : List Nat := [0, 1, 2, 3, 8, 9, 10, 11, 12, 13, 14]
def C_impl_worth : C :=
  let ks := K_impl_worth
  (.seq
   (.rg 0 [(none, .v 8 .mv [.k (.i 0)])])
   (.cl ks (.seq
   (.rg 0 [(none, .v 9 .mv [.k (.i 0)])])
   (.cl ks (.seq
   (.seq
   (.rg 0 [(none, .v 12 .mv [.s 1]), (none, .v 13 .len [.s 12]), (none, .v 14 .mv [.k (.i 0)])])
   (.cl ks (.block 0
   (.loop
   (.seq
   (.rg 0 [(none, .v 15 (.bin .lss) [.s 14, .s 13])])
   (.seq
   (.cond (.s 15)
   .skip
   (.exit 0))
   (.cl ks (.seq
   (.block 1
   (.seq
   (.rg 0 [(none, .v 16 .mv [.s 14]), (none, .v 17 .idx [.s 12, .s 14]), (none, .v 18 .ld [.s 17]), (none, .tk 10 16), (none, .tk 11 18)])
   (.cl ks (.seq
   (.rg 0 [(none, .v 19 .mv [.s 11]), (none, .v 20 .mv [.s 3]), (none, .v 21 (.bin .eql) [.s 19, .s 20])])
   (.cond (.s 21)
   (.rg 0 [(none, .v 22 .mv [.s 9]), (none, .v 23 .mv [.s 0]), (none, .v 24 .mv [.s 2]), (none, .v 25 .idx [.s 23, .s 24]), (none, .v 26 .ld [.s 25]), (none, .v 27 .mv [.s 10]), (none, .v 28 .idx [.s 26, .s 27]), (none, .v 29 .ld [.s 28]), (none, .v 30 (.bin .add) [.s 22, .s 29]), (none, .tk 9 30)])
   .skip)))))
   (.cl ks (.rg 0 [(none, .v 31 (.bin .add) [.s 14, .k (.i 1)]), (none, .v 14 .mv [.s 31])]))))))))))
   (.cl ks (.seq
   (.rg 0 [(none, .v 32 .mv [.s 9]), (none, .tk 8 32)])
   .ret)))))))

theorem chk_impl_worth : ∃ b, Try.f113.body = some b ∧ chk Try.prog Try.f113.ntmps true C_impl_worth b = true := ⟨_, rfl, by kernel_rfl⟩
/- spec_WorthOf: not in this cut -/
def K_impl_WorthOf : List Nat := [0, 1, 2, 3, 8]
def C_impl_WorthOf : C :=
  let ks := K_impl_WorthOf
  (.seq
   (.rg 0 [(none, .v 8 .mv [.k (.i 0)])])
   (.cl ks (.seq
   (.seq
   (.rg 0 [(none, .v 9 .mv [.s 0]), (none, .v 10 .mv [.s 1]), (none, .co 11 50 [.s 9, .s 10]), (none, .v 12 .not [.s 11]), (none, .v 13 .mv [.s 12]), (some (13, false), .v 14 .mv [.s 2]), (some (13, false), .v 15 .mv [.s 0]), (some (13, false), .v 16 .len [.s 15]), (some (13, false), .v 17 (.bin .sub) [.s 16, .k (.i 1)]), (some (13, false), .co 18 69 [.s 14, .k (.i 0), .s 17]), (some (13, false), .v 19 .not [.s 18]), (none, .v 20 .pick [.s 13, .k (.b true), .s 19]), (none, .v 21 .mv [.s 20]), (some (21, false), .v 22 .mv [.s 3]), (some (21, false), .v 23 .mv [.s 0]), (some (21, false), .v 24 .len [.s 23]), (some (21, false), .v 25 (.bin .sub) [.s 24, .k (.i 1)]), (some (21, false), .co 26 69 [.s 22, .k (.i 0), .s 25]), (some (21, false), .v 27 .not [.s 26]), (none, .v 28 .pick [.s 21, .k (.b true), .s 27])])
   (.cond (.s 28)
   (.seq
   (.rg 0 [(none, .v 8 .mv [.k (.i (-1))])])
   .ret)
   .skip))
   (.cl ks (.seq
   (.rg 0 [(none, .v 29 .mv [.s 0]), (none, .v 30 .mv [.s 1]), (none, .v 31 .mv [.s 2]), (none, .v 32 .mv [.s 3]), (none, .co 33 113 [.s 29, .s 30, .s 31, .s 32]), (none, .tk 8 33)])
   .ret)))))

theorem chk_impl_WorthOf : ∃ b, Try.f54.body = some b ∧ chk Try.prog Try.f54.ntmps true C_impl_WorthOf b = true := ⟨_, rfl, by kernel_rfl⟩
/-- The values are valid: m goods. -/
structure Vals (vs : List (List Int)) (m : Nat) : Prop where
  n1 : 1 ≤ vs.length
  n3 : vs.length ≤ 3
  len : ∀ i, i < vs.length → (vs.getD i []).length = m
  bd : ∀ i g, i < vs.length → g < m → 0 ≤ (vs.getD i []).getD g 0 ∧ (vs.getD i []).getD g 0 ≤ 100
  m1 : 1 ≤ m
  m6 : m ≤ 6
theorem vals_of {vs : List (List Int)} (h : rectB vs 3 6 100 = true) : Vals vs (vs.getD 0 []).length := by
  simp only [rectB, Bool.and_eq_true, inI, decide_eq_true_eq, List.all_eq_true] at h
  obtain ⟨⟨h1, h2⟩, h3⟩ := h
  exact ⟨by omega, by omega, fun i hi => (h3 _ (getD_mem hi)).1, fun i g hi hg => (h3 _ (getD_mem hi)).2 _ (getD_mem (by rw [(h3 _ (getD_mem hi)).1]; exact hg)), by omega, by omega⟩
def allocB (vs : List (List Int)) (l : List Int) : Bool := rectB vs 3 6 100 && decide (l.length = (vs.getD 0 []).length) && l.all fun x => inI x (-1) (vs.length - 1)
theorem alloc_vals {vs : List (List Int)} {l : List Int} (h : allocB vs l = true) : Vals vs l.length := by
  simp only [allocB, Bool.and_eq_true, decide_eq_true_eq] at h
  rw [h.1.2]; exact vals_of h.1.1
theorem alloc_own {vs : List (List Int)} {l : List Int} (h : allocB vs l = true) : ∀ x ∈ l, -1 ≤ x ∧ x ≤ vs.length - 1 := by
  simp only [allocB, Bool.and_eq_true, List.all_eq_true, inI, decide_eq_true_eq] at h
  exact fun x hx => h.2 x hx
theorem impl_AllocationOk_ok {n1 n2 : Option Bool} (vs : List (List Int)) (l : List Int) (hl : vs.length ≤ 1048576) (hr : ∀ r ∈ vs, r.length ≤ 1048576) (hll : l.length ≤ 1048576) :
    CallOk Try.prog 50 [.s n1 (rr vs), .s n2 (ii l)] [(0, .b (allocB vs l))] := by
  obtain ⟨code0, hcd1, hcd2⟩ := chk_impl_AllocationOk; refine callOk_of Try.func50 hcd1 mo Try.call50 (rs := [4]) (by kernel_rfl) hcd2 (by rw [Try.ntmps50]; simp) (by simp) (by decide) ?_; unfold C_impl_AllocationOk K_impl_AllocationOk; simp (config := { maxSteps := 2000000 }) only [go_sem, Nat.reduceBEq, Nat.reduceAdd, Nat.reduceMul, Nat.reduceMod, Nat.reduceLT, Nat.reduceDiv, Nat.reduceSub, Nat.reduceLeDiff, Int.reduceToNat, Int.reduceLT, Int.reduceLE, reduceCtorEq, List.take_nil, List.drop_nil]
  refine ⟨_, impl_ValuesOk_ok vs hl hr, ?_⟩; simp (config := { maxSteps := 2000000 }) only [go_sem, Nat.reduceBEq, Nat.reduceAdd, Nat.reduceMul, Nat.reduceMod, Nat.reduceLT, Nat.reduceDiv, Nat.reduceSub, Nat.reduceLeDiff, Int.reduceToNat, Int.reduceLT, Int.reduceLE, reduceCtorEq, List.take_nil, List.drop_nil]
  refine ⟨fun h => ?_, fun h => ?_⟩
  · have V := vals_of h
    have := V.n1
    refine ⟨by omega, by omega, fun h1 => ⟨inR_of (by omega) (by omega), ?_⟩, fun h1 => ?_⟩
    · refine ⟨_, allWithin_ok l _ _ hll, ?_⟩; simp (config := { maxSteps := 2000000 }) only [go_sem, Nat.reduceBEq, Nat.reduceAdd, Nat.reduceMul, Nat.reduceMod, Nat.reduceLT, Nat.reduceDiv, Nat.reduceSub, Nat.reduceLeDiff, Int.reduceToNat, Int.reduceLT, Int.reduceLE, reduceCtorEq, List.take_nil, List.drop_nil]
      simp [-List.getD_eq_getElem?_getD, allocB, h, h1]
    · simp [-List.getD_eq_getElem?_getD, allocB, h, h1]
  · simp [-List.getD_eq_getElem?_getD, allocB, h]
/-- The worth of the first g goods of k's. -/
def worthL (r : List Int) (l : List Int) (k : Int) : Nat → Int
  | 0 => 0
  | g + 1 => worthL r l k g + if l.getD g 0 = k then r.getD g 0 else 0
/-- What person i gives for the goods of person k. -/
def wo (vs : List (List Int)) (l : List Int) (i : Nat) (k : Int) : Int := worthL (vs.getD i []) l k l.length
theorem worthL_bd {vs : List (List Int)} {l : List Int} {i : Nat} {k : Int} (V : Vals vs l.length) (hi : i < vs.length) : ∀ {g : Nat}, g ≤ l.length → 0 ≤ worthL (vs.getD i []) l k g ∧ worthL (vs.getD i []) l k g ≤ 100 * g
  | 0, _ => by simp [worthL]
  | g + 1, h => by
    have := worthL_bd V hi (k := k) (g := g) (by omega)
    have hx := V.bd i g hi (by omega)
    simp only [worthL]; split <;> omega
theorem wo_bd {vs : List (List Int)} {l : List Int} {i : Nat} {k : Int} (V : Vals vs l.length) (hi : i < vs.length) : 0 ≤ wo vs l i k ∧ wo vs l i k ≤ 600 := by
  have := worthL_bd V hi (k := k) (Nat.le_refl l.length)
  have := V.m6
  unfold wo; omega
theorem impl_worth_ok {n1 n2 : Option Bool} (vs : List (List Int)) (l : List Int) (V : Vals vs l.length) (i : Nat) (k : Int) (hi : i < vs.length) :
    CallOk Try.prog 113 [.s n1 (rr vs), .s n2 (ii l), .i i, .i k] [(0, .i (wo vs l i k))] := by
  have m6 := V.m6
  obtain ⟨code0, hcd1, hcd2⟩ := chk_impl_worth; refine callOk_of Try.func113 hcd1 mo Try.call113 (rs := [8]) (by kernel_rfl) hcd2 (by rw [Try.ntmps113]; simp) (by simp) (by decide) ?_; unfold C_impl_worth K_impl_worth; simp (config := { maxSteps := 2000000 }) only [go_sem, Nat.reduceBEq, Nat.reduceAdd, Nat.reduceMul, Nat.reduceMod, Nat.reduceLT, Nat.reduceDiv, Nat.reduceSub, Nat.reduceLeDiff, Int.reduceToNat, Int.reduceLT, Int.reduceLE, reduceCtorEq, List.take_nil, List.drop_nil]
  refine loopN l.length (fun j => [(0, .t .arg (.s n1 (rr vs))), (1, .t .arg (.s n2 (ii l))), (2, .i i), (3, .i k), (9, .i (worthL (vs.getD i []) l k j)), (12, .t .arg (.s n2 (ii l))), (13, .i l.length), (14, .i (j : Nat))]) (fun _ => True)
    ⟨trivial, by simp (config := { maxSteps := 2000000 }) only [go_sem, Nat.reduceBEq, Nat.reduceAdd, Nat.reduceMul, Nat.reduceMod, Nat.reduceLT, Nat.reduceDiv, Nat.reduceSub, Nat.reduceLeDiff, Int.reduceToNat, Int.reduceLT, Int.reduceLE, reduceCtorEq, List.take_nil, List.drop_nil]; simp [worthL]⟩ fun j hj _ => ?_
  simp (config := { maxSteps := 2000000 }) only [go_sem, Nat.reduceBEq, Nat.reduceAdd, Nat.reduceMul, Nat.reduceMod, Nat.reduceLT, Nat.reduceDiv, Nat.reduceSub, Nat.reduceLeDiff, Int.reduceToNat, Int.reduceLT, Int.reduceLE, reduceCtorEq, List.take_nil, List.drop_nil]
  have hw := worthL_bd V hi (k := k) hj
  refine ⟨fun hlt => ?_, fun hge => ?_⟩
  · have hj' : j < l.length := by omega
    have hx := V.bd i j hi hj'
    have hrl := V.len i hi
    refine ⟨by omega, by omega, by omega, fun he => ?_, fun he => ?_⟩
    · refine ⟨by omega, by omega, by omega, by omega, by omega, by omega, inR_of (by omega) (by omega), inR_of (by omega) (by omega), hj', ?_, by simp⟩
      simp only [worthL, if_pos he]
    · refine ⟨inR_of (by omega) (by omega), hj', ?_, by simp⟩
      simp only [worthL, if_neg he, Int.add_zero]
  · have : j = l.length := by omega
    subst this
    rfl
/-- What WorthOf returns. -/
def worthOfF (vs : List (List Int)) (l : List Int) (i k : Int) : Int := if (allocB vs l && inI i 0 (vs.length - 1) && inI k 0 (vs.length - 1)) = true then wo vs l i.toNat k else -1
theorem impl_WorthOf_ok {n1 n2 : Option Bool} (vs : List (List Int)) (l : List Int) (i k : Int) (hl : vs.length ≤ 1048576) (hr : ∀ r ∈ vs, r.length ≤ 1048576) (hll : l.length ≤ 1048576) :
    CallOk Try.prog 54 [.s n1 (rr vs), .s n2 (ii l), .i i, .i k] [(0, .i (worthOfF vs l i k))] := by
  obtain ⟨code0, hcd1, hcd2⟩ := chk_impl_WorthOf; refine callOk_of Try.func54 hcd1 mo Try.call54 (rs := [8]) (by kernel_rfl) hcd2 (by rw [Try.ntmps54]; simp) (by simp) (by decide) ?_; unfold C_impl_WorthOf K_impl_WorthOf; simp (config := { maxSteps := 2000000 }) only [go_sem, Nat.reduceBEq, Nat.reduceAdd, Nat.reduceMul, Nat.reduceMod, Nat.reduceLT, Nat.reduceDiv, Nat.reduceSub, Nat.reduceLeDiff, Int.reduceToNat, Int.reduceLT, Int.reduceLE, reduceCtorEq, List.take_nil, List.drop_nil]
  refine ⟨_, impl_AllocationOk_ok vs l hl hr hll, ?_⟩; simp (config := { maxSteps := 2000000 }) only [go_sem, Nat.reduceBEq, Nat.reduceAdd, Nat.reduceMul, Nat.reduceMod, Nat.reduceLT, Nat.reduceDiv, Nat.reduceSub, Nat.reduceLeDiff, Int.reduceToNat, Int.reduceLT, Int.reduceLE, reduceCtorEq, List.take_nil, List.drop_nil]
  refine ⟨fun h => ?_, fun h => ?_⟩
  case refine_2 => simp [-List.getD_eq_getElem?_getD, worthOfF, h]
  have V := alloc_vals h
  have := V.n1
  refine ⟨inR_of (by omega) (by omega), ?_⟩
  refine ⟨_, within_ok _ _ _, ?_⟩; simp (config := { maxSteps := 2000000 }) only [go_sem, Nat.reduceBEq, Nat.reduceAdd, Nat.reduceMul, Nat.reduceMod, Nat.reduceLT, Nat.reduceDiv, Nat.reduceSub, Nat.reduceLeDiff, Int.reduceToNat, Int.reduceLT, Int.reduceLE, reduceCtorEq, List.take_nil, List.drop_nil]
  refine ⟨fun h1 => ⟨inR_of (by omega) (by omega), ?_⟩, fun h1 => ?_⟩
  case refine_2 => simp [-List.getD_eq_getElem?_getD, worthOfF, h1]
  refine ⟨_, within_ok _ _ _, ?_⟩; simp (config := { maxSteps := 2000000 }) only [go_sem, Nat.reduceBEq, Nat.reduceAdd, Nat.reduceMul, Nat.reduceMod, Nat.reduceLT, Nat.reduceDiv, Nat.reduceSub, Nat.reduceLeDiff, Int.reduceToNat, Int.reduceLT, Int.reduceLE, reduceCtorEq, List.take_nil, List.drop_nil]
  refine ⟨fun h2 => ?_, fun h2 => ?_⟩
  case refine_1 => simp [-List.getD_eq_getElem?_getD, worthOfF, h2]
  have h3 := h1
  simp only [inI, Bool.and_eq_true, decide_eq_true_eq] at h3
  obtain ⟨n, rfl⟩ := Int.eq_ofNat_of_zero_le h3.1
  refine ⟨_, impl_worth_ok vs l V n k (by omega), ?_⟩; simp (config := { maxSteps := 2000000 }) only [go_sem, Nat.reduceBEq, Nat.reduceAdd, Nat.reduceMul, Nat.reduceMod, Nat.reduceLT, Nat.reduceDiv, Nat.reduceSub, Nat.reduceLeDiff, Int.reduceToNat, Int.reduceLT, Int.reduceLE, reduceCtorEq, List.take_nil, List.drop_nil]
  simp [worthOfF, h, h1, h2]
/- spec_l24Nearly: not in this cut -/
def K_impl_isNearlyFree : List Nat := [0, 1, 4, 5, 6, 7, 9, 10, 13, 14, 15]
def C_impl_isNearlyFree : C :=
  let ks := K_impl_isNearlyFree
  (.seq
   (.rg 0 [(none, .v 4 .mv [.k (.b false)])])
   (.cl ks (.seq
   (.seq
   (.rg 0 [(none, .v 8 .mv [.s 0]), (none, .v 9 .len [.s 8]), (none, .v 10 .mv [.k (.i 0)])])
   (.cl ks (.block 0
   (.loop
   (.seq
   (.rg 0 [(none, .v 11 (.bin .lss) [.s 10, .s 9])])
   (.seq
   (.cond (.s 11)
   .skip
   (.exit 0))
   (.cl ks (.seq
   (.block 1
   (.seq
   (.rg 0 [(none, .v 12 .mv [.s 10]), (none, .tk 5 12)])
   (.cl ks (.seq
   (.rg 0 [(none, .v 13 .mv [.s 1]), (none, .v 14 .len [.s 13]), (none, .v 15 .mv [.k (.i 0)])])
   (.cl ks (.block 2
   (.loop
   (.seq
   (.rg 0 [(none, .v 16 (.bin .lss) [.s 15, .s 14])])
   (.seq
   (.cond (.s 16)
   .skip
   (.exit 2))
   (.cl ks (.seq
   (.block 3
   (.seq
   (.rg 0 [(none, .v 17 .mv [.s 15]), (none, .v 18 .idx [.s 13, .s 15]), (none, .v 19 .ld [.s 18]), (none, .tk 6 17), (none, .tk 7 19)])
   (.cl ks (.seq
   (.rg 26 [(none, .v 20 .mv [.s 7]), (none, .v 21 (.bin .geq) [.s 20, .k (.i 0)]), (none, .v 22 .mv [.s 21]), (some (22, true), .v 23 .mv [.s 7]), (some (22, true), .v 24 .mv [.s 5]), (some (22, true), .v 25 (.bin .neq) [.s 23, .s 24]), (none, .v 26 .pick [.s 22, .s 25, .k (.b false)]), (none, .v 27 .mv [.s 26]), (some (27, true), .v 28 .mv [.s 0]), (some (27, true), .v 29 .mv [.s 1]), (some (27, true), .v 30 .mv [.s 5]), (some (27, true), .v 31 .mv [.s 7]), (some (27, true), .v 32 (.call 113) [.s 28, .s 29, .s 30, .s 31]), (some (27, true), .v 33 .mv [.s 0]), (some (27, true), .v 34 .mv [.s 5]), (some (27, true), .v 35 .idx [.s 33, .s 34]), (some (27, true), .v 36 .ld [.s 35]), (some (27, true), .v 37 .mv [.s 6]), (some (27, true), .v 38 .idx [.s 36, .s 37]), (some (27, true), .v 39 .ld [.s 38]), (some (27, true), .v 40 (.bin .sub) [.s 32, .s 39]), (some (27, true), .v 41 .mv [.s 0]), (some (27, true), .v 42 .mv [.s 1]), (some (27, true), .v 43 .mv [.s 5]), (some (27, true), .v 44 .mv [.s 5]), (some (27, true), .v 45 (.call 113) [.s 41, .s 42, .s 43, .s 44]), (some (27, true), .v 46 (.bin .gtr) [.s 40, .s 45]), (none, .v 47 .pick [.s 27, .s 46, .k (.b false)])])
   (.cond (.s 47)
   (.seq
   (.rg 0 [(none, .v 4 .mv [.k (.b false)])])
   .ret)
   .skip)))))
   (.cl ks (.rg 0 [(none, .v 48 (.bin .add) [.s 15, .k (.i 1)]), (none, .v 15 .mv [.s 48])])))))))))))))
   (.cl ks (.rg 0 [(none, .v 49 (.bin .add) [.s 10, .k (.i 1)]), (none, .v 10 .mv [.s 49])]))))))))))
   (.cl ks (.seq
   (.rg 0 [(none, .v 4 .mv [.k (.b true)])])
   .ret)))))

theorem chk_impl_isNearlyFree : ∃ b, Try.f121.body = some b ∧ chk Try.prog Try.f121.ntmps true C_impl_isNearlyFree b = true := ⟨_, rfl, by kernel_rfl⟩
/- spec_IsNearlyFree: not in this cut -/
def K_impl_IsNearlyFree : List Nat := [0, 1, 4]
def C_impl_IsNearlyFree : C :=
  let ks := K_impl_IsNearlyFree
  (.seq
   (.rg 0 [(none, .v 4 .mv [.k (.b false)])])
   (.cl ks (.seq
   (.rg 0 [(none, .v 5 .mv [.s 0]), (none, .v 6 .mv [.s 1]), (none, .co 7 50 [.s 5, .s 6]), (none, .v 8 .mv [.s 7]), (some (8, true), .v 9 .mv [.s 0]), (some (8, true), .v 10 .mv [.s 1]), (some (8, true), .co 11 121 [.s 9, .s 10]), (none, .v 12 .pick [.s 8, .s 11, .k (.b false)]), (none, .tk 4 12)])
   .ret)))

theorem chk_impl_IsNearlyFree : ∃ b, Try.f59.body = some b ∧ chk Try.prog Try.f59.ntmps true C_impl_IsNearlyFree b = true := ⟨_, rfl, by kernel_rfl⟩
def nearAt (vs : List (List Int)) (l : List Int) (i g : Nat) : Bool := !(decide (0 ≤ l.getD g 0) && decide (l.getD g 0 ≠ i) && decide (wo vs l i i < wo vs l i (l.getD g 0) - (vs.getD i []).getD g 0))
def nearB (vs : List (List Int)) (l : List Int) : Bool := (List.range vs.length).all fun i => (List.range l.length).all fun g => nearAt vs l i g
theorem impl_isNearlyFree_ok {n1 n2 : Option Bool} (vs : List (List Int)) (l : List Int) (V : Vals vs l.length) :
    CallOk Try.prog 121 [.s n1 (rr vs), .s n2 (ii l)] [(0, .b (nearB vs l))] := by
  have m6 := V.m6
  have n3 := V.n3
  obtain ⟨code0, hcd1, hcd2⟩ := chk_impl_isNearlyFree; refine callOk_of Try.func121 hcd1 mo Try.call121 (rs := [4]) (by kernel_rfl) hcd2 (by rw [Try.ntmps121]; simp) (by simp) (by decide) ?_; unfold C_impl_isNearlyFree K_impl_isNearlyFree; simp (config := { maxSteps := 2000000 }) only [go_sem, Nat.reduceBEq, Nat.reduceAdd, Nat.reduceMul, Nat.reduceMod, Nat.reduceLT, Nat.reduceDiv, Nat.reduceSub, Nat.reduceLeDiff, Int.reduceToNat, Int.reduceLT, Int.reduceLE, reduceCtorEq, List.take_nil, List.drop_nil]
  refine loopN vs.length (fun j => [(0, .t .arg (.s n1 (rr vs))), (1, .t .arg (.s n2 (ii l))), (9, .i vs.length), (10, .i (j : Nat))]) (fun j => ∀ i, i < j → ((List.range l.length).all fun g => nearAt vs l i g) = true) ⟨by simp, by simp (config := { maxSteps := 2000000 }) only [go_sem, Nat.reduceBEq, Nat.reduceAdd, Nat.reduceMul, Nat.reduceMod, Nat.reduceLT, Nat.reduceDiv, Nat.reduceSub, Nat.reduceLeDiff, Int.reduceToNat, Int.reduceLT, Int.reduceLE, reduceCtorEq, List.take_nil, List.drop_nil]; simp⟩ fun i hi hI => ?_
  simp (config := { maxSteps := 2000000 }) only [go_sem, Nat.reduceBEq, Nat.reduceAdd, Nat.reduceMul, Nat.reduceMod, Nat.reduceLT, Nat.reduceDiv, Nat.reduceSub, Nat.reduceLeDiff, Int.reduceToNat, Int.reduceLT, Int.reduceLE, reduceCtorEq, List.take_nil, List.drop_nil]
  refine ⟨fun hlt => ?_, fun hge => ?_⟩
  case refine_2 =>
    have : i = vs.length := by omega
    subst this
    exact (all_range hI).symm
  have hi' : i < vs.length := by omega
  refine loopN l.length (fun j => [(0, .t .arg (.s n1 (rr vs))), (1, .t .arg (.s n2 (ii l))), (5, .i i), (9, .i vs.length), (10, .i (i : Nat)), (13, .t .arg (.s n2 (ii l))), (14, .i l.length), (15, .i (j : Nat))]) (fun j => ∀ g, g < j → nearAt vs l i g = true) ⟨by simp, by simp (config := { maxSteps := 2000000 }) only [go_sem, Nat.reduceBEq, Nat.reduceAdd, Nat.reduceMul, Nat.reduceMod, Nat.reduceLT, Nat.reduceDiv, Nat.reduceSub, Nat.reduceLeDiff, Int.reduceToNat, Int.reduceLT, Int.reduceLE, reduceCtorEq, List.take_nil, List.drop_nil]; simp⟩ fun g hg hG => ?_
  simp (config := { maxSteps := 2000000 }) only [go_sem, Nat.reduceBEq, Nat.reduceAdd, Nat.reduceMul, Nat.reduceMod, Nat.reduceLT, Nat.reduceDiv, Nat.reduceSub, Nat.reduceLeDiff, Int.reduceToNat, Int.reduceLT, Int.reduceLE, reduceCtorEq, List.take_nil, List.drop_nil]
  refine ⟨fun hlt => ?_, fun hge => ?_⟩
  case refine_2 =>
    have : g = l.length := by omega
    subst this
    refine ⟨inR_of (by omega) (by omega), hi', fun j hj => ?_, by simp⟩
    by_cases e : j = i
    · subst e; exact all_range hG
    · exact hI j (by omega)
  have hg' : g < l.length := by omega
  have hrl := V.len i hi'
  have hb := V.bd i g hi' hg'
  have w1 := wo_bd (k := l.getD g 0) V hi'
  have w2 := wo_bd (k := (i : Int)) V hi'
  have fin : nearAt vs l i g = true → ((-1000000000000000000 : Int) ≤ g + 1 ∧ (g : Int) + 1 ≤ 1000000000000000000) ∧ ∀ j, j < g + 1 → nearAt vs l i j = true := fun h => ⟨by omega, fun j hj => by
    by_cases e : j = g
    · subst e; exact h
    · exact hG j (by omega)⟩
  have bad : nearAt vs l i g = false → nearB vs l = false := fun h => not_all_range hi' (not_all_range hg' h)
  refine ⟨by omega, by omega, by omega, fun h0 => ?_, fun h0 => ?_⟩
  · have leaf : nearAt vs l i g = true → inR ((g : Int) + 1) ∧ g < l.length ∧ (∀ j, j < g + 1 → nearAt vs l i j = true) ∧ (g : Int) + 1 = ((g + 1 : Nat) : Int) := fun hn => ⟨inR_of (fin hn).1.1 (fin hn).1.2, hg', (fin hn).2, by simp⟩
    have val : nearAt vs l i g = !(decide (l.getD g 0 ≠ i) && decide (wo vs l i i < wo vs l i (l.getD g 0) - (vs.getD i []).getD g 0)) := by simp only [nearAt, h0, decide_true, Bool.true_and]
    refine ⟨fun h2 => ?_, fun h2 => ?_⟩
    · refine ⟨_, impl_worth_ok vs l V i _ hi', ?_⟩; simp (config := { maxSteps := 2000000 }) only [go_sem, Nat.reduceBEq, Nat.reduceAdd, Nat.reduceMul, Nat.reduceMod, Nat.reduceLT, Nat.reduceDiv, Nat.reduceSub, Nat.reduceLeDiff, Int.reduceToNat, Int.reduceLT, Int.reduceLE, reduceCtorEq, List.take_nil, List.drop_nil]
      refine ⟨by omega, by omega, by omega, by omega, by omega, by omega, inR_of (by omega) (by omega), ?_⟩
      refine ⟨_, impl_worth_ok vs l V i _ hi', ?_⟩; simp (config := { maxSteps := 2000000 }) only [go_sem, Nat.reduceBEq, Nat.reduceAdd, Nat.reduceMul, Nat.reduceMod, Nat.reduceLT, Nat.reduceDiv, Nat.reduceSub, Nat.reduceLeDiff, Int.reduceToNat, Int.reduceLT, Int.reduceLE, reduceCtorEq, List.take_nil, List.drop_nil]
      refine ⟨fun h1 => ?_, fun h1 => ?_⟩
      · exact (bad (by rw [val]; simp [-List.getD_eq_getElem?_getD, h1, h2])).symm
      · exact leaf (by rw [val]; simp [-List.getD_eq_getElem?_getD, h1])
    · exact leaf (by rw [val]; simp [-List.getD_eq_getElem?_getD, h2])
  · have hn : nearAt vs l i g = true := by simp only [nearAt, h0, decide_false, Bool.false_and, Bool.not_false]
    exact ⟨inR_of (fin hn).1.1 (fin hn).1.2, hg', (fin hn).2, by simp⟩
theorem impl_IsNearlyFree_ok {n1 n2 : Option Bool} (vs : List (List Int)) (l : List Int) (hl : vs.length ≤ 1048576) (hr : ∀ r ∈ vs, r.length ≤ 1048576) (hll : l.length ≤ 1048576) :
    CallOk Try.prog 59 [.s n1 (rr vs), .s n2 (ii l)] [(0, .b (allocB vs l && nearB vs l))] := by
  obtain ⟨code0, hcd1, hcd2⟩ := chk_impl_IsNearlyFree; refine callOk_of Try.func59 hcd1 mo Try.call59 (rs := [4]) (by kernel_rfl) hcd2 (by rw [Try.ntmps59]; simp) (by simp) (by decide) ?_; unfold C_impl_IsNearlyFree K_impl_IsNearlyFree; simp (config := { maxSteps := 2000000 }) only [go_sem, Nat.reduceBEq, Nat.reduceAdd, Nat.reduceMul, Nat.reduceMod, Nat.reduceLT, Nat.reduceDiv, Nat.reduceSub, Nat.reduceLeDiff, Int.reduceToNat, Int.reduceLT, Int.reduceLE, reduceCtorEq, List.take_nil, List.drop_nil]
  refine ⟨_, impl_AllocationOk_ok vs l hl hr hll, ?_⟩; simp (config := { maxSteps := 2000000 }) only [go_sem, Nat.reduceBEq, Nat.reduceAdd, Nat.reduceMul, Nat.reduceMod, Nat.reduceLT, Nat.reduceDiv, Nat.reduceSub, Nat.reduceLeDiff, Int.reduceToNat, Int.reduceLT, Int.reduceLE, reduceCtorEq, List.take_nil, List.drop_nil]
  refine ⟨fun h => ?_, fun h => by simp [h]⟩
  refine ⟨_, impl_isNearlyFree_ok vs l (alloc_vals h), ?_⟩; simp (config := { maxSteps := 2000000 }) only [go_sem, Nat.reduceBEq, Nat.reduceAdd, Nat.reduceMul, Nat.reduceMod, Nat.reduceLT, Nat.reduceDiv, Nat.reduceSub, Nat.reduceLeDiff, Int.reduceToNat, Int.reduceLT, Int.reduceLE, reduceCtorEq, List.take_nil, List.drop_nil]
  simp [h]
/- spec_l24Least: not in this cut -/
def K_impl_leastPart : List Nat := [0, 1, 4, 5, 6, 11, 12]
def C_impl_leastPart : C :=
  let ks := K_impl_leastPart
  (.seq
   (.rg 0 [(none, .v 4 .mv [.k (.i 0)])])
   (.cl ks (.seq
   (.rg 0 [(none, .v 7 .mv [.s 0]), (none, .v 8 .mv [.s 1]), (none, .co 9 113 [.s 7, .s 8, .k (.i 0), .k (.i 0)]), (none, .tk 5 9)])
   (.cl ks (.seq
   (.seq
   (.rg 0 [(none, .v 10 .mv [.s 0]), (none, .v 11 .len [.s 10]), (none, .v 12 .mv [.k (.i 0)])])
   (.cl ks (.block 0
   (.loop
   (.seq
   (.rg 0 [(none, .v 13 (.bin .lss) [.s 12, .s 11])])
   (.seq
   (.cond (.s 13)
   .skip
   (.exit 0))
   (.cl ks (.seq
   (.block 1
   (.seq
   (.rg 0 [(none, .v 14 .mv [.s 12]), (none, .tk 6 14)])
   (.cl ks (.rg 0 [(none, .v 15 .mv [.s 5]), (none, .v 16 .mv [.s 0]), (none, .v 17 .mv [.s 1]), (none, .v 18 .mv [.s 6]), (none, .v 19 .mv [.s 6]), (none, .co 20 113 [.s 16, .s 17, .s 18, .s 19]), (none, .v 21 .mn [.s 15, .s 20]), (none, .tk 5 21)]))))
   (.cl ks (.rg 0 [(none, .v 22 (.bin .add) [.s 12, .k (.i 1)]), (none, .v 12 .mv [.s 22])]))))))))))
   (.cl ks (.seq
   (.rg 0 [(none, .v 23 .mv [.s 5]), (none, .tk 4 23)])
   .ret)))))))

theorem chk_impl_leastPart : ∃ b, Try.f125.body = some b ∧ chk Try.prog Try.f125.ntmps true C_impl_leastPart b = true := ⟨_, rfl, by kernel_rfl⟩
/- spec_LeastPart: not in this cut -/
def K_impl_LeastPart : List Nat := [0, 1, 4]
def C_impl_LeastPart : C :=
  let ks := K_impl_LeastPart
  (.seq
   (.rg 0 [(none, .v 4 .mv [.k (.i 0)])])
   (.cl ks (.seq
   (.seq
   (.rg 0 [(none, .v 5 .mv [.s 0]), (none, .v 6 .mv [.s 1]), (none, .co 7 50 [.s 5, .s 6]), (none, .v 8 .not [.s 7])])
   (.cond (.s 8)
   (.seq
   (.rg 0 [(none, .v 4 .mv [.k (.i (-1))])])
   .ret)
   .skip))
   (.cl ks (.seq
   (.rg 0 [(none, .v 9 .mv [.s 0]), (none, .v 10 .mv [.s 1]), (none, .co 11 125 [.s 9, .s 10]), (none, .tk 4 11)])
   .ret)))))

theorem chk_impl_LeastPart : ∃ b, Try.f64.body = some b ∧ chk Try.prog Try.f64.ntmps true C_impl_LeastPart b = true := ⟨_, rfl, by kernel_rfl⟩
/-- The least of the first j own worths. -/
def leastN (vs : List (List Int)) (l : List Int) : Nat → Int
  | 0 => wo vs l 0 0
  | j + 1 => min (leastN vs l j) (wo vs l j j)
theorem leastN_bd {vs : List (List Int)} {l : List Int} (V : Vals vs l.length) : ∀ {j : Nat}, j ≤ vs.length → 0 ≤ leastN vs l j ∧ leastN vs l j ≤ 600
  | 0, _ => wo_bd V (by have := V.n1; omega)
  | j + 1, h => by
    have h1 := leastN_bd V (j := j) (by omega)
    have h2 := wo_bd (k := (j : Int)) V (show j < vs.length by omega)
    simp only [leastN]; omega
theorem impl_leastPart_ok {n1 n2 : Option Bool} (vs : List (List Int)) (l : List Int) (V : Vals vs l.length) :
    CallOk Try.prog 125 [.s n1 (rr vs), .s n2 (ii l)] [(0, .i (leastN vs l vs.length))] := by
  have m1 := V.n1
  have n3 := V.n3
  obtain ⟨code0, hcd1, hcd2⟩ := chk_impl_leastPart; refine callOk_of Try.func125 hcd1 mo Try.call125 (rs := [4]) (by kernel_rfl) hcd2 (by rw [Try.ntmps125]; simp) (by simp) (by decide) ?_; unfold C_impl_leastPart K_impl_leastPart; simp (config := { maxSteps := 2000000 }) only [go_sem, Nat.reduceBEq, Nat.reduceAdd, Nat.reduceMul, Nat.reduceMod, Nat.reduceLT, Nat.reduceDiv, Nat.reduceSub, Nat.reduceLeDiff, Int.reduceToNat, Int.reduceLT, Int.reduceLE, reduceCtorEq, List.take_nil, List.drop_nil]
  refine ⟨_, impl_worth_ok vs l V 0 0 (by omega), ?_⟩; simp (config := { maxSteps := 2000000 }) only [go_sem, Nat.reduceBEq, Nat.reduceAdd, Nat.reduceMul, Nat.reduceMod, Nat.reduceLT, Nat.reduceDiv, Nat.reduceSub, Nat.reduceLeDiff, Int.reduceToNat, Int.reduceLT, Int.reduceLE, reduceCtorEq, List.take_nil, List.drop_nil]
  refine loopN vs.length (fun j => [(0, .t .arg (.s n1 (rr vs))), (1, .t .arg (.s n2 (ii l))), (5, .i (leastN vs l j)), (11, .i vs.length), (12, .i (j : Nat))]) (fun _ => True) ⟨trivial, by simp (config := { maxSteps := 2000000 }) only [go_sem, Nat.reduceBEq, Nat.reduceAdd, Nat.reduceMul, Nat.reduceMod, Nat.reduceLT, Nat.reduceDiv, Nat.reduceSub, Nat.reduceLeDiff, Int.reduceToNat, Int.reduceLT, Int.reduceLE, reduceCtorEq, List.take_nil, List.drop_nil]; simp [leastN]⟩ fun j hj _ => ?_
  simp (config := { maxSteps := 2000000 }) only [go_sem, Nat.reduceBEq, Nat.reduceAdd, Nat.reduceMul, Nat.reduceMod, Nat.reduceLT, Nat.reduceDiv, Nat.reduceSub, Nat.reduceLeDiff, Int.reduceToNat, Int.reduceLT, Int.reduceLE, reduceCtorEq, List.take_nil, List.drop_nil]
  refine ⟨fun hlt => ?_, fun hge => ?_⟩
  · refine ⟨_, impl_worth_ok vs l V j _ (by omega), ?_⟩; simp (config := { maxSteps := 2000000 }) only [go_sem, Nat.reduceBEq, Nat.reduceAdd, Nat.reduceMul, Nat.reduceMod, Nat.reduceLT, Nat.reduceDiv, Nat.reduceSub, Nat.reduceLeDiff, Int.reduceToNat, Int.reduceLT, Int.reduceLE, reduceCtorEq, List.take_nil, List.drop_nil]
    refine ⟨inR_of (by omega) (by omega), by omega, ?_, by simp⟩
    simp only [leastN]
  · have : j = vs.length := by omega
    subst this
    rfl
def leastPartF (vs : List (List Int)) (l : List Int) : Int := if allocB vs l = true then leastN vs l vs.length else -1
theorem impl_LeastPart_ok {n1 n2 : Option Bool} (vs : List (List Int)) (l : List Int) (hl : vs.length ≤ 1048576) (hr : ∀ r ∈ vs, r.length ≤ 1048576) (hll : l.length ≤ 1048576) :
    CallOk Try.prog 64 [.s n1 (rr vs), .s n2 (ii l)] [(0, .i (leastPartF vs l))] := by
  obtain ⟨code0, hcd1, hcd2⟩ := chk_impl_LeastPart; refine callOk_of Try.func64 hcd1 mo Try.call64 (rs := [4]) (by kernel_rfl) hcd2 (by rw [Try.ntmps64]; simp) (by simp) (by decide) ?_; unfold C_impl_LeastPart K_impl_LeastPart; simp (config := { maxSteps := 2000000 }) only [go_sem, Nat.reduceBEq, Nat.reduceAdd, Nat.reduceMul, Nat.reduceMod, Nat.reduceLT, Nat.reduceDiv, Nat.reduceSub, Nat.reduceLeDiff, Int.reduceToNat, Int.reduceLT, Int.reduceLE, reduceCtorEq, List.take_nil, List.drop_nil]
  refine ⟨_, impl_AllocationOk_ok vs l hl hr hll, ?_⟩; simp (config := { maxSteps := 2000000 }) only [go_sem, Nat.reduceBEq, Nat.reduceAdd, Nat.reduceMul, Nat.reduceMod, Nat.reduceLT, Nat.reduceDiv, Nat.reduceSub, Nat.reduceLeDiff, Int.reduceToNat, Int.reduceLT, Int.reduceLE, reduceCtorEq, List.take_nil, List.drop_nil]
  refine ⟨fun h => by simp [leastPartF, h], fun h => ?_⟩
  refine ⟨_, impl_leastPart_ok vs l (alloc_vals h), ?_⟩; simp (config := { maxSteps := 2000000 }) only [go_sem, Nat.reduceBEq, Nat.reduceAdd, Nat.reduceMul, Nat.reduceMod, Nat.reduceLT, Nat.reduceDiv, Nat.reduceSub, Nat.reduceLeDiff, Int.reduceToNat, Int.reduceLT, Int.reduceLE, reduceCtorEq, List.take_nil, List.drop_nil]
  simp [leastPartF, h]
/- spec_l23Envy: not in this cut -/
/- spec_l23Free: not in this cut -/
def K_impl_envies : List Nat := [0, 1, 2, 3, 8]
def C_impl_envies : C :=
  let ks := K_impl_envies
  (.seq
   (.rg 0 [(none, .v 8 .mv [.k (.b false)])])
   (.cl ks (.seq
   (.rg 0 [(none, .v 9 .mv [.s 0]), (none, .v 10 .mv [.s 1]), (none, .v 11 .mv [.s 2]), (none, .v 12 .mv [.s 3]), (none, .co 13 113 [.s 9, .s 10, .s 11, .s 12]), (none, .v 14 .mv [.s 0]), (none, .v 15 .mv [.s 1]), (none, .v 16 .mv [.s 2]), (none, .v 17 .mv [.s 2]), (none, .co 18 113 [.s 14, .s 15, .s 16, .s 17]), (none, .v 19 (.bin .gtr) [.s 13, .s 18]), (none, .tk 8 19)])
   .ret)))

theorem chk_impl_envies : ∃ b, Try.f148.body = some b ∧ chk Try.prog Try.f148.ntmps true C_impl_envies b = true := ⟨_, rfl, by kernel_rfl⟩
def K_impl_isFree : List Nat := [0, 1, 4, 5, 6, 8, 9, 13, 14]
def C_impl_isFree : C :=
  let ks := K_impl_isFree
  (.seq
   (.rg 0 [(none, .v 4 .mv [.k (.b false)])])
   (.cl ks (.seq
   (.seq
   (.rg 0 [(none, .v 7 .mv [.s 0]), (none, .v 8 .len [.s 7]), (none, .v 9 .mv [.k (.i 0)])])
   (.cl ks (.block 0
   (.loop
   (.seq
   (.rg 0 [(none, .v 10 (.bin .lss) [.s 9, .s 8])])
   (.seq
   (.cond (.s 10)
   .skip
   (.exit 0))
   (.cl ks (.seq
   (.block 1
   (.seq
   (.rg 0 [(none, .v 11 .mv [.s 9]), (none, .tk 5 11)])
   (.cl ks (.seq
   (.rg 0 [(none, .v 12 .mv [.s 0]), (none, .v 13 .len [.s 12]), (none, .v 14 .mv [.k (.i 0)])])
   (.cl ks (.block 2
   (.loop
   (.seq
   (.rg 0 [(none, .v 15 (.bin .lss) [.s 14, .s 13])])
   (.seq
   (.cond (.s 15)
   .skip
   (.exit 2))
   (.cl ks (.seq
   (.block 3
   (.seq
   (.rg 0 [(none, .v 16 .mv [.s 14]), (none, .tk 6 16)])
   (.cl ks (.seq
   (.rg 0 [(none, .v 17 .mv [.s 0]), (none, .v 18 .mv [.s 1]), (none, .v 19 .mv [.s 5]), (none, .v 20 .mv [.s 6]), (none, .co 21 148 [.s 17, .s 18, .s 19, .s 20])])
   (.cond (.s 21)
   (.seq
   (.rg 0 [(none, .v 4 .mv [.k (.b false)])])
   .ret)
   .skip)))))
   (.cl ks (.rg 0 [(none, .v 22 (.bin .add) [.s 14, .k (.i 1)]), (none, .v 14 .mv [.s 22])])))))))))))))
   (.cl ks (.rg 0 [(none, .v 23 (.bin .add) [.s 9, .k (.i 1)]), (none, .v 9 .mv [.s 23])]))))))))))
   (.cl ks (.seq
   (.rg 0 [(none, .v 4 .mv [.k (.b true)])])
   .ret)))))

theorem chk_impl_isFree : ∃ b, Try.f120.body = some b ∧ chk Try.prog Try.f120.ntmps true C_impl_isFree b = true := ⟨_, rfl, by kernel_rfl⟩
/- spec_IsEnvyFree: not in this cut -/
def K_impl_IsEnvyFree : List Nat := [0, 1, 4]
def C_impl_IsEnvyFree : C :=
  let ks := K_impl_IsEnvyFree
  (.seq
   (.rg 0 [(none, .v 4 .mv [.k (.b false)])])
   (.cl ks (.seq
   (.rg 0 [(none, .v 5 .mv [.s 0]), (none, .v 6 .mv [.s 1]), (none, .co 7 50 [.s 5, .s 6]), (none, .v 8 .mv [.s 7]), (some (8, true), .v 9 .mv [.s 0]), (some (8, true), .v 10 .mv [.s 1]), (some (8, true), .co 11 120 [.s 9, .s 10]), (none, .v 12 .pick [.s 8, .s 11, .k (.b false)]), (none, .tk 4 12)])
   .ret)))

theorem chk_impl_IsEnvyFree : ∃ b, Try.f56.body = some b ∧ chk Try.prog Try.f56.ntmps true C_impl_IsEnvyFree b = true := ⟨_, rfl, by kernel_rfl⟩
/-- How much more. -/
def envy (vs : List (List Int)) (l : List Int) (i k : Nat) : Int := max 0 (wo vs l i k - wo vs l i i)
def freeB (vs : List (List Int)) (l : List Int) : Bool := (List.range vs.length).all fun i => (List.range vs.length).all fun k => decide (wo vs l i k ≤ wo vs l i i)
theorem envy_bd {vs : List (List Int)} {l : List Int} {i k : Nat} (V : Vals vs l.length) (hi : i < vs.length) : 0 ≤ envy vs l i k ∧ envy vs l i k ≤ 600 := by
  have := wo_bd (k := (k : Int)) V hi
  have := wo_bd (k := (i : Int)) V hi
  unfold envy; omega
theorem impl_envies_ok {n1 n2 : Option Bool} (vs : List (List Int)) (l : List Int) (V : Vals vs l.length) (i : Nat) (k : Int) (hi : i < vs.length) :
    CallOk Try.prog 148 [.s n1 (rr vs), .s n2 (ii l), .i i, .i k] [(0, .b (decide (wo vs l i i < wo vs l i k)))] := by
  obtain ⟨code0, hcd1, hcd2⟩ := chk_impl_envies; refine callOk_of Try.func148 hcd1 mo Try.call148 (rs := [8]) (by kernel_rfl) hcd2 (by rw [Try.ntmps148]; simp) (by simp) (by decide) ?_; unfold C_impl_envies K_impl_envies; simp (config := { maxSteps := 2000000 }) only [go_sem, Nat.reduceBEq, Nat.reduceAdd, Nat.reduceMul, Nat.reduceMod, Nat.reduceLT, Nat.reduceDiv, Nat.reduceSub, Nat.reduceLeDiff, Int.reduceToNat, Int.reduceLT, Int.reduceLE, reduceCtorEq, List.take_nil, List.drop_nil]
  refine ⟨_, impl_worth_ok vs l V i k hi, ?_⟩; simp (config := { maxSteps := 2000000 }) only [go_sem, Nat.reduceBEq, Nat.reduceAdd, Nat.reduceMul, Nat.reduceMod, Nat.reduceLT, Nat.reduceDiv, Nat.reduceSub, Nat.reduceLeDiff, Int.reduceToNat, Int.reduceLT, Int.reduceLE, reduceCtorEq, List.take_nil, List.drop_nil]
  refine ⟨_, impl_worth_ok vs l V i i hi, ?_⟩; simp (config := { maxSteps := 2000000 }) only [go_sem, Nat.reduceBEq, Nat.reduceAdd, Nat.reduceMul, Nat.reduceMod, Nat.reduceLT, Nat.reduceDiv, Nat.reduceSub, Nat.reduceLeDiff, Int.reduceToNat, Int.reduceLT, Int.reduceLE, reduceCtorEq, List.take_nil, List.drop_nil]
theorem impl_isFree_ok {n1 n2 : Option Bool} (vs : List (List Int)) (l : List Int) (V : Vals vs l.length) :
    CallOk Try.prog 120 [.s n1 (rr vs), .s n2 (ii l)] [(0, .b (freeB vs l))] := by
  have n3 := V.n3
  obtain ⟨code0, hcd1, hcd2⟩ := chk_impl_isFree; refine callOk_of Try.func120 hcd1 mo Try.call120 (rs := [4]) (by kernel_rfl) hcd2 (by rw [Try.ntmps120]; simp) (by simp) (by decide) ?_; unfold C_impl_isFree K_impl_isFree; simp (config := { maxSteps := 2000000 }) only [go_sem, Nat.reduceBEq, Nat.reduceAdd, Nat.reduceMul, Nat.reduceMod, Nat.reduceLT, Nat.reduceDiv, Nat.reduceSub, Nat.reduceLeDiff, Int.reduceToNat, Int.reduceLT, Int.reduceLE, reduceCtorEq, List.take_nil, List.drop_nil]
  refine loopN vs.length (fun j => [(0, .t .arg (.s n1 (rr vs))), (1, .t .arg (.s n2 (ii l))), (8, .i vs.length), (9, .i (j : Nat))]) (fun j => ∀ i, i < j → ((List.range vs.length).all fun k => decide (wo vs l i k ≤ wo vs l i i)) = true) ⟨by simp, by simp (config := { maxSteps := 2000000 }) only [go_sem, Nat.reduceBEq, Nat.reduceAdd, Nat.reduceMul, Nat.reduceMod, Nat.reduceLT, Nat.reduceDiv, Nat.reduceSub, Nat.reduceLeDiff, Int.reduceToNat, Int.reduceLT, Int.reduceLE, reduceCtorEq, List.take_nil, List.drop_nil]; simp⟩ fun i hi hI => ?_
  simp (config := { maxSteps := 2000000 }) only [go_sem, Nat.reduceBEq, Nat.reduceAdd, Nat.reduceMul, Nat.reduceMod, Nat.reduceLT, Nat.reduceDiv, Nat.reduceSub, Nat.reduceLeDiff, Int.reduceToNat, Int.reduceLT, Int.reduceLE, reduceCtorEq, List.take_nil, List.drop_nil]
  refine ⟨fun hlt => ?_, fun hge => ?_⟩
  case refine_2 =>
    have : i = vs.length := by omega
    subst this
    exact (all_range hI).symm
  have hi' : i < vs.length := by omega
  refine loopN vs.length (fun j => [(0, .t .arg (.s n1 (rr vs))), (1, .t .arg (.s n2 (ii l))), (5, .i i), (8, .i vs.length), (9, .i (i : Nat)), (13, .i vs.length), (14, .i (j : Nat))]) (fun j => ∀ g, g < j → decide (wo vs l i g ≤ wo vs l i i) = true) ⟨by simp, by simp (config := { maxSteps := 2000000 }) only [go_sem, Nat.reduceBEq, Nat.reduceAdd, Nat.reduceMul, Nat.reduceMod, Nat.reduceLT, Nat.reduceDiv, Nat.reduceSub, Nat.reduceLeDiff, Int.reduceToNat, Int.reduceLT, Int.reduceLE, reduceCtorEq, List.take_nil, List.drop_nil]; simp⟩ fun g hg hG => ?_
  simp (config := { maxSteps := 2000000 }) only [go_sem, Nat.reduceBEq, Nat.reduceAdd, Nat.reduceMul, Nat.reduceMod, Nat.reduceLT, Nat.reduceDiv, Nat.reduceSub, Nat.reduceLeDiff, Int.reduceToNat, Int.reduceLT, Int.reduceLE, reduceCtorEq, List.take_nil, List.drop_nil]
  refine ⟨fun hlt => ?_, fun hge => ?_⟩
  case refine_2 =>
    have : g = vs.length := by omega
    subst this
    refine ⟨inR_of (by omega) (by omega), hi', fun j hj => ?_, by simp⟩
    by_cases e : j = i
    · subst e; exact all_range hG
    · exact hI j (by omega)
  have hg' : g < vs.length := by omega
  have leaf : decide (wo vs l i g ≤ wo vs l i i) = true → inR ((g : Int) + 1) ∧ g < vs.length ∧ (∀ j, j < g + 1 → decide (wo vs l i j ≤ wo vs l i i) = true) ∧ (g : Int) + 1 = ((g + 1 : Nat) : Int) := fun hn => ⟨inR_of (by omega) (by omega), hg', fun j hj => by
    by_cases e : j = g
    · subst e; exact hn
    · exact hG j (by omega), by simp⟩
  have bad : decide (wo vs l i g ≤ wo vs l i i) = false → freeB vs l = false := fun h => not_all_range hi' (not_all_range hg' h)
  refine ⟨_, impl_envies_ok vs l V i g hi', ?_⟩; simp (config := { maxSteps := 2000000 }) only [go_sem, Nat.reduceBEq, Nat.reduceAdd, Nat.reduceMul, Nat.reduceMod, Nat.reduceLT, Nat.reduceDiv, Nat.reduceSub, Nat.reduceLeDiff, Int.reduceToNat, Int.reduceLT, Int.reduceLE, reduceCtorEq, List.take_nil, List.drop_nil]
  refine ⟨fun h1 => ?_, fun h1 => ?_⟩
  · exact (bad (by simp only [decide_eq_false_iff_not]; omega)).symm
  · simpa only [decide_eq_true_eq] using leaf (by simp only [decide_eq_true_eq]; omega)
theorem impl_IsEnvyFree_ok {n1 n2 : Option Bool} (vs : List (List Int)) (l : List Int) (hl : vs.length ≤ 1048576) (hr : ∀ r ∈ vs, r.length ≤ 1048576) (hll : l.length ≤ 1048576) :
    CallOk Try.prog 56 [.s n1 (rr vs), .s n2 (ii l)] [(0, .b (allocB vs l && freeB vs l))] := by
  obtain ⟨code0, hcd1, hcd2⟩ := chk_impl_IsEnvyFree; refine callOk_of Try.func56 hcd1 mo Try.call56 (rs := [4]) (by kernel_rfl) hcd2 (by rw [Try.ntmps56]; simp) (by simp) (by decide) ?_; unfold C_impl_IsEnvyFree K_impl_IsEnvyFree; simp (config := { maxSteps := 2000000 }) only [go_sem, Nat.reduceBEq, Nat.reduceAdd, Nat.reduceMul, Nat.reduceMod, Nat.reduceLT, Nat.reduceDiv, Nat.reduceSub, Nat.reduceLeDiff, Int.reduceToNat, Int.reduceLT, Int.reduceLE, reduceCtorEq, List.take_nil, List.drop_nil]
  refine ⟨_, impl_AllocationOk_ok vs l hl hr hll, ?_⟩; simp (config := { maxSteps := 2000000 }) only [go_sem, Nat.reduceBEq, Nat.reduceAdd, Nat.reduceMul, Nat.reduceMod, Nat.reduceLT, Nat.reduceDiv, Nat.reduceSub, Nat.reduceLeDiff, Int.reduceToNat, Int.reduceLT, Int.reduceLE, reduceCtorEq, List.take_nil, List.drop_nil]
  refine ⟨fun h => ?_, fun h => by simp [h]⟩
  refine ⟨_, impl_isFree_ok vs l (alloc_vals h), ?_⟩; simp (config := { maxSteps := 2000000 }) only [go_sem, Nat.reduceBEq, Nat.reduceAdd, Nat.reduceMul, Nat.reduceMod, Nat.reduceLT, Nat.reduceDiv, Nat.reduceSub, Nat.reduceLeDiff, Int.reduceToNat, Int.reduceLT, Int.reduceLE, reduceCtorEq, List.take_nil, List.drop_nil]
  simp [h]
def K_spec_l13Sum : List Nat := [0, 2, 3, 5, 6, 7, 8]
def C_spec_l13Sum : C :=
  let ks := K_spec_l13Sum
  (.seq
   (.rg 0 [(none, .v 2 .mv [.k (.i 0)])])
   (.cl ks (.seq
   (.rg 0 [(none, .v 3 .mv [.k (.i 0)])])
   (.cl ks (.seq
   (.seq
   (.rg 0 [(none, .v 6 .mv [.s 0]), (none, .v 7 .len [.s 6]), (none, .v 8 .mv [.k (.i 0)])])
   (.cl ks (.block 0
   (.loop
   (.seq
   (.rg 0 [(none, .v 9 (.bin .lss) [.s 8, .s 7])])
   (.seq
   (.cond (.s 9)
   .skip
   (.exit 0))
   (.cl ks (.seq
   (.block 1
   (.seq
   (.rg 0 [(none, .v 10 .idx [.s 6, .s 8]), (none, .v 11 .ld [.s 10]), (none, .tk 5 11)])
   (.cl ks (.rg 0 [(none, .v 12 .mv [.s 3]), (none, .v 13 .mv [.s 5]), (none, .v 14 (.bin .add) [.s 12, .s 13]), (none, .tk 3 14)]))))
   (.cl ks (.rg 0 [(none, .v 15 (.bin .add) [.s 8, .k (.i 1)]), (none, .v 8 .mv [.s 15])]))))))))))
   (.cl ks (.seq
   (.rg 0 [(none, .v 16 .mv [.s 3]), (none, .tk 2 16)])
   .ret)))))))

theorem chk_spec_l13Sum : ∃ b, Try.f129.body = some b ∧ chk Try.prog Try.f129.ntmps true C_spec_l13Sum b = true := ⟨_, rfl, by kernel_rfl⟩
def K_impl_sumOf : List Nat := [0, 2, 3, 5, 6, 7, 8]
def C_impl_sumOf : C :=
  let ks := K_impl_sumOf
  (.seq
   (.rg 0 [(none, .v 2 .mv [.k (.i 0)])])
   (.cl ks (.seq
   (.rg 0 [(none, .v 3 .mv [.k (.i 0)])])
   (.cl ks (.seq
   (.seq
   (.rg 0 [(none, .v 6 .mv [.s 0]), (none, .v 7 .len [.s 6]), (none, .v 8 .mv [.k (.i 0)])])
   (.cl ks (.block 0
   (.loop
   (.seq
   (.rg 0 [(none, .v 9 (.bin .lss) [.s 8, .s 7])])
   (.seq
   (.cond (.s 9)
   .skip
   (.exit 0))
   (.cl ks (.seq
   (.block 1
   (.seq
   (.rg 0 [(none, .v 10 .idx [.s 6, .s 8]), (none, .v 11 .ld [.s 10]), (none, .tk 5 11)])
   (.cl ks (.rg 0 [(none, .v 12 .mv [.s 3]), (none, .v 13 .mv [.s 5]), (none, .v 14 (.bin .add) [.s 12, .s 13]), (none, .tk 3 14)]))))
   (.cl ks (.rg 0 [(none, .v 15 (.bin .add) [.s 8, .k (.i 1)]), (none, .v 8 .mv [.s 15])]))))))))))
   (.cl ks (.seq
   (.rg 0 [(none, .v 16 .mv [.s 3]), (none, .tk 2 16)])
   .ret)))))))

theorem chk_impl_sumOf : ∃ b, Try.f77.body = some b ∧ chk Try.prog Try.f77.ntmps true C_impl_sumOf b = true := ⟨_, rfl, by kernel_rfl⟩
/- spec_IsProportional: not in this cut -/
def K_impl_IsProportional : List Nat := [0, 1, 4, 5, 6, 11, 12, 13]
def C_impl_IsProportional : C :=
  let ks := K_impl_IsProportional
  (.seq
   (.rg 0 [(none, .v 4 .mv [.k (.b false)])])
   (.cl ks (.seq
   (.seq
   (.rg 0 [(none, .v 7 .mv [.s 0]), (none, .v 8 .mv [.s 1]), (none, .co 9 50 [.s 7, .s 8]), (none, .v 10 .not [.s 9])])
   (.cond (.s 10)
   (.seq
   (.rg 0 [(none, .v 4 .mv [.k (.b false)])])
   .ret)
   .skip))
   (.cl ks (.seq
   (.seq
   (.rg 0 [(none, .v 11 .mv [.s 0]), (none, .v 12 .len [.s 11]), (none, .v 13 .mv [.k (.i 0)])])
   (.cl ks (.block 0
   (.loop
   (.seq
   (.rg 0 [(none, .v 14 (.bin .lss) [.s 13, .s 12])])
   (.seq
   (.cond (.s 14)
   .skip
   (.exit 0))
   (.cl ks (.seq
   (.block 1
   (.seq
   (.rg 0 [(none, .v 15 .mv [.s 13]), (none, .v 16 .idx [.s 11, .s 13]), (none, .v 17 .ld [.s 16]), (none, .tk 5 15), (none, .tk 6 17)])
   (.cl ks (.seq
   (.rg 0 [(none, .v 18 .mv [.s 0]), (none, .v 19 .mv [.s 1]), (none, .v 20 .mv [.s 5]), (none, .v 21 .mv [.s 5]), (none, .co 22 113 [.s 18, .s 19, .s 20, .s 21]), (none, .v 23 .mv [.s 0]), (none, .v 24 .len [.s 23]), (none, .v 25 (.bin .mul) [.s 22, .s 24]), (none, .v 26 .mv [.s 6]), (none, .co 27 77 [.s 26]), (none, .v 28 (.bin .lss) [.s 25, .s 27])])
   (.cond (.s 28)
   (.seq
   (.rg 0 [(none, .v 4 .mv [.k (.b false)])])
   .ret)
   .skip)))))
   (.cl ks (.rg 0 [(none, .v 29 (.bin .add) [.s 13, .k (.i 1)]), (none, .v 13 .mv [.s 29])]))))))))))
   (.cl ks (.seq
   (.rg 0 [(none, .v 4 .mv [.k (.b true)])])
   .ret)))))))

theorem chk_impl_IsProportional : ∃ b, Try.f57.body = some b ∧ chk Try.prog Try.f57.ntmps true C_impl_IsProportional b = true := ⟨_, rfl, by kernel_rfl⟩
def K_laws_sum : List Nat := [0, 2, 3, 5, 6, 7, 8]
def C_laws_sum : C :=
  let ks := K_laws_sum
  (.seq
   (.rg 0 [(none, .v 2 .mv [.k (.i 0)])])
   (.cl ks (.seq
   (.rg 0 [(none, .v 3 .mv [.k (.i 0)])])
   (.cl ks (.seq
   (.seq
   (.rg 0 [(none, .v 6 .mv [.s 0]), (none, .v 7 .len [.s 6]), (none, .v 8 .mv [.k (.i 0)])])
   (.cl ks (.block 0
   (.loop
   (.seq
   (.rg 0 [(none, .v 9 (.bin .lss) [.s 8, .s 7])])
   (.seq
   (.cond (.s 9)
   .skip
   (.exit 0))
   (.cl ks (.seq
   (.block 1
   (.seq
   (.rg 0 [(none, .v 10 .idx [.s 6, .s 8]), (none, .v 11 .ld [.s 10]), (none, .tk 5 11)])
   (.cl ks (.rg 0 [(none, .v 12 .mv [.s 3]), (none, .v 13 .mv [.s 5]), (none, .v 14 (.bin .add) [.s 12, .s 13]), (none, .tk 3 14)]))))
   (.cl ks (.rg 0 [(none, .v 15 (.bin .add) [.s 8, .k (.i 1)]), (none, .v 8 .mv [.s 15])]))))))))))
   (.cl ks (.seq
   (.rg 0 [(none, .v 16 .mv [.s 3]), (none, .tk 2 16)])
   .ret)))))))

theorem chk_laws_sum : ∃ b, Try.f27.body = some b ∧ chk Try.prog Try.f27.ntmps true C_laws_sum b = true := ⟨_, rfl, by kernel_rfl⟩
theorem sum_take_bd {xs : List Int} {B : Int} (hB : 0 ≤ B) (hb : ∀ x ∈ xs, -B ≤ x ∧ x ≤ B) : ∀ {j : Nat}, j ≤ xs.length → -(j * B) ≤ (xs.take j).sum ∧ (xs.take j).sum ≤ j * B
  | 0, _ => by simp
  | j + 1, h => by
    have h1 := sum_take_bd hB hb (j := j) (by omega)
    have h2 := hb _ (getD_mem (d := 0) (show j < xs.length by omega))
    rw [take_getD 0 (show j < xs.length by omega), List.sum_append, List.sum_cons, List.sum_nil]
    have h3 : ((j + 1 : Nat) : Int) * B = j * B + B := by rw [Int.natCast_add, Int.add_mul]; simp
    rw [h3]; omega
theorem spec_l13Sum_ok {nl : Option Bool} (xs : List Int) (B : Int) (hB : 0 ≤ B) (hb : ∀ x ∈ xs, -B ≤ x ∧ x ≤ B) (hl : xs.length * B ≤ 1000000000000000000) (hll : xs.length ≤ 1048576) :
    CallOk Try.prog 129 [.s nl (ii xs)] [(0, .i xs.sum)] := by
  obtain ⟨code0, hcd1, hcd2⟩ := chk_spec_l13Sum; refine callOk_of Try.func129 hcd1 mo Try.call129 (rs := [2]) (by kernel_rfl) hcd2 (by rw [Try.ntmps129]; simp) (by simp) (by decide) ?_; unfold C_spec_l13Sum K_spec_l13Sum; simp (config := { maxSteps := 2000000 }) only [go_sem, Nat.reduceBEq, Nat.reduceAdd, Nat.reduceMul, Nat.reduceMod, Nat.reduceLT, Nat.reduceDiv, Nat.reduceSub, Nat.reduceLeDiff, Int.reduceToNat, Int.reduceLT, Int.reduceLE, reduceCtorEq, List.take_nil, List.drop_nil]
  refine loopN xs.length (fun j => [(0, .t .arg (.s nl (ii xs))), (3, .i (xs.take j).sum), (6, .t .arg (.s nl (ii xs))), (7, .i xs.length), (8, .i (j : Nat))]) (fun _ => True) ⟨trivial, by simp (config := { maxSteps := 2000000 }) only [go_sem, Nat.reduceBEq, Nat.reduceAdd, Nat.reduceMul, Nat.reduceMod, Nat.reduceLT, Nat.reduceDiv, Nat.reduceSub, Nat.reduceLeDiff, Int.reduceToNat, Int.reduceLT, Int.reduceLE, reduceCtorEq, List.take_nil, List.drop_nil]; simp⟩ fun j hj _ => ?_
  simp (config := { maxSteps := 2000000 }) only [go_sem, Nat.reduceBEq, Nat.reduceAdd, Nat.reduceMul, Nat.reduceMod, Nat.reduceLT, Nat.reduceDiv, Nat.reduceSub, Nat.reduceLeDiff, Int.reduceToNat, Int.reduceLT, Int.reduceLE, reduceCtorEq, List.take_nil, List.drop_nil]
  refine ⟨fun hlt => ?_, fun hge => ?_⟩
  · have hj' : j < xs.length := by omega
    have h1 := sum_take_bd hB hb (j := j + 1) (by omega)
    have h4 : ((j + 1 : Nat) : Int) * B ≤ xs.length * B := Int.mul_le_mul_of_nonneg_right (by omega) hB
    rw [take_getD 0 hj', List.sum_append, List.sum_cons, List.sum_nil, Int.add_zero] at h1
    refine ⟨by omega, by omega, by omega, inR_of (by omega) (by omega), inR_of (by omega) (by omega), hj', ?_, by simp⟩
    rw [take_getD 0 hj', List.sum_append, List.sum_cons, List.sum_nil, Int.add_zero]
  · have : j = xs.length := by omega
    subst this
    rw [List.take_length]
theorem impl_sumOf_ok {nl : Option Bool} (xs : List Int) (B : Int) (hB : 0 ≤ B) (hb : ∀ x ∈ xs, -B ≤ x ∧ x ≤ B) (hl : xs.length * B ≤ 1000000000000000000) (hll : xs.length ≤ 1048576) :
    CallOk Try.prog 77 [.s nl (ii xs)] [(0, .i xs.sum)] := by
  obtain ⟨code0, hcd1, hcd2⟩ := chk_impl_sumOf; refine callOk_of Try.func77 hcd1 mo Try.call77 (rs := [2]) (by kernel_rfl) hcd2 (by rw [Try.ntmps77]; simp) (by simp) (by decide) ?_; unfold C_impl_sumOf K_impl_sumOf; simp (config := { maxSteps := 2000000 }) only [go_sem, Nat.reduceBEq, Nat.reduceAdd, Nat.reduceMul, Nat.reduceMod, Nat.reduceLT, Nat.reduceDiv, Nat.reduceSub, Nat.reduceLeDiff, Int.reduceToNat, Int.reduceLT, Int.reduceLE, reduceCtorEq, List.take_nil, List.drop_nil]
  refine loopN xs.length (fun j => [(0, .t .arg (.s nl (ii xs))), (3, .i (xs.take j).sum), (6, .t .arg (.s nl (ii xs))), (7, .i xs.length), (8, .i (j : Nat))]) (fun _ => True) ⟨trivial, by simp (config := { maxSteps := 2000000 }) only [go_sem, Nat.reduceBEq, Nat.reduceAdd, Nat.reduceMul, Nat.reduceMod, Nat.reduceLT, Nat.reduceDiv, Nat.reduceSub, Nat.reduceLeDiff, Int.reduceToNat, Int.reduceLT, Int.reduceLE, reduceCtorEq, List.take_nil, List.drop_nil]; simp⟩ fun j hj _ => ?_
  simp (config := { maxSteps := 2000000 }) only [go_sem, Nat.reduceBEq, Nat.reduceAdd, Nat.reduceMul, Nat.reduceMod, Nat.reduceLT, Nat.reduceDiv, Nat.reduceSub, Nat.reduceLeDiff, Int.reduceToNat, Int.reduceLT, Int.reduceLE, reduceCtorEq, List.take_nil, List.drop_nil]
  refine ⟨fun hlt => ?_, fun hge => ?_⟩
  · have hj' : j < xs.length := by omega
    have h1 := sum_take_bd hB hb (j := j + 1) (by omega)
    have h4 : ((j + 1 : Nat) : Int) * B ≤ xs.length * B := Int.mul_le_mul_of_nonneg_right (by omega) hB
    rw [take_getD 0 hj', List.sum_append, List.sum_cons, List.sum_nil, Int.add_zero] at h1
    refine ⟨by omega, by omega, by omega, inR_of (by omega) (by omega), inR_of (by omega) (by omega), hj', ?_, by simp⟩
    rw [take_getD 0 hj', List.sum_append, List.sum_cons, List.sum_nil, Int.add_zero]
  · have : j = xs.length := by omega
    subst this
    rw [List.take_length]
theorem laws_sum_ok {nl : Option Bool} (xs : List Int) (B : Int) (hB : 0 ≤ B) (hb : ∀ x ∈ xs, -B ≤ x ∧ x ≤ B) (hl : xs.length * B ≤ 1000000000000000000) (hll : xs.length ≤ 1048576) :
    CallOk Try.prog 27 [.s nl (ii xs)] [(0, .i xs.sum)] := by
  obtain ⟨code0, hcd1, hcd2⟩ := chk_laws_sum; refine callOk_of Try.func27 hcd1 mo Try.call27 (rs := [2]) (by kernel_rfl) hcd2 (by rw [Try.ntmps27]; simp) (by simp) (by decide) ?_; unfold C_laws_sum K_laws_sum; simp (config := { maxSteps := 2000000 }) only [go_sem, Nat.reduceBEq, Nat.reduceAdd, Nat.reduceMul, Nat.reduceMod, Nat.reduceLT, Nat.reduceDiv, Nat.reduceSub, Nat.reduceLeDiff, Int.reduceToNat, Int.reduceLT, Int.reduceLE, reduceCtorEq, List.take_nil, List.drop_nil]
  refine loopN xs.length (fun j => [(0, .t .arg (.s nl (ii xs))), (3, .i (xs.take j).sum), (6, .t .arg (.s nl (ii xs))), (7, .i xs.length), (8, .i (j : Nat))]) (fun _ => True) ⟨trivial, by simp (config := { maxSteps := 2000000 }) only [go_sem, Nat.reduceBEq, Nat.reduceAdd, Nat.reduceMul, Nat.reduceMod, Nat.reduceLT, Nat.reduceDiv, Nat.reduceSub, Nat.reduceLeDiff, Int.reduceToNat, Int.reduceLT, Int.reduceLE, reduceCtorEq, List.take_nil, List.drop_nil]; simp⟩ fun j hj _ => ?_
  simp (config := { maxSteps := 2000000 }) only [go_sem, Nat.reduceBEq, Nat.reduceAdd, Nat.reduceMul, Nat.reduceMod, Nat.reduceLT, Nat.reduceDiv, Nat.reduceSub, Nat.reduceLeDiff, Int.reduceToNat, Int.reduceLT, Int.reduceLE, reduceCtorEq, List.take_nil, List.drop_nil]
  refine ⟨fun hlt => ?_, fun hge => ?_⟩
  · have hj' : j < xs.length := by omega
    have h1 := sum_take_bd hB hb (j := j + 1) (by omega)
    have h4 : ((j + 1 : Nat) : Int) * B ≤ xs.length * B := Int.mul_le_mul_of_nonneg_right (by omega) hB
    rw [take_getD 0 hj', List.sum_append, List.sum_cons, List.sum_nil, Int.add_zero] at h1
    refine ⟨by omega, by omega, by omega, inR_of (by omega) (by omega), inR_of (by omega) (by omega), hj', ?_, by simp⟩
    rw [take_getD 0 hj', List.sum_append, List.sum_cons, List.sum_nil, Int.add_zero]
  · have : j = xs.length := by omega
    subst this
    rw [List.take_length]
def propB (vs : List (List Int)) (l : List Int) : Bool := (List.range vs.length).all fun i => decide ((vs.getD i []).sum ≤ vs.length * wo vs l i i)
theorem row_mem_bd {vs : List (List Int)} {m i : Nat} (V : Vals vs m) (hi : i < vs.length) : ∀ x ∈ vs.getD i [], -100 ≤ x ∧ x ≤ 100 := fun x hx => by
  obtain ⟨g, hg, rfl⟩ := mem_getD 0 hx
  have := V.bd i g hi (by rw [← V.len i hi]; exact hg)
  omega
theorem impl_IsProportional_ok {n1 n2 : Option Bool} (vs : List (List Int)) (l : List Int) (hl : vs.length ≤ 1048576) (hr : ∀ r ∈ vs, r.length ≤ 1048576) (hll : l.length ≤ 1048576) :
    CallOk Try.prog 57 [.s n1 (rr vs), .s n2 (ii l)] [(0, .b (allocB vs l && propB vs l))] := by
  obtain ⟨code0, hcd1, hcd2⟩ := chk_impl_IsProportional; refine callOk_of Try.func57 hcd1 mo Try.call57 (rs := [4]) (by kernel_rfl) hcd2 (by rw [Try.ntmps57]; simp) (by simp) (by decide) ?_; unfold C_impl_IsProportional K_impl_IsProportional; simp (config := { maxSteps := 2000000 }) only [go_sem, Nat.reduceBEq, Nat.reduceAdd, Nat.reduceMul, Nat.reduceMod, Nat.reduceLT, Nat.reduceDiv, Nat.reduceSub, Nat.reduceLeDiff, Int.reduceToNat, Int.reduceLT, Int.reduceLE, reduceCtorEq, List.take_nil, List.drop_nil]
  refine ⟨_, impl_AllocationOk_ok vs l hl hr hll, ?_⟩; simp (config := { maxSteps := 2000000 }) only [go_sem, Nat.reduceBEq, Nat.reduceAdd, Nat.reduceMul, Nat.reduceMod, Nat.reduceLT, Nat.reduceDiv, Nat.reduceSub, Nat.reduceLeDiff, Int.reduceToNat, Int.reduceLT, Int.reduceLE, reduceCtorEq, List.take_nil, List.drop_nil]
  refine ⟨fun h => by simp [h], fun h => ?_⟩
  have V := alloc_vals h
  have n3 := V.n3
  have m6 := V.m6
  rw [h, Bool.true_and]
  refine loopN vs.length (fun j => [(0, .t .arg (.s n1 (rr vs))), (1, .t .arg (.s n2 (ii l))), (11, .t .arg (.s n1 (rr vs))), (12, .i vs.length), (13, .i (j : Nat))]) (fun j => ∀ i, i < j → decide ((vs.getD i []).sum ≤ vs.length * wo vs l i i) = true) ⟨by simp, by simp (config := { maxSteps := 2000000 }) only [go_sem, Nat.reduceBEq, Nat.reduceAdd, Nat.reduceMul, Nat.reduceMod, Nat.reduceLT, Nat.reduceDiv, Nat.reduceSub, Nat.reduceLeDiff, Int.reduceToNat, Int.reduceLT, Int.reduceLE, reduceCtorEq, List.take_nil, List.drop_nil]; simp⟩ fun j hj hI => ?_
  simp (config := { maxSteps := 2000000 }) only [go_sem, Nat.reduceBEq, Nat.reduceAdd, Nat.reduceMul, Nat.reduceMod, Nat.reduceLT, Nat.reduceDiv, Nat.reduceSub, Nat.reduceLeDiff, Int.reduceToNat, Int.reduceLT, Int.reduceLE, reduceCtorEq, List.take_nil, List.drop_nil]
  refine ⟨fun hlt => ?_, fun hge => ?_⟩
  case refine_2 =>
    have : j = vs.length := by omega
    subst this
    exact (all_range hI).symm
  have hj' : j < vs.length := by omega
  have w1 := wo_bd (k := (j : Int)) V hj'
  have hrl := V.len j hj'
  have mb : 0 ≤ (vs.length : Int) * wo vs l j j ∧ (vs.length : Int) * wo vs l j j ≤ 3 * 600 := ⟨Int.mul_nonneg (by omega) w1.1, Int.mul_le_mul (by omega) w1.2 w1.1 (by omega)⟩
  have leaf : decide ((vs.getD j []).sum ≤ vs.length * wo vs l j j) = true → inR ((j : Int) + 1) ∧ j < vs.length ∧ (∀ i, i < j + 1 → decide ((vs.getD i []).sum ≤ vs.length * wo vs l i i) = true) ∧ (j : Int) + 1 = ((j + 1 : Nat) : Int) := fun hn => ⟨inR_of (by omega) (by omega), hj', fun i hi => by
    by_cases e : i = j
    · subst e; exact hn
    · exact hI i (by omega), by simp⟩
  have bad : decide ((vs.getD j []).sum ≤ vs.length * wo vs l j j) = false → propB vs l = false := fun h => not_all_range hj' h
  refine ⟨by omega, by omega, by omega, ?_⟩
  refine ⟨_, impl_worth_ok vs l V j j hj', ?_⟩; simp (config := { maxSteps := 2000000 }) only [go_sem, Nat.reduceBEq, Nat.reduceAdd, Nat.reduceMul, Nat.reduceMod, Nat.reduceLT, Nat.reduceDiv, Nat.reduceSub, Nat.reduceLeDiff, Int.reduceToNat, Int.reduceLT, Int.reduceLE, reduceCtorEq, List.take_nil, List.drop_nil]
  refine ⟨inR_of (by rw [Int.mul_comm]; omega) (by rw [Int.mul_comm]; omega), ?_⟩
  refine ⟨_, impl_sumOf_ok (vs.getD j []) 100 (by omega) (row_mem_bd V hj') (by omega) (by omega), ?_⟩; simp (config := { maxSteps := 2000000 }) only [go_sem, Nat.reduceBEq, Nat.reduceAdd, Nat.reduceMul, Nat.reduceMod, Nat.reduceLT, Nat.reduceDiv, Nat.reduceSub, Nat.reduceLeDiff, Int.reduceToNat, Int.reduceLT, Int.reduceLE, reduceCtorEq, List.take_nil, List.drop_nil]
  rw [Int.mul_comm (wo vs l j j)]
  refine ⟨fun h1 => ?_, fun h1 => ?_⟩
  · exact (bad (by simp only [decide_eq_false_iff_not]; omega)).symm
  · simpa only [decide_eq_true_eq] using leaf (by simp only [decide_eq_true_eq]; omega)

end Go.Proofs.Ytfdoddeccnjcmaa
