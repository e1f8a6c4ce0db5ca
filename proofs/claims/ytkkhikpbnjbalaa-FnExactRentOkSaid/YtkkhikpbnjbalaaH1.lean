/- At every input the laws below return true and leave their arguments alone: RentOk, HousesOk, RoomValue and KeepsOwners of the program return what those of the reference return. No condition. -/
import Derived.Test.YtkkhikpbnjbalaaRows
import Derived.Test.YtkkhikpbnjbalaaRent
import Derived.Test.YtkkhikpbnjbalaaFacts
namespace Go.Proofs.Ytkkhikpbnjbalaa
open Go Go.Vc
set_option maxRecDepth 100000
set_option linter.unusedSimpArgs false
set_option linter.unusedVariables false
open Go.ChangeShapes Go.WideShapes Go.RowKit
def K_laws_FnExactRentOk : List Nat := [0, 2, 3, 4, 5, 6]
def C_laws_FnExactRentOk : C :=
  let ks := K_laws_FnExactRentOk
  (.seq
    (.rg 0 [(none, .v 2 .mv [.k (.b false)])])
    (.cl ks (.seq
      (.rg 0 [(none, .v 3 .mv [.k (.i 1048576)])])
      (.cl ks (.seq
        (.rg 0 [(none, .v 7 .mv [.s 0]), (none, .v 8 .mv [.s 3]), (none, .co 9 16 [.s 7, .s 8]), (none, .tk 3 9)])
        (.cl ks (.seq
          (.seq
            (.rg 0 [(none, .v 10 .mv [.s 3]), (none, .v 11 (.bin .lss) [.s 10, .k (.i 0)])])
            (.cond (.s 11)
              (.seq
                (.rg 0 [(none, .v 2 .mv [.k (.b true)])])
                .ret)
              .skip))
          (.cl ks (.seq
            (.rg 0 [(none, .v 12 .mv [.s 0]), (none, .co 13 18 [.s 12]), (none, .co 14 17 [.s 13]), (none, .tk 4 14)])
            (.cl ks (.seq
              (.rg 0 [(none, .v 15 .mv [.s 0]), (none, .co 16 18 [.s 15]), (none, .tk 5 16)])
              (.cl ks (.seq
                (.rg 0 [(none, .v 17 .mv [.s 5]), (none, .co 18 19 [.s 17]), (none, .tk 6 18)])
                (.cl ks (.seq
                  (.seq
                    (.rg 0 [(none, .v 19 .mv [.s 6]), (none, .v 20 .mv [.s 4]), (none, .v 21 .bne [.s 19, .s 20])])
                    (.cond (.s 21)
                      (.seq
                        (.rg 0 [(none, .v 2 .mv [.k (.b false)])])
                        .ret)
                      .skip))
                  (.cl ks (.seq
                    (.seq
                      (.rg 0 [(none, .v 22 .mv [.s 5]), (none, .v 23 .mv [.s 0]), (none, .co 24 18 [.s 23]), (none, .co 25 20 [.s 22, .s 24]), (none, .v 26 .not [.s 25])])
                      (.cond (.s 26)
                        (.seq
                          (.rg 0 [(none, .v 2 .mv [.k (.b false)])])
                          .ret)
                        .skip))
                    (.cl ks (.seq
                      (.rg 0 [(none, .v 2 .mv [.k (.b true)])])
                      .ret)))))))))))))))))))

theorem chk_laws_FnExactRentOk : ∃ b, Try.f3.body = some b ∧ chk Try.prog Try.f3.ntmps true C_laws_FnExactRentOk b = true := ⟨_, rfl, by kernel_rfl⟩
theorem FnExactRentOk_ok (x0 : List (List Int)) (a0 : x0.length ≤ 9223372036854775807) (b0 : ∀ r ∈ x0, r.length ≤ 9223372036854775807) :
    CallOk Try.prog 3 [.s none (rr x0)] [(0, .b true)] := by
  obtain ⟨code0, hcd1, hcd2⟩ := chk_laws_FnExactRentOk; refine callOk_of Try.func3 hcd1 mo Try.call3 (rs := [2]) (by kernel_rfl) hcd2 (by rw [Try.ntmps3]; simp) (by simp) (by decide) ?_; unfold C_laws_FnExactRentOk K_laws_FnExactRentOk; simp (config := { maxSteps := 2000000 }) only [go_sem, Nat.reduceBEq, Nat.reduceAdd, Nat.reduceMul, Nat.reduceMod, Nat.reduceLT, Nat.reduceDiv, Nat.reduceSub, Nat.reduceLeDiff, Int.reduceToNat, Int.reduceLT, Int.reduceLE, reduceCtorEq]
  refine ⟨_, szIntSS_ok none x0 _ (by omega) (by omega) a0 b0, ?_⟩; simp (config := { maxSteps := 2000000 }) only [go_sem, Nat.reduceBEq, Nat.reduceAdd, Nat.reduceMul, Nat.reduceMod, Nat.reduceLT, Nat.reduceDiv, Nat.reduceSub, Nat.reduceLeDiff, Int.reduceToNat, Int.reduceLT, Int.reduceLE, reduceCtorEq]
  refine ⟨fun _ => trivial, fun c0 => ?_⟩
  obtain ⟨h0, k0⟩ := szII_ok (by omega) c0
  refine ⟨_, toIntSS_ok none x0 h0 k0, ?_⟩; simp (config := { maxSteps := 2000000 }) only [go_sem, Nat.reduceBEq, Nat.reduceAdd, Nat.reduceMul, Nat.reduceMod, Nat.reduceLT, Nat.reduceDiv, Nat.reduceSub, Nat.reduceLeDiff, Int.reduceToNat, Int.reduceLT, Int.reduceLE, reduceCtorEq]
  refine ⟨_, spec_RentOk_ok x0 h0 k0, ?_⟩; simp (config := { maxSteps := 2000000 }) only [go_sem, Nat.reduceBEq, Nat.reduceAdd, Nat.reduceMul, Nat.reduceMod, Nat.reduceLT, Nat.reduceDiv, Nat.reduceSub, Nat.reduceLeDiff, Int.reduceToNat, Int.reduceLT, Int.reduceLE, reduceCtorEq]
  refine ⟨_, toIntSS_ok none x0 h0 k0, ?_⟩; simp (config := { maxSteps := 2000000 }) only [go_sem, Nat.reduceBEq, Nat.reduceAdd, Nat.reduceMul, Nat.reduceMod, Nat.reduceLT, Nat.reduceDiv, Nat.reduceSub, Nat.reduceLeDiff, Int.reduceToNat, Int.reduceLT, Int.reduceLE, reduceCtorEq]
  refine ⟨_, impl_RentOk_ok x0 h0 k0, ?_⟩; simp (config := { maxSteps := 2000000 }) only [go_sem, Nat.reduceBEq, Nat.reduceAdd, Nat.reduceMul, Nat.reduceMod, Nat.reduceLT, Nat.reduceDiv, Nat.reduceSub, Nat.reduceLeDiff, Int.reduceToNat, Int.reduceLT, Int.reduceLE, reduceCtorEq]
  refine ⟨fun h => by simp at h, ?_⟩
  try intro _
  refine ⟨_, toIntSS_ok none x0 h0 k0, ?_⟩; simp (config := { maxSteps := 2000000 }) only [go_sem, Nat.reduceBEq, Nat.reduceAdd, Nat.reduceMul, Nat.reduceMod, Nat.reduceLT, Nat.reduceDiv, Nat.reduceSub, Nat.reduceLeDiff, Int.reduceToNat, Int.reduceLT, Int.reduceLE, reduceCtorEq]
  refine ⟨_, eqIntSS_ok _ _ x0 x0 h0 k0, ?_⟩; simp (config := { maxSteps := 2000000 }) only [go_sem, Nat.reduceBEq, Nat.reduceAdd, Nat.reduceMul, Nat.reduceMod, Nat.reduceLT, Nat.reduceDiv, Nat.reduceSub, Nat.reduceLeDiff, Int.reduceToNat, Int.reduceLT, Int.reduceLE, reduceCtorEq]
theorem FnExactRentOk_lifted (os : Os) (started : os.Started) (H : Type) (enc : TypeId × Value → H) :
    ReturnsInHanded {} Try.checked os 3 .any (Rows.fnExactRentOkSpec.pre6 enc Try.prog Try.f3 Rows.fnExactRentOkRow.domain false) (Rows.fnExactRentOkSpec.post enc Try.prog Try.f3 false true false false) := by
  refine returnsInHanded_of_change (C := Try.checked) ownk started (by as_aux_lemma => kernel_rfl) Try.func3
    (ChangeSpec.witness6 (enc := enc) (C := Try.checked) false ⟨#[], #[.slice none 0 0], []⟩ 8 (by kernel_rfl) (by kernel_rfl) (by kernel_rfl) (by kernel_rfl)) ?_
  intro W base args ds gs before hval0 hW _ _
  have hval : ∀ (j : Nat) t v, Try.f3.params[j]? = some t → args[j]? = some v → Value.okWide Try.prog W .any base t v := hval0
  have hW' := hW
  obtain ⟨p, q, hA0, _⟩ := hW
  have hA : DataW.TrodAll enc Try.prog W 0 (fun _ => true) true Try.f3.params.toList args.toList ds p := hA0
  rw [Try.params3] at hA hval
  clear hA0 hval0
  obtain ⟨v0, d0, rfl, rfl, h0⟩ := trodAll_one hA
  obtain ⟨x0, a0, b0, f0⟩ := fz_rows Try.underlying22 Try.underlying27 Try.underlying3 (by kernel_rfl : Try.prog.cellsOf 27 = 1) (by kernel_rfl : Try.prog.cellsOf 3 = 1) (hval 0 22 v0 rfl rfl) h0
  exact law_post (P := Try.prog) pfacts.laid (fun t ht => by rw [Try.params3] at ht; revert t; simp only [List.mem_cons, List.not_mem_nil, or_false, forall_eq_or_imp, forall_eq]; exact ⟨by kernel_rfl, of_decide_eq_true (by kernel_rfl)⟩) rfl (by kernel_rfl) rfl (fun ds hds => by
    have hds : ds.length = 1 := hds
    match ds, hds with
    | [d0], _ => rfl) hW' (ts := [.s none (rr x0)]) (by simp only [FzL]; exact ⟨_, _, rfl, f0, rfl⟩) (FnExactRentOk_ok x0 a0 b0)
theorem FnExactRentOk_holds : Rows.FnExactRentOkSaid :=
  OpenClaim.holds_of_wide (p := Try.pinned) (s := Rows.fnExactRentOkSpec) (c := Rows.fnExactRentOkRow) 3 Try.f3 rfl rfl rfl rfl rfl rfl rfl ⟨rfl, rfl, rfl, rfl, rfl⟩ rfl rfl rfl rfl rfl (by as_aux_lemma => kernel_rfl) Try.func3 (joined_of pfacts rfl rfl rfl (by as_aux_lemma => kernel_rfl) (by as_aux_lemma => kernel_rfl) (by as_aux_lemma => kernel_rfl) (by as_aux_lemma => kernel_rfl) (by as_aux_lemma => kernel_rfl) (by as_aux_lemma => kernel_rfl) (by as_aux_lemma => kernel_rfl) (by as_aux_lemma => kernel_rfl) (by as_aux_lemma => kernel_rfl) (by as_aux_lemma => kernel_rfl) (by as_aux_lemma => kernel_rfl) (by as_aux_lemma => kernel_rfl) (by as_aux_lemma => kernel_rfl) (by as_aux_lemma => kernel_rfl) (by as_aux_lemma => kernel_rfl) (by as_aux_lemma => kernel_rfl) (by as_aux_lemma => kernel_rfl) (by as_aux_lemma => kernel_rfl) (by as_aux_lemma => kernel_rfl) (by as_aux_lemma => kernel_rfl) (by as_aux_lemma => kernel_rfl) (by as_aux_lemma => kernel_rfl) (by as_aux_lemma => kernel_rfl))
    (of_decide_eq_true (by kernel_rfl)) (by unfold Func.isWrapper; rw [if_neg (of_decide_eq_false (by kernel_rfl))]; exact ⟨rfl, rfl⟩)
    (fun os started H enc _ => FnExactRentOk_lifted os started H enc)
def K_laws_FnExactHousesOk : List Nat := [0, 2, 3, 4, 5, 6]
def C_laws_FnExactHousesOk : C :=
  let ks := K_laws_FnExactHousesOk
  (.seq
    (.rg 0 [(none, .v 2 .mv [.k (.b false)])])
    (.cl ks (.seq
      (.rg 0 [(none, .v 3 .mv [.k (.i 1048576)])])
      (.cl ks (.seq
        (.rg 0 [(none, .v 7 .mv [.s 0]), (none, .v 8 .mv [.s 3]), (none, .co 9 16 [.s 7, .s 8]), (none, .tk 3 9)])
        (.cl ks (.seq
          (.seq
            (.rg 0 [(none, .v 10 .mv [.s 3]), (none, .v 11 (.bin .lss) [.s 10, .k (.i 0)])])
            (.cond (.s 11)
              (.seq
                (.rg 0 [(none, .v 2 .mv [.k (.b true)])])
                .ret)
              .skip))
          (.cl ks (.seq
            (.rg 0 [(none, .v 12 .mv [.s 0]), (none, .co 13 18 [.s 12]), (none, .co 14 21 [.s 13]), (none, .tk 4 14)])
            (.cl ks (.seq
              (.rg 0 [(none, .v 15 .mv [.s 0]), (none, .co 16 18 [.s 15]), (none, .tk 5 16)])
              (.cl ks (.seq
                (.rg 0 [(none, .v 17 .mv [.s 5]), (none, .co 18 22 [.s 17]), (none, .tk 6 18)])
                (.cl ks (.seq
                  (.seq
                    (.rg 0 [(none, .v 19 .mv [.s 6]), (none, .v 20 .mv [.s 4]), (none, .v 21 .bne [.s 19, .s 20])])
                    (.cond (.s 21)
                      (.seq
                        (.rg 0 [(none, .v 2 .mv [.k (.b false)])])
                        .ret)
                      .skip))
                  (.cl ks (.seq
                    (.seq
                      (.rg 0 [(none, .v 22 .mv [.s 5]), (none, .v 23 .mv [.s 0]), (none, .co 24 18 [.s 23]), (none, .co 25 20 [.s 22, .s 24]), (none, .v 26 .not [.s 25])])
                      (.cond (.s 26)
                        (.seq
                          (.rg 0 [(none, .v 2 .mv [.k (.b false)])])
                          .ret)
                        .skip))
                    (.cl ks (.seq
                      (.rg 0 [(none, .v 2 .mv [.k (.b true)])])
                      .ret)))))))))))))))))))

theorem chk_laws_FnExactHousesOk : ∃ b, Try.f4.body = some b ∧ chk Try.prog Try.f4.ntmps true C_laws_FnExactHousesOk b = true := ⟨_, rfl, by kernel_rfl⟩
theorem FnExactHousesOk_ok (x0 : List (List Int)) (a0 : x0.length ≤ 9223372036854775807) (b0 : ∀ r ∈ x0, r.length ≤ 9223372036854775807) :
    CallOk Try.prog 4 [.s none (rr x0)] [(0, .b true)] := by
  obtain ⟨code0, hcd1, hcd2⟩ := chk_laws_FnExactHousesOk; refine callOk_of Try.func4 hcd1 mo Try.call4 (rs := [2]) (by kernel_rfl) hcd2 (by rw [Try.ntmps4]; simp) (by simp) (by decide) ?_; unfold C_laws_FnExactHousesOk K_laws_FnExactHousesOk; simp (config := { maxSteps := 2000000 }) only [go_sem, Nat.reduceBEq, Nat.reduceAdd, Nat.reduceMul, Nat.reduceMod, Nat.reduceLT, Nat.reduceDiv, Nat.reduceSub, Nat.reduceLeDiff, Int.reduceToNat, Int.reduceLT, Int.reduceLE, reduceCtorEq]
  refine ⟨_, szIntSS_ok none x0 _ (by omega) (by omega) a0 b0, ?_⟩; simp (config := { maxSteps := 2000000 }) only [go_sem, Nat.reduceBEq, Nat.reduceAdd, Nat.reduceMul, Nat.reduceMod, Nat.reduceLT, Nat.reduceDiv, Nat.reduceSub, Nat.reduceLeDiff, Int.reduceToNat, Int.reduceLT, Int.reduceLE, reduceCtorEq]
  refine ⟨fun _ => trivial, fun c0 => ?_⟩
  obtain ⟨h0, k0⟩ := szII_ok (by omega) c0
  refine ⟨_, toIntSS_ok none x0 h0 k0, ?_⟩; simp (config := { maxSteps := 2000000 }) only [go_sem, Nat.reduceBEq, Nat.reduceAdd, Nat.reduceMul, Nat.reduceMod, Nat.reduceLT, Nat.reduceDiv, Nat.reduceSub, Nat.reduceLeDiff, Int.reduceToNat, Int.reduceLT, Int.reduceLE, reduceCtorEq]
  refine ⟨_, spec_HousesOk_ok x0 h0 k0, ?_⟩; simp (config := { maxSteps := 2000000 }) only [go_sem, Nat.reduceBEq, Nat.reduceAdd, Nat.reduceMul, Nat.reduceMod, Nat.reduceLT, Nat.reduceDiv, Nat.reduceSub, Nat.reduceLeDiff, Int.reduceToNat, Int.reduceLT, Int.reduceLE, reduceCtorEq]
  refine ⟨_, toIntSS_ok none x0 h0 k0, ?_⟩; simp (config := { maxSteps := 2000000 }) only [go_sem, Nat.reduceBEq, Nat.reduceAdd, Nat.reduceMul, Nat.reduceMod, Nat.reduceLT, Nat.reduceDiv, Nat.reduceSub, Nat.reduceLeDiff, Int.reduceToNat, Int.reduceLT, Int.reduceLE, reduceCtorEq]
  refine ⟨_, impl_HousesOk_ok x0 h0 k0, ?_⟩; simp (config := { maxSteps := 2000000 }) only [go_sem, Nat.reduceBEq, Nat.reduceAdd, Nat.reduceMul, Nat.reduceMod, Nat.reduceLT, Nat.reduceDiv, Nat.reduceSub, Nat.reduceLeDiff, Int.reduceToNat, Int.reduceLT, Int.reduceLE, reduceCtorEq]
  refine ⟨fun h => by simp at h, ?_⟩
  try intro _
  refine ⟨_, toIntSS_ok none x0 h0 k0, ?_⟩; simp (config := { maxSteps := 2000000 }) only [go_sem, Nat.reduceBEq, Nat.reduceAdd, Nat.reduceMul, Nat.reduceMod, Nat.reduceLT, Nat.reduceDiv, Nat.reduceSub, Nat.reduceLeDiff, Int.reduceToNat, Int.reduceLT, Int.reduceLE, reduceCtorEq]
  refine ⟨_, eqIntSS_ok _ _ x0 x0 h0 k0, ?_⟩; simp (config := { maxSteps := 2000000 }) only [go_sem, Nat.reduceBEq, Nat.reduceAdd, Nat.reduceMul, Nat.reduceMod, Nat.reduceLT, Nat.reduceDiv, Nat.reduceSub, Nat.reduceLeDiff, Int.reduceToNat, Int.reduceLT, Int.reduceLE, reduceCtorEq]
theorem FnExactHousesOk_lifted (os : Os) (started : os.Started) (H : Type) (enc : TypeId × Value → H) :
    ReturnsInHanded {} Try.checked os 4 .any (Rows.fnExactHousesOkSpec.pre6 enc Try.prog Try.f4 Rows.fnExactHousesOkRow.domain false) (Rows.fnExactHousesOkSpec.post enc Try.prog Try.f4 false true false false) := by
  refine returnsInHanded_of_change (C := Try.checked) ownk started (by as_aux_lemma => kernel_rfl) Try.func4
    (ChangeSpec.witness6 (enc := enc) (C := Try.checked) false ⟨#[], #[.slice none 0 0], []⟩ 8 (by kernel_rfl) (by kernel_rfl) (by kernel_rfl) (by kernel_rfl)) ?_
  intro W base args ds gs before hval0 hW _ _
  have hval : ∀ (j : Nat) t v, Try.f4.params[j]? = some t → args[j]? = some v → Value.okWide Try.prog W .any base t v := hval0
  have hW' := hW
  obtain ⟨p, q, hA0, _⟩ := hW
  have hA : DataW.TrodAll enc Try.prog W 0 (fun _ => true) true Try.f4.params.toList args.toList ds p := hA0
  rw [Try.params4] at hA hval
  clear hA0 hval0
  obtain ⟨v0, d0, rfl, rfl, h0⟩ := trodAll_one hA
  obtain ⟨x0, a0, b0, f0⟩ := fz_rows Try.underlying22 Try.underlying27 Try.underlying3 (by kernel_rfl : Try.prog.cellsOf 27 = 1) (by kernel_rfl : Try.prog.cellsOf 3 = 1) (hval 0 22 v0 rfl rfl) h0
  exact law_post (P := Try.prog) pfacts.laid (fun t ht => by rw [Try.params4] at ht; revert t; simp only [List.mem_cons, List.not_mem_nil, or_false, forall_eq_or_imp, forall_eq]; exact ⟨by kernel_rfl, of_decide_eq_true (by kernel_rfl)⟩) rfl (by kernel_rfl) rfl (fun ds hds => by
    have hds : ds.length = 1 := hds
    match ds, hds with
    | [d0], _ => rfl) hW' (ts := [.s none (rr x0)]) (by simp only [FzL]; exact ⟨_, _, rfl, f0, rfl⟩) (FnExactHousesOk_ok x0 a0 b0)
theorem FnExactHousesOk_holds : Rows.FnExactHousesOkSaid :=
  OpenClaim.holds_of_wide (p := Try.pinned) (s := Rows.fnExactHousesOkSpec) (c := Rows.fnExactHousesOkRow) 4 Try.f4 rfl rfl rfl rfl rfl rfl rfl ⟨rfl, rfl, rfl, rfl, rfl⟩ rfl rfl rfl rfl rfl (by as_aux_lemma => kernel_rfl) Try.func4 (joined_of pfacts rfl rfl rfl (by as_aux_lemma => kernel_rfl) (by as_aux_lemma => kernel_rfl) (by as_aux_lemma => kernel_rfl) (by as_aux_lemma => kernel_rfl) (by as_aux_lemma => kernel_rfl) (by as_aux_lemma => kernel_rfl) (by as_aux_lemma => kernel_rfl) (by as_aux_lemma => kernel_rfl) (by as_aux_lemma => kernel_rfl) (by as_aux_lemma => kernel_rfl) (by as_aux_lemma => kernel_rfl) (by as_aux_lemma => kernel_rfl) (by as_aux_lemma => kernel_rfl) (by as_aux_lemma => kernel_rfl) (by as_aux_lemma => kernel_rfl) (by as_aux_lemma => kernel_rfl) (by as_aux_lemma => kernel_rfl) (by as_aux_lemma => kernel_rfl) (by as_aux_lemma => kernel_rfl) (by as_aux_lemma => kernel_rfl) (by as_aux_lemma => kernel_rfl) (by as_aux_lemma => kernel_rfl) (by as_aux_lemma => kernel_rfl))
    (of_decide_eq_true (by kernel_rfl)) (by unfold Func.isWrapper; rw [if_neg (of_decide_eq_false (by kernel_rfl))]; exact ⟨rfl, rfl⟩)
    (fun os started H enc _ => FnExactHousesOk_lifted os started H enc)
def K_laws_FnExactRoomValue : List Nat := [0, 1, 4, 5, 6, 7, 8, 9]
def C_laws_FnExactRoomValue : C :=
  let ks := K_laws_FnExactRoomValue
  (.seq
    (.rg 0 [(none, .v 4 .mv [.k (.b false)])])
    (.cl ks (.seq
      (.seq
        (.rg 0 [(none, .v 10 .mv [.s 1]), (none, .v 11 .len [.s 10]), (none, .v 12 (.bin .gtr) [.s 11, .k (.i 1048576)])])
        (.cond (.s 12)
          (.seq
            (.rg 0 [(none, .v 4 .mv [.k (.b true)])])
            .ret)
          .skip))
      (.cl ks (.seq
        (.rg 0 [(none, .v 5 .mv [.k (.i 1048576)])])
        (.cl ks (.seq
          (.rg 0 [(none, .v 13 .mv [.s 0]), (none, .v 14 .mv [.s 5]), (none, .co 15 16 [.s 13, .s 14]), (none, .tk 5 15)])
          (.cl ks (.seq
            (.seq
              (.rg 0 [(none, .v 16 .mv [.s 5]), (none, .v 17 (.bin .lss) [.s 16, .k (.i 0)])])
              (.cond (.s 17)
                (.seq
                  (.rg 0 [(none, .v 4 .mv [.k (.b true)])])
                  .ret)
                .skip))
            (.cl ks (.seq
              (.rg 0 [(none, .v 18 .mv [.s 0]), (none, .co 19 18 [.s 18]), (none, .v 20 .mv [.s 1]), (none, .co 21 24 [.s 20]), (none, .co 22 23 [.s 19, .s 21]), (none, .tk 6 22)])
              (.cl ks (.seq
                (.rg 0 [(none, .v 23 .mv [.s 0]), (none, .co 24 18 [.s 23]), (none, .tk 7 24)])
                (.cl ks (.seq
                  (.rg 0 [(none, .v 25 .mv [.s 1]), (none, .co 26 24 [.s 25]), (none, .tk 8 26)])
                  (.cl ks (.seq
                    (.rg 0 [(none, .v 27 .mv [.s 7]), (none, .v 28 .mv [.s 8]), (none, .co 29 25 [.s 27, .s 28]), (none, .tk 9 29)])
                    (.cl ks (.seq
                      (.seq
                        (.rg 0 [(none, .v 30 .mv [.s 9]), (none, .v 31 .mv [.s 6]), (none, .v 32 (.bin .neq) [.s 30, .s 31])])
                        (.cond (.s 32)
                          (.seq
                            (.rg 0 [(none, .v 4 .mv [.k (.b false)])])
                            .ret)
                          .skip))
                      (.cl ks (.seq
                        (.seq
                          (.rg 0 [(none, .v 33 .mv [.s 7]), (none, .v 34 .mv [.s 0]), (none, .co 35 18 [.s 34]), (none, .co 36 20 [.s 33, .s 35]), (none, .v 37 .not [.s 36])])
                          (.cond (.s 37)
                            (.seq
                              (.rg 0 [(none, .v 4 .mv [.k (.b false)])])
                              .ret)
                            .skip))
                        (.cl ks (.seq
                          (.seq
                            (.rg 0 [(none, .v 38 .mv [.s 8]), (none, .v 39 .mv [.s 1]), (none, .co 40 24 [.s 39]), (none, .co 41 26 [.s 38, .s 40]), (none, .v 42 .not [.s 41])])
                            (.cond (.s 42)
                              (.seq
                                (.rg 0 [(none, .v 4 .mv [.k (.b false)])])
                                .ret)
                              .skip))
                          (.cl ks (.seq
                            (.rg 0 [(none, .v 4 .mv [.k (.b true)])])
                            .ret)))))))))))))))))))))))))

theorem chk_laws_FnExactRoomValue : ∃ b, Try.f5.body = some b ∧ chk Try.prog Try.f5.ntmps true C_laws_FnExactRoomValue b = true := ⟨_, rfl, by kernel_rfl⟩
theorem FnExactRoomValue_ok (x0 : List (List Int)) (a0 : x0.length ≤ 9223372036854775807) (b0 : ∀ r ∈ x0, r.length ≤ 9223372036854775807) (x1 : List Int) (a1 : x1.length ≤ 9223372036854775807) :
    CallOk Try.prog 5 [.s none (rr x0), .s none (ii x1)] [(0, .b true)] := by
  obtain ⟨code0, hcd1, hcd2⟩ := chk_laws_FnExactRoomValue; refine callOk_of Try.func5 hcd1 mo Try.call5 (rs := [4]) (by kernel_rfl) hcd2 (by rw [Try.ntmps5]; simp) (by simp) (by decide) ?_; unfold C_laws_FnExactRoomValue K_laws_FnExactRoomValue; simp (config := { maxSteps := 2000000 }) only [go_sem, Nat.reduceBEq, Nat.reduceAdd, Nat.reduceMul, Nat.reduceMod, Nat.reduceLT, Nat.reduceDiv, Nat.reduceSub, Nat.reduceLeDiff, Int.reduceToNat, Int.reduceLT, Int.reduceLE, reduceCtorEq]
  refine ⟨fun _ => trivial, fun c1 => ?_⟩
  have h1 : x1.length ≤ 1048576 := by omega
  refine ⟨_, szIntSS_ok none x0 _ (by omega) (by omega) a0 b0, ?_⟩; simp (config := { maxSteps := 2000000 }) only [go_sem, Nat.reduceBEq, Nat.reduceAdd, Nat.reduceMul, Nat.reduceMod, Nat.reduceLT, Nat.reduceDiv, Nat.reduceSub, Nat.reduceLeDiff, Int.reduceToNat, Int.reduceLT, Int.reduceLE, reduceCtorEq]
  refine ⟨fun _ => trivial, fun c0 => ?_⟩
  obtain ⟨h0, k0⟩ := szII_ok (by omega) c0
  refine ⟨_, toIntSS_ok none x0 h0 k0, ?_⟩; simp (config := { maxSteps := 2000000 }) only [go_sem, Nat.reduceBEq, Nat.reduceAdd, Nat.reduceMul, Nat.reduceMod, Nat.reduceLT, Nat.reduceDiv, Nat.reduceSub, Nat.reduceLeDiff, Int.reduceToNat, Int.reduceLT, Int.reduceLE, reduceCtorEq]
  refine ⟨_, toIntS_ok none x1 h1, ?_⟩; simp (config := { maxSteps := 2000000 }) only [go_sem, Nat.reduceBEq, Nat.reduceAdd, Nat.reduceMul, Nat.reduceMod, Nat.reduceLT, Nat.reduceDiv, Nat.reduceSub, Nat.reduceLeDiff, Int.reduceToNat, Int.reduceLT, Int.reduceLE, reduceCtorEq]
  refine ⟨_, spec_RoomValue_ok x0 x1 h0 k0 h1, ?_⟩; simp (config := { maxSteps := 2000000 }) only [go_sem, Nat.reduceBEq, Nat.reduceAdd, Nat.reduceMul, Nat.reduceMod, Nat.reduceLT, Nat.reduceDiv, Nat.reduceSub, Nat.reduceLeDiff, Int.reduceToNat, Int.reduceLT, Int.reduceLE, reduceCtorEq]
  refine ⟨_, toIntSS_ok none x0 h0 k0, ?_⟩; simp (config := { maxSteps := 2000000 }) only [go_sem, Nat.reduceBEq, Nat.reduceAdd, Nat.reduceMul, Nat.reduceMod, Nat.reduceLT, Nat.reduceDiv, Nat.reduceSub, Nat.reduceLeDiff, Int.reduceToNat, Int.reduceLT, Int.reduceLE, reduceCtorEq]
  refine ⟨_, toIntS_ok none x1 h1, ?_⟩; simp (config := { maxSteps := 2000000 }) only [go_sem, Nat.reduceBEq, Nat.reduceAdd, Nat.reduceMul, Nat.reduceMod, Nat.reduceLT, Nat.reduceDiv, Nat.reduceSub, Nat.reduceLeDiff, Int.reduceToNat, Int.reduceLT, Int.reduceLE, reduceCtorEq]
  refine ⟨_, impl_RoomValue_ok x0 x1 h0 k0 h1, ?_⟩; simp (config := { maxSteps := 2000000 }) only [go_sem, Nat.reduceBEq, Nat.reduceAdd, Nat.reduceMul, Nat.reduceMod, Nat.reduceLT, Nat.reduceDiv, Nat.reduceSub, Nat.reduceLeDiff, Int.reduceToNat, Int.reduceLT, Int.reduceLE, reduceCtorEq]
  refine ⟨fun h => by simp at h, ?_⟩
  try intro _
  refine ⟨_, toIntSS_ok none x0 h0 k0, ?_⟩; simp (config := { maxSteps := 2000000 }) only [go_sem, Nat.reduceBEq, Nat.reduceAdd, Nat.reduceMul, Nat.reduceMod, Nat.reduceLT, Nat.reduceDiv, Nat.reduceSub, Nat.reduceLeDiff, Int.reduceToNat, Int.reduceLT, Int.reduceLE, reduceCtorEq]
  refine ⟨_, eqIntSS_ok _ _ x0 x0 h0 k0, ?_⟩; simp (config := { maxSteps := 2000000 }) only [go_sem, Nat.reduceBEq, Nat.reduceAdd, Nat.reduceMul, Nat.reduceMod, Nat.reduceLT, Nat.reduceDiv, Nat.reduceSub, Nat.reduceLeDiff, Int.reduceToNat, Int.reduceLT, Int.reduceLE, reduceCtorEq]
  refine ⟨_, toIntS_ok none x1 h1, ?_⟩; simp (config := { maxSteps := 2000000 }) only [go_sem, Nat.reduceBEq, Nat.reduceAdd, Nat.reduceMul, Nat.reduceMod, Nat.reduceLT, Nat.reduceDiv, Nat.reduceSub, Nat.reduceLeDiff, Int.reduceToNat, Int.reduceLT, Int.reduceLE, reduceCtorEq]
  refine ⟨_, eqIntS_ok _ _ x1 x1 h1, ?_⟩; simp (config := { maxSteps := 2000000 }) only [go_sem, Nat.reduceBEq, Nat.reduceAdd, Nat.reduceMul, Nat.reduceMod, Nat.reduceLT, Nat.reduceDiv, Nat.reduceSub, Nat.reduceLeDiff, Int.reduceToNat, Int.reduceLT, Int.reduceLE, reduceCtorEq]
theorem FnExactRoomValue_lifted (os : Os) (started : os.Started) (H : Type) (enc : TypeId × Value → H) :
    ReturnsInHanded {} Try.checked os 5 .any (Rows.fnExactRoomValueSpec.pre6 enc Try.prog Try.f5 Rows.fnExactRoomValueRow.domain false) (Rows.fnExactRoomValueSpec.post enc Try.prog Try.f5 false true false false) := by
  refine returnsInHanded_of_change (C := Try.checked) ownk started (by as_aux_lemma => kernel_rfl) Try.func5
    (ChangeSpec.witness6 (enc := enc) (C := Try.checked) false ⟨#[], #[.slice none 0 0, .slice none 0 0], []⟩ 8 (by kernel_rfl) (by kernel_rfl) (by kernel_rfl) (by kernel_rfl)) ?_
  intro W base args ds gs before hval0 hW _ _
  have hval : ∀ (j : Nat) t v, Try.f5.params[j]? = some t → args[j]? = some v → Value.okWide Try.prog W .any base t v := hval0
  have hW' := hW
  obtain ⟨p, q, hA0, _⟩ := hW
  have hA : DataW.TrodAll enc Try.prog W 0 (fun _ => true) true Try.f5.params.toList args.toList ds p := hA0
  rw [Try.params5] at hA hval
  clear hA0 hval0
  obtain ⟨v0, v1, d0, d1, p0, p1, rfl, rfl, rfl, h0, h1⟩ := trodAll_two hA
  obtain ⟨x0, a0, b0, f0⟩ := fz_rows Try.underlying22 Try.underlying27 Try.underlying3 (by kernel_rfl : Try.prog.cellsOf 27 = 1) (by kernel_rfl : Try.prog.cellsOf 3 = 1) (hval 0 22 v0 rfl rfl) h0
  obtain ⟨x1, a1, f1⟩ := fz_ints Try.underlying27 Try.underlying3 (by kernel_rfl : Try.prog.cellsOf 3 = 1) (hval 1 27 v1 rfl rfl) h1
  exact law_post (P := Try.prog) pfacts.laid (fun t ht => by rw [Try.params5] at ht; revert t; simp only [List.mem_cons, List.not_mem_nil, or_false, forall_eq_or_imp, forall_eq]; exact ⟨⟨by kernel_rfl, of_decide_eq_true (by kernel_rfl)⟩, ⟨by kernel_rfl, of_decide_eq_true (by kernel_rfl)⟩⟩) rfl (by kernel_rfl) rfl (fun ds hds => by
    have hds : ds.length = 2 := hds
    match ds, hds with
    | [d0, d1], _ => rfl) hW' (ts := [.s none (rr x0), .s none (ii x1)]) (by simp only [FzL]; exact ⟨_, _, rfl, f0, ⟨_, _, rfl, f1, rfl⟩⟩) (FnExactRoomValue_ok x0 a0 b0 x1 a1)
theorem FnExactRoomValue_holds : Rows.FnExactRoomValueSaid :=
  OpenClaim.holds_of_wide (p := Try.pinned) (s := Rows.fnExactRoomValueSpec) (c := Rows.fnExactRoomValueRow) 5 Try.f5 rfl rfl rfl rfl rfl rfl rfl ⟨rfl, rfl, rfl, rfl, rfl⟩ rfl rfl rfl rfl rfl (by as_aux_lemma => kernel_rfl) Try.func5 (joined_of pfacts rfl rfl rfl (by as_aux_lemma => kernel_rfl) (by as_aux_lemma => kernel_rfl) (by as_aux_lemma => kernel_rfl) (by as_aux_lemma => kernel_rfl) (by as_aux_lemma => kernel_rfl) (by as_aux_lemma => kernel_rfl) (by as_aux_lemma => kernel_rfl) (by as_aux_lemma => kernel_rfl) (by as_aux_lemma => kernel_rfl) (by as_aux_lemma => kernel_rfl) (by as_aux_lemma => kernel_rfl) (by as_aux_lemma => kernel_rfl) (by as_aux_lemma => kernel_rfl) (by as_aux_lemma => kernel_rfl) (by as_aux_lemma => kernel_rfl) (by as_aux_lemma => kernel_rfl) (by as_aux_lemma => kernel_rfl) (by as_aux_lemma => kernel_rfl) (by as_aux_lemma => kernel_rfl) (by as_aux_lemma => kernel_rfl) (by as_aux_lemma => kernel_rfl) (by as_aux_lemma => kernel_rfl) (by as_aux_lemma => kernel_rfl))
    (of_decide_eq_true (by kernel_rfl)) (by unfold Func.isWrapper; rw [if_neg (of_decide_eq_false (by kernel_rfl))]; exact ⟨rfl, rfl⟩)
    (fun os started H enc _ => FnExactRoomValue_lifted os started H enc)
def K_laws_FnExactKeepsOwners : List Nat := [0, 1, 4, 5, 6, 7, 8, 9]
def C_laws_FnExactKeepsOwners : C :=
  let ks := K_laws_FnExactKeepsOwners
  (.seq
    (.rg 0 [(none, .v 4 .mv [.k (.b false)])])
    (.cl ks (.seq
      (.seq
        (.rg 0 [(none, .v 10 .mv [.s 1]), (none, .v 11 .len [.s 10]), (none, .v 12 (.bin .gtr) [.s 11, .k (.i 1048576)])])
        (.cond (.s 12)
          (.seq
            (.rg 0 [(none, .v 4 .mv [.k (.b true)])])
            .ret)
          .skip))
      (.cl ks (.seq
        (.rg 0 [(none, .v 5 .mv [.k (.i 1048576)])])
        (.cl ks (.seq
          (.rg 0 [(none, .v 13 .mv [.s 0]), (none, .v 14 .mv [.s 5]), (none, .co 15 16 [.s 13, .s 14]), (none, .tk 5 15)])
          (.cl ks (.seq
            (.seq
              (.rg 0 [(none, .v 16 .mv [.s 5]), (none, .v 17 (.bin .lss) [.s 16, .k (.i 0)])])
              (.cond (.s 17)
                (.seq
                  (.rg 0 [(none, .v 4 .mv [.k (.b true)])])
                  .ret)
                .skip))
            (.cl ks (.seq
              (.rg 0 [(none, .v 18 .mv [.s 0]), (none, .co 19 18 [.s 18]), (none, .v 20 .mv [.s 1]), (none, .co 21 24 [.s 20]), (none, .co 22 27 [.s 19, .s 21]), (none, .tk 6 22)])
              (.cl ks (.seq
                (.rg 0 [(none, .v 23 .mv [.s 0]), (none, .co 24 18 [.s 23]), (none, .tk 7 24)])
                (.cl ks (.seq
                  (.rg 0 [(none, .v 25 .mv [.s 1]), (none, .co 26 24 [.s 25]), (none, .tk 8 26)])
                  (.cl ks (.seq
                    (.rg 0 [(none, .v 27 .mv [.s 7]), (none, .v 28 .mv [.s 8]), (none, .co 29 28 [.s 27, .s 28]), (none, .tk 9 29)])
                    (.cl ks (.seq
                      (.seq
                        (.rg 0 [(none, .v 30 .mv [.s 9]), (none, .v 31 .mv [.s 6]), (none, .v 32 .bne [.s 30, .s 31])])
                        (.cond (.s 32)
                          (.seq
                            (.rg 0 [(none, .v 4 .mv [.k (.b false)])])
                            .ret)
                          .skip))
                      (.cl ks (.seq
                        (.seq
                          (.rg 0 [(none, .v 33 .mv [.s 7]), (none, .v 34 .mv [.s 0]), (none, .co 35 18 [.s 34]), (none, .co 36 20 [.s 33, .s 35]), (none, .v 37 .not [.s 36])])
                          (.cond (.s 37)
                            (.seq
                              (.rg 0 [(none, .v 4 .mv [.k (.b false)])])
                              .ret)
                            .skip))
                        (.cl ks (.seq
                          (.seq
                            (.rg 0 [(none, .v 38 .mv [.s 8]), (none, .v 39 .mv [.s 1]), (none, .co 40 24 [.s 39]), (none, .co 41 26 [.s 38, .s 40]), (none, .v 42 .not [.s 41])])
                            (.cond (.s 42)
                              (.seq
                                (.rg 0 [(none, .v 4 .mv [.k (.b false)])])
                                .ret)
                              .skip))
                          (.cl ks (.seq
                            (.rg 0 [(none, .v 4 .mv [.k (.b true)])])
                            .ret)))))))))))))))))))))))))

theorem chk_laws_FnExactKeepsOwners : ∃ b, Try.f6.body = some b ∧ chk Try.prog Try.f6.ntmps true C_laws_FnExactKeepsOwners b = true := ⟨_, rfl, by kernel_rfl⟩
theorem FnExactKeepsOwners_ok (x0 : List (List Int)) (a0 : x0.length ≤ 9223372036854775807) (b0 : ∀ r ∈ x0, r.length ≤ 9223372036854775807) (x1 : List Int) (a1 : x1.length ≤ 9223372036854775807) :
    CallOk Try.prog 6 [.s none (rr x0), .s none (ii x1)] [(0, .b true)] := by
  obtain ⟨code0, hcd1, hcd2⟩ := chk_laws_FnExactKeepsOwners; refine callOk_of Try.func6 hcd1 mo Try.call6 (rs := [4]) (by kernel_rfl) hcd2 (by rw [Try.ntmps6]; simp) (by simp) (by decide) ?_; unfold C_laws_FnExactKeepsOwners K_laws_FnExactKeepsOwners; simp (config := { maxSteps := 2000000 }) only [go_sem, Nat.reduceBEq, Nat.reduceAdd, Nat.reduceMul, Nat.reduceMod, Nat.reduceLT, Nat.reduceDiv, Nat.reduceSub, Nat.reduceLeDiff, Int.reduceToNat, Int.reduceLT, Int.reduceLE, reduceCtorEq]
  refine ⟨fun _ => trivial, fun c1 => ?_⟩
  have h1 : x1.length ≤ 1048576 := by omega
  refine ⟨_, szIntSS_ok none x0 _ (by omega) (by omega) a0 b0, ?_⟩; simp (config := { maxSteps := 2000000 }) only [go_sem, Nat.reduceBEq, Nat.reduceAdd, Nat.reduceMul, Nat.reduceMod, Nat.reduceLT, Nat.reduceDiv, Nat.reduceSub, Nat.reduceLeDiff, Int.reduceToNat, Int.reduceLT, Int.reduceLE, reduceCtorEq]
  refine ⟨fun _ => trivial, fun c0 => ?_⟩
  obtain ⟨h0, k0⟩ := szII_ok (by omega) c0
  refine ⟨_, toIntSS_ok none x0 h0 k0, ?_⟩; simp (config := { maxSteps := 2000000 }) only [go_sem, Nat.reduceBEq, Nat.reduceAdd, Nat.reduceMul, Nat.reduceMod, Nat.reduceLT, Nat.reduceDiv, Nat.reduceSub, Nat.reduceLeDiff, Int.reduceToNat, Int.reduceLT, Int.reduceLE, reduceCtorEq]
  refine ⟨_, toIntS_ok none x1 h1, ?_⟩; simp (config := { maxSteps := 2000000 }) only [go_sem, Nat.reduceBEq, Nat.reduceAdd, Nat.reduceMul, Nat.reduceMod, Nat.reduceLT, Nat.reduceDiv, Nat.reduceSub, Nat.reduceLeDiff, Int.reduceToNat, Int.reduceLT, Int.reduceLE, reduceCtorEq]
  refine ⟨_, spec_KeepsOwners_ok x0 x1 h0 k0 h1, ?_⟩; simp (config := { maxSteps := 2000000 }) only [go_sem, Nat.reduceBEq, Nat.reduceAdd, Nat.reduceMul, Nat.reduceMod, Nat.reduceLT, Nat.reduceDiv, Nat.reduceSub, Nat.reduceLeDiff, Int.reduceToNat, Int.reduceLT, Int.reduceLE, reduceCtorEq]
  refine ⟨_, toIntSS_ok none x0 h0 k0, ?_⟩; simp (config := { maxSteps := 2000000 }) only [go_sem, Nat.reduceBEq, Nat.reduceAdd, Nat.reduceMul, Nat.reduceMod, Nat.reduceLT, Nat.reduceDiv, Nat.reduceSub, Nat.reduceLeDiff, Int.reduceToNat, Int.reduceLT, Int.reduceLE, reduceCtorEq]
  refine ⟨_, toIntS_ok none x1 h1, ?_⟩; simp (config := { maxSteps := 2000000 }) only [go_sem, Nat.reduceBEq, Nat.reduceAdd, Nat.reduceMul, Nat.reduceMod, Nat.reduceLT, Nat.reduceDiv, Nat.reduceSub, Nat.reduceLeDiff, Int.reduceToNat, Int.reduceLT, Int.reduceLE, reduceCtorEq]
  refine ⟨_, impl_KeepsOwners_ok x0 x1 h0 k0 h1, ?_⟩; simp (config := { maxSteps := 2000000 }) only [go_sem, Nat.reduceBEq, Nat.reduceAdd, Nat.reduceMul, Nat.reduceMod, Nat.reduceLT, Nat.reduceDiv, Nat.reduceSub, Nat.reduceLeDiff, Int.reduceToNat, Int.reduceLT, Int.reduceLE, reduceCtorEq]
  refine ⟨fun h => by simp at h, ?_⟩
  try intro _
  refine ⟨_, toIntSS_ok none x0 h0 k0, ?_⟩; simp (config := { maxSteps := 2000000 }) only [go_sem, Nat.reduceBEq, Nat.reduceAdd, Nat.reduceMul, Nat.reduceMod, Nat.reduceLT, Nat.reduceDiv, Nat.reduceSub, Nat.reduceLeDiff, Int.reduceToNat, Int.reduceLT, Int.reduceLE, reduceCtorEq]
  refine ⟨_, eqIntSS_ok _ _ x0 x0 h0 k0, ?_⟩; simp (config := { maxSteps := 2000000 }) only [go_sem, Nat.reduceBEq, Nat.reduceAdd, Nat.reduceMul, Nat.reduceMod, Nat.reduceLT, Nat.reduceDiv, Nat.reduceSub, Nat.reduceLeDiff, Int.reduceToNat, Int.reduceLT, Int.reduceLE, reduceCtorEq]
  refine ⟨_, toIntS_ok none x1 h1, ?_⟩; simp (config := { maxSteps := 2000000 }) only [go_sem, Nat.reduceBEq, Nat.reduceAdd, Nat.reduceMul, Nat.reduceMod, Nat.reduceLT, Nat.reduceDiv, Nat.reduceSub, Nat.reduceLeDiff, Int.reduceToNat, Int.reduceLT, Int.reduceLE, reduceCtorEq]
  refine ⟨_, eqIntS_ok _ _ x1 x1 h1, ?_⟩; simp (config := { maxSteps := 2000000 }) only [go_sem, Nat.reduceBEq, Nat.reduceAdd, Nat.reduceMul, Nat.reduceMod, Nat.reduceLT, Nat.reduceDiv, Nat.reduceSub, Nat.reduceLeDiff, Int.reduceToNat, Int.reduceLT, Int.reduceLE, reduceCtorEq]
theorem FnExactKeepsOwners_lifted (os : Os) (started : os.Started) (H : Type) (enc : TypeId × Value → H) :
    ReturnsInHanded {} Try.checked os 6 .any (Rows.fnExactKeepsOwnersSpec.pre6 enc Try.prog Try.f6 Rows.fnExactKeepsOwnersRow.domain false) (Rows.fnExactKeepsOwnersSpec.post enc Try.prog Try.f6 false true false false) := by
  refine returnsInHanded_of_change (C := Try.checked) ownk started (by as_aux_lemma => kernel_rfl) Try.func6
    (ChangeSpec.witness6 (enc := enc) (C := Try.checked) false ⟨#[], #[.slice none 0 0, .slice none 0 0], []⟩ 8 (by kernel_rfl) (by kernel_rfl) (by kernel_rfl) (by kernel_rfl)) ?_
  intro W base args ds gs before hval0 hW _ _
  have hval : ∀ (j : Nat) t v, Try.f6.params[j]? = some t → args[j]? = some v → Value.okWide Try.prog W .any base t v := hval0
  have hW' := hW
  obtain ⟨p, q, hA0, _⟩ := hW
  have hA : DataW.TrodAll enc Try.prog W 0 (fun _ => true) true Try.f6.params.toList args.toList ds p := hA0
  rw [Try.params6] at hA hval
  clear hA0 hval0
  obtain ⟨v0, v1, d0, d1, p0, p1, rfl, rfl, rfl, h0, h1⟩ := trodAll_two hA
  obtain ⟨x0, a0, b0, f0⟩ := fz_rows Try.underlying22 Try.underlying27 Try.underlying3 (by kernel_rfl : Try.prog.cellsOf 27 = 1) (by kernel_rfl : Try.prog.cellsOf 3 = 1) (hval 0 22 v0 rfl rfl) h0
  obtain ⟨x1, a1, f1⟩ := fz_ints Try.underlying27 Try.underlying3 (by kernel_rfl : Try.prog.cellsOf 3 = 1) (hval 1 27 v1 rfl rfl) h1
  exact law_post (P := Try.prog) pfacts.laid (fun t ht => by rw [Try.params6] at ht; revert t; simp only [List.mem_cons, List.not_mem_nil, or_false, forall_eq_or_imp, forall_eq]; exact ⟨⟨by kernel_rfl, of_decide_eq_true (by kernel_rfl)⟩, ⟨by kernel_rfl, of_decide_eq_true (by kernel_rfl)⟩⟩) rfl (by kernel_rfl) rfl (fun ds hds => by
    have hds : ds.length = 2 := hds
    match ds, hds with
    | [d0, d1], _ => rfl) hW' (ts := [.s none (rr x0), .s none (ii x1)]) (by simp only [FzL]; exact ⟨_, _, rfl, f0, ⟨_, _, rfl, f1, rfl⟩⟩) (FnExactKeepsOwners_ok x0 a0 b0 x1 a1)
theorem FnExactKeepsOwners_holds : Rows.FnExactKeepsOwnersSaid :=
  OpenClaim.holds_of_wide (p := Try.pinned) (s := Rows.fnExactKeepsOwnersSpec) (c := Rows.fnExactKeepsOwnersRow) 6 Try.f6 rfl rfl rfl rfl rfl rfl rfl ⟨rfl, rfl, rfl, rfl, rfl⟩ rfl rfl rfl rfl rfl (by as_aux_lemma => kernel_rfl) Try.func6 (joined_of pfacts rfl rfl rfl (by as_aux_lemma => kernel_rfl) (by as_aux_lemma => kernel_rfl) (by as_aux_lemma => kernel_rfl) (by as_aux_lemma => kernel_rfl) (by as_aux_lemma => kernel_rfl) (by as_aux_lemma => kernel_rfl) (by as_aux_lemma => kernel_rfl) (by as_aux_lemma => kernel_rfl) (by as_aux_lemma => kernel_rfl) (by as_aux_lemma => kernel_rfl) (by as_aux_lemma => kernel_rfl) (by as_aux_lemma => kernel_rfl) (by as_aux_lemma => kernel_rfl) (by as_aux_lemma => kernel_rfl) (by as_aux_lemma => kernel_rfl) (by as_aux_lemma => kernel_rfl) (by as_aux_lemma => kernel_rfl) (by as_aux_lemma => kernel_rfl) (by as_aux_lemma => kernel_rfl) (by as_aux_lemma => kernel_rfl) (by as_aux_lemma => kernel_rfl) (by as_aux_lemma => kernel_rfl) (by as_aux_lemma => kernel_rfl))
    (of_decide_eq_true (by kernel_rfl)) (by unfold Func.isWrapper; rw [if_neg (of_decide_eq_false (by kernel_rfl))]; exact ⟨rfl, rfl⟩)
    (fun os started H enc _ => FnExactKeepsOwners_lifted os started H enc)

end Go.Proofs.Ytkkhikpbnjbalaa
