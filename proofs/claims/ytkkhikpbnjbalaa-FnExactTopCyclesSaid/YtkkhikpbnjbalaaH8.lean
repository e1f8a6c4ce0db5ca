/- At every input the law below returns true and leaves its arguments alone: TopCycles of the program returns what that of the reference returns, in memory of its own. No condition. -/
import Derived.Test.YtkkhikpbnjbalaaRows
import Derived.Test.YtkkhikpbnjbalaaTopw
import Derived.Test.YtkkhikpbnjbalaaFacts
import Derived.Test.YtkkhikpbnjbalaaMarks
namespace Go.Proofs.Ytkkhikpbnjbalaa
open Go Go.Vc
set_option maxRecDepth 100000
set_option linter.unusedSimpArgs false
set_option linter.unusedVariables false
open Go.ChangeShapes Go.WideShapes Go.RowKit
theorem tot_le {xs : List (List Int)} {n : Nat} (h : ∀ r ∈ xs, r.length ≤ n) : tot xs ≤ n * xs.length := by
  induction xs with
  | nil => simp [tot]
  | cons r rs ih =>
    have h1 := ih fun r hr => h r (by simp [hr])
    have h2 := h r (by simp)
    simp only [tot, List.map_cons, List.sum_cons, List.length_cons, Nat.mul_succ] at h1 ⊢; omega
theorem tcS_row {ls : List (List Int)} (H : Hs ls ls.length) : ∀ {j : Nat}, ∀ c ∈ (tcS ls j).2, c.length ≤ ls.length
  | 0, c, hc => by simp [tcS] at hc
  | j + 1, c, hc => by
    simp only [tcS, List.mem_append] at hc
    rcases hc with hc | hc
    · exact tcS_row H c hc
    · have hS := tcS_lf (ls := ls) (j := j)
      obtain ⟨a, ha, hc⟩ := List.mem_flatMap.1 hc
      obtain ⟨h1, h2, _⟩ := row_mem hc
      have := nodup_sub_len h2.nd (pth_sub (fun x hx => (top_in H hS hx).2.2) h2.toPth (List.mem_of_mem_take ha))
      have := hS.len; omega
theorem tops_len {ls : List (List Int)} : (topsF ls).length ≤ 1048576 ∧ (∀ r ∈ topsF ls, r.length ≤ 1048576) ∧ tot (topsF ls) ≤ 1048576 := by
  unfold topsF
  by_cases h : housesB ls = true
  · rw [if_pos h]
    have H := hs_of h
    have n5 := H.n5
    have h1 := tcS_rows (ls := ls) (j := ls.length)
    have h2 : ls.length * ls.length ≤ 5 * 5 := Nat.mul_le_mul n5 n5
    have hr : ∀ r ∈ (tcS ls ls.length).2, r.length ≤ 5 := fun r hr => by have := tcS_row H r hr; omega
    have h3 := tot_le hr
    exact ⟨by omega, fun r h => by have := hr r h; omega, by omega⟩
  · rw [if_neg h]; simp [tot]
def K_laws_FnExactTopCycles : List Nat := [0, 2, 3, 4, 5, 6, 7, 8, 9, 10]
def C_laws_FnExactTopCycles : C :=
  let ks := K_laws_FnExactTopCycles
  (.seq
    (.rg 0 [(none, .v 2 .mv [.k (.b false)])])
    (.cl ks (.seq
      (.rg 0 [(none, .v 3 .mv [.k (.i 1048576)])])
      (.cl ks (.seq
        (.rg 0 [(none, .v 11 .mv [.s 0]), (none, .v 12 .mv [.s 3]), (none, .co 13 16 [.s 11, .s 12]), (none, .tk 3 13)])
        (.cl ks (.seq
          (.seq
            (.rg 0 [(none, .v 14 .mv [.s 3]), (none, .v 15 (.bin .lss) [.s 14, .k (.i 0)])])
            (.cond (.s 15)
              (.seq
                (.rg 0 [(none, .v 2 .mv [.k (.b true)])])
                .ret)
              .skip))
          (.cl ks (.seq
            (.rg 0 [(none, .v 16 .mv [.s 0]), (none, .co 17 18 [.s 16]), (none, .co 18 42 [.s 17]), (none, .tk 4 18)])
            (.cl ks (.seq
              (.rg 0 [(none, .v 19 .mv [.s 0]), (none, .co 20 18 [.s 19]), (none, .tk 5 20)])
              (.cl ks (.seq
                (.rg 0 [(none, .v 21 .mv [.s 5]), (none, .co 22 43 [.s 21]), (none, .tk 6 22)])
                (.cl ks (.seq
                  (.seq
                    (.rg 0 [(none, .v 23 .mv [.s 6]), (none, .v 24 .mv [.s 4]), (none, .co 25 20 [.s 23, .s 24]), (none, .v 26 .not [.s 25])])
                    (.cond (.s 26)
                      (.seq
                        (.rg 0 [(none, .v 2 .mv [.k (.b false)])])
                        .ret)
                      .skip))
                  (.cl ks (.seq
                    (.seq
                      (.rg 0 [(none, .v 27 .mv [.s 5]), (none, .v 28 .mv [.s 0]), (none, .co 29 18 [.s 28]), (none, .co 30 20 [.s 27, .s 29]), (none, .v 31 .not [.s 30])])
                      (.cond (.s 31)
                        (.seq
                          (.rg 0 [(none, .v 2 .mv [.k (.b false)])])
                          .ret)
                        .skip))
                    (.cl ks (.seq
                      (.rg 0 [(none, .v 7 .mv [.k (.i 1)])])
                      (.cl ks (.seq
                        (.rg 0 [(none, .v 32 .mv [.s 5]), (none, .v 33 .mv [.s 7]), (none, .cox (some 34) 31 [.s 32, .s 33] 0), (none, .tk 7 34)])
                        (.cl ks (.seq
                          (.seq
                            (.rg 0 [(none, .v 35 .mv [.s 7]), (none, .v 36 (.bin .lss) [.s 35, .k (.i 0)]), (none, .v 37 .mv [.s 36]), (some (37, false), .v 38 .mv [.s 6]), (some (37, false), .v 39 .mv [.s 4]), (some (37, false), .co 40 20 [.s 38, .s 39]), (some (37, false), .v 41 .not [.s 40]), (none, .v 42 .pick [.s 37, .k (.b true), .s 41])])
                            (.cond (.s 42)
                              (.seq
                                (.rg 0 [(none, .v 2 .mv [.k (.b false)])])
                                .ret)
                              .skip))
                          (.cl ks (.seq
                            (.rg 0 [(none, .v 8 .mv [.k (.i 1)])])
                            (.cl ks (.seq
                              (.rg 0 [(none, .v 43 .mv [.s 6]), (none, .v 44 .mv [.s 8]), (none, .cox (some 45) 31 [.s 43, .s 44] 0), (none, .tk 8 45)])
                              (.cl ks (.seq
                                (.rg 0 [(none, .v 9 .mv [.k (.i 1)])])
                                (.cl ks (.seq
                                  (.rg 0 [(none, .v 46 .mv [.s 6]), (none, .v 47 .mv [.s 9]), (none, .co 48 44 [.s 46, .s 47]), (none, .tk 9 48)])
                                  (.cl ks (.seq
                                    (.seq
                                      (.rg 0 [(none, .v 49 .mv [.s 9]), (none, .v 50 (.bin .lss) [.s 49, .k (.i 0)])])
                                      (.cond (.s 50)
                                        (.seq
                                          (.rg 0 [(none, .v 2 .mv [.k (.b false)])])
                                          .ret)
                                        .skip))
                                    (.cl ks (.seq
                                      (.seq
                                        (.rg 0 [(none, .v 51 .mv [.s 9]), (none, .v 52 .mv [.s 8]), (none, .v 53 (.bin .neq) [.s 51, .s 52])])
                                        (.cond (.s 53)
                                          (.seq
                                            (.rg 0 [(none, .v 2 .mv [.k (.b false)])])
                                            .ret)
                                          .skip))
                                      (.cl ks (.seq
                                        (.rg 0 [(none, .v 54 .mv [.s 0]), (none, .co 55 18 [.s 54]), (none, .co 56 43 [.s 55]), (none, .tk 10 56)])
                                        (.cl ks (.seq
                                          (.seq
                                            (.rg 0 [(none, .v 57 .mv [.s 10]), (none, .v 58 .mv [.s 4]), (none, .co 59 20 [.s 57, .s 58]), (none, .v 60 .not [.s 59])])
                                            (.cond (.s 60)
                                              (.seq
                                                (.rg 0 [(none, .v 2 .mv [.k (.b false)])])
                                                .ret)
                                              .skip))
                                          (.cl ks (.seq
                                            (.rg 0 [(none, .v 9 .mv [.k (.i 1)])])
                                            (.cl ks (.seq
                                              (.rg 0 [(none, .v 61 .mv [.s 6]), (none, .v 62 .mv [.s 9]), (none, .co 63 44 [.s 61, .s 62]), (none, .tk 9 63)])
                                              (.cl ks (.seq
                                                (.seq
                                                  (.rg 0 [(none, .v 64 .mv [.s 9]), (none, .v 65 (.bin .lss) [.s 64, .k (.i 0)])])
                                                  (.cond (.s 65)
                                                    (.seq
                                                      (.rg 0 [(none, .v 2 .mv [.k (.b false)])])
                                                      .ret)
                                                    .skip))
                                                (.cl ks (.seq
                                                  (.seq
                                                    (.rg 0 [(none, .v 66 .mv [.s 9]), (none, .v 67 .mv [.s 8]), (none, .v 68 (.bin .neq) [.s 66, .s 67])])
                                                    (.cond (.s 68)
                                                      (.seq
                                                        (.rg 0 [(none, .v 2 .mv [.k (.b false)])])
                                                        .ret)
                                                      .skip))
                                                  (.cl ks (.seq
                                                    (.rg 0 [(none, .v 2 .mv [.k (.b true)])])
                                                    .ret)))))))))))))))))))))))))))))))))))))))))))))))))

theorem chk_laws_FnExactTopCycles : ∃ b, Try.f12.body = some b ∧ chk Try.prog Try.f12.ntmps true C_laws_FnExactTopCycles b = true := ⟨_, rfl, by kernel_rfl⟩
theorem FnExactTopCycles_ok (x0 : List (List Int)) (a0 : x0.length ≤ 9223372036854775807) (b0 : ∀ r ∈ x0, r.length ≤ 9223372036854775807) :
    CallOk Try.prog 12 [.s none (rr x0)] [(0, .b true)] := by
  obtain ⟨code0, hcd1, hcd2⟩ := chk_laws_FnExactTopCycles; refine callOk_of Try.func12 hcd1 mo Try.call12 (rs := [2]) (by kernel_rfl) hcd2 (by rw [Try.ntmps12]; simp) (by simp) (by decide) ?_; unfold C_laws_FnExactTopCycles K_laws_FnExactTopCycles; simp (config := { maxSteps := 2000000 }) only [go_sem, Nat.reduceBEq, Nat.reduceAdd, Nat.reduceMul, Nat.reduceMod, Nat.reduceLT, Nat.reduceDiv, Nat.reduceSub, Nat.reduceLeDiff, Int.reduceToNat, Int.reduceLT, Int.reduceLE, reduceCtorEq, List.take_nil, List.drop_nil]
  refine ⟨_, szIntSS_ok none x0 _ (by omega) (by omega) a0 b0, ?_⟩; simp (config := { maxSteps := 2000000 }) only [go_sem, Nat.reduceBEq, Nat.reduceAdd, Nat.reduceMul, Nat.reduceMod, Nat.reduceLT, Nat.reduceDiv, Nat.reduceSub, Nat.reduceLeDiff, Int.reduceToNat, Int.reduceLT, Int.reduceLE, reduceCtorEq, List.take_nil, List.drop_nil]
  refine ⟨fun _ => trivial, fun c0 => ?_⟩
  obtain ⟨h0, k0⟩ := szII_ok (by omega) c0
  have t0 : (tot x0 : Int) ≤ 1048576 := Int.le_trans (szII_tot c0) (by omega)
  obtain ⟨l0r, m0r, t0r⟩ : (topsF x0).length ≤ 1048576 ∧ (∀ r ∈ (topsF x0), r.length ≤ 1048576) ∧ tot (topsF x0) ≤ 1048576 := tops_len
  refine ⟨_, toIntSS_ok none x0 h0 k0, ?_⟩; simp (config := { maxSteps := 2000000 }) only [go_sem, Nat.reduceBEq, Nat.reduceAdd, Nat.reduceMul, Nat.reduceMod, Nat.reduceLT, Nat.reduceDiv, Nat.reduceSub, Nat.reduceLeDiff, Int.reduceToNat, Int.reduceLT, Int.reduceLE, reduceCtorEq, List.take_nil, List.drop_nil]
  refine ⟨_, spec_TopCycles_ok x0 h0 k0, ?_⟩; simp (config := { maxSteps := 2000000 }) only [go_sem, Nat.reduceBEq, Nat.reduceAdd, Nat.reduceMul, Nat.reduceMod, Nat.reduceLT, Nat.reduceDiv, Nat.reduceSub, Nat.reduceLeDiff, Int.reduceToNat, Int.reduceLT, Int.reduceLE, reduceCtorEq, List.take_nil, List.drop_nil]
  refine ⟨_, toIntSS_ok none x0 h0 k0, ?_⟩; simp (config := { maxSteps := 2000000 }) only [go_sem, Nat.reduceBEq, Nat.reduceAdd, Nat.reduceMul, Nat.reduceMod, Nat.reduceLT, Nat.reduceDiv, Nat.reduceSub, Nat.reduceLeDiff, Int.reduceToNat, Int.reduceLT, Int.reduceLE, reduceCtorEq, List.take_nil, List.drop_nil]
  refine ⟨_, impl_TopCycles_ok x0 h0 k0, ?_⟩; simp (config := { maxSteps := 2000000 }) only [go_sem, Nat.reduceBEq, Nat.reduceAdd, Nat.reduceMul, Nat.reduceMod, Nat.reduceLT, Nat.reduceDiv, Nat.reduceSub, Nat.reduceLeDiff, Int.reduceToNat, Int.reduceLT, Int.reduceLE, reduceCtorEq, List.take_nil, List.drop_nil]
  refine ⟨_, eqIntSS_ok none none (topsF x0) (topsF x0) l0r m0r, ?_⟩; simp (config := { maxSteps := 2000000 }) only [go_sem, Nat.reduceBEq, Nat.reduceAdd, Nat.reduceMul, Nat.reduceMod, Nat.reduceLT, Nat.reduceDiv, Nat.reduceSub, Nat.reduceLeDiff, Int.reduceToNat, Int.reduceLT, Int.reduceLE, reduceCtorEq, List.take_nil, List.drop_nil]
  try (first | (refine ⟨fun h => ?_, fun _ => ?_⟩; focus (simp at h; done)) | (refine ⟨fun h => ?_, fun _ => ?_⟩; focus omega) | (refine ⟨fun h => ?_, ?_⟩; focus (exact absurd trivial h)) | (refine ⟨fun _ => ?_, fun h => ?_⟩; rotate_left; focus omega))
  refine ⟨_, toIntSS_ok none x0 h0 k0, ?_⟩; simp (config := { maxSteps := 2000000 }) only [go_sem, Nat.reduceBEq, Nat.reduceAdd, Nat.reduceMul, Nat.reduceMod, Nat.reduceLT, Nat.reduceDiv, Nat.reduceSub, Nat.reduceLeDiff, Int.reduceToNat, Int.reduceLT, Int.reduceLE, reduceCtorEq, List.take_nil, List.drop_nil]
  refine ⟨_, eqIntSS_ok _ _ x0 x0 h0 k0, ?_⟩; simp (config := { maxSteps := 2000000 }) only [go_sem, Nat.reduceBEq, Nat.reduceAdd, Nat.reduceMul, Nat.reduceMod, Nat.reduceLT, Nat.reduceDiv, Nat.reduceSub, Nat.reduceLeDiff, Int.reduceToNat, Int.reduceLT, Int.reduceLE, reduceCtorEq, List.take_nil, List.drop_nil]
  try (first | (refine ⟨fun h => ?_, fun _ => ?_⟩; focus (simp at h; done)) | (refine ⟨fun h => ?_, fun _ => ?_⟩; focus omega) | (refine ⟨fun h => ?_, ?_⟩; focus (exact absurd trivial h)) | (refine ⟨fun _ => ?_, fun h => ?_⟩; rotate_left; focus omega))
  refine ⟨_, _, _, markIntSS_ok _ x0 _ (by omega) (by omega) h0 k0, ?_⟩; simp (config := { maxSteps := 2000000 }) only [go_sem, Nat.reduceBEq, Nat.reduceAdd, Nat.reduceMul, Nat.reduceMod, Nat.reduceLT, Nat.reduceDiv, Nat.reduceSub, Nat.reduceLeDiff, Int.reduceToNat, Int.reduceLT, Int.reduceLE, reduceCtorEq, List.take_nil, List.drop_nil]
  try (first | (refine ⟨fun h => ?_, fun _ => ?_⟩; focus (simp at h; done)) | (refine ⟨fun h => ?_, fun _ => ?_⟩; focus omega) | (refine ⟨fun h => ?_, ?_⟩; focus (exact absurd trivial h)) | (refine ⟨fun _ => ?_, fun h => ?_⟩; rotate_left; focus omega))
  refine ⟨_, eqIntSS_ok none none (topsF x0) (topsF x0) l0r m0r, ?_⟩; simp (config := { maxSteps := 2000000 }) only [go_sem, Nat.reduceBEq, Nat.reduceAdd, Nat.reduceMul, Nat.reduceMod, Nat.reduceLT, Nat.reduceDiv, Nat.reduceSub, Nat.reduceLeDiff, Int.reduceToNat, Int.reduceLT, Int.reduceLE, reduceCtorEq, List.take_nil, List.drop_nil]
  try (first | (refine ⟨fun h => ?_, fun _ => ?_⟩; focus (simp at h; done)) | (refine ⟨fun h => ?_, fun _ => ?_⟩; focus omega) | (refine ⟨fun h => ?_, ?_⟩; focus (exact absurd trivial h)) | (refine ⟨fun _ => ?_, fun h => ?_⟩; rotate_left; focus omega))
  refine ⟨_, _, _, markIntSS_ok _ (topsF x0) _ (by omega) (by omega) l0r m0r, ?_⟩; simp (config := { maxSteps := 2000000 }) only [go_sem, Nat.reduceBEq, Nat.reduceAdd, Nat.reduceMul, Nat.reduceMod, Nat.reduceLT, Nat.reduceDiv, Nat.reduceSub, Nat.reduceLeDiff, Int.reduceToNat, Int.reduceLT, Int.reduceLE, reduceCtorEq, List.take_nil, List.drop_nil]
  refine ⟨_, heldIntSS_ok none (topsF x0) _ (by omega) (by omega) l0r m0r, ?_⟩; simp (config := { maxSteps := 2000000 }) only [go_sem, Nat.reduceBEq, Nat.reduceAdd, Nat.reduceMul, Nat.reduceMod, Nat.reduceLT, Nat.reduceDiv, Nat.reduceSub, Nat.reduceLeDiff, Int.reduceToNat, Int.reduceLT, Int.reduceLE, reduceCtorEq, List.take_nil, List.drop_nil]
  try (first | (refine ⟨fun h => ?_, fun _ => ?_⟩; focus (simp at h; done)) | (refine ⟨fun h => ?_, fun _ => ?_⟩; focus omega) | (refine ⟨fun h => ?_, ?_⟩; focus (exact absurd trivial h)) | (refine ⟨fun _ => ?_, fun h => ?_⟩; rotate_left; focus omega))
  try (first | (refine ⟨fun h => ?_, fun _ => ?_⟩; focus (simp at h; done)) | (refine ⟨fun h => ?_, fun _ => ?_⟩; focus omega) | (refine ⟨fun h => ?_, ?_⟩; focus (exact absurd trivial h)) | (refine ⟨fun _ => ?_, fun h => ?_⟩; rotate_left; focus omega))
  refine ⟨_, toIntSS_ok none x0 h0 k0, ?_⟩; simp (config := { maxSteps := 2000000 }) only [go_sem, Nat.reduceBEq, Nat.reduceAdd, Nat.reduceMul, Nat.reduceMod, Nat.reduceLT, Nat.reduceDiv, Nat.reduceSub, Nat.reduceLeDiff, Int.reduceToNat, Int.reduceLT, Int.reduceLE, reduceCtorEq, List.take_nil, List.drop_nil]
  refine ⟨_, impl_TopCycles_ok x0 h0 k0, ?_⟩; simp (config := { maxSteps := 2000000 }) only [go_sem, Nat.reduceBEq, Nat.reduceAdd, Nat.reduceMul, Nat.reduceMod, Nat.reduceLT, Nat.reduceDiv, Nat.reduceSub, Nat.reduceLeDiff, Int.reduceToNat, Int.reduceLT, Int.reduceLE, reduceCtorEq, List.take_nil, List.drop_nil]
  refine ⟨_, eqIntSS_ok none none (topsF x0) (topsF x0) l0r m0r, ?_⟩; simp (config := { maxSteps := 2000000 }) only [go_sem, Nat.reduceBEq, Nat.reduceAdd, Nat.reduceMul, Nat.reduceMod, Nat.reduceLT, Nat.reduceDiv, Nat.reduceSub, Nat.reduceLeDiff, Int.reduceToNat, Int.reduceLT, Int.reduceLE, reduceCtorEq, List.take_nil, List.drop_nil]
  try (first | (refine ⟨fun h => ?_, fun _ => ?_⟩; focus (simp at h; done)) | (refine ⟨fun h => ?_, fun _ => ?_⟩; focus omega) | (refine ⟨fun h => ?_, ?_⟩; focus (exact absurd trivial h)) | (refine ⟨fun _ => ?_, fun h => ?_⟩; rotate_left; focus omega))
  refine ⟨_, heldIntSS_ok none (topsF x0) _ (by omega) (by omega) l0r m0r, ?_⟩; simp (config := { maxSteps := 2000000 }) only [go_sem, Nat.reduceBEq, Nat.reduceAdd, Nat.reduceMul, Nat.reduceMod, Nat.reduceLT, Nat.reduceDiv, Nat.reduceSub, Nat.reduceLeDiff, Int.reduceToNat, Int.reduceLT, Int.reduceLE, reduceCtorEq, List.take_nil, List.drop_nil]
  first | exact ⟨fun h => by omega, fun _ h => absurd trivial h⟩ | trivial
theorem FnExactTopCycles_lifted (os : Os) (started : os.Started) (H : Type) (enc : TypeId × Value → H) :
    ReturnsInHanded {} Try.checked os 12 .any (Rows.fnExactTopCyclesSpec.pre6 enc Try.prog Try.f12 Rows.fnExactTopCyclesRow.domain false) (Rows.fnExactTopCyclesSpec.post enc Try.prog Try.f12 false true false false) := by
  refine returnsInHanded_of_change (C := Try.checked) ownk started (by as_aux_lemma => kernel_rfl) Try.func12
    (ChangeSpec.witness6 (enc := enc) (C := Try.checked) false ⟨#[], #[.slice none 0 0], []⟩ 8 (by kernel_rfl) (by kernel_rfl) (by kernel_rfl) (by kernel_rfl)) ?_
  intro W base args ds gs before hval0 hW _ _
  have hval : ∀ (j : Nat) t v, Try.f12.params[j]? = some t → args[j]? = some v → Value.okWide Try.prog W .any base t v := hval0
  have hW' := hW
  obtain ⟨p, q, hA0, _⟩ := hW
  have hA : DataW.TrodAll enc Try.prog W 0 (fun _ => true) true Try.f12.params.toList args.toList ds p := hA0
  rw [Try.params12] at hA hval
  clear hA0 hval0
  obtain ⟨v0, d0, rfl, rfl, h0⟩ := trodAll_one hA
  obtain ⟨x0, a0, b0, f0⟩ := fz_rows Try.underlying22 Try.underlying27 Try.underlying3 (by kernel_rfl : Try.prog.cellsOf 27 = 1) (by kernel_rfl : Try.prog.cellsOf 3 = 1) (hval 0 22 v0 rfl rfl) h0
  exact law_post (P := Try.prog) pfacts.laid (fun t ht => by rw [Try.params12] at ht; revert t; simp only [List.mem_cons, List.not_mem_nil, or_false, forall_eq_or_imp, forall_eq]; exact ⟨by kernel_rfl, of_decide_eq_true (by kernel_rfl)⟩) rfl (by kernel_rfl) rfl (fun ds hds => by
    have hds : ds.length = 1 := hds
    match ds, hds with
    | [d0], _ => rfl) hW' (ts := [.s none (rr x0)]) (by simp only [FzL]; exact ⟨_, _, rfl, f0, rfl⟩) (FnExactTopCycles_ok x0 a0 b0)
theorem FnExactTopCycles_holds : Rows.FnExactTopCyclesSaid :=
  OpenClaim.holds_of_wide (p := Try.pinned) (s := Rows.fnExactTopCyclesSpec) (c := Rows.fnExactTopCyclesRow) 12 Try.f12 rfl rfl rfl rfl rfl rfl rfl ⟨rfl, rfl, rfl, rfl, rfl⟩ rfl rfl rfl rfl rfl (by as_aux_lemma => kernel_rfl) Try.func12 (joined_of pfacts rfl rfl rfl (by as_aux_lemma => kernel_rfl) (by as_aux_lemma => kernel_rfl) (by as_aux_lemma => kernel_rfl) (by as_aux_lemma => kernel_rfl) (by as_aux_lemma => kernel_rfl) (by as_aux_lemma => kernel_rfl) (by as_aux_lemma => kernel_rfl) (by as_aux_lemma => kernel_rfl) (by as_aux_lemma => kernel_rfl) (by as_aux_lemma => kernel_rfl) (by as_aux_lemma => kernel_rfl) (by as_aux_lemma => kernel_rfl) (by as_aux_lemma => kernel_rfl) (by as_aux_lemma => kernel_rfl) (by as_aux_lemma => kernel_rfl) (by as_aux_lemma => kernel_rfl) (by as_aux_lemma => kernel_rfl) (by as_aux_lemma => kernel_rfl) (by as_aux_lemma => kernel_rfl) (by as_aux_lemma => kernel_rfl) (by as_aux_lemma => kernel_rfl) (by as_aux_lemma => kernel_rfl) (by as_aux_lemma => kernel_rfl))
    (of_decide_eq_true (by kernel_rfl)) (by unfold Func.isWrapper; rw [if_neg (of_decide_eq_false (by kernel_rfl))]; exact ⟨rfl, rfl⟩)
    (fun os started H enc _ => FnExactTopCycles_lifted os started H enc)

end Go.Proofs.Ytkkhikpbnjbalaa
