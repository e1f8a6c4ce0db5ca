/- At every input the law below returns true and leaves its arguments alone: RotationChain of the program returns what that of the reference returns, in memory of its own. No condition. -/
import Derived.Test.YtolofcljdcnmkaaRows
import Derived.Test.YtolofcljdcnmkaaChain
import Derived.Test.YtolofcljdcnmkaaFacts
import Derived.Test.YtolofcljdcnmkaaMarks
namespace Go.Proofs.Ytolofcljdcnmkaa
open Go Go.Vc
set_option maxRecDepth 100000
set_option linter.unusedSimpArgs false
set_option linter.unusedVariables false
open Go.ChangeShapes Go.WideShapes Go.RowKit
theorem tot_le {A : List (List Int)} {B : Nat} (h : ∀ r ∈ A, r.length ≤ B) : tot A ≤ B * A.length := by
  induction A with
  | nil => simp [tot]
  | cons r A ih =>
    have h1 := ih fun q hq => h q (List.mem_cons_of_mem _ hq)
    have h2 := h r List.mem_cons_self
    simp only [tot, List.map_cons, List.sum_cons, List.length_cons, Nat.mul_succ] at h1 ⊢; omega
theorem chainF_bd {x y : List (List Int)} : (chainF x y).length ≤ 1048576 ∧ (∀ r ∈ chainF x y, r.length ≤ 1048576) ∧ tot (chainF x y) ≤ 1048576 := by
  have h := chain_bd (x := x) (y := y)
  have h3 := tot_le h.2
  exact ⟨by omega, fun r hr => by have := h.2 r hr; omega, by omega⟩
def K_laws_FnExactRotationChain : List Nat := [0, 1, 2, 3, 4, 5, 6, 7, 8, 9, 10, 1001, 2001, 1005, 2005]
def C_laws_FnExactRotationChain : C :=
  let ks := K_laws_FnExactRotationChain
  (.seq
    (.rg 0 [(none, .v 1 .boxS [.s 0]), (none, .v 2 .mv [.k (.b false)])])
    (.cl ks (.seq
      (.rg 0 [(none, .v 3 .mv [.k (.i 1048576)])])
      (.cl ks (.seq
        (.rg 0 [(none, .v 11 (.lds 2) [.s 1]), (none, .v 12 .mv [.s 3]), (none, .co 13 6 [.s 11, .s 12]), (none, .tk 3 13)])
        (.cl ks (.seq
          (.seq
            (.rg 0 [(none, .v 14 .mv [.s 3]), (none, .v 15 (.bin .lss) [.s 14, .k (.i 0)])])
            (.cond (.s 15)
              (.seq
                (.rg 0 [(none, .v 2 .mv [.k (.b true)])])
                .ret)
              .skip))
          (.cl ks (.seq
            (.rg 0 [(none, .v 16 (.lds 2) [.s 1]), (none, .co 17 8 [.s 16]), (none, .co 18 7 [.s 17]), (none, .tk 4 18)])
            (.cl ks (.seq
              (.rg 0 [(none, .v 19 (.lds 2) [.s 1]), (none, .co 20 8 [.s 19]), (none, .new 5 [.s (some true) [], .s (some true) []]), (none, .sts (.s 5) (.s 20) 2)])
              (.cl ks (.seq
                (.rg 0 [(none, .v 21 (.lds 2) [.s 5]), (none, .co 22 9 [.s 21]), (none, .tk 6 22)])
                (.cl ks (.seq
                  (.seq
                    (.rg 0 [(none, .v 23 .mv [.s 6]), (none, .v 24 .mv [.s 4]), (none, .co 25 10 [.s 23, .s 24]), (none, .v 26 .not [.s 25])])
                    (.cond (.s 26)
                      (.seq
                        (.rg 0 [(none, .v 2 .mv [.k (.b false)])])
                        .ret)
                      .skip))
                  (.cl ks (.seq
                    (.seq
                      (.rg 3 [(none, .v 27 (.lds 2) [.s 5]), (none, .v 28 (.lds 2) [.s 1]), (none, .v 29 (.call 8) [.s 28]), (none, .co 30 11 [.s 27, .s 29]), (none, .v 31 .not [.s 30])])
                      (.cond (.s 31)
                        (.seq
                          (.rg 0 [(none, .v 2 .mv [.k (.b false)])])
                          .ret)
                        .skip))
                    (.cl ks (.seq
                      (.rg 0 [(none, .v 7 .mv [.k (.i 1)])])
                      (.cl ks (.seq
                        (.rg 0 [(none, .v 32 (.lds 2) [.s 5]), (none, .v 33 .mv [.s 7]), (none, .coa (some 34) 12 [.s 32, .s 33] 0), (none, .tk 7 34)])
                        (.cl ks (.seq
                          (.seq
                            (.rg 0 [(none, .v 35 .mv [.s 7]), (none, .v 36 (.bin .lss) [.s 35, .k (.i 0)]), (none, .v 37 .mv [.s 36]), (some (37, false), .v 38 .mv [.s 6]), (some (37, false), .v 39 .mv [.s 4]), (some (37, false), .co 40 10 [.s 38, .s 39]), (some (37, false), .v 41 .not [.s 40]), (none, .v 42 .pick [.s 37, .k (.b true), .s 41])])
                            (.cond (.s 42)
                              (.seq
                                (.rg 0 [(none, .v 2 .mv [.k (.b false)])])
                                .ret)
                              .skip))
                          (.cl ks (.seq
                            (.rg 0 [(none, .v 8 .mv [.k (.i 1)])])
                            (.cl ks (.seq
                              (.rg 0 [(none, .v 43 .mv [.s 6]), (none, .v 44 .mv [.s 8]), (none, .cox (some 45) 13 [.s 43, .s 44] 0), (none, .tk 8 45)])
                              (.cl ks (.seq
                                (.rg 0 [(none, .v 9 .mv [.k (.i 1)])])
                                (.cl ks (.seq
                                  (.rg 0 [(none, .v 46 .mv [.s 6]), (none, .v 47 .mv [.s 9]), (none, .co 48 14 [.s 46, .s 47]), (none, .tk 9 48)])
                                  (.cl ks (.seq
                                    (.seq
                                      (.rg 0 [(none, .v 49 .mv [.s 9]), (none, .v 50 (.bin .lss) [.s 49, .k (.i 0)])])
                                      (.cond (.s 50)
                                        (.seq
                                          (.rg 0 [(none, .v 2 .mv [.k (.b false)])])
                                          .ret)
                                        .skip))
                                    (.cl ks (.seq
                                      (.seq
                                        (.rg 0 [(none, .v 51 .mv [.s 9]), (none, .v 52 .mv [.s 8]), (none, .v 53 (.bin .neq) [.s 51, .s 52])])
                                        (.cond (.s 53)
                                          (.seq
                                            (.rg 0 [(none, .v 2 .mv [.k (.b false)])])
                                            .ret)
                                          .skip))
                                      (.cl ks (.seq
                                        (.rg 0 [(none, .v 54 (.lds 2) [.s 1]), (none, .co 55 8 [.s 54]), (none, .co 56 9 [.s 55]), (none, .tk 10 56)])
                                        (.cl ks (.seq
                                          (.seq
                                            (.rg 0 [(none, .v 57 .mv [.s 10]), (none, .v 58 .mv [.s 4]), (none, .co 59 10 [.s 57, .s 58]), (none, .v 60 .not [.s 59])])
                                            (.cond (.s 60)
                                              (.seq
                                                (.rg 0 [(none, .v 2 .mv [.k (.b false)])])
                                                .ret)
                                              .skip))
                                          (.cl ks (.seq
                                            (.rg 0 [(none, .v 9 .mv [.k (.i 1)])])
                                            (.cl ks (.seq
                                              (.rg 0 [(none, .v 61 .mv [.s 6]), (none, .v 62 .mv [.s 9]), (none, .co 63 14 [.s 61, .s 62]), (none, .tk 9 63)])
                                              (.cl ks (.seq
                                                (.seq
                                                  (.rg 0 [(none, .v 64 .mv [.s 9]), (none, .v 65 (.bin .lss) [.s 64, .k (.i 0)])])
                                                  (.cond (.s 65)
                                                    (.seq
                                                      (.rg 0 [(none, .v 2 .mv [.k (.b false)])])
                                                      .ret)
                                                    .skip))
                                                (.cl ks (.seq
                                                  (.seq
                                                    (.rg 0 [(none, .v 66 .mv [.s 9]), (none, .v 67 .mv [.s 8]), (none, .v 68 (.bin .neq) [.s 66, .s 67])])
                                                    (.cond (.s 68)
                                                      (.seq
                                                        (.rg 0 [(none, .v 2 .mv [.k (.b false)])])
                                                        .ret)
                                                      .skip))
                                                  (.cl ks (.seq
                                                    (.rg 0 [(none, .v 2 .mv [.k (.b true)])])
                                                    .ret)))))))))))))))))))))))))))))))))))))))))))))))))

theorem chk_laws_FnExactRotationChain : ∃ b, Try.f3.body = some b ∧ chk Try.prog Try.f3.ntmps true C_laws_FnExactRotationChain b = true := ⟨_, rfl, by kernel_rfl⟩
theorem FnExactRotationChain_ok (x0 y0 : List (List Int)) (a0 : x0.length ≤ 9223372036854775807) (b0 : ∀ r ∈ x0, r.length ≤ 9223372036854775807) (a0' : y0.length ≤ 9223372036854775807) (b0' : ∀ r ∈ y0, r.length ≤ 9223372036854775807) :
    CallOk Try.prog 3 [.a [.s none (rr x0), .s none (rr y0)]] [(0, .b true)] := by
  obtain ⟨code0, hcd1, hcd2⟩ := chk_laws_FnExactRotationChain; refine callOk_of Try.func3 hcd1 mo Try.call3 (rs := [2]) (by kernel_rfl) hcd2 (by rw [Try.ntmps3]; simp) (by simp) (by decide) ?_; unfold C_laws_FnExactRotationChain K_laws_FnExactRotationChain; simp (config := { maxSteps := 2000000 }) only [go_sem, Nat.reduceBEq, Nat.reduceAdd, Nat.reduceMul, Nat.reduceMod, Nat.reduceLT, Nat.reduceDiv, Nat.reduceSub, Nat.reduceLeDiff, Int.reduceToNat, Int.reduceLT, Int.reduceLE, reduceCtorEq, List.take_nil, List.drop_nil]
  refine ⟨_, szMarket_ok x0 y0 _ (by omega) (by omega) a0 b0 a0' b0', ?_⟩; simp (config := { maxSteps := 2000000 }) only [go_sem, Nat.reduceBEq, Nat.reduceAdd, Nat.reduceMul, Nat.reduceMod, Nat.reduceLT, Nat.reduceDiv, Nat.reduceSub, Nat.reduceLeDiff, Int.reduceToNat, Int.reduceLT, Int.reduceLE, reduceCtorEq, List.take_nil, List.drop_nil]
  refine ⟨fun _ => trivial, fun c0 => ?_⟩
  obtain ⟨c0', c0'', e0'⟩ := szM_ok (by omega) c0
  obtain ⟨h0, k0⟩ := szII_ok (by omega) c0'
  obtain ⟨h0', k0'⟩ := szII_ok e0' c0''
  have t0 : (tot x0 : Int) ≤ 1048576 := Int.le_trans (szII_tot c0') (by omega)
  have t0' : (tot y0 : Int) ≤ 1048576 := Int.le_trans (szII_tot c0'') e0'
  obtain ⟨l0r, m0r, t0r⟩ : (chainF x0 y0).length ≤ 1048576 ∧ (∀ r ∈ (chainF x0 y0), r.length ≤ 1048576) ∧ tot (chainF x0 y0) ≤ 1048576 := chainF_bd
  refine ⟨_, toMarket_ok x0 y0 h0 k0 h0' k0', ?_⟩; simp (config := { maxSteps := 2000000 }) only [go_sem, Nat.reduceBEq, Nat.reduceAdd, Nat.reduceMul, Nat.reduceMod, Nat.reduceLT, Nat.reduceDiv, Nat.reduceSub, Nat.reduceLeDiff, Int.reduceToNat, Int.reduceLT, Int.reduceLE, reduceCtorEq, List.take_nil, List.drop_nil]
  refine ⟨_, spec_RotationChain_ok x0 y0 h0 k0 h0' k0', ?_⟩; simp (config := { maxSteps := 2000000 }) only [go_sem, Nat.reduceBEq, Nat.reduceAdd, Nat.reduceMul, Nat.reduceMod, Nat.reduceLT, Nat.reduceDiv, Nat.reduceSub, Nat.reduceLeDiff, Int.reduceToNat, Int.reduceLT, Int.reduceLE, reduceCtorEq, List.take_nil, List.drop_nil]
  refine ⟨_, toMarket_ok x0 y0 h0 k0 h0' k0', ?_⟩; simp (config := { maxSteps := 2000000 }) only [go_sem, Nat.reduceBEq, Nat.reduceAdd, Nat.reduceMul, Nat.reduceMod, Nat.reduceLT, Nat.reduceDiv, Nat.reduceSub, Nat.reduceLeDiff, Int.reduceToNat, Int.reduceLT, Int.reduceLE, reduceCtorEq, List.take_nil, List.drop_nil]
  refine ⟨_, impl_RotationChain_ok x0 y0 h0 k0 h0' k0', ?_⟩; simp (config := { maxSteps := 2000000 }) only [go_sem, Nat.reduceBEq, Nat.reduceAdd, Nat.reduceMul, Nat.reduceMod, Nat.reduceLT, Nat.reduceDiv, Nat.reduceSub, Nat.reduceLeDiff, Int.reduceToNat, Int.reduceLT, Int.reduceLE, reduceCtorEq, List.take_nil, List.drop_nil]
  refine ⟨_, eqIntSS_ok none none (chainF x0 y0) (chainF x0 y0) l0r m0r, ?_⟩; simp (config := { maxSteps := 2000000 }) only [go_sem, Nat.reduceBEq, Nat.reduceAdd, Nat.reduceMul, Nat.reduceMod, Nat.reduceLT, Nat.reduceDiv, Nat.reduceSub, Nat.reduceLeDiff, Int.reduceToNat, Int.reduceLT, Int.reduceLE, reduceCtorEq, List.take_nil, List.drop_nil]
  try (first | (refine ⟨fun h => ?_, fun _ => ?_⟩; focus (simp at h; done)) | (refine ⟨fun h => ?_, fun _ => ?_⟩; focus omega) | (refine ⟨fun h => ?_, ?_⟩; focus (exact absurd trivial h)) | (refine ⟨fun _ => ?_, fun h => ?_⟩; rotate_left; focus omega))
  refine ⟨_, toMarket_ok x0 y0 h0 k0 h0' k0', ?_⟩; simp (config := { maxSteps := 2000000 }) only [go_sem, Nat.reduceBEq, Nat.reduceAdd, Nat.reduceMul, Nat.reduceMod, Nat.reduceLT, Nat.reduceDiv, Nat.reduceSub, Nat.reduceLeDiff, Int.reduceToNat, Int.reduceLT, Int.reduceLE, reduceCtorEq, List.take_nil, List.drop_nil]
  refine ⟨_, eqMarket_ok x0 y0 h0 k0 h0' k0', ?_⟩; simp (config := { maxSteps := 2000000 }) only [go_sem, Nat.reduceBEq, Nat.reduceAdd, Nat.reduceMul, Nat.reduceMod, Nat.reduceLT, Nat.reduceDiv, Nat.reduceSub, Nat.reduceLeDiff, Int.reduceToNat, Int.reduceLT, Int.reduceLE, reduceCtorEq, List.take_nil, List.drop_nil]
  try (first | (refine ⟨fun h => ?_, fun _ => ?_⟩; focus (simp at h; done)) | (refine ⟨fun h => ?_, fun _ => ?_⟩; focus omega) | (refine ⟨fun h => ?_, ?_⟩; focus (exact absurd trivial h)) | (refine ⟨fun _ => ?_, fun h => ?_⟩; rotate_left; focus omega))
  refine ⟨_, markMarket_ok x0 y0 _ (by omega) (by omega) h0 k0 h0' k0', ?_⟩; simp (config := { maxSteps := 2000000 }) only [go_sem, Nat.reduceBEq, Nat.reduceAdd, Nat.reduceMul, Nat.reduceMod, Nat.reduceLT, Nat.reduceDiv, Nat.reduceSub, Nat.reduceLeDiff, Int.reduceToNat, Int.reduceLT, Int.reduceLE, reduceCtorEq, List.take_nil, List.drop_nil]
  try (first | (refine ⟨fun h => ?_, fun _ => ?_⟩; focus (simp at h; done)) | (refine ⟨fun h => ?_, fun _ => ?_⟩; focus omega) | (refine ⟨fun h => ?_, ?_⟩; focus (exact absurd trivial h)) | (refine ⟨fun _ => ?_, fun h => ?_⟩; rotate_left; focus omega))
  refine ⟨_, eqIntSS_ok none none (chainF x0 y0) (chainF x0 y0) l0r m0r, ?_⟩; simp (config := { maxSteps := 2000000 }) only [go_sem, Nat.reduceBEq, Nat.reduceAdd, Nat.reduceMul, Nat.reduceMod, Nat.reduceLT, Nat.reduceDiv, Nat.reduceSub, Nat.reduceLeDiff, Int.reduceToNat, Int.reduceLT, Int.reduceLE, reduceCtorEq, List.take_nil, List.drop_nil]
  try (first | (refine ⟨fun h => ?_, fun _ => ?_⟩; focus (simp at h; done)) | (refine ⟨fun h => ?_, fun _ => ?_⟩; focus omega) | (refine ⟨fun h => ?_, ?_⟩; focus (exact absurd trivial h)) | (refine ⟨fun _ => ?_, fun h => ?_⟩; rotate_left; focus omega))
  refine ⟨_, _, _, markIntSS_ok _ (chainF x0 y0) _ (by omega) (by omega) l0r m0r, ?_⟩; simp (config := { maxSteps := 2000000 }) only [go_sem, Nat.reduceBEq, Nat.reduceAdd, Nat.reduceMul, Nat.reduceMod, Nat.reduceLT, Nat.reduceDiv, Nat.reduceSub, Nat.reduceLeDiff, Int.reduceToNat, Int.reduceLT, Int.reduceLE, reduceCtorEq, List.take_nil, List.drop_nil]
  refine ⟨_, heldIntSS_ok none (chainF x0 y0) _ (by omega) (by omega) l0r m0r, ?_⟩; simp (config := { maxSteps := 2000000 }) only [go_sem, Nat.reduceBEq, Nat.reduceAdd, Nat.reduceMul, Nat.reduceMod, Nat.reduceLT, Nat.reduceDiv, Nat.reduceSub, Nat.reduceLeDiff, Int.reduceToNat, Int.reduceLT, Int.reduceLE, reduceCtorEq, List.take_nil, List.drop_nil]
  try (first | (refine ⟨fun h => ?_, fun _ => ?_⟩; focus (simp at h; done)) | (refine ⟨fun h => ?_, fun _ => ?_⟩; focus omega) | (refine ⟨fun h => ?_, ?_⟩; focus (exact absurd trivial h)) | (refine ⟨fun _ => ?_, fun h => ?_⟩; rotate_left; focus omega))
  try (first | (refine ⟨fun h => ?_, fun _ => ?_⟩; focus (simp at h; done)) | (refine ⟨fun h => ?_, fun _ => ?_⟩; focus omega) | (refine ⟨fun h => ?_, ?_⟩; focus (exact absurd trivial h)) | (refine ⟨fun _ => ?_, fun h => ?_⟩; rotate_left; focus omega))
  refine ⟨_, toMarket_ok x0 y0 h0 k0 h0' k0', ?_⟩; simp (config := { maxSteps := 2000000 }) only [go_sem, Nat.reduceBEq, Nat.reduceAdd, Nat.reduceMul, Nat.reduceMod, Nat.reduceLT, Nat.reduceDiv, Nat.reduceSub, Nat.reduceLeDiff, Int.reduceToNat, Int.reduceLT, Int.reduceLE, reduceCtorEq, List.take_nil, List.drop_nil]
  refine ⟨_, impl_RotationChain_ok x0 y0 h0 k0 h0' k0', ?_⟩; simp (config := { maxSteps := 2000000 }) only [go_sem, Nat.reduceBEq, Nat.reduceAdd, Nat.reduceMul, Nat.reduceMod, Nat.reduceLT, Nat.reduceDiv, Nat.reduceSub, Nat.reduceLeDiff, Int.reduceToNat, Int.reduceLT, Int.reduceLE, reduceCtorEq, List.take_nil, List.drop_nil]
  refine ⟨_, eqIntSS_ok none none (chainF x0 y0) (chainF x0 y0) l0r m0r, ?_⟩; simp (config := { maxSteps := 2000000 }) only [go_sem, Nat.reduceBEq, Nat.reduceAdd, Nat.reduceMul, Nat.reduceMod, Nat.reduceLT, Nat.reduceDiv, Nat.reduceSub, Nat.reduceLeDiff, Int.reduceToNat, Int.reduceLT, Int.reduceLE, reduceCtorEq, List.take_nil, List.drop_nil]
  try (first | (refine ⟨fun h => ?_, fun _ => ?_⟩; focus (simp at h; done)) | (refine ⟨fun h => ?_, fun _ => ?_⟩; focus omega) | (refine ⟨fun h => ?_, ?_⟩; focus (exact absurd trivial h)) | (refine ⟨fun _ => ?_, fun h => ?_⟩; rotate_left; focus omega))
  refine ⟨_, heldIntSS_ok none (chainF x0 y0) _ (by omega) (by omega) l0r m0r, ?_⟩; simp (config := { maxSteps := 2000000 }) only [go_sem, Nat.reduceBEq, Nat.reduceAdd, Nat.reduceMul, Nat.reduceMod, Nat.reduceLT, Nat.reduceDiv, Nat.reduceSub, Nat.reduceLeDiff, Int.reduceToNat, Int.reduceLT, Int.reduceLE, reduceCtorEq, List.take_nil, List.drop_nil]
  first | exact ⟨fun h => by omega, fun _ h => absurd trivial h⟩ | trivial
theorem FnExactRotationChain_lifted (os : Os) (started : os.Started) (H : Type) (enc : TypeId × Value → H) :
    ReturnsInHanded {} Try.checked os 3 .any (Rows.fnExactRotationChainSpec.pre6 enc Try.prog Try.f3 Rows.fnExactRotationChainRow.domain false) (Rows.fnExactRotationChainSpec.post enc Try.prog Try.f3 false true false false) := by
  refine returnsInHanded_of_change (C := Try.checked) ownk started (by as_aux_lemma => kernel_rfl) Try.func3
    (ChangeSpec.witness6 (enc := enc) (C := Try.checked) false ⟨#[], #[.agg #[.slice none 0 0, .slice none 0 0]], []⟩ 8 (by kernel_rfl) (by kernel_rfl) (by kernel_rfl) (by kernel_rfl)) ?_
  intro W base args ds gs before hval0 hW _ _
  have hval : ∀ (j : Nat) t v, Try.f3.params[j]? = some t → args[j]? = some v → Value.okWide Try.prog W .any base t v := hval0
  have hW' := hW
  obtain ⟨p, q, hA0, _⟩ := hW
  have hA : DataW.TrodAll enc Try.prog W 0 (fun _ => true) true Try.f3.params.toList args.toList ds p := hA0
  rw [Try.params3] at hA hval
  clear hA0 hval0
  obtain ⟨v0, d0, rfl, rfl, h0⟩ := trodAll_one hA
  obtain ⟨x0, y0, a0, b0, a0', b0', f0⟩ := fz_rows2 Try.underlying24 (by kernel_rfl : Try.prog.cellsOf 24 = 2) rfl rfl (by kernel_rfl : Try.prog.cellsOf 22 = 1) (by kernel_rfl : Try.prog.cellsOf 22 = 1) Try.underlying22 Try.underlying22 Try.underlying36 Try.underlying3 (by kernel_rfl : Try.prog.cellsOf 36 = 1) (by kernel_rfl : Try.prog.cellsOf 3 = 1) (hval 0 24 v0 rfl rfl) h0
  exact law_post (P := Try.prog) pfacts.laid (fun t ht => by rw [Try.params3] at ht; revert t; simp only [List.mem_cons, List.not_mem_nil, or_false, forall_eq_or_imp, forall_eq]; exact ⟨by kernel_rfl, of_decide_eq_true (by kernel_rfl)⟩) rfl (by kernel_rfl) rfl (fun ds hds => by
    have hds : ds.length = 1 := hds
    match ds, hds with
    | [d0], _ => rfl) hW' (ts := [.a [.s none (rr x0), .s none (rr y0)]]) (by simp only [FzL]; exact ⟨_, _, rfl, f0, rfl⟩) (FnExactRotationChain_ok x0 y0 a0 b0 a0' b0')
theorem FnExactRotationChain_holds : Rows.FnExactRotationChainSaid :=
  OpenClaim.holds_of_wide (p := Try.pinned) (s := Rows.fnExactRotationChainSpec) (c := Rows.fnExactRotationChainRow) 3 Try.f3 rfl rfl rfl rfl rfl rfl rfl ⟨rfl, rfl, rfl, rfl, rfl⟩ rfl rfl rfl rfl rfl (by as_aux_lemma => kernel_rfl) Try.func3 (joined_of pfacts rfl rfl rfl (by as_aux_lemma => kernel_rfl) (by as_aux_lemma => kernel_rfl) (by as_aux_lemma => kernel_rfl) (by as_aux_lemma => kernel_rfl) (by as_aux_lemma => kernel_rfl) (by as_aux_lemma => kernel_rfl) (by as_aux_lemma => kernel_rfl) (by as_aux_lemma => kernel_rfl) (by as_aux_lemma => kernel_rfl) (by as_aux_lemma => kernel_rfl) (by as_aux_lemma => kernel_rfl) (by as_aux_lemma => kernel_rfl) (by as_aux_lemma => kernel_rfl) (by as_aux_lemma => kernel_rfl) (by as_aux_lemma => kernel_rfl) (by as_aux_lemma => kernel_rfl) (by as_aux_lemma => kernel_rfl) (by as_aux_lemma => kernel_rfl) (by as_aux_lemma => kernel_rfl) (by as_aux_lemma => kernel_rfl) (by as_aux_lemma => kernel_rfl) (by as_aux_lemma => kernel_rfl) (by as_aux_lemma => kernel_rfl))
    (of_decide_eq_true (by kernel_rfl)) (by unfold Func.isWrapper; rw [if_neg (of_decide_eq_false (by kernel_rfl))]; exact ⟨rfl, rfl⟩)
    (fun os started H enc _ => FnExactRotationChain_lifted os started H enc)

end Go.Proofs.Ytolofcljdcnmkaa
