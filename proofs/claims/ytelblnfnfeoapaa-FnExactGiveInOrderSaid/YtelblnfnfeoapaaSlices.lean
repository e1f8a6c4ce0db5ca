/- Own work: contracts of functions that the claim reaches. No condition beyond those that each theorem names. -/
import Derived.Test.YtelblnfnfeoapaaProg
import Derived.Test.YtelblnfnfeoapaaBase
namespace Go.Proofs.Ytelblnfnfeoapaa
open Go Go.Vc
set_option maxRecDepth 100000
set_option linter.unusedSimpArgs false
set_option linter.unusedVariables false
def K_slices_IndexFunc_Sint_int : List Nat := [0, 1, 4, 5, 7, 8]
def C_slices_IndexFunc_Sint_int : C :=
  let ks := K_slices_IndexFunc_Sint_int
  (.seq
    (.rg 0 [(none, .v 4 .mv [.k (.i 0)])])
    (.cl ks (.seq
      (.seq
        (.rg 0 [(none, .v 6 .mv [.s 0]), (none, .v 7 .len [.s 6]), (none, .v 8 .mv [.k (.i 0)])])
        (.cl ks (.block 0
          (.loop
            (.seq
              (.rg 0 [(none, .v 9 (.bin .lss) [.s 8, .s 7])])
              (.seq
                (.cond (.s 9)
                  .skip
                  (.exit 0))
                (.cl ks (.seq
                  (.block 1
                    (.seq
                      (.rg 0 [(none, .v 10 .mv [.s 8]), (none, .tk 5 10)])
                      (.cl ks (.seq
                        (.rg 0 [(none, .v 11 .mv [.s 1]), (none, .v 12 .mv [.s 0]), (none, .v 13 .mv [.s 5]), (none, .v 14 .idx [.s 12, .s 13]), (none, .v 15 .ld [.s 14]), (none, .coC 16 [.s 11, .s 15])])
                        (.cond (.s 16)
                          (.seq
                            (.rg 0 [(none, .v 17 .mv [.s 5]), (none, .tk 4 17)])
                            .ret)
                          .skip)))))
                  (.cl ks (.rg 0 [(none, .v 18 (.bin .add) [.s 8, .k (.i 1)]), (none, .v 8 .mv [.s 18])]))))))))))
      (.cl ks (.seq
        (.rg 0 [(none, .v 4 .mv [.k (.i (-1))])])
        .ret)))))

theorem chk_slices_IndexFunc_Sint_int : ∃ b, Try.f63.body = some b ∧ chk Try.prog Try.f63.ntmps true C_slices_IndexFunc_Sint_int b = true := ⟨_, rfl, by kernel_rfl⟩
def K_slices_ContainsFunc_Sint_int : List Nat := [0, 1, 4]
def C_slices_ContainsFunc_Sint_int : C :=
  let ks := K_slices_ContainsFunc_Sint_int
  (.seq
    (.rg 0 [(none, .v 4 .mv [.k (.b false)])])
    (.cl ks (.seq
      (.rg 0 [(none, .v 5 .mv [.s 0]), (none, .v 6 .mv [.s 1]), (none, .co 7 63 [.s 5, .s 6]), (none, .v 8 (.bin .geq) [.s 7, .k (.i 0)]), (none, .tk 4 8)])
      .ret)))

theorem chk_slices_ContainsFunc_Sint_int : ∃ b, Try.f66.body = some b ∧ chk Try.prog Try.f66.ntmps true C_slices_ContainsFunc_Sint_int b = true := ⟨_, rfl, by kernel_rfl⟩
def K_slices_IndexFunc_SSint_Sint : List Nat := [0, 1, 4, 5, 7, 8]
def C_slices_IndexFunc_SSint_Sint : C :=
  let ks := K_slices_IndexFunc_SSint_Sint
  (.seq
    (.rg 0 [(none, .v 4 .mv [.k (.i 0)])])
    (.cl ks (.seq
      (.seq
        (.rg 0 [(none, .v 6 .mv [.s 0]), (none, .v 7 .len [.s 6]), (none, .v 8 .mv [.k (.i 0)])])
        (.cl ks (.block 0
          (.loop
            (.seq
              (.rg 0 [(none, .v 9 (.bin .lss) [.s 8, .s 7])])
              (.seq
                (.cond (.s 9)
                  .skip
                  (.exit 0))
                (.cl ks (.seq
                  (.block 1
                    (.seq
                      (.rg 0 [(none, .v 10 .mv [.s 8]), (none, .tk 5 10)])
                      (.cl ks (.seq
                        (.rg 0 [(none, .v 11 .mv [.s 1]), (none, .v 12 .mv [.s 0]), (none, .v 13 .mv [.s 5]), (none, .v 14 .idx [.s 12, .s 13]), (none, .v 15 .ld [.s 14]), (none, .coC 16 [.s 11, .s 15])])
                        (.cond (.s 16)
                          (.seq
                            (.rg 0 [(none, .v 17 .mv [.s 5]), (none, .tk 4 17)])
                            .ret)
                          .skip)))))
                  (.cl ks (.rg 0 [(none, .v 18 (.bin .add) [.s 8, .k (.i 1)]), (none, .v 8 .mv [.s 18])]))))))))))
      (.cl ks (.seq
        (.rg 0 [(none, .v 4 .mv [.k (.i (-1))])])
        .ret)))))

theorem chk_slices_IndexFunc_SSint_Sint : ∃ b, Try.f100.body = some b ∧ chk Try.prog Try.f100.ntmps true C_slices_IndexFunc_SSint_Sint b = true := ⟨_, rfl, by kernel_rfl⟩
def K_slices_ContainsFunc_SSint_Sint : List Nat := [0, 1, 4]
def C_slices_ContainsFunc_SSint_Sint : C :=
  let ks := K_slices_ContainsFunc_SSint_Sint
  (.seq
    (.rg 0 [(none, .v 4 .mv [.k (.b false)])])
    (.cl ks (.seq
      (.rg 0 [(none, .v 5 .mv [.s 0]), (none, .v 6 .mv [.s 1]), (none, .co 7 100 [.s 5, .s 6]), (none, .v 8 (.bin .geq) [.s 7, .k (.i 0)]), (none, .tk 4 8)])
      .ret)))

theorem chk_slices_ContainsFunc_SSint_Sint : ∃ b, Try.f73.body = some b ∧ chk Try.prog Try.f73.ntmps true C_slices_ContainsFunc_SSint_Sint b = true := ⟨_, rfl, by kernel_rfl⟩
theorem IndexFuncI {nl : Option Bool} {xs : List Int} {f : Nat} {cp : List T} (p : Int → Bool) (h : ∀ x ∈ xs, CallOk Try.prog f (.i x :: cp) [(0, .b (p x))]) (hl : xs.length ≤ 1048576) :
    CallOk Try.prog 63 [.s nl (ii xs), .c f cp] [(0, .i (idxP p xs))] := by
  obtain ⟨code0, hcd1, hcd2⟩ := chk_slices_IndexFunc_Sint_int; refine callOk_of Try.func63 hcd1 mo Try.call63 (rs := [4]) (by kernel_rfl) hcd2 (by rw [Try.ntmps63]; simp) (by simp) (by decide) ?_; unfold C_slices_IndexFunc_Sint_int K_slices_IndexFunc_Sint_int; simp (config := { maxSteps := 2000000 }) only [go_sem, Nat.reduceBEq, Nat.reduceAdd, Nat.reduceMul, Nat.reduceMod, Nat.reduceLT, Nat.reduceDiv, Nat.reduceSub, Nat.reduceLeDiff, Int.reduceToNat, Int.reduceLT, Int.reduceLE, reduceCtorEq, List.take_nil, List.drop_nil]
  refine loopN xs.length (fun j => [(0, .t .arg (.s nl (ii xs))), (1, .t .arg (.c f cp)), (7, .i xs.length), (8, .i (j : Nat))]) (fun j => ∀ i, i < j → p (xs.getD i 0) = false) ⟨by simp, by simp (config := { maxSteps := 2000000 }) only [go_sem, Nat.reduceBEq, Nat.reduceAdd, Nat.reduceMul, Nat.reduceMod, Nat.reduceLT, Nat.reduceDiv, Nat.reduceSub, Nat.reduceLeDiff, Int.reduceToNat, Int.reduceLT, Int.reduceLE, reduceCtorEq, List.take_nil, List.drop_nil]; simp⟩ fun j hj hI => ?_
  simp (config := { maxSteps := 2000000 }) only [go_sem, Nat.reduceBEq, Nat.reduceAdd, Nat.reduceMul, Nat.reduceMod, Nat.reduceLT, Nat.reduceDiv, Nat.reduceSub, Nat.reduceLeDiff, Int.reduceToNat, Int.reduceLT, Int.reduceLE, reduceCtorEq, List.take_nil, List.drop_nil]
  refine ⟨fun hlt => ?_, fun hge => ?_⟩
  · have hj' : j < xs.length := by omega
    refine ⟨by omega, by omega, by omega, ?_⟩
    refine ⟨_, h _ (getD_mem hj'), ?_⟩
    simp (config := { maxSteps := 2000000 }) only [go_sem, Nat.reduceBEq, Nat.reduceAdd, Nat.reduceMul, Nat.reduceMod, Nat.reduceLT, Nat.reduceDiv, Nat.reduceSub, Nat.reduceLeDiff, Int.reduceToNat, Int.reduceLT, Int.reduceLE, reduceCtorEq, List.take_nil, List.drop_nil]
    refine ⟨fun hp => ?_, fun hp => ⟨inR_of (by omega) (by omega), hj', fun i hi => ?_, by simp⟩⟩
    · exact (idxP_hit hj' hp hI).symm
    · by_cases e : i = j
      · rw [e]; exact hp
      · exact hI i (by omega)
  · have : j = xs.length := by omega
    subst this
    exact (idxP_miss hI).symm
theorem ContainsFuncI {nl : Option Bool} {xs : List Int} {f : Nat} {cp : List T} (p : Int → Bool) (h : ∀ x ∈ xs, CallOk Try.prog f (.i x :: cp) [(0, .b (p x))]) (hl : xs.length ≤ 1048576) :
    CallOk Try.prog 66 [.s nl (ii xs), .c f cp] [(0, .b (xs.any p))] := by
  obtain ⟨code0, hcd1, hcd2⟩ := chk_slices_ContainsFunc_Sint_int; refine callOk_of Try.func66 hcd1 mo Try.call66 (rs := [4]) (by kernel_rfl) hcd2 (by rw [Try.ntmps66]; simp) (by simp) (by decide) ?_; unfold C_slices_ContainsFunc_Sint_int K_slices_ContainsFunc_Sint_int; simp (config := { maxSteps := 2000000 }) only [go_sem, Nat.reduceBEq, Nat.reduceAdd, Nat.reduceMul, Nat.reduceMod, Nat.reduceLT, Nat.reduceDiv, Nat.reduceSub, Nat.reduceLeDiff, Int.reduceToNat, Int.reduceLT, Int.reduceLE, reduceCtorEq, List.take_nil, List.drop_nil]
  refine ⟨_, IndexFuncI p h hl, ?_⟩; simp (config := { maxSteps := 2000000 }) only [go_sem, Nat.reduceBEq, Nat.reduceAdd, Nat.reduceMul, Nat.reduceMod, Nat.reduceLT, Nat.reduceDiv, Nat.reduceSub, Nat.reduceLeDiff, Int.reduceToNat, Int.reduceLT, Int.reduceLE, reduceCtorEq, List.take_nil, List.drop_nil]
  exact idxP_any
theorem IndexFuncR {nl : Option Bool} {xs : List (List Int)} {f : Nat} {cp : List T} (p : List Int → Bool) (h : ∀ x ∈ xs, CallOk Try.prog f (.s none (ii x) :: cp) [(0, .b (p x))]) (hl : xs.length ≤ 1048576) :
    CallOk Try.prog 100 [.s nl (rr xs), .c f cp] [(0, .i (idxP p xs))] := by
  obtain ⟨code0, hcd1, hcd2⟩ := chk_slices_IndexFunc_SSint_Sint; refine callOk_of Try.func100 hcd1 mo Try.call100 (rs := [4]) (by kernel_rfl) hcd2 (by rw [Try.ntmps100]; simp) (by simp) (by decide) ?_; unfold C_slices_IndexFunc_SSint_Sint K_slices_IndexFunc_SSint_Sint; simp (config := { maxSteps := 2000000 }) only [go_sem, Nat.reduceBEq, Nat.reduceAdd, Nat.reduceMul, Nat.reduceMod, Nat.reduceLT, Nat.reduceDiv, Nat.reduceSub, Nat.reduceLeDiff, Int.reduceToNat, Int.reduceLT, Int.reduceLE, reduceCtorEq, List.take_nil, List.drop_nil]
  refine loopN xs.length (fun j => [(0, .t .arg (.s nl (rr xs))), (1, .t .arg (.c f cp)), (7, .i xs.length), (8, .i (j : Nat))]) (fun j => ∀ i, i < j → p (xs.getD i []) = false) ⟨by simp, by simp (config := { maxSteps := 2000000 }) only [go_sem, Nat.reduceBEq, Nat.reduceAdd, Nat.reduceMul, Nat.reduceMod, Nat.reduceLT, Nat.reduceDiv, Nat.reduceSub, Nat.reduceLeDiff, Int.reduceToNat, Int.reduceLT, Int.reduceLE, reduceCtorEq, List.take_nil, List.drop_nil]; simp⟩ fun j hj hI => ?_
  simp (config := { maxSteps := 2000000 }) only [go_sem, Nat.reduceBEq, Nat.reduceAdd, Nat.reduceMul, Nat.reduceMod, Nat.reduceLT, Nat.reduceDiv, Nat.reduceSub, Nat.reduceLeDiff, Int.reduceToNat, Int.reduceLT, Int.reduceLE, reduceCtorEq, List.take_nil, List.drop_nil]
  refine ⟨fun hlt => ?_, fun hge => ?_⟩
  · have hj' : j < xs.length := by omega
    refine ⟨by omega, by omega, by omega, ?_⟩
    refine ⟨_, h _ (getD_mem hj'), ?_⟩
    simp (config := { maxSteps := 2000000 }) only [go_sem, Nat.reduceBEq, Nat.reduceAdd, Nat.reduceMul, Nat.reduceMod, Nat.reduceLT, Nat.reduceDiv, Nat.reduceSub, Nat.reduceLeDiff, Int.reduceToNat, Int.reduceLT, Int.reduceLE, reduceCtorEq, List.take_nil, List.drop_nil]
    refine ⟨fun hp => ?_, fun hp => ⟨inR_of (by omega) (by omega), hj', fun i hi => ?_, by simp⟩⟩
    · exact (idxP_hit hj' hp hI).symm
    · by_cases e : i = j
      · rw [e]; exact hp
      · exact hI i (by omega)
  · have : j = xs.length := by omega
    subst this
    exact (idxP_miss hI).symm
theorem ContainsFuncR {nl : Option Bool} {xs : List (List Int)} {f : Nat} {cp : List T} (p : List Int → Bool) (h : ∀ x ∈ xs, CallOk Try.prog f (.s none (ii x) :: cp) [(0, .b (p x))]) (hl : xs.length ≤ 1048576) :
    CallOk Try.prog 73 [.s nl (rr xs), .c f cp] [(0, .b (xs.any p))] := by
  obtain ⟨code0, hcd1, hcd2⟩ := chk_slices_ContainsFunc_SSint_Sint; refine callOk_of Try.func73 hcd1 mo Try.call73 (rs := [4]) (by kernel_rfl) hcd2 (by rw [Try.ntmps73]; simp) (by simp) (by decide) ?_; unfold C_slices_ContainsFunc_SSint_Sint K_slices_ContainsFunc_SSint_Sint; simp (config := { maxSteps := 2000000 }) only [go_sem, Nat.reduceBEq, Nat.reduceAdd, Nat.reduceMul, Nat.reduceMod, Nat.reduceLT, Nat.reduceDiv, Nat.reduceSub, Nat.reduceLeDiff, Int.reduceToNat, Int.reduceLT, Int.reduceLE, reduceCtorEq, List.take_nil, List.drop_nil]
  refine ⟨_, IndexFuncR p h hl, ?_⟩; simp (config := { maxSteps := 2000000 }) only [go_sem, Nat.reduceBEq, Nat.reduceAdd, Nat.reduceMul, Nat.reduceMod, Nat.reduceLT, Nat.reduceDiv, Nat.reduceSub, Nat.reduceLeDiff, Int.reduceToNat, Int.reduceLT, Int.reduceLE, reduceCtorEq, List.take_nil, List.drop_nil]
  exact idxP_any

end Go.Proofs.Ytelblnfnfeoapaa
