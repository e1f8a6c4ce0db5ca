/- Own work: contracts of functions that the claim reaches. No condition beyond those that each theorem names. -/
import Derived.Test.YtelblnfnfeoapaaProg
import Derived.Test.YtelblnfnfeoapaaSmall
namespace Go.Proofs.Ytelblnfnfeoapaa
open Go Go.Vc
set_option maxRecDepth 100000
set_option linter.unusedSimpArgs false
set_option linter.unusedVariables false
def K_slices_Grow_Sint_int : List Nat := [0, 1, 4]
def C_slices_Grow_Sint_int : C :=
  let ks := K_slices_Grow_Sint_int
  (.seq
    (.rg 0 [(none, .onl 0), (none, .mkn 4)])
    (.cl ks (.seq
      (.seq
        (.rg 0 [(none, .v 5 .mv [.s 1]), (none, .v 6 (.bin .lss) [.s 5, .k (.i 0)])])
        (.cond (.s 6)
          .no
          .skip))
      (.cl ks (.seq
        (.seq
          (.rg 0 [(none, .v 8 .mv [.s 1]), (none, .v 9 .mv [.s 0]), (none, .v 10 .cap [.s 9]), (none, .v 11 .mv [.s 0]), (none, .v 12 .len [.s 11]), (none, .v 13 (.bin .sub) [.s 10, .s 12]), (none, .v 14 (.bin .sub) [.s 8, .s 13]), (none, .tk 1 14)])
          (.cl ks (.seq
            (.rg 0 [(none, .v 15 .mv [.s 1]), (none, .v 16 (.bin .gtr) [.s 15, .k (.i 0)])])
            (.cond (.s 16)
              (.rg 0 [(none, .v 17 .mv [.s 0]), (none, .v 18 .mv [.s 0]), (none, .v 19 .cap [.s 18]), (none, .v 20 (.sub false true) [.s 17, .s 19]), (none, .v 21 .mv [.s 1]), (none, .apz 22 (.s 20) (.s 21) (.i 0)), (none, .v 23 .mv [.s 0]), (none, .v 24 .len [.s 23]), (none, .cut 25 (.s 22) (.s 24)), (none, .tk 0 25)])
              .skip))))
        (.cl ks (.seq
          (.rg 0 [(none, .v 26 .mv [.s 0]), (none, .tk 4 26)])
          .ret)))))))

theorem chk_slices_Grow_Sint_int : ∃ b, Try.f57.body = some b ∧ chk Try.prog Try.f57.ntmps true C_slices_Grow_Sint_int b = true := ⟨_, rfl, by kernel_rfl⟩
def K_slices_Concat_Sint_int : List Nat := [0, 2, 3, 5, 6, 8, 9, 10, 11, 25, 26, 27]
def C_slices_Concat_Sint_int : C :=
  let ks := K_slices_Concat_Sint_int
  (.seq
    (.rg 0 [(none, .mkn 2)])
    (.cl ks (.seq
      (.rg 0 [(none, .v 3 .mv [.k (.i 0)])])
      (.cl ks (.seq
        (.seq
          (.rg 0 [(none, .v 9 .mv [.s 0]), (none, .v 10 .len [.s 9]), (none, .v 11 .mv [.k (.i 0)])])
          (.cl ks (.block 0
            (.loop
              (.seq
                (.rg 0 [(none, .v 12 (.bin .lss) [.s 11, .s 10])])
                (.seq
                  (.cond (.s 12)
                    .skip
                    (.exit 0))
                  (.cl ks (.seq
                    (.block 1
                      (.seq
                        (.rg 0 [(none, .v 13 .idx [.s 9, .s 11]), (none, .v 14 .ld [.s 13]), (none, .tk 5 14)])
                        (.cl ks (.seq
                          (.rg 0 [(none, .v 15 .mv [.s 3]), (none, .v 16 .mv [.s 5]), (none, .v 17 .len [.s 16]), (none, .v 18 (.bin .add) [.s 15, .s 17]), (none, .tk 3 18)])
                          (.cl ks (.seq
                            (.rg 0 [(none, .v 19 .mv [.s 3]), (none, .v 20 (.bin .lss) [.s 19, .k (.i 0)])])
                            (.cond (.s 20)
                              .no
                              .skip)))))))
                    (.cl ks (.rg 0 [(none, .v 22 (.bin .add) [.s 11, .k (.i 1)]), (none, .v 11 .mv [.s 22])]))))))))))
        (.cl ks (.seq
          (.rg 0 [(none, .v 23 .mv [.s 3]), (none, .co 24 57 [.k (.s (some true) []), .s 23]), (none, .tk 6 24)])
          (.cl ks (.seq
            (.seq
              (.rg 0 [(none, .v 25 .mv [.s 0]), (none, .v 26 .len [.s 25]), (none, .v 27 .mv [.k (.i 0)])])
              (.cl ks (.block 2
                (.loop
                  (.seq
                    (.rg 0 [(none, .v 28 (.bin .lss) [.s 27, .s 26])])
                    (.seq
                      (.cond (.s 28)
                        .skip
                        (.exit 2))
                      (.cl ks (.seq
                        (.block 3
                          (.seq
                            (.rg 0 [(none, .v 29 .idx [.s 25, .s 27]), (none, .v 30 .ld [.s 29]), (none, .tk 8 30)])
                            (.cl ks (.rg 0 [(none, .v 31 .mv [.s 6]), (none, .v 32 .mv [.s 8]), (none, .app 33 (.s 31) (.s 32) 0), (none, .tk 6 33)]))))
                        (.cl ks (.rg 0 [(none, .v 34 (.bin .add) [.s 27, .k (.i 1)]), (none, .v 27 .mv [.s 34])]))))))))))
            (.cl ks (.seq
              (.rg 0 [(none, .v 35 .mv [.s 6]), (none, .tk 2 35)])
              .ret)))))))))))

theorem chk_slices_Concat_Sint_int : ∃ b, Try.f36.body = some b ∧ chk Try.prog Try.f36.ntmps true C_slices_Concat_Sint_int b = true := ⟨_, rfl, by kernel_rfl⟩
def K_impl_indices : List Nat := [0, 2, 3, 4, 8, 9]
def C_impl_indices : C :=
  let ks := K_impl_indices
  (.seq
    (.rg 0 [(none, .mkn 2)])
    (.cl ks (.seq
      (.rg 0 [(none, .v 5 .mv [.s 0]), (none, .mk 6 (.i 0) (.s 5) (.s 5)), (none, .tk 3 6)])
      (.cl ks (.seq
        (.seq
          (.rg 0 [(none, .v 7 .mv [.s 3]), (none, .v 8 .len [.s 7]), (none, .v 9 .mv [.k (.i 0)])])
          (.cl ks (.block 0
            (.loop
              (.seq
                (.rg 0 [(none, .v 10 (.bin .lss) [.s 9, .s 8])])
                (.seq
                  (.cond (.s 10)
                    .skip
                    (.exit 0))
                  (.cl ks (.seq
                    (.block 1
                      (.seq
                        (.rg 0 [(none, .v 11 .mv [.s 9]), (none, .tk 4 11)])
                        (.cl ks (.rg 0 [(none, .v 12 .mv [.s 3]), (none, .v 13 .mv [.s 4]), (none, .v 14 .mv [.s 4]), (none, .v 15 .idx [.s 12, .s 13]), (none, .st (.s 15) (.s 14))]))))
                    (.cl ks (.rg 0 [(none, .v 16 (.bin .add) [.s 9, .k (.i 1)]), (none, .v 9 .mv [.s 16])]))))))))))
        (.cl ks (.seq
          (.rg 0 [(none, .v 17 .mv [.s 3]), (none, .tk 2 17)])
          .ret)))))))

theorem chk_impl_indices : ∃ b, Try.f64.body = some b ∧ chk Try.prog Try.f64.ntmps true C_impl_indices b = true := ⟨_, rfl, by kernel_rfl⟩
theorem GrowNil_ok (n : Int) (h0 : 0 ≤ n) (h1 : n ≤ 1099511627776) : CallOk Try.prog 57 [.s (some true) [], .i n] [(0, .own 1 none [])] := by
  obtain ⟨code0, hcd1, hcd2⟩ := chk_slices_Grow_Sint_int; refine callOk_of Try.func57 hcd1 mo Try.call57 (rs := [4]) (by kernel_rfl) hcd2 (by rw [Try.ntmps57]; simp) (by simp) (by decide) ?_; unfold C_slices_Grow_Sint_int K_slices_Grow_Sint_int; simp (config := { maxSteps := 2000000 }) only [go_sem, Nat.reduceBEq, Nat.reduceAdd, Nat.reduceMul, Nat.reduceMod, Nat.reduceLT, Nat.reduceDiv, Nat.reduceSub, Nat.reduceLeDiff, Int.reduceToNat, Int.reduceLT, Int.reduceLE, reduceCtorEq, List.take_nil, List.drop_nil]
  refine ⟨fun h => by omega, fun _ => ⟨inR_of (by simp) (by simp), inR_of (by simp; omega) (by simp; omega), fun _ => ⟨by unfold subOk; omega, by omega, by simp; omega, by simp, by simp; omega, by simp [ii, T.leL]⟩, fun _ => trivial⟩⟩
/-- Rows, each nil or not. -/
def nrows (rs : List (Option Bool × List Int)) : List T := rs.map fun p => .s p.1 (ii p.2)
@[go_sem] theorem nrows_len {rs : List (Option Bool × List Int)} : (nrows rs).length = rs.length := by simp [nrows]
@[go_sem high] theorem ld_nrows {P : Program} {κ : V → Prop} {g : G} {k : Nat} {rs : List (Option Bool × List Int)} : stepK P .ld [.t g (.q (nrows rs) k)] κ = (k < rs.length ∧ κ (.t g (.s (rs.getD k (none, [])).1 (ii (rs.getD k (none, [])).2)))) := by
  rw [stepK_ld, nrows_len]; exact and_ctx rfl fun h => by simp [nrows, List.getD, h]; rfl
/-- The first j rows, one behind the other. -/
def catN (rs : List (Option Bool × List Int)) (j : Nat) : List Int := ((rs.take j).map (·.2)).flatten
theorem catN_s {rs : List (Option Bool × List Int)} {j : Nat} (h : j < rs.length) : catN rs (j + 1) = catN rs j ++ (rs.getD j (none, [])).2 := by
  simp only [catN]
  rw [take_getD (none, []) h, List.map_append, List.flatten_append]; simp
theorem catN_le {rs : List (Option Bool × List Int)} {j : Nat} : (catN rs j).length ≤ ((rs.map (·.2)).flatten).length := by
  have : catN rs rs.length = (rs.map (·.2)).flatten := by simp [catN]
  rw [← this]
  by_cases h : j ≤ rs.length
  · have : ∀ k, (catN rs j).length ≤ (catN rs (j + k)).length := by
      intro k
      induction k with
      | zero => exact Nat.le_refl _
      | succ k ih =>
        by_cases h : j + k < rs.length
        · rw [show j + (k + 1) = j + k + 1 from rfl, catN_s h, List.length_append]; omega
        · have : catN rs (j + (k + 1)) = catN rs (j + k) := by
            simp only [catN]; rw [List.take_of_length_le (by omega), List.take_of_length_le (by omega)]
          rw [this]; exact ih
    have := this (rs.length - j)
    rwa [show j + (rs.length - j) = rs.length from by omega] at this
  · simp only [catN]
    rw [List.take_of_length_le (by omega), List.take_of_length_le (by omega)]; exact Nat.le_refl _
theorem Concat_ok {nl : Option Bool} (rs : List (Option Bool × List Int)) (hl : rs.length ≤ 1000) (hs : ((rs.map (·.2)).flatten).length ≤ 1048576) :
    CallOk Try.prog 36 [.s nl (nrows rs)] [(0, .own 1 none (ii (rs.map (·.2)).flatten))] := by
  obtain ⟨code0, hcd1, hcd2⟩ := chk_slices_Concat_Sint_int; refine callOk_of Try.func36 hcd1 mo Try.call36 (rs := [2]) (by kernel_rfl) hcd2 (by rw [Try.ntmps36]; simp) (by simp) (by decide) ?_; unfold C_slices_Concat_Sint_int K_slices_Concat_Sint_int; simp (config := { maxSteps := 2000000 }) only [go_sem, Nat.reduceBEq, Nat.reduceAdd, Nat.reduceMul, Nat.reduceMod, Nat.reduceLT, Nat.reduceDiv, Nat.reduceSub, Nat.reduceLeDiff, Int.reduceToNat, Int.reduceLT, Int.reduceLE, reduceCtorEq, List.take_nil, List.drop_nil]
  refine loopN rs.length (fun j => [(0, .t .arg (.s nl (nrows rs))), (2, .own 1 (some true) []), (3, .i ((catN rs j).length : Int)), (9, .t .arg (.s nl (nrows rs))), (10, .i rs.length), (11, .i (j : Nat))]) (fun j => True) ⟨trivial, by simp (config := { maxSteps := 2000000 }) only [go_sem, Nat.reduceBEq, Nat.reduceAdd, Nat.reduceMul, Nat.reduceMod, Nat.reduceLT, Nat.reduceDiv, Nat.reduceSub, Nat.reduceLeDiff, Int.reduceToNat, Int.reduceLT, Int.reduceLE, reduceCtorEq, List.take_nil, List.drop_nil]; simp [catN]⟩ fun j hj _ => ?_
  simp (config := { maxSteps := 2000000 }) only [go_sem, Nat.reduceBEq, Nat.reduceAdd, Nat.reduceMul, Nat.reduceMod, Nat.reduceLT, Nat.reduceDiv, Nat.reduceSub, Nat.reduceLeDiff, Int.reduceToNat, Int.reduceLT, Int.reduceLE, reduceCtorEq, List.take_nil, List.drop_nil]
  refine ⟨fun hlt => ?_, fun hge => ?_⟩
  · have hj' : j < rs.length := by omega
    have h1 := catN_le (rs := rs) (j := j)
    have h2 := catN_le (rs := rs) (j := j + 1)
    rw [catN_s hj', List.length_append] at h2
    refine ⟨by omega, hj', hj', inR_of (by omega) (by omega), fun h => by omega, fun _ => ⟨inR_of (by omega) (by omega), hj', by rw [catN_s hj', List.length_append]; simp, by simp⟩⟩
  · have : j = rs.length := by omega
    subst this
    have h1 := catN_le (rs := rs) (j := rs.length)
    refine ⟨_, GrowNil_ok _ (by omega) (by omega), ?_⟩; simp (config := { maxSteps := 2000000 }) only [go_sem, Nat.reduceBEq, Nat.reduceAdd, Nat.reduceMul, Nat.reduceMod, Nat.reduceLT, Nat.reduceDiv, Nat.reduceSub, Nat.reduceLeDiff, Int.reduceToNat, Int.reduceLT, Int.reduceLE, reduceCtorEq, List.take_nil, List.drop_nil]
    refine loopN rs.length (fun j => [(0, .t .arg (.s nl (nrows rs))), (2, .own 1 (some true) []), (3, .any), (6, .own 1 none (ii (catN rs j))), (25, .t .arg (.s nl (nrows rs))), (26, .i rs.length), (27, .i (j : Nat))]) (fun j => True) ⟨trivial, by simp (config := { maxSteps := 2000000 }) only [go_sem, Nat.reduceBEq, Nat.reduceAdd, Nat.reduceMul, Nat.reduceMod, Nat.reduceLT, Nat.reduceDiv, Nat.reduceSub, Nat.reduceLeDiff, Int.reduceToNat, Int.reduceLT, Int.reduceLE, reduceCtorEq, List.take_nil, List.drop_nil]; simp [catN, ii, T.leL]⟩ fun j hj _ => ?_
    simp (config := { maxSteps := 2000000 }) only [go_sem, Nat.reduceBEq, Nat.reduceAdd, Nat.reduceMul, Nat.reduceMod, Nat.reduceLT, Nat.reduceDiv, Nat.reduceSub, Nat.reduceLeDiff, Int.reduceToNat, Int.reduceLT, Int.reduceLE, reduceCtorEq, List.take_nil, List.drop_nil]
    refine ⟨fun hlt => ?_, fun hge => ?_⟩
    · have hj' : j < rs.length := by omega
      have h1 := catN_le (rs := rs) (j := j)
      have h2 := catN_le (rs := rs) (j := j + 1)
      rw [catN_s hj', List.length_append] at h2
      exact ⟨by omega, hj', hj', by omega, inR_of (by omega) (by omega), hj', (catN_s hj').symm, by simp⟩
    · have : j = rs.length := by omega
      subst this
      simp [catN]
/-- The numbers below n. -/
def upto (n : Nat) : List Int := (List.range n).map fun (x : Nat) => (x : Int)
theorem upto_len {n : Nat} : (upto n).length = n := by simp [upto]
/-- The numbers below j, and noughts behind. -/
def uptoJ (n j : Nat) : List Int := (List.range n).map fun (x : Nat) => if x < j then (x : Int) else 0
theorem uptoJ_len {n j : Nat} : (uptoJ n j).length = n := by simp [uptoJ]
theorem uptoJ_s {n j : Nat} (h : j < n) : (uptoJ n j).set j j = uptoJ n (j + 1) := by
  apply List.ext_getElem
  · simp [uptoJ]
  · intro i h1 h2
    simp only [uptoJ, List.getElem_set, List.getElem_map, List.getElem_range]
    by_cases e : j = i
    · subst e; simp
    · rw [if_neg e]
      by_cases e2 : i < j
      · rw [if_pos e2, if_pos (by omega)]
      · rw [if_neg e2, if_neg (by omega)]
theorem uptoJ_n {n : Nat} : uptoJ n n = upto n := List.map_congr_left fun x hx => if_pos (by simpa using hx)
theorem indices_ok (m : Int) (h0 : 0 ≤ m) (h1 : m ≤ 1048576) : CallOk Try.prog 64 [.i m] [(0, .own 1 (some false) (ii (upto m.toNat)))] := by
  obtain ⟨code0, hcd1, hcd2⟩ := chk_impl_indices; refine callOk_of Try.func64 hcd1 mo Try.call64 (rs := [2]) (by kernel_rfl) hcd2 (by rw [Try.ntmps64]; simp) (by simp) (by decide) ?_; unfold C_impl_indices K_impl_indices; simp (config := { maxSteps := 2000000 }) only [go_sem, Nat.reduceBEq, Nat.reduceAdd, Nat.reduceMul, Nat.reduceMod, Nat.reduceLT, Nat.reduceDiv, Nat.reduceSub, Nat.reduceLeDiff, Int.reduceToNat, Int.reduceLT, Int.reduceLE, reduceCtorEq, List.take_nil, List.drop_nil]
  refine ⟨by omega, by omega, ?_⟩
  refine loopN m.toNat (fun j => [(0, .i m), (3, .own 1 (some false) (ii (uptoJ m.toNat j))), (8, .i m), (9, .i (j : Nat))]) (fun j => True) ⟨trivial, by simp (config := { maxSteps := 2000000 }) only [go_sem, Nat.reduceBEq, Nat.reduceAdd, Nat.reduceMul, Nat.reduceMod, Nat.reduceLT, Nat.reduceDiv, Nat.reduceSub, Nat.reduceLeDiff, Int.reduceToNat, Int.reduceLT, Int.reduceLE, reduceCtorEq, List.take_nil, List.drop_nil]; simp [uptoJ, List.map_const']; omega⟩ fun j hj _ => ?_
  simp (config := { maxSteps := 2000000 }) only [go_sem, Nat.reduceBEq, Nat.reduceAdd, Nat.reduceMul, Nat.reduceMod, Nat.reduceLT, Nat.reduceDiv, Nat.reduceSub, Nat.reduceLeDiff, Int.reduceToNat, Int.reduceLT, Int.reduceLE, reduceCtorEq, List.take_nil, List.drop_nil]
  refine ⟨fun hlt => ?_, fun hge => ?_⟩
  · have hj' : j < m.toNat := by omega
    rw [uptoJ_len]
    exact ⟨by omega, hj', hj', inR_of (by omega) (by omega), hj', uptoJ_s hj', by simp⟩
  · have : j = m.toNat := by omega
    subst this
    exact uptoJ_n
theorem Concat2_ok {nl n1 n2 : Option Bool} (a b : List Int) (ha : a.length + b.length ≤ 1048576) : CallOk Try.prog 36 [.s nl [.s n1 (ii a), .s n2 (ii b)]] [(0, .own 1 none (ii (a ++ b)))] := by
  have := Concat_ok (nl := nl) [(n1, a), (n2, b)] (by simp) (by simpa using ha)
  simpa [nrows] using this

end Go.Proofs.Ytelblnfnfeoapaa
