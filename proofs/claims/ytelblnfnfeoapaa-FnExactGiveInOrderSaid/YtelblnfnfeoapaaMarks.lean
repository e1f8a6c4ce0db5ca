/- Own work: contracts of functions that the claim reaches. No condition beyond those that each theorem names. -/
import Derived.Test.YtelblnfnfeoapaaProg
import Derived.Test.YtelblnfnfeoapaaLaws
namespace Go.Proofs.Ytelblnfnfeoapaa
open Go Go.Vc
set_option maxRecDepth 100000
set_option linter.unusedSimpArgs false
set_option linter.unusedVariables false
def K_laws_markIntS : List Nat := [0, 1, 4, 5]
def C_laws_markIntS : C :=
  let ks := K_laws_markIntS
  (.seq
    (.rg 0 [(none, .v 4 .mv [.k (.i 0)])])
    (.cl ks (.seq
      (.seq
        (.rg 0 [(none, .v 5 .mv [.k (.i 0)])])
        (.cl ks (.block 0
          (.loop
            (.seq
              (.seq
                (.rg 0 [(none, .v 6 .mv [.s 5]), (none, .v 7 .mv [.s 0]), (none, .v 8 .len [.s 7]), (none, .v 9 (.bin .lss) [.s 6, .s 8])])
                (.cond (.s 9)
                  .skip
                  (.exit 0)))
              (.cl ks (.seq
                (.block 1
                  (.seq
                    (.rg 0 [(none, .v 12 .mv [.s 0]), (none, .v 13 .mv [.s 5]), (none, .v 14 .mv [.s 1]), (none, .v 15 .idx [.s 12, .s 13]), (none, .st (.s 15) (.s 14))])
                    (.cl ks (.rg 0 [(none, .v 16 .mv [.s 1]), (none, .v 17 (.bin .add) [.s 16, .k (.i 1)]), (none, .tk 1 17)]))))
                (.cl ks (.rg 0 [(none, .v 10 .mv [.s 5]), (none, .v 11 (.bin .add) [.s 10, .k (.i 1)]), (none, .tk 5 11)])))))))))
      (.cl ks (.seq
        (.rg 0 [(none, .v 18 .mv [.s 1]), (none, .tk 4 18)])
        .ret)))))

theorem chk_laws_markIntS : ∃ b, Try.f23.body = some b ∧ chk Try.prog Try.f23.ntmps false C_laws_markIntS b = true := ⟨_, rfl, by kernel_rfl⟩
def K_laws_heldIntS : List Nat := [0, 1, 4, 5]
def C_laws_heldIntS : C :=
  let ks := K_laws_heldIntS
  (.seq
    (.rg 0 [(none, .v 4 .mv [.k (.i 0)])])
    (.cl ks (.seq
      (.seq
        (.rg 0 [(none, .v 5 .mv [.k (.i 0)])])
        (.cl ks (.block 0
          (.loop
            (.seq
              (.seq
                (.rg 0 [(none, .v 6 .mv [.s 5]), (none, .v 7 .mv [.s 0]), (none, .v 8 .len [.s 7]), (none, .v 9 (.bin .lss) [.s 6, .s 8])])
                (.cond (.s 9)
                  .skip
                  (.exit 0)))
              (.cl ks (.seq
                (.block 1
                  (.seq
                    (.seq
                      (.rg 0 [(none, .v 12 .mv [.s 0]), (none, .v 13 .mv [.s 5]), (none, .v 14 .idx [.s 12, .s 13]), (none, .v 15 .ld [.s 14]), (none, .v 16 .mv [.s 1]), (none, .v 17 (.bin .neq) [.s 15, .s 16])])
                      (.cond (.s 17)
                        (.seq
                          (.rg 0 [(none, .v 4 .mv [.k (.i (-1))])])
                          .ret)
                        .skip))
                    (.cl ks (.rg 0 [(none, .v 18 .mv [.s 1]), (none, .v 19 (.bin .add) [.s 18, .k (.i 1)]), (none, .tk 1 19)]))))
                (.cl ks (.rg 0 [(none, .v 10 .mv [.s 5]), (none, .v 11 (.bin .add) [.s 10, .k (.i 1)]), (none, .tk 5 11)])))))))))
      (.cl ks (.seq
        (.rg 0 [(none, .v 20 .mv [.s 1]), (none, .tk 4 20)])
        .ret)))))

theorem chk_laws_heldIntS : ∃ b, Try.f24.body = some b ∧ chk Try.prog Try.f24.ntmps true C_laws_heldIntS b = true := ⟨_, rfl, by kernel_rfl⟩
def K_laws_markIntSS : List Nat := [0, 1, 4, 5]
def C_laws_markIntSS : C :=
  let ks := K_laws_markIntSS
  (.seq
    (.rg 0 [(none, .v 4 .mv [.k (.i 0)])])
    (.cl ks (.seq
      (.seq
        (.rg 0 [(none, .v 5 .mv [.k (.i 0)])])
        (.cl ks (.block 0
          (.loop
            (.seq
              (.seq
                (.rg 0 [(none, .v 6 .mv [.s 5]), (none, .v 7 .mv [.s 0]), (none, .v 8 .len [.s 7]), (none, .v 9 (.bin .lss) [.s 6, .s 8])])
                (.cond (.s 9)
                  .skip
                  (.exit 0)))
              (.cl ks (.seq
                (.block 1
                  (.rg 0 [(none, .v 12 .mv [.s 0]), (none, .v 13 .mv [.s 5]), (none, .v 14 .idx [.s 12, .s 13]), (none, .v 15 .lde [.s 14]), (none, .v 16 .mv [.s 1]), (none, .cox (some 17) 23 [.s 15, .s 16] 0), (none, .tk 1 17)]))
                (.cl ks (.rg 0 [(none, .v 10 .mv [.s 5]), (none, .v 11 (.bin .add) [.s 10, .k (.i 1)]), (none, .tk 5 11)])))))))))
      (.cl ks (.seq
        (.rg 0 [(none, .v 18 .mv [.s 1]), (none, .tk 4 18)])
        .ret)))))

theorem chk_laws_markIntSS : ∃ b, Try.f13.body = some b ∧ chk Try.prog Try.f13.ntmps false C_laws_markIntSS b = true := ⟨_, rfl, by kernel_rfl⟩
def K_laws_heldIntSS : List Nat := [0, 1, 4, 5]
def C_laws_heldIntSS : C :=
  let ks := K_laws_heldIntSS
  (.seq
    (.rg 0 [(none, .v 4 .mv [.k (.i 0)])])
    (.cl ks (.seq
      (.seq
        (.rg 0 [(none, .v 5 .mv [.k (.i 0)])])
        (.cl ks (.block 0
          (.loop
            (.seq
              (.seq
                (.rg 0 [(none, .v 6 .mv [.s 5]), (none, .v 7 .mv [.s 0]), (none, .v 8 .len [.s 7]), (none, .v 9 (.bin .lss) [.s 6, .s 8])])
                (.cond (.s 9)
                  .skip
                  (.exit 0)))
              (.cl ks (.seq
                (.block 1
                  (.seq
                    (.rg 0 [(none, .v 12 .mv [.s 0]), (none, .v 13 .mv [.s 5]), (none, .v 14 .idx [.s 12, .s 13]), (none, .v 15 .ld [.s 14]), (none, .v 16 .mv [.s 1]), (none, .co 17 24 [.s 15, .s 16]), (none, .tk 1 17)])
                    (.cl ks (.seq
                      (.rg 0 [(none, .v 18 .mv [.s 1]), (none, .v 19 (.bin .lss) [.s 18, .k (.i 0)])])
                      (.cond (.s 19)
                        (.seq
                          (.rg 0 [(none, .v 4 .mv [.k (.i (-1))])])
                          .ret)
                        .skip)))))
                (.cl ks (.rg 0 [(none, .v 10 .mv [.s 5]), (none, .v 11 (.bin .add) [.s 10, .k (.i 1)]), (none, .tk 5 11)])))))))))
      (.cl ks (.seq
        (.rg 0 [(none, .v 20 .mv [.s 1]), (none, .tk 4 20)])
        .ret)))))

theorem chk_laws_heldIntSS : ∃ b, Try.f14.body = some b ∧ chk Try.prog Try.f14.ntmps true C_laws_heldIntSS b = true := ⟨_, rfl, by kernel_rfl⟩
/-- k, k + 1, .. : n of them. -/
def upI (k : Int) : Nat → List Int
  | 0 => []
  | n + 1 => k :: upI (k + 1) n
theorem upI_len {n : Nat} : ∀ {k : Int}, (upI k n).length = n := by
  induction n with
  | zero => intro k; rfl
  | succ n ih => intro k; simp [upI, ih]
theorem upI_get {n j : Nat} : ∀ {k : Int}, j < n → (upI k n).getD j 0 = k + j := by
  induction n generalizing j with
  | zero => intro k h; omega
  | succ n ih =>
    intro k h
    cases j with
    | zero => simp [upI]
    | succ j =>
      simp only [upI, List.getD_cons_succ]
      rw [ih (by omega)]; omega
theorem upI_snoc {n : Nat} : ∀ {k : Int}, upI k (n + 1) = upI k n ++ [k + n] := by
  induction n with
  | zero => intro k; simp [upI]
  | succ n ih =>
    intro k
    have h := ih (k := k + 1)
    simp only [upI, List.cons_append] at h ⊢
    rw [h]
    have : k + 1 + (n : Int) = k + (n + 1 : Nat) := by omega
    rw [this]
theorem up_set {a : List Int} {k : Int} {j : Nat} (hj : j < a.length) : (upI k j ++ a.drop j).set j (k + j) = upI k (j + 1) ++ a.drop (j + 1) := by
  rw [List.set_append_right _ _ (by rw [upI_len]; omega), upI_len, Nat.sub_self, drop_getD 0 hj, List.set_cons_zero, upI_snoc, List.append_assoc]; rfl
theorem markIntS_ok (nl : Option Bool) (a : List Int) (k : Int) (h0 : 0 ≤ k) (h1 : k + a.length ≤ 1000000000000000000) (hl : a.length ≤ 1048576) :
    CallX Try.prog 23 0 [.s nl (ii a), .i k] (.i (k + a.length)) nl (ii (upI k a.length)) := by
  obtain ⟨code0, hcd1, hcd2⟩ := chk_laws_markIntS; refine callX_of Try.func23 hcd1 mo Try.call23 (rs := [4]) (i := 0) (by kernel_rfl) hcd2 (by rw [Try.ntmps23]; simp) (by simp) (by decide) rfl ?_; unfold C_laws_markIntS K_laws_markIntS; simp (config := { maxSteps := 2000000 }) only [go_sem, Nat.reduceBEq, Nat.reduceAdd, Nat.reduceMul, Nat.reduceMod, Nat.reduceLT, Nat.reduceDiv, Nat.reduceSub, Nat.reduceLeDiff, Int.reduceToNat, Int.reduceLT, Int.reduceLE, reduceCtorEq, List.take_nil, List.drop_nil]
  refine loopN a.length (fun j => [(0, .own 11 nl (ii (upI k j ++ a.drop j))), (1, .i (k + j)), (5, .i (j : Nat))]) (fun _ => True) ⟨trivial, by simp (config := { maxSteps := 2000000 }) only [go_sem, Nat.reduceBEq, Nat.reduceAdd, Nat.reduceMul, Nat.reduceMod, Nat.reduceLT, Nat.reduceDiv, Nat.reduceSub, Nat.reduceLeDiff, Int.reduceToNat, Int.reduceLT, Int.reduceLE, reduceCtorEq, List.take_nil, List.drop_nil]; simp [upI]⟩ fun j hj _ => ?_
  simp (config := { maxSteps := 2000000 }) only [go_sem, Nat.reduceBEq, Nat.reduceAdd, Nat.reduceMul, Nat.reduceMod, Nat.reduceLT, Nat.reduceDiv, Nat.reduceSub, Nat.reduceLeDiff, Int.reduceToNat, Int.reduceLT, Int.reduceLE, reduceCtorEq, List.take_nil, List.drop_nil]
  have hln : (upI k j ++ a.drop j).length = a.length := by rw [List.length_append, upI_len, List.length_drop]; omega
  rw [hln]
  refine ⟨fun hlt => ?_, fun hge => ?_⟩
  · have hj' : j < a.length := by omega
    exact ⟨by omega, by omega, by omega, inR_of (by omega) (by omega), inR_of (by omega) (by omega), hj', up_set hj', by simp [Int.add_assoc], by simp⟩
  · have : j = a.length := by omega
    subst this
    simp
theorem heldIntS_ok (nl : Option Bool) (n : Nat) (k : Int) (h0 : 0 ≤ k) (h1 : k + n ≤ 1000000000000000000) (hl : n ≤ 1048576) :
    CallOk Try.prog 24 [.s nl (ii (upI k n)), .i k] [(0, .i (k + n))] := by
  obtain ⟨code0, hcd1, hcd2⟩ := chk_laws_heldIntS; refine callOk_of Try.func24 hcd1 mo Try.call24 (rs := [4]) (by kernel_rfl) hcd2 (by rw [Try.ntmps24]; simp) (by simp) (by decide) ?_; unfold C_laws_heldIntS K_laws_heldIntS; simp (config := { maxSteps := 2000000 }) only [go_sem, Nat.reduceBEq, Nat.reduceAdd, Nat.reduceMul, Nat.reduceMod, Nat.reduceLT, Nat.reduceDiv, Nat.reduceSub, Nat.reduceLeDiff, Int.reduceToNat, Int.reduceLT, Int.reduceLE, reduceCtorEq, List.take_nil, List.drop_nil]
  refine loopN n (fun j => [(0, .t .arg (.s nl (ii (upI k n)))), (1, .i (k + j)), (5, .i (j : Nat))]) (fun _ => True) ⟨trivial, by simp (config := { maxSteps := 2000000 }) only [go_sem, Nat.reduceBEq, Nat.reduceAdd, Nat.reduceMul, Nat.reduceMod, Nat.reduceLT, Nat.reduceDiv, Nat.reduceSub, Nat.reduceLeDiff, Int.reduceToNat, Int.reduceLT, Int.reduceLE, reduceCtorEq, List.take_nil, List.drop_nil]; simp⟩ fun j hj _ => ?_
  simp (config := { maxSteps := 2000000 }) only [go_sem, Nat.reduceBEq, Nat.reduceAdd, Nat.reduceMul, Nat.reduceMod, Nat.reduceLT, Nat.reduceDiv, Nat.reduceSub, Nat.reduceLeDiff, Int.reduceToNat, Int.reduceLT, Int.reduceLE, reduceCtorEq, List.take_nil, List.drop_nil, upI_len]
  refine ⟨fun hlt => ?_, fun hge => ?_⟩
  · have hj' : j < n := by omega
    rw [upI_get hj']
    refine ⟨by omega, by omega, by omega, fun h => absurd rfl h, fun _ => ⟨inR_of (by omega) (by omega), inR_of (by omega) (by omega), hj', by simp [Int.add_assoc], by simp⟩⟩
  · have : j = n := by omega
    subst this
    rfl
/-- The numbers of rows. -/
def tot (a : List (List Int)) : Nat := (a.map List.length).sum
def upR (k : Int) : List (List Int) → List (List Int)
  | [] => []
  | r :: rs => upI k r.length :: upR (k + r.length) rs
theorem tot_snoc {a : List (List Int)} {r : List Int} : tot (a ++ [r]) = tot a + r.length := by simp [tot]
theorem upR_len : ∀ {a : List (List Int)} {k : Int}, (upR k a).length = a.length
  | [], _ => rfl
  | r :: a, k => by simp [upR, upR_len (a := a)]
theorem upR_snoc {r : List Int} : ∀ {a : List (List Int)} {k : Int}, upR k (a ++ [r]) = upR k a ++ [upI (k + tot a) r.length]
  | [], k => by simp [upR, tot]
  | q :: a, k => by
    have h : k + (q.length : Int) + (tot a : Int) = k + (tot (q :: a) : Nat) := by simp [tot]; omega
    simp only [List.cons_append, upR, upR_snoc (a := a), h]
theorem upR_getD : ∀ {a : List (List Int)} {k : Int} {j : Nat}, j < a.length → (upR k a).getD j [] = upI (k + tot (a.take j)) (a.getD j []).length
  | [], _, _, h => by simp at h
  | r :: a, k, 0, _ => by simp [upR, tot]
  | r :: a, k, j + 1, h => by
    simp only [upR, List.getD_cons_succ, List.take_succ_cons]
    rw [upR_getD (by simpa using h)]
    congr 1
    simp [tot]; omega
theorem upR_set {a : List (List Int)} {k : Int} {j : Nat} (hj : j < a.length) : (upR k (a.take j) ++ a.drop j).set j (upI (k + tot (a.take j)) (a.getD j []).length) = upR k (a.take (j + 1)) ++ a.drop (j + 1) := by
  have hl : (upR k (a.take j)).length = j := by rw [upR_len, List.length_take]; omega
  rw [List.set_append_right _ _ (by rw [hl]; omega), hl, Nat.sub_self, drop_getD [] hj, List.set_cons_zero, take_getD [] hj, upR_snoc, List.append_assoc]; rfl
theorem tot_take {a : List (List Int)} {j : Nat} (hj : j < a.length) : tot (a.take (j + 1)) = tot (a.take j) + (a.getD j []).length := by rw [take_getD [] hj, tot_snoc]
theorem tot_take_le {a : List (List Int)} {j : Nat} : tot (a.take j) ≤ tot a := by
  have : tot a = tot (a.take j) + tot (a.drop j) := by
    have h : a = a.take j ++ a.drop j := (List.take_append_drop j a).symm
    have h2 : ∀ x y : List (List Int), tot (x ++ y) = tot x + tot y := by intro x y; simp [tot]
    rw [← h2, ← h]
  omega
theorem rows_getD {a : List (List Int)} {k : Int} {j : Nat} (hj : j < a.length) : (upR k (a.take j) ++ a.drop j).getD j [] = a.getD j [] := by
  have hl : (upR k (a.take j)).length = j := by rw [upR_len, List.length_take]; omega
  rw [List.getD, List.getElem?_append_right (by omega), hl, Nat.sub_self, drop_getD [] hj]; rfl
theorem markIntSS_ok (nl : Option Bool) (a : List (List Int)) (k : Int) (h0 : 0 ≤ k) (h1 : k + tot a ≤ 1000000000000000000) (hl : a.length ≤ 1048576) (hr : ∀ r ∈ a, r.length ≤ 1048576) :
    CallX Try.prog 13 0 [.s nl (rr a), .i k] (.i (k + tot a)) nl (rr (upR k a)) := by
  obtain ⟨code0, hcd1, hcd2⟩ := chk_laws_markIntSS; refine callX_of Try.func13 hcd1 mo Try.call13 (rs := [4]) (i := 0) (by kernel_rfl) hcd2 (by rw [Try.ntmps13]; simp) (by simp) (by decide) rfl ?_; unfold C_laws_markIntSS K_laws_markIntSS; simp (config := { maxSteps := 2000000 }) only [go_sem, Nat.reduceBEq, Nat.reduceAdd, Nat.reduceMul, Nat.reduceMod, Nat.reduceLT, Nat.reduceDiv, Nat.reduceSub, Nat.reduceLeDiff, Int.reduceToNat, Int.reduceLT, Int.reduceLE, reduceCtorEq, List.take_nil, List.drop_nil]
  refine loopN a.length (fun j => [(0, .own 11 nl (rr (upR k (a.take j) ++ a.drop j))), (1, .i (k + tot (a.take j))), (5, .i (j : Nat))]) (fun _ => True) ⟨trivial, by simp (config := { maxSteps := 2000000 }) only [go_sem, Nat.reduceBEq, Nat.reduceAdd, Nat.reduceMul, Nat.reduceMod, Nat.reduceLT, Nat.reduceDiv, Nat.reduceSub, Nat.reduceLeDiff, Int.reduceToNat, Int.reduceLT, Int.reduceLE, reduceCtorEq, List.take_nil, List.drop_nil]; simp [upR, tot]⟩ fun j hj _ => ?_
  simp (config := { maxSteps := 2000000 }) only [go_sem, Nat.reduceBEq, Nat.reduceAdd, Nat.reduceMul, Nat.reduceMod, Nat.reduceLT, Nat.reduceDiv, Nat.reduceSub, Nat.reduceLeDiff, Int.reduceToNat, Int.reduceLT, Int.reduceLE, reduceCtorEq, List.take_nil, List.drop_nil]
  have hln : (upR k (a.take j) ++ a.drop j).length = a.length := by rw [List.length_append, upR_len, List.length_take, List.length_drop]; omega
  rw [hln]
  refine ⟨fun hlt => ?_, fun hge => ?_⟩
  · have hj' : j < a.length := by omega
    have hm : a.getD j [] ∈ a := getD_mem hj'
    have ht := tot_take hj'
    have ht2 := tot_take_le (a := a) (j := j + 1)
    refine ⟨by omega, by omega, by omega, by omega, ?_⟩
    rw [rr_get (by omega), rows_getD hj']
    refine ⟨_, _, _, markIntS_ok none (a.getD j []) _ (by omega) (by omega) (hr _ hm), ?_⟩; simp (config := { maxSteps := 2000000 }) only [go_sem, Nat.reduceBEq, Nat.reduceAdd, Nat.reduceMul, Nat.reduceMod, Nat.reduceLT, Nat.reduceDiv, Nat.reduceSub, Nat.reduceLeDiff, Int.reduceToNat, Int.reduceLT, Int.reduceLE, reduceCtorEq, List.take_nil, List.drop_nil]
    refine ⟨inR_of (by omega) (by omega), hj', upR_set hj', by rw [ht]; omega, by simp⟩
  · have : j = a.length := by omega
    subst this
    simp
theorem heldIntSS_ok (nl : Option Bool) (a : List (List Int)) (k : Int) (h0 : 0 ≤ k) (h1 : k + tot a ≤ 1000000000000000000) (hl : a.length ≤ 1048576) (hr : ∀ r ∈ a, r.length ≤ 1048576) :
    CallOk Try.prog 14 [.s nl (rr (upR k a)), .i k] [(0, .i (k + tot a))] := by
  obtain ⟨code0, hcd1, hcd2⟩ := chk_laws_heldIntSS; refine callOk_of Try.func14 hcd1 mo Try.call14 (rs := [4]) (by kernel_rfl) hcd2 (by rw [Try.ntmps14]; simp) (by simp) (by decide) ?_; unfold C_laws_heldIntSS K_laws_heldIntSS; simp (config := { maxSteps := 2000000 }) only [go_sem, Nat.reduceBEq, Nat.reduceAdd, Nat.reduceMul, Nat.reduceMod, Nat.reduceLT, Nat.reduceDiv, Nat.reduceSub, Nat.reduceLeDiff, Int.reduceToNat, Int.reduceLT, Int.reduceLE, reduceCtorEq, List.take_nil, List.drop_nil]
  refine loopN a.length (fun j => [(0, .t .arg (.s nl (rr (upR k a)))), (1, .i (k + tot (a.take j))), (5, .i (j : Nat))]) (fun _ => True) ⟨trivial, by simp (config := { maxSteps := 2000000 }) only [go_sem, Nat.reduceBEq, Nat.reduceAdd, Nat.reduceMul, Nat.reduceMod, Nat.reduceLT, Nat.reduceDiv, Nat.reduceSub, Nat.reduceLeDiff, Int.reduceToNat, Int.reduceLT, Int.reduceLE, reduceCtorEq, List.take_nil, List.drop_nil]; simp [tot]⟩ fun j hj _ => ?_
  simp (config := { maxSteps := 2000000 }) only [go_sem, Nat.reduceBEq, Nat.reduceAdd, Nat.reduceMul, Nat.reduceMod, Nat.reduceLT, Nat.reduceDiv, Nat.reduceSub, Nat.reduceLeDiff, Int.reduceToNat, Int.reduceLT, Int.reduceLE, reduceCtorEq, List.take_nil, List.drop_nil, upR_len]
  refine ⟨fun hlt => ?_, fun hge => ?_⟩
  · have hj' : j < a.length := by omega
    have hm : a.getD j [] ∈ a := getD_mem hj'
    have ht := tot_take hj'
    have ht2 := tot_take_le (a := a) (j := j + 1)
    refine ⟨by omega, by omega, by omega, ?_⟩
    rw [upR_getD hj']
    refine ⟨_, heldIntS_ok none (a.getD j []).length _ (by omega) (by omega) (hr _ hm), ?_⟩; simp (config := { maxSteps := 2000000 }) only [go_sem, Nat.reduceBEq, Nat.reduceAdd, Nat.reduceMul, Nat.reduceMod, Nat.reduceLT, Nat.reduceDiv, Nat.reduceSub, Nat.reduceLeDiff, Int.reduceToNat, Int.reduceLT, Int.reduceLE, reduceCtorEq, List.take_nil, List.drop_nil]
    refine ⟨fun h => by omega, fun _ => ⟨inR_of (by omega) (by omega), hj', by rw [ht]; omega, by simp⟩⟩
  · have : j = a.length := by omega
    subst this
    simp
theorem szIL_tot : ∀ {a : List (List Int)} {left : Int}, 0 ≤ left → ¬ szIL a left < 0 → (tot a : Int) ≤ left
  | [], left, h0, h => by simpa [tot] using h0
  | r :: a, left, h0, h => by
    simp only [szIL] at h
    by_cases h2 : szI r left < 0
    · simp [h2] at h
    · rw [if_neg h2] at h
      have h3 := szIL_tot (by omega) h
      have h4 : szI r left = left - r.length := by unfold szI at h2 ⊢; split <;> rename_i h5 <;> simp [h5] at h2 ⊢
      have h5 : tot (r :: a) = r.length + tot a := by simp [tot]
      omega
theorem szII_tot {a : List (List Int)} {left : Int} (h : ¬ szII a left < 0) : (tot a : Int) ≤ left := by
  unfold szII at h
  split at h
  · simp at h
  · rename_i h2
    have := szIL_tot (by omega) h
    omega

end Go.Proofs.Ytelblnfnfeoapaa
