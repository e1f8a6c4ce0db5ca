/- Own work: contracts of functions that the claim reaches. No condition beyond those that each theorem names. -/
import Derived.Test.YtelblnfnfeoapaaProg
import Derived.Test.YtelblnfnfeoapaaSmall
namespace Go.Proofs.Ytelblnfnfeoapaa
open Go Go.Vc
set_option maxRecDepth 100000
set_option linter.unusedSimpArgs false
set_option linter.unusedVariables false
def K_laws_szIntS : List Nat := [0, 1, 4]
def C_laws_szIntS : C :=
  let ks := K_laws_szIntS
  (.seq
    (.rg 0 [(none, .v 4 .mv [.k (.i 0)])])
    (.cl ks (.seq
      (.rg 0 [(none, .v 5 .mv [.s 1]), (none, .v 6 .mv [.s 0]), (none, .v 7 .len [.s 6]), (none, .v 8 (.bin .sub) [.s 5, .s 7]), (none, .tk 1 8)])
      (.cl ks (.seq
        (.seq
          (.rg 0 [(none, .v 9 .mv [.s 1]), (none, .v 10 (.bin .lss) [.s 9, .k (.i 0)])])
          (.cond (.s 10)
            (.seq
              (.rg 0 [(none, .v 4 .mv [.k (.i (-1))])])
              .ret)
            .skip))
        (.cl ks (.seq
          (.rg 0 [(none, .v 11 .mv [.s 1]), (none, .tk 4 11)])
          .ret)))))))

theorem chk_laws_szIntS : ∃ b, Try.f25.body = some b ∧ chk Try.prog Try.f25.ntmps true C_laws_szIntS b = true := ⟨_, rfl, by kernel_rfl⟩
def K_laws_szIntSS : List Nat := [0, 1, 4, 5]
def C_laws_szIntSS : C :=
  let ks := K_laws_szIntSS
  (.seq
    (.rg 0 [(none, .v 4 .mv [.k (.i 0)])])
    (.cl ks (.seq
      (.rg 0 [(none, .v 6 .mv [.s 1]), (none, .v 7 .mv [.s 0]), (none, .v 8 .len [.s 7]), (none, .v 9 (.bin .sub) [.s 6, .s 8]), (none, .tk 1 9)])
      (.cl ks (.seq
        (.seq
          (.rg 0 [(none, .v 10 .mv [.s 1]), (none, .v 11 (.bin .lss) [.s 10, .k (.i 0)])])
          (.cond (.s 11)
            (.seq
              (.rg 0 [(none, .v 4 .mv [.k (.i (-1))])])
              .ret)
            .skip))
        (.cl ks (.seq
          (.seq
            (.rg 0 [(none, .v 5 .mv [.k (.i 0)])])
            (.cl ks (.block 0
              (.loop
                (.seq
                  (.seq
                    (.rg 0 [(none, .v 12 .mv [.s 5]), (none, .v 13 .mv [.s 0]), (none, .v 14 .len [.s 13]), (none, .v 15 (.bin .lss) [.s 12, .s 14])])
                    (.cond (.s 15)
                      .skip
                      (.exit 0)))
                  (.cl ks (.seq
                    (.block 1
                      (.seq
                        (.rg 0 [(none, .v 18 .mv [.s 0]), (none, .v 19 .mv [.s 5]), (none, .v 20 .idx [.s 18, .s 19]), (none, .v 21 .ld [.s 20]), (none, .v 22 .mv [.s 1]), (none, .co 23 25 [.s 21, .s 22]), (none, .tk 1 23)])
                        (.cl ks (.seq
                          (.rg 0 [(none, .v 24 .mv [.s 1]), (none, .v 25 (.bin .lss) [.s 24, .k (.i 0)])])
                          (.cond (.s 25)
                            (.seq
                              (.rg 0 [(none, .v 4 .mv [.k (.i (-1))])])
                              .ret)
                            .skip)))))
                    (.cl ks (.rg 0 [(none, .v 16 .mv [.s 5]), (none, .v 17 (.bin .add) [.s 16, .k (.i 1)]), (none, .tk 5 17)])))))))))
          (.cl ks (.seq
            (.rg 0 [(none, .v 26 .mv [.s 1]), (none, .tk 4 26)])
            .ret)))))))))

theorem chk_laws_szIntSS : ∃ b, Try.f19.body = some b ∧ chk Try.prog Try.f19.ntmps true C_laws_szIntSS b = true := ⟨_, rfl, by kernel_rfl⟩
def K_laws_toIntS : List Nat := [0, 2, 3, 4]
def C_laws_toIntS : C :=
  let ks := K_laws_toIntS
  (.seq
    (.rg 0 [(none, .mkn 2)])
    (.cl ks (.seq
      (.rg 0 [(none, .v 5 .mv [.s 0]), (none, .v 6 .len [.s 5]), (none, .mk 7 (.i 0) (.s 6) (.s 6)), (none, .tk 3 7)])
      (.cl ks (.seq
        (.seq
          (.rg 0 [(none, .v 4 .mv [.k (.i 0)])])
          (.cl ks (.block 0
            (.loop
              (.seq
                (.seq
                  (.rg 0 [(none, .v 8 .mv [.s 4]), (none, .v 9 .mv [.s 0]), (none, .v 10 .len [.s 9]), (none, .v 11 (.bin .lss) [.s 8, .s 10])])
                  (.cond (.s 11)
                    .skip
                    (.exit 0)))
                (.cl ks (.seq
                  (.block 1
                    (.rg 0 [(none, .v 14 .mv [.s 3]), (none, .v 15 .mv [.s 4]), (none, .v 16 .mv [.s 0]), (none, .v 17 .mv [.s 4]), (none, .v 18 .idx [.s 16, .s 17]), (none, .v 19 .ld [.s 18]), (none, .v 20 .idx [.s 14, .s 15]), (none, .st (.s 20) (.s 19))]))
                  (.cl ks (.rg 0 [(none, .v 12 .mv [.s 4]), (none, .v 13 (.bin .add) [.s 12, .k (.i 1)]), (none, .tk 4 13)])))))))))
        (.cl ks (.seq
          (.rg 0 [(none, .v 21 .mv [.s 3]), (none, .tk 2 21)])
          .ret)))))))

theorem chk_laws_toIntS : ∃ b, Try.f16.body = some b ∧ chk Try.prog Try.f16.ntmps true C_laws_toIntS b = true := ⟨_, rfl, by kernel_rfl⟩
def K_laws_toIntSS : List Nat := [0, 2, 3, 4]
def C_laws_toIntSS : C :=
  let ks := K_laws_toIntSS
  (.seq
    (.rg 0 [(none, .mkn 2)])
    (.cl ks (.seq
      (.rg 0 [(none, .v 5 .mv [.s 0]), (none, .v 6 .len [.s 5]), (none, .mk 7 (.s (some true) []) (.s 6) (.s 6)), (none, .tk 3 7)])
      (.cl ks (.seq
        (.seq
          (.rg 0 [(none, .v 4 .mv [.k (.i 0)])])
          (.cl ks (.block 0
            (.loop
              (.seq
                (.seq
                  (.rg 0 [(none, .v 8 .mv [.s 4]), (none, .v 9 .mv [.s 0]), (none, .v 10 .len [.s 9]), (none, .v 11 (.bin .lss) [.s 8, .s 10])])
                  (.cond (.s 11)
                    .skip
                    (.exit 0)))
                (.cl ks (.seq
                  (.block 1
                    (.rg 0 [(none, .v 14 .mv [.s 3]), (none, .v 15 .mv [.s 4]), (none, .v 16 .mv [.s 0]), (none, .v 17 .mv [.s 4]), (none, .v 18 .idx [.s 16, .s 17]), (none, .v 19 .ld [.s 18]), (none, .co 20 16 [.s 19]), (none, .v 21 .idx [.s 14, .s 15]), (none, .st (.s 21) (.s 20))]))
                  (.cl ks (.rg 0 [(none, .v 12 .mv [.s 4]), (none, .v 13 (.bin .add) [.s 12, .k (.i 1)]), (none, .tk 4 13)])))))))))
        (.cl ks (.seq
          (.rg 0 [(none, .v 22 .mv [.s 3]), (none, .tk 2 22)])
          .ret)))))))

theorem chk_laws_toIntSS : ∃ b, Try.f21.body = some b ∧ chk Try.prog Try.f21.ntmps true C_laws_toIntSS b = true := ⟨_, rfl, by kernel_rfl⟩
def K_laws_eqIntS : List Nat := [0, 1, 4, 5]
def C_laws_eqIntS : C :=
  let ks := K_laws_eqIntS
  (.seq
    (.rg 0 [(none, .v 4 .mv [.k (.b false)])])
    (.cl ks (.seq
      (.seq
        (.rg 0 [(none, .v 6 .mv [.s 0]), (none, .v 7 .len [.s 6]), (none, .v 8 .mv [.s 1]), (none, .v 9 .len [.s 8]), (none, .v 10 (.bin .neq) [.s 7, .s 9])])
        (.cond (.s 10)
          (.seq
            (.rg 0 [(none, .v 4 .mv [.k (.b false)])])
            .ret)
          .skip))
      (.cl ks (.seq
        (.seq
          (.rg 0 [(none, .v 5 .mv [.k (.i 0)])])
          (.cl ks (.block 0
            (.loop
              (.seq
                (.seq
                  (.rg 0 [(none, .v 11 .mv [.s 5]), (none, .v 12 .mv [.s 0]), (none, .v 13 .len [.s 12]), (none, .v 14 (.bin .lss) [.s 11, .s 13])])
                  (.cond (.s 14)
                    .skip
                    (.exit 0)))
                (.cl ks (.seq
                  (.block 1
                    (.seq
                      (.rg 8 [(none, .v 17 .mv [.s 0]), (none, .v 18 .mv [.s 5]), (none, .v 19 .idx [.s 17, .s 18]), (none, .v 20 .ld [.s 19]), (none, .v 21 .mv [.s 1]), (none, .v 22 .mv [.s 5]), (none, .v 23 .idx [.s 21, .s 22]), (none, .v 24 .ld [.s 23]), (none, .v 25 (.bin .neq) [.s 20, .s 24])])
                      (.cond (.s 25)
                        (.seq
                          (.rg 0 [(none, .v 4 .mv [.k (.b false)])])
                          .ret)
                        .skip)))
                  (.cl ks (.rg 0 [(none, .v 15 .mv [.s 5]), (none, .v 16 (.bin .add) [.s 15, .k (.i 1)]), (none, .tk 5 16)])))))))))
        (.cl ks (.seq
          (.rg 0 [(none, .v 4 .mv [.k (.b true)])])
          .ret)))))))

theorem chk_laws_eqIntS : ∃ b, Try.f18.body = some b ∧ chk Try.prog Try.f18.ntmps true C_laws_eqIntS b = true := ⟨_, rfl, by kernel_rfl⟩
def K_laws_eqIntSS : List Nat := [0, 1, 4, 5]
def C_laws_eqIntSS : C :=
  let ks := K_laws_eqIntSS
  (.seq
    (.rg 0 [(none, .v 4 .mv [.k (.b false)])])
    (.cl ks (.seq
      (.seq
        (.rg 0 [(none, .v 6 .mv [.s 0]), (none, .v 7 .len [.s 6]), (none, .v 8 .mv [.s 1]), (none, .v 9 .len [.s 8]), (none, .v 10 (.bin .neq) [.s 7, .s 9])])
        (.cond (.s 10)
          (.seq
            (.rg 0 [(none, .v 4 .mv [.k (.b false)])])
            .ret)
          .skip))
      (.cl ks (.seq
        (.seq
          (.rg 0 [(none, .v 5 .mv [.k (.i 0)])])
          (.cl ks (.block 0
            (.loop
              (.seq
                (.seq
                  (.rg 0 [(none, .v 11 .mv [.s 5]), (none, .v 12 .mv [.s 0]), (none, .v 13 .len [.s 12]), (none, .v 14 (.bin .lss) [.s 11, .s 13])])
                  (.cond (.s 14)
                    .skip
                    (.exit 0)))
                (.cl ks (.seq
                  (.block 1
                    (.seq
                      (.rg 8 [(none, .v 17 .mv [.s 0]), (none, .v 18 .mv [.s 5]), (none, .v 19 .idx [.s 17, .s 18]), (none, .v 20 .ld [.s 19]), (none, .v 21 .mv [.s 1]), (none, .v 22 .mv [.s 5]), (none, .v 23 .idx [.s 21, .s 22]), (none, .v 24 .ld [.s 23]), (none, .co 25 18 [.s 20, .s 24]), (none, .v 26 .not [.s 25])])
                      (.cond (.s 26)
                        (.seq
                          (.rg 0 [(none, .v 4 .mv [.k (.b false)])])
                          .ret)
                        .skip)))
                  (.cl ks (.rg 0 [(none, .v 15 .mv [.s 5]), (none, .v 16 (.bin .add) [.s 15, .k (.i 1)]), (none, .tk 5 16)])))))))))
        (.cl ks (.seq
          (.rg 0 [(none, .v 4 .mv [.k (.b true)])])
          .ret)))))))

theorem chk_laws_eqIntSS : ∃ b, Try.f10.body = some b ∧ chk Try.prog Try.f10.ntmps true C_laws_eqIntSS b = true := ⟨_, rfl, by kernel_rfl⟩
def szI (a : List Int) (left : Int) : Int := if left - a.length < 0 then -1 else left - a.length
theorem szI_bd {a : List Int} {left : Int} (h1 : left ≤ 1048576) : szI a left ≤ 1048576 := by unfold szI; split <;> omega
theorem szIntS_ok (nl : Option Bool) (a : List Int) (left : Int) (h0 : 0 ≤ left) (h1 : left ≤ 1048576) (hl : a.length ≤ 9223372036854775807) :
    CallOk Try.prog 25 [.s nl (ii a), .i left] [(0, .i (szI a left))] := by
  obtain ⟨code0, hcd1, hcd2⟩ := chk_laws_szIntS; refine callOk_of Try.func25 hcd1 mo Try.call25 (rs := [4]) (by kernel_rfl) hcd2 (by rw [Try.ntmps25]; simp) (by simp) (by decide) ?_; unfold C_laws_szIntS K_laws_szIntS; simp (config := { maxSteps := 2000000 }) only [go_sem, Nat.reduceBEq, Nat.reduceAdd, Nat.reduceMul, Nat.reduceMod, Nat.reduceLT, Nat.reduceDiv, Nat.reduceSub, Nat.reduceLeDiff, Int.reduceToNat, Int.reduceLT, Int.reduceLE, reduceCtorEq, List.take_nil, List.drop_nil]
  refine ⟨by unfold inR; omega, fun h => ?_, fun h => ?_⟩
  · simp only [szI, if_pos h]
  · simp only [szI, if_neg h]
/-- What is left after the rows; below 0: too much. -/
def szIL : List (List Int) → Int → Int
  | [], left => left
  | r :: rs, left => if szI r left < 0 then -1 else szIL rs (szI r left)
def szII (a : List (List Int)) (left : Int) : Int := if left - a.length < 0 then -1 else szIL a (left - a.length)
theorem szIntSS_ok (nl : Option Bool) (a : List (List Int)) (left : Int) (h0 : 0 ≤ left) (h1 : left ≤ 1048576) (hl : a.length ≤ 9223372036854775807) (hr : ∀ r ∈ a, r.length ≤ 9223372036854775807) :
    CallOk Try.prog 19 [.s nl (rr a), .i left] [(0, .i (szII a left))] := by
  obtain ⟨code0, hcd1, hcd2⟩ := chk_laws_szIntSS; refine callOk_of Try.func19 hcd1 mo Try.call19 (rs := [4]) (by kernel_rfl) hcd2 (by rw [Try.ntmps19]; simp) (by simp) (by decide) ?_; unfold C_laws_szIntSS K_laws_szIntSS; simp (config := { maxSteps := 2000000 }) only [go_sem, Nat.reduceBEq, Nat.reduceAdd, Nat.reduceMul, Nat.reduceMod, Nat.reduceLT, Nat.reduceDiv, Nat.reduceSub, Nat.reduceLeDiff, Int.reduceToNat, Int.reduceLT, Int.reduceLE, reduceCtorEq, List.take_nil, List.drop_nil]
  refine ⟨by unfold inR; omega, fun h => by simp only [szII, if_pos h], fun h => ?_⟩
  refine ⟨{p : Nat × Int // p.1 ≤ a.length ∧ 0 ≤ p.2 ∧ p.2 ≤ 1048576 ∧ szII a left = szIL (a.drop p.1) p.2}, fun p => [(0, .t .arg (.s nl (rr a))), (1, .i p.1.2), (5, .i (p.1.1 : Nat))], fun p => a.length - p.1.1,
    ⟨⟨(0, left - a.length), by omega, by omega, by omega, by simp only [szII, if_neg h, List.drop_zero]⟩, ?_⟩, ?_⟩
  · simp (config := { maxSteps := 2000000 }) only [go_sem, Nat.reduceBEq, Nat.reduceAdd, Nat.reduceMul, Nat.reduceMod, Nat.reduceLT, Nat.reduceDiv, Nat.reduceSub, Nat.reduceLeDiff, Int.reduceToNat, Int.reduceLT, Int.reduceLE, reduceCtorEq, List.take_nil, List.drop_nil]; simp
  intro ⟨⟨j, x⟩, hj, hx0, hx1, he⟩
  simp only at hj hx0 hx1 he
  simp (config := { maxSteps := 2000000 }) only [go_sem, Nat.reduceBEq, Nat.reduceAdd, Nat.reduceMul, Nat.reduceMod, Nat.reduceLT, Nat.reduceDiv, Nat.reduceSub, Nat.reduceLeDiff, Int.reduceToNat, Int.reduceLT, Int.reduceLE, reduceCtorEq, List.take_nil, List.drop_nil]
  refine ⟨fun hlt => ⟨by omega, by omega, by omega, ?_⟩, fun hge => ?_⟩
  · have ha : j < a.length := by omega
    have hm : a.getD j [] ∈ a := getD_mem ha
    have hd := drop_getD ([] : List Int) ha
    refine ⟨_, szIntS_ok none _ x hx0 hx1 (hr _ hm), ?_⟩; simp (config := { maxSteps := 2000000 }) only [go_sem, Nat.reduceBEq, Nat.reduceAdd, Nat.reduceMul, Nat.reduceMod, Nat.reduceLT, Nat.reduceDiv, Nat.reduceSub, Nat.reduceLeDiff, Int.reduceToNat, Int.reduceLT, Int.reduceLE, reduceCtorEq, List.take_nil, List.drop_nil]
    refine ⟨fun hn => ?_, fun hn => ⟨by unfold inR; omega, ⟨(j + 1, szI (a.getD j []) x), by simp only; omega, by simp only; omega, szI_bd hx1, ?_⟩, by simp only; omega, ?_⟩⟩
    · rw [he, hd]; simp only [szIL, if_pos hn]
    · rw [he, hd]; simp only [szIL, if_neg hn]
    · simp (config := { maxSteps := 2000000 }) only [go_sem, Nat.reduceBEq, Nat.reduceAdd, Nat.reduceMul, Nat.reduceMod, Nat.reduceLT, Nat.reduceDiv, Nat.reduceSub, Nat.reduceLeDiff, Int.reduceToNat, Int.reduceLT, Int.reduceLE, reduceCtorEq, List.take_nil, List.drop_nil]; simp
  · have : j = a.length := by omega
    subst this
    rw [he, List.drop_length]; rfl
theorem szIL_ok {a : List (List Int)} {left : Int} (h1 : left ≤ 1048576) (h : ¬ szIL a left < 0) : ∀ r ∈ a, r.length ≤ 1048576 := by
  induction a generalizing left with
  | nil => intro r hr; simp at hr
  | cons x a ih =>
    intro r hr
    simp only [szIL] at h
    by_cases h2 : szI x left < 0
    · simp [h2] at h
    · rw [if_neg h2] at h
      rcases List.mem_cons.1 hr with rfl | hr
      · unfold szI at h2; split at h2 <;> omega
      · exact ih (szI_bd h1) h r hr
theorem szII_ok {a : List (List Int)} {left : Int} (h1 : left ≤ 1048576) (h : ¬ szII a left < 0) : a.length ≤ 1048576 ∧ ∀ r ∈ a, r.length ≤ 1048576 := by
  unfold szII at h
  split at h
  · simp at h
  · exact ⟨by omega, szIL_ok (by omega) h⟩
theorem take_set {α : Type} {a : List α} {j n : Nat} {d z : α} (hj : j < a.length) (hn : a.length = n) : (a.take j ++ List.replicate (n - j) z).set j (a.getD j d) = a.take (j + 1) ++ List.replicate (n - (j + 1)) z := by
  have h1 : n - j = (n - (j + 1)) + 1 := by omega
  have hl : (a.take j).length = j := by rw [List.length_take]; omega
  rw [h1, List.replicate_succ, List.set_append_right _ _ (by omega), hl, Nat.sub_self, List.set_cons_zero, ← List.take_append_getElem hj, List.append_assoc]
  simp [List.getD, hj]
theorem toIntS_ok (nl : Option Bool) (a : List Int) (hl : a.length ≤ 1048576) :
    CallOk Try.prog 16 [.s nl (ii a)] [(0, .own 1 (some false) (ii a))] := by
  obtain ⟨code0, hcd1, hcd2⟩ := chk_laws_toIntS; refine callOk_of Try.func16 hcd1 mo Try.call16 (rs := [2]) (by kernel_rfl) hcd2 (by rw [Try.ntmps16]; simp) (by simp) (by decide) ?_; unfold C_laws_toIntS K_laws_toIntS; simp (config := { maxSteps := 2000000 }) only [go_sem, Nat.reduceBEq, Nat.reduceAdd, Nat.reduceMul, Nat.reduceMod, Nat.reduceLT, Nat.reduceDiv, Nat.reduceSub, Nat.reduceLeDiff, Int.reduceToNat, Int.reduceLT, Int.reduceLE, reduceCtorEq, List.take_nil, List.drop_nil]
  refine ⟨by omega, by omega, ?_⟩
  refine loopN a.length (fun j => [(0, .t .arg (.s nl (ii a))), (3, .own 1 (some false) (ii (a.take j ++ List.replicate (a.length - j) 0))), (4, .i (j : Nat))]) (fun _ => True) ⟨trivial, by simp (config := { maxSteps := 2000000 }) only [go_sem, Nat.reduceBEq, Nat.reduceAdd, Nat.reduceMul, Nat.reduceMod, Nat.reduceLT, Nat.reduceDiv, Nat.reduceSub, Nat.reduceLeDiff, Int.reduceToNat, Int.reduceLT, Int.reduceLE, reduceCtorEq, List.take_nil, List.drop_nil]; simp⟩ fun j hj _ => ?_
  simp (config := { maxSteps := 2000000 }) only [go_sem, Nat.reduceBEq, Nat.reduceAdd, Nat.reduceMul, Nat.reduceMod, Nat.reduceLT, Nat.reduceDiv, Nat.reduceSub, Nat.reduceLeDiff, Int.reduceToNat, Int.reduceLT, Int.reduceLE, reduceCtorEq, List.take_nil, List.drop_nil]
  refine ⟨fun hlt => ?_, fun hge => ?_⟩
  · refine ⟨by omega, by omega, by omega, by omega, by simp; omega, by simp; omega, inR_of (by omega) (by omega), by omega, take_set (by omega) rfl, by simp⟩
  · have : j = a.length := by omega
    subst this
    simp
theorem eqIntS_ok (nl nl' : Option Bool) (a b : List Int) (hl : a.length ≤ 1048576) :
    CallOk Try.prog 18 [.s nl (ii a), .s nl' (ii b)] [(0, .b (decide (a = b)))] := by
  obtain ⟨code0, hcd1, hcd2⟩ := chk_laws_eqIntS; refine callOk_of Try.func18 hcd1 mo Try.call18 (rs := [4]) (by kernel_rfl) hcd2 (by rw [Try.ntmps18]; simp) (by simp) (by decide) ?_; unfold C_laws_eqIntS K_laws_eqIntS; simp (config := { maxSteps := 2000000 }) only [go_sem, Nat.reduceBEq, Nat.reduceAdd, Nat.reduceMul, Nat.reduceMod, Nat.reduceLT, Nat.reduceDiv, Nat.reduceSub, Nat.reduceLeDiff, Int.reduceToNat, Int.reduceLT, Int.reduceLE, reduceCtorEq, List.take_nil, List.drop_nil]
  refine ⟨fun h => ?_, fun hab => ?_⟩
  · have : ¬ a = b := fun e => h (by rw [e])
    simp [this]
  refine loopN a.length (fun j => [(0, .t .arg (.s nl (ii a))), (1, .t .arg (.s nl' (ii b))), (5, .i (j : Nat))]) (fun j => a.take j = b.take j) ⟨rfl, by simp (config := { maxSteps := 2000000 }) only [go_sem, Nat.reduceBEq, Nat.reduceAdd, Nat.reduceMul, Nat.reduceMod, Nat.reduceLT, Nat.reduceDiv, Nat.reduceSub, Nat.reduceLeDiff, Int.reduceToNat, Int.reduceLT, Int.reduceLE, reduceCtorEq, List.take_nil, List.drop_nil]; simp⟩ fun j hj he => ?_
  simp (config := { maxSteps := 2000000 }) only [go_sem, Nat.reduceBEq, Nat.reduceAdd, Nat.reduceMul, Nat.reduceMod, Nat.reduceLT, Nat.reduceDiv, Nat.reduceSub, Nat.reduceLeDiff, Int.reduceToNat, Int.reduceLT, Int.reduceLE, reduceCtorEq, List.take_nil, List.drop_nil]
  refine ⟨fun hlt => ⟨by omega, by omega, by omega, by omega, by omega, by omega, fun hn => ?_, fun hn => ⟨inR_of (by omega) (by omega), by omega, ?_, by simp⟩⟩, fun hge => ?_⟩
  · have : ¬ a = b := fun e => hn (by rw [e])
    simp [this]
  · rw [take_getD 0 (show j < a.length by omega), take_getD 0 (show j < b.length by omega), he, hn]
  · have : j = a.length := by omega
    subst this
    have : a = b := by rw [List.take_length, hab, List.take_length] at he; exact he
    simp [this]
theorem toIntSS_ok (nl : Option Bool) (a : List (List Int)) (hl : a.length ≤ 1048576) (hr : ∀ r ∈ a, r.length ≤ 1048576) :
    CallOk Try.prog 21 [.s nl (rr a)] [(0, .own 1 (some false) (rr a))] := by
  obtain ⟨code0, hcd1, hcd2⟩ := chk_laws_toIntSS; refine callOk_of Try.func21 hcd1 mo Try.call21 (rs := [2]) (by kernel_rfl) hcd2 (by rw [Try.ntmps21]; simp) (by simp) (by decide) ?_; unfold C_laws_toIntSS K_laws_toIntSS; simp (config := { maxSteps := 2000000 }) only [go_sem, Nat.reduceBEq, Nat.reduceAdd, Nat.reduceMul, Nat.reduceMod, Nat.reduceLT, Nat.reduceDiv, Nat.reduceSub, Nat.reduceLeDiff, Int.reduceToNat, Int.reduceLT, Int.reduceLE, reduceCtorEq, List.take_nil, List.drop_nil]
  refine ⟨by omega, by omega, ?_⟩
  refine loopN a.length (fun j => [(0, .t .arg (.s nl (rr a))), (3, .own 1 (some false) (rr (a.take j ++ List.replicate (a.length - j) []))), (4, .i (j : Nat))]) (fun _ => True) ⟨trivial, by simp (config := { maxSteps := 2000000 }) only [go_sem, Nat.reduceBEq, Nat.reduceAdd, Nat.reduceMul, Nat.reduceMod, Nat.reduceLT, Nat.reduceDiv, Nat.reduceSub, Nat.reduceLeDiff, Int.reduceToNat, Int.reduceLT, Int.reduceLE, reduceCtorEq, List.take_nil, List.drop_nil]; simp⟩ fun j hj _ => ?_
  simp (config := { maxSteps := 2000000 }) only [go_sem, Nat.reduceBEq, Nat.reduceAdd, Nat.reduceMul, Nat.reduceMod, Nat.reduceLT, Nat.reduceDiv, Nat.reduceSub, Nat.reduceLeDiff, Int.reduceToNat, Int.reduceLT, Int.reduceLE, reduceCtorEq, List.take_nil, List.drop_nil]
  refine ⟨fun hlt => ?_, fun hge => ?_⟩
  · have hm : a.getD j [] ∈ a := getD_mem (by omega)
    refine ⟨by omega, by omega, by omega, ?_⟩
    refine ⟨_, toIntS_ok none _ (hr _ hm), ?_⟩; simp (config := { maxSteps := 2000000 }) only [go_sem, Nat.reduceBEq, Nat.reduceAdd, Nat.reduceMul, Nat.reduceMod, Nat.reduceLT, Nat.reduceDiv, Nat.reduceSub, Nat.reduceLeDiff, Int.reduceToNat, Int.reduceLT, Int.reduceLE, reduceCtorEq, List.take_nil, List.drop_nil]
    exact ⟨by omega, by simp; omega, by simp; omega, inR_of (by omega) (by omega), by omega, take_set (by omega) rfl, by simp⟩
  · have : j = a.length := by omega
    subst this
    simp
theorem eqIntSS_ok (nl nl' : Option Bool) (a b : List (List Int)) (hl : a.length ≤ 1048576) (hr : ∀ r ∈ a, r.length ≤ 1048576) :
    CallOk Try.prog 10 [.s nl (rr a), .s nl' (rr b)] [(0, .b (decide (a = b)))] := by
  obtain ⟨code0, hcd1, hcd2⟩ := chk_laws_eqIntSS; refine callOk_of Try.func10 hcd1 mo Try.call10 (rs := [4]) (by kernel_rfl) hcd2 (by rw [Try.ntmps10]; simp) (by simp) (by decide) ?_; unfold C_laws_eqIntSS K_laws_eqIntSS; simp (config := { maxSteps := 2000000 }) only [go_sem, Nat.reduceBEq, Nat.reduceAdd, Nat.reduceMul, Nat.reduceMod, Nat.reduceLT, Nat.reduceDiv, Nat.reduceSub, Nat.reduceLeDiff, Int.reduceToNat, Int.reduceLT, Int.reduceLE, reduceCtorEq, List.take_nil, List.drop_nil]
  refine ⟨fun h => ?_, fun hab => ?_⟩
  · have : ¬ a = b := fun e => h (by rw [e])
    simp [this]
  refine loopN a.length (fun j => [(0, .t .arg (.s nl (rr a))), (1, .t .arg (.s nl' (rr b))), (5, .i (j : Nat))]) (fun j => a.take j = b.take j) ⟨rfl, by simp (config := { maxSteps := 2000000 }) only [go_sem, Nat.reduceBEq, Nat.reduceAdd, Nat.reduceMul, Nat.reduceMod, Nat.reduceLT, Nat.reduceDiv, Nat.reduceSub, Nat.reduceLeDiff, Int.reduceToNat, Int.reduceLT, Int.reduceLE, reduceCtorEq, List.take_nil, List.drop_nil]; simp⟩ fun j hj he => ?_
  simp (config := { maxSteps := 2000000 }) only [go_sem, Nat.reduceBEq, Nat.reduceAdd, Nat.reduceMul, Nat.reduceMod, Nat.reduceLT, Nat.reduceDiv, Nat.reduceSub, Nat.reduceLeDiff, Int.reduceToNat, Int.reduceLT, Int.reduceLE, reduceCtorEq, List.take_nil, List.drop_nil]
  refine ⟨fun hlt => ?_, fun hge => ?_⟩
  · have hm : a.getD j [] ∈ a := getD_mem (by omega)
    refine ⟨by omega, by omega, by omega, by omega, by omega, by omega, ?_⟩
    refine ⟨_, eqIntS_ok none none _ (b.getD j []) (hr _ hm), ?_⟩; simp (config := { maxSteps := 2000000 }) only [go_sem, Nat.reduceBEq, Nat.reduceAdd, Nat.reduceMul, Nat.reduceMod, Nat.reduceLT, Nat.reduceDiv, Nat.reduceSub, Nat.reduceLeDiff, Int.reduceToNat, Int.reduceLT, Int.reduceLE, reduceCtorEq, List.take_nil, List.drop_nil]
    refine ⟨fun hn => ?_, fun hn => ⟨inR_of (by omega) (by omega), by omega, ?_, by simp⟩⟩
    · have : ¬ a = b := fun e => hn (by rw [e])
      simp [this]
    · rw [take_getD [] (show j < a.length by omega), take_getD [] (show j < b.length by omega), he, hn]
  · have : j = a.length := by omega
    subst this
    have : a = b := by rw [List.take_length, hab, List.take_length] at he; exact he
    simp [this]

end Go.Proofs.Ytelblnfnfeoapaa
