/- Own work: contracts of functions that the claim reaches. No condition beyond those that each theorem names. -/
import Derived.Test.YtelblnfnfeoapaaProg
import Derived.Test.YtelblnfnfeoapaaFilled
namespace Go.Proofs.Ytelblnfnfeoapaa
open Go Go.Vc
set_option maxRecDepth 100000
set_option linter.unusedSimpArgs false
set_option linter.unusedVariables false
def K_spec_l13Give : List Nat := [0, 1, 2, 6, 7, 8, 9, 10, 11, 22, 23, 24]
def C_spec_l13Give : C :=
  let ks := K_spec_l13Give
  (.seq
    (.rg 0 [(none, .mkn 6)])
    (.cl ks (.seq
      (.rg 0 [(none, .lit 12 [] 0), (none, .v 13 .mv [.s 0]), (none, .app 14 (.s 12) (.s 13) 0), (none, .tk 7 14)])
      (.cl ks (.seq
        (.rg 0 [(none, .v 15 .mv [.s 0]), (none, .v 16 .len [.s 15]), (none, .mk 17 (.b false) (.s 16) (.s 16)), (none, .tk 8 17)])
        (.cl ks (.seq
          (.block 0
            (.loop
              (.seq
                (.seq
                  (.rg 0 [(none, .v 18 .mv [.s 7]), (none, .co 19 104 [.s 18]), (none, .v 20 .mv [.s 2]), (none, .v 21 (.bin .lss) [.s 19, .s 20])])
                  (.cond (.s 21)
                    .skip
                    (.exit 0)))
                (.cl ks (.block 1
                  (.seq
                    (.rg 0 [(none, .v 9 .mv [.k (.i (-1))])])
                    (.cl ks (.seq
                      (.seq
                        (.rg 0 [(none, .v 22 .mv [.s 1]), (none, .v 23 .len [.s 22]), (none, .v 24 .mv [.k (.i 0)])])
                        (.cl ks (.block 2
                          (.loop
                            (.seq
                              (.rg 0 [(none, .v 25 (.bin .lss) [.s 24, .s 23])])
                              (.seq
                                (.cond (.s 25)
                                  .skip
                                  (.exit 2))
                                (.cl ks (.seq
                                  (.block 3
                                    (.seq
                                      (.rg 0 [(none, .v 26 .mv [.s 24]), (none, .v 27 .idx [.s 22, .s 24]), (none, .v 28 .ld [.s 27]), (none, .tk 10 26), (none, .tk 11 28)])
                                      (.cl ks (.seq
                                        (.rg 0 [(none, .v 29 .mv [.s 8]), (none, .v 30 .mv [.s 10]), (none, .v 31 .idx [.s 29, .s 30]), (none, .v 32 .ld [.s 31]), (none, .v 33 .not [.s 32]), (none, .v 34 .mv [.s 33]), (some (34, true), .v 35 .mv [.s 9]), (some (34, true), .v 36 (.bin .lss) [.s 35, .k (.i 0)]), (some (34, true), .v 37 .mv [.s 36]), (some (37, false), .v 38 .mv [.s 11]), (some (37, false), .v 39 .mv [.s 1]), (some (37, false), .v 40 .mv [.s 9]), (some (37, false), .v 41 .idx [.s 39, .s 40]), (some (37, false), .v 42 .ld [.s 41]), (some (37, false), .v 43 (.bin .gtr) [.s 38, .s 42]), (some (34, true), .v 44 .pick [.s 37, .k (.b true), .s 43]), (none, .v 45 .pick [.s 34, .s 44, .k (.b false)])])
                                        (.cond (.s 45)
                                          (.rg 0 [(none, .v 46 .mv [.s 10]), (none, .tk 9 46)])
                                          .skip)))))
                                  (.cl ks (.rg 0 [(none, .v 47 (.bin .add) [.s 24, .k (.i 1)]), (none, .v 24 .mv [.s 47])]))))))))))
                      (.cl ks (.seq
                        (.rg 0 [(none, .v 48 .mv [.s 8]), (none, .v 49 .mv [.s 9]), (none, .v 50 .idx [.s 48, .s 49]), (none, .st (.s 50) (.k (.b true)))])
                        (.cl ks (.rg 0 [(none, .v 51 .mv [.s 7]), (none, .v 52 .mv [.s 9]), (none, .v 53 .idx [.s 51, .s 52]), (none, .v 54 .ld [.s 53]), (none, .v 55 (.bin .add) [.s 54, .k (.i 1)]), (none, .v 56 .idx [.s 51, .s 52]), (none, .st (.s 56) (.s 55))]))))))))))))
          (.cl ks (.seq
            (.rg 0 [(none, .v 57 .mv [.s 7]), (none, .tk 6 57)])
            .ret)))))))))

theorem chk_spec_l13Give : ∃ b, Try.f81.body = some b ∧ chk Try.prog Try.f81.ntmps true C_spec_l13Give b = true := ⟨_, rfl, by kernel_rfl⟩
def usedL (O : List Int) (t n : Nat) : List Bool := (List.range n).map (usedO O t)
theorem usedL_len {O : List Int} {t n : Nat} : (usedL O t n).length = n := by simp [usedL]
theorem usedL0 {O : List Int} {n : Nat} : (List.range n).map (usedO O 0) = List.replicate n false := by
  apply List.ext_getElem
  · simp
  · intro i h1 h2; simp [usedO]
theorem usedL_get {O : List Int} {t n i : Nat} (h : i < n) : (usedL O t n).getD i false = usedO O t i := by simp [usedL, List.getD, h]
theorem usedL_set {O : List Int} {t n : Nat} (ht : t < O.length) (h0 : 0 ≤ O.getD t 0) : (usedL O t n).set (O.getD t 0).toNat true = usedL O (t + 1) n := by
  apply List.ext_getElem?
  intro k
  rw [List.getElem?_set]
  by_cases hk : k < n
  · have e : ∀ t, (usedL O t n)[k]? = some (usedO O t k) := fun t => by simp [usedL, hk]
    have e2 : usedO O (t + 1) k = (usedO O t k || decide ((k : Int) = O.getD t 0)) := by
      simp only [usedO]; rw [take_getD 0 ht, List.any_append]; simp
    rw [e, e, e2, usedL_len]
    by_cases hx : (O.getD t 0).toNat = k
    · rw [if_pos hx, if_pos (by omega)]
      have : (k : Int) = O.getD t 0 := by omega
      simp [this]
    · have : ¬ (k : Int) = O.getD t 0 := by omega
      rw [if_neg hx, decide_eq_false this, Bool.or_false]
  · have e : ∀ t, (usedL O t n)[k]? = none := fun t => by simp [usedL]; omega
    rw [e, e, usedL_len]
    by_cases hx : (O.getD t 0).toNat = k
    · rw [if_pos hx, if_neg (by omega)]
    · rw [if_neg hx]
theorem spec_l13Give_ok {n1 n2 : Option Bool} (ss rs : List Int) (n : Int) (h0 : 0 < ss.length) (h6 : ss.length ≤ 6) (hl : rs.length = ss.length) (hs : ∀ x ∈ ss, 0 ≤ x ∧ x ≤ 900000000) (hr : ∀ x ∈ rs, 0 ≤ x ∧ x ≤ 1000000000) (k : Nat) (hk : k ≤ ss.length) (hn : n = sumL ss + k) :
    CallOk Try.prog 81 [.s n1 (ii ss), .s n2 (ii rs), .i n] [(0, .own 1 none (ii (fillN ss (ordR rs ss.length) k)))] := by
  obtain ⟨code0, hcd1, hcd2⟩ := chk_spec_l13Give; refine callOk_of Try.func81 hcd1 mo Try.call81 (rs := [6]) (by kernel_rfl) hcd2 (by rw [Try.ntmps81]; simp) (by simp) (by decide) ?_; unfold C_spec_l13Give K_spec_l13Give; simp (config := { maxSteps := 2000000 }) only [go_sem, Nat.reduceBEq, Nat.reduceAdd, Nat.reduceMul, Nat.reduceMod, Nat.reduceLT, Nat.reduceDiv, Nat.reduceSub, Nat.reduceLeDiff, Int.reduceToNat, Int.reduceLT, Int.reduceLE, reduceCtorEq, List.take_nil, List.drop_nil]
  have hO := ordR_perm (rs := rs) (n := ss.length)
  have hOl := ordR_len (rs := rs) (n := ss.length)
  have hB := fun t ht => bestS_ord (rs := rs) (n := ss.length) (t := t) ht
  generalize ordR rs ss.length = O at *
  have hm : ∀ j, j < ss.length → 0 ≤ O.getD j 0 ∧ O.getD j 0 < ss.length := fun j hj => upto_mem.1 (hO.mem_iff.1 (getD_mem (d := 0) (by omega)))
  have hsum := fun t ht => fillN_sum hm (t := t) ht
  refine ⟨by omega, by omega, by omega, ?_⟩
  refine loopN k (fun t => [(0, .t .arg (.s n1 (ii ss))), (1, .t .arg (.s n2 (ii rs))), (2, .i n), (7, .own 1 none (ii (fillN ss O t))), (8, .own 1 (some false) (bb (usedL O t ss.length)))]) (fun _ => True) ⟨trivial, by simp (config := { maxSteps := 2000000 }) only [go_sem, Nat.reduceBEq, Nat.reduceAdd, Nat.reduceMul, Nat.reduceMod, Nat.reduceLT, Nat.reduceDiv, Nat.reduceSub, Nat.reduceLeDiff, Int.reduceToNat, Int.reduceLT, Int.reduceLE, reduceCtorEq, List.take_nil, List.drop_nil]; refine ⟨by simp [fillN], ?_⟩; unfold usedL; rw [usedL0]⟩ fun t ht _ => ?_
  simp (config := { maxSteps := 2000000 }) only [go_sem, Nat.reduceBEq, Nat.reduceAdd, Nat.reduceMul, Nat.reduceMod, Nat.reduceLT, Nat.reduceDiv, Nat.reduceSub, Nat.reduceLeDiff, Int.reduceToNat, Int.reduceLT, Int.reduceLE, reduceCtorEq, List.take_nil, List.drop_nil]
  have hfb := fillN_bd (O := O) hs (j := t)
  refine ⟨_, spec_l13Sum_ok (fillN ss O t) (by rw [fillN_len]; omega) (fun x hx => by have := hfb x hx; omega), ?_⟩; simp (config := { maxSteps := 2000000 }) only [go_sem, Nat.reduceBEq, Nat.reduceAdd, Nat.reduceMul, Nat.reduceMod, Nat.reduceLT, Nat.reduceDiv, Nat.reduceSub, Nat.reduceLeDiff, Int.reduceToNat, Int.reduceLT, Int.reduceLE, reduceCtorEq, List.take_nil, List.drop_nil]
  rw [hsum t (by omega)]
  refine ⟨fun hlt => ?_, fun hge => ?_⟩
  · have ht' : t < k := by omega
    refine loopN ss.length (fun j => [(0, .t .arg (.s n1 (ii ss))), (1, .t .arg (.s n2 (ii rs))), (2, .i n), (7, .own 1 none (ii (fillN ss O t))), (8, .own 1 (some false) (bb (usedL O t ss.length))), (9, .i (bestS (usedO O t) rs j)), (22, .t .arg (.s n2 (ii rs))), (23, .i ss.length), (24, .i (j : Nat))]) (fun _ => True) ⟨trivial, by simp (config := { maxSteps := 2000000 }) only [go_sem, Nat.reduceBEq, Nat.reduceAdd, Nat.reduceMul, Nat.reduceMod, Nat.reduceLT, Nat.reduceDiv, Nat.reduceSub, Nat.reduceLeDiff, Int.reduceToNat, Int.reduceLT, Int.reduceLE, reduceCtorEq, List.take_nil, List.drop_nil]; simp [bestS, hl]⟩ fun j hj _ => ?_
    have hbs : bestS (usedO O t) rs j = -1 ∨ 0 ≤ bestS (usedO O t) rs j ∧ bestS (usedO O t) rs j < j := by
      rcases bestS_spec (used := usedO O t) (rs := rs) (j := j) with ⟨e, _⟩ | ⟨b, e, hb, _⟩
      · exact .inl e
      · rw [e]; exact .inr ⟨by omega, by omega⟩
    have done : ¬ (j : Int) < ss.length → bestS (usedO O t) rs j = O.getD t 0 ∧ j = ss.length := fun h => by
      have : j = ss.length := by omega
      subst this
      exact ⟨hB t (by omega), rfl⟩
    have hmt := hm t (by omega)
    have hgb := hfb _ (getD_mem (d := 0) (show (O.getD t 0).toNat < (fillN ss O t).length by rw [fillN_len]; omega))
    have hfl := fillN_len (ss := ss) (O := O) (j := t)
    have hset := usedL_set (O := O) (t := t) (n := ss.length) (by omega) (by omega)
    by_cases hj' : j < ss.length
    · cases hu : usedO O t j with
      | true =>
        have hb1 : bestS (usedO O t) rs (j + 1) = bestS (usedO O t) rs j := by simp only [bestS]; rw [if_neg (by rw [hu]; simp)]
        simp (config := { maxSteps := 2000000 }) only [go_sem, Nat.reduceBEq, Nat.reduceAdd, Nat.reduceMul, Nat.reduceMod, Nat.reduceLT, Nat.reduceDiv, Nat.reduceSub, Nat.reduceLeDiff, Int.reduceToNat, Int.reduceLT, Int.reduceLE, reduceCtorEq, List.take_nil, List.drop_nil, usedL_len, usedL_get hj', hu]
        exact ⟨fun _ => ⟨by omega, by omega, by omega, by omega, by omega, by omega, inR_of (by omega) (by omega), by omega, hb1.symm, by omega⟩, fun h => absurd h (by omega)⟩
      | false =>
        have hb1 : bestS (usedO O t) rs (j + 1) = if bestS (usedO O t) rs j < 0 ∨ rs.getD (bestS (usedO O t) rs j).toNat 0 < rs.getD j 0 then (j : Int) else bestS (usedO O t) rs j := by simp only [bestS, hu, true_and]
        simp (config := { maxSteps := 2000000 }) only [go_sem, Nat.reduceBEq, Nat.reduceAdd, Nat.reduceMul, Nat.reduceMod, Nat.reduceLT, Nat.reduceDiv, Nat.reduceSub, Nat.reduceLeDiff, Int.reduceToNat, Int.reduceLT, Int.reduceLE, reduceCtorEq, List.take_nil, List.drop_nil, usedL_len, usedL_get hj', hu]
        refine ⟨fun _ => ⟨by omega, by omega, by omega, by omega, by omega, by omega, fun h => ⟨by omega, by omega, by omega, fun h2 => ⟨inR_of (by omega) (by omega), by omega, ?_, by omega⟩, fun h2 => ⟨inR_of (by omega) (by omega), by omega, ?_, by omega⟩⟩, fun h => ⟨inR_of (by omega) (by omega), by omega, ?_, by omega⟩⟩, fun h => absurd h (by omega)⟩
        · rw [hb1, if_pos (.inr h2)]
        · rw [hb1, if_neg (by omega)]
        · rw [hb1, if_pos (.inl h)]
    · obtain ⟨e, ej⟩ := done (by omega)
      simp (config := { maxSteps := 2000000 }) only [go_sem, Nat.reduceBEq, Nat.reduceAdd, Nat.reduceMul, Nat.reduceMod, Nat.reduceLT, Nat.reduceDiv, Nat.reduceSub, Nat.reduceLeDiff, Int.reduceToNat, Int.reduceLT, Int.reduceLE, reduceCtorEq, List.take_nil, List.drop_nil, usedL_len]
      rw [e]
      refine ⟨fun h => absurd h (by omega), fun _ => ⟨by omega, by omega, by omega, by omega, by omega, by omega, inR_of (by omega) (by omega), by omega, by omega, by omega, ht', rfl, hset⟩⟩
  · have : t = k := by omega
    subst this
    rfl

end Go.Proofs.Ytelblnfnfeoapaa
