/- Own work: contracts of functions that the claim reaches. No condition beyond those that each theorem names. -/
import Derived.Test.YtolofcljdcnmkaaProg
import Derived.Test.YtolofcljdcnmkaaPropose
namespace Go.Proofs.Ytolofcljdcnmkaa
open Go Go.Vc
set_option maxRecDepth 100000
set_option linter.unusedSimpArgs false
set_option linter.unusedVariables false
/-! Rotation after rotation, from the men's best matching. -/
/-- The first rotation turned. -/
def trnI (x y : List (List Int)) (l : List Int) : List Int := turnN x y l ((rotsF x y l).getD 0 []) ((rotsF x y l).getD 0 []).length
def chI (x y : List (List Int)) : Nat → List Int
  | 0 => (psF x y).wo
  | j + 1 => trnI x y (chI x y j)
def chK (x y : List (List Int)) (k : Nat) : List (List Int) := (List.range k).map (chI x y)
theorem chK_s {x y : List (List Int)} {k : Nat} : chK x y (k + 1) = chK x y k ++ [chI x y k] := by simp [chK, List.range_succ]
def stopN (x y : List (List Int)) : Nat → Nat → Nat
  | 0, j => j
  | k + 1, j => if rotsF x y (chI x y j) = [] then j else stopN x y k (j + 1)
def chainF (x y : List (List Int)) : List (List Int) := if marketB x y = true then chK x y (stopN x y 31 0 + 1) else []
theorem nodup_get {l : List Int} (h : l.Nodup) {i j : Nat} (hi : i < l.length) (hj : j < l.length) (e : l.getD i 0 = l.getD j 0) : i = j := by
  have h' := List.pairwise_iff_getElem.1 h
  simp only [List.getD, List.getElem?_eq_getElem hi, List.getElem?_eq_getElem hj, Option.getD_some] at e
  rcases Nat.lt_trichotomy i j with q | q | q
  · exact absurd e (h' i j hi hj q)
  · exact q
  · exact absurd e.symm (h' j i hj hi q)
theorem placeI_at {l : List Int} (h : l.Nodup) {j : Nat} (hj : j < l.length) : placeI l (l.getD j 0) = j := by
  obtain ⟨k, h1, h2, h3⟩ := placeI_mem (getD_mem (d := 0) hj)
  rw [h3, nodup_get h h1 hj h2]
theorem placeI_ge {l : List Int} {a : Int} : -1 ≤ placeI l a := by
  rcases idxP_cases 0 (fun y => decide (y = a)) l with ⟨j, _, _, _, e⟩ | ⟨_, e⟩
  · unfold placeI; rw [e]; omega
  · unfold placeI; rw [e]; omega
theorem sumF_le {f g : Nat → Int} : ∀ {n : Nat}, (∀ i, i < n → f i ≤ g i) → sumF f n ≤ sumF g n
  | 0, _ => by simp [sumF]
  | n + 1, h => by
    have h1 := sumF_le (n := n) fun i hi => h i (by omega)
    have h2 := h n (by omega)
    simp only [sumF]; omega
theorem sumF_lt {f g : Nat → Int} : ∀ {n : Nat}, (∀ i, i < n → f i ≤ g i) → (∃ i, i < n ∧ f i < g i) → sumF f n < sumF g n
  | 0, _, ⟨i, hi, _⟩ => by omega
  | n + 1, h, ⟨i, hi, hlt⟩ => by
    have h1 := sumF_le (n := n) fun i hi => h i (by omega)
    have h2 := h n (by omega)
    simp only [sumF]
    by_cases e : i = n
    · subst e; omega
    · have := sumF_lt (n := n) (fun i hi => h i (by omega)) ⟨i, by omega, hlt⟩
      omega
theorem sumF_lo {f : Nat → Int} : ∀ {n : Nat}, (∀ i, i < n → -1 ≤ f i) → -(n : Int) ≤ sumF f n
  | 0, _ => by simp [sumF]
  | n + 1, h => by
    have h1 := sumF_lo (n := n) fun i hi => h i (by omega)
    have h2 := h n (by omega)
    simp only [sumF]; omega
section
variable {x y : List (List Int)} {l r : List Int}
theorem turnN_get (hr : ∀ v ∈ r, 0 ≤ v ∧ v < (l.length : Int)) : ∀ {k : Nat}, k ≤ r.length → ∀ i, (turnN x y l r k).getD i 0 = if ∃ q, q < k ∧ (r.getD q 0).toNat = i then nwI x y l i else l.getD i 0
  | 0, _, i => by simp [turnN]
  | k + 1, hk, i => by
    have hv := hr _ (getD_mem (d := 0) (show k < r.length by omega))
    have ih := turnN_get hr (k := k) (by omega) i
    simp only [turnN]
    rw [getD_set (by rw [turnN_len]; omega)]
    by_cases e : (r.getD k 0).toNat = i
    · rw [if_pos e, if_pos ⟨k, by omega, e⟩, e]
    · rw [if_neg e, ih]
      by_cases e2 : ∃ q, q < k ∧ (r.getD q 0).toNat = i
      · obtain ⟨q, h1, h2⟩ := e2
        rw [if_pos ⟨q, h1, h2⟩, if_pos ⟨q, by omega, h2⟩]
      · rw [if_neg e2, if_neg]
        rintro ⟨q, h1, h2⟩
        by_cases e3 : q = k
        · subst e3; exact e h2
        · exact e2 ⟨q, by omega, h2⟩
theorem rotK_ne : ∀ {k : Nat}, r ∈ rotK x y l k → r ≠ []
  | 0, h => by simp [rotK] at h
  | k + 1, h => by
    simp only [rotK, List.mem_append] at h
    rcases h with h | h
    · exact rotK_ne h
    · split at h
      · cases h
      · rename_i hn; rw [List.mem_singleton.1 h]; exact hn
theorem rots_facts (h : r ∈ rotsF x y l) : Mk x y x.length ∧ rankB x.length l = true ∧ r ≠ [] ∧ r.length ≤ x.length + 1 ∧ (∀ v ∈ r, 0 ≤ v ∧ v < x.length) ∧ ∀ v ∈ r, ¬ nwI x y l v.toNat < 0 := by
  unfold rotsF at h
  split at h
  · rename_i hs
    obtain ⟨_, R, M⟩ := stab_of hs
    have hne := rotK_ne h
    obtain ⟨a, ha, rfl⟩ := rotK_mem h
    have hin := rotS_in M R ha
    refine ⟨M, R, hne, rotS_len M R ha, hin, fun v hv hneg => ?_⟩
    have hlow := rotS_eq (x := x) (y := y) (l := l) (a := (a : Int))
    have hG : rotS x y l a = rotG x y l a := by
      rw [hlow]; unfold lowOf; rw [if_pos]
      rw [hlow] at hne; unfold lowOf at hne; split at hne
      · assumption
      · exact absurd rfl hne
    rcases cycG_ok (f := nxI x y l) (k := x.length + 2) (pth_one (f := nxI x y l) (a := (a : Int))) with e | e
    · exact hne (hG.trans e)
    · have hv' : v ∈ rotG x y l a := hG ▸ hv
      have h1 : nxI x y l v ∈ rotG x y l a := e.nx' hv'
      rw [← hG] at h1
      have h2 := (hin _ h1).1
      have h3 := (hin _ hv).1
      rw [nxI, if_neg (by omega), if_pos hneg] at h2; omega
  · cases h
theorem nw_up (M : Mk x y x.length) (R : rankB x.length l = true) {i : Nat} (hi : i < x.length) (h : ¬ nwI x y l i < 0) : placeI (x.getD i []) (l.getD i 0) + 1 ≤ placeI (x.getD i []) (nwI x y l i) := by
  have hr := M.m.rk i hi
  have hll := rank_len R
  have hb := rank_bd R (i := i) (by omega)
  obtain ⟨j, h1, _, h3⟩ := placeI_mem (rank_all hr (a := l.getD i 0) hb.1 hb.2)
  rcases idxP_cases 0 (takesB y l i) (nxtL x l i) with ⟨q, q1, q2, q3, q4⟩ | ⟨_, e⟩
  · rw [nwI_hit q1 q2 q3]
    unfold nxtL at q1 ⊢
    rw [h3] at q1 ⊢
    have ed : ((x.getD i []).drop ((j : Int) + 1).toNat).getD q 0 = (x.getD i []).getD (j + 1 + q) 0 := by
      rw [show ((j : Int) + 1).toNat = j + 1 by omega]; simp [List.getD]
    rw [ed, placeI_at (rank_nodup hr) (by rw [List.length_drop] at q1; omega)]; omega
  · exfalso; apply h; unfold nwI; rw [e]; simp
theorem trnI_up (h : rotsF x y l ≠ []) : sumF (placeM x l) x.length + 1 ≤ sumF (placeM x (trnI x y l)) x.length := by
  have hpos : 0 < (rotsF x y l).length := List.length_pos_iff.2 h
  have hm : (rotsF x y l).getD 0 [] ∈ rotsF x y l := getD_mem hpos
  obtain ⟨M, R, hne, _, hin, hnw⟩ := rots_facts hm
  have hll := rank_len R
  unfold trnI
  revert hne hin hnw
  generalize (rotsF x y l).getD 0 [] = r
  intro hne hin hnw
  have hg := turnN_get (x := x) (y := y) (l := l) (r := r) (fun v hv => by have := hin v hv; omega) (Nat.le_refl _)
  have hin' : ∀ q, q < r.length → (r.getD q 0).toNat < x.length ∧ ¬ nwI x y l (r.getD q 0).toNat < 0 := fun q hq => by
    have hm := getD_mem (d := 0) hq
    have := hin _ hm
    exact ⟨by omega, hnw _ hm⟩
  refine sumF_lt (fun i hi => ?_) ?_
  · unfold placeM; rw [hg]; split
    · rename_i hq; obtain ⟨q, q1, q2⟩ := hq
      have := nw_up M R hi (by rw [← q2]; exact (hin' q q1).2)
      omega
    · omega
  · have h0 : 0 < r.length := List.length_pos_iff.2 hne
    obtain ⟨a1, a2⟩ := hin' 0 h0
    refine ⟨(r.getD 0 0).toNat, a1, ?_⟩
    unfold placeM; rw [hg, if_pos ⟨0, h0, rfl⟩]
    have := nw_up M R a1 a2
    omega
theorem chI_lo : ∀ {j : Nat}, (∀ q, q < j → rotsF x y (chI x y q) ≠ []) → (j : Int) ≤ sumF (placeM x (chI x y j)) x.length + x.length
  | 0, _ => by
    have := sumF_lo (f := placeM x (chI x y 0)) (n := x.length) fun i _ => placeI_ge
    omega
  | j + 1, h => by
    have h1 := chI_lo (j := j) fun q hq => h q (by omega)
    have h2 := trnI_up (h j (by omega))
    have e : chI x y (j + 1) = trnI x y (chI x y j) := rfl
    rw [e]; omega
theorem chI_hi {j : Nat} (h : ∀ q, q < j → rotsF x y (chI x y q) ≠ []) (hj : rotsF x y (chI x y j) ≠ []) : j ≤ 30 := by
  have hpos : 0 < (rotsF x y (chI x y j)).length := List.length_pos_iff.2 hj
  obtain ⟨M, R, _⟩ := rots_facts (getD_mem (d := []) hpos)
  have h1 := chI_lo h
  have h2 := sumF_bd (f := placeM x (chI x y j)) (n := x.length) (fun i hi => plM M R hi) (Nat.le_refl _)
  have := M.m.n5
  omega
theorem stop_ok : ∀ {k j : Nat}, 31 ≤ k + j → (∀ q, q < j → rotsF x y (chI x y q) ≠ []) → rotsF x y (chI x y (stopN x y k j)) = [] ∧ stopN x y k j ≤ 31 ∧ ∀ q, q < stopN x y k j → rotsF x y (chI x y q) ≠ []
  | 0, j, hj, h => by
    have hn : rotsF x y (chI x y j) = [] := Classical.byContradiction fun hn => by have := chI_hi h hn; omega
    refine ⟨hn, ?_, h⟩
    show j ≤ 31
    refine Classical.byContradiction fun hc => ?_
    have := chI_hi (x := x) (y := y) (j := 31) (fun q hq => h q (by omega)) (h 31 (by omega))
    omega
  | k + 1, j, hj, h => by
    simp only [stopN]
    split
    · rename_i hn
      refine ⟨hn, ?_, h⟩
      refine Classical.byContradiction fun hc => ?_
      have := chI_hi (x := x) (y := y) (j := 31) (fun q hq => h q (by omega)) (h 31 (by omega))
      omega
    · rename_i hn
      exact stop_ok (by omega) fun q hq => by
        by_cases e : q = j
        · rw [e]; exact hn
        · exact h q (by omega)
theorem chI_len (M : Mk x y x.length) : ∀ {j : Nat}, (chI x y j).length = x.length
  | 0 => by
    have : ∀ {k : Nat} {s : PS}, PJ x x.length s → (psI x y s k).wo.length = x.length := by
      intro k
      induction k with
      | zero => intro s J; exact J.lw
      | succ k ih =>
        intro s J
        simp only [psI]
        split
        · exact J.lw
        · rename_i hn; exact ih (J.step M hn).1
    exact this pj0
  | j + 1 => by
    show (trnI x y (chI x y j)).length = _
    unfold trnI; rw [turnN_len]; exact chI_len M
theorem chain_of (h : marketB x y = true) : ∃ m, m ≤ 31 ∧ rotsF x y (chI x y m) = [] ∧ (∀ q, q < m → rotsF x y (chI x y q) ≠ []) ∧ chainF x y = chK x y (m + 1) := by
  obtain ⟨h1, h2, h3⟩ := stop_ok (x := x) (y := y) (k := 31) (j := 0) (by omega) (fun q hq => by omega)
  exact ⟨_, h2, h1, h3, if_pos h⟩
theorem chK_len {k : Nat} : (chK x y k).length = k := by simp [chK]
theorem chK_get {k j : Nat} (h : j < k) : (chK x y k).getD j [] = chI x y j := by simp [chK, List.getD, h]
end
def K_impl_Market_firstTurn : List Nat := [0, 1, 2, 4, 5, 6, 1002, 2002]
def C_impl_Market_firstTurn : C :=
  let ks := K_impl_Market_firstTurn
  (.seq
    (.rg 0 [(none, .v 2 .boxS [.s 0]), (none, .mkn 4)])
    (.cl ks (.seq
      (.rg 0 [(none, .v 8 (.lds 2) [.s 2]), (none, .v 9 .mv [.s 1]), (none, .co 10 30 [.s 8, .s 9]), (none, .tk 5 10)])
      (.cl ks (.seq
        (.seq
          (.rg 0 [(none, .v 11 .mv [.s 5]), (none, .v 12 .len [.s 11]), (none, .v 13 (.bin .eql) [.s 12, .k (.i 0)])])
          (.cond (.s 13)
            (.seq
              (.rg 0 [(none, .mkn 4)])
              .ret)
            .skip))
        (.cl ks (.seq
          (.rg 11 [(none, .v 15 (.lds 2) [.s 2]), (none, .v 16 .mv [.s 1]), (none, .v 17 .mv [.s 5]), (none, .v 18 .idx [.s 17, .k (.i 0)]), (none, .v 19 .ld [.s 18]), (none, .v 20 (.callO 44 520999) [.s 15, .s 16, .s 19]), (none, .v 14 .mv [.s 20]), (none, .v 21 (.ext 0) [.s 14]), (none, .v 22 (.ext 1) [.s 14]), (none, .v 6 .mv [.s 21]), (none, .v 7 .mv [.s 22]), (none, .tkr 6)])
          (.cl ks (.seq
            (.rg 0 [(none, .v 23 .mv [.s 6]), (none, .tk 4 23)])
            .ret)))))))))

theorem chk_impl_Market_firstTurn : ∃ b, Try.f26.body = some b ∧ chk Try.prog Try.f26.ntmps true C_impl_Market_firstTurn b = true := ⟨_, rfl, by kernel_rfl⟩
def K_impl_RotationChain : List Nat := [0, 1, 2, 3, 5, 1001, 2001]
def C_impl_RotationChain : C :=
  let ks := K_impl_RotationChain
  (.seq
    (.rg 0 [(none, .v 1 .boxS [.s 0]), (none, .mkn 2)])
    (.cl ks (.seq
      (.rg 0 [(none, .v 7 (.lds 2) [.s 1]), (none, .co 8 25 [.s 7]), (none, .tk 6 8), (none, .tk 9 100006), (none, .tk 10 101006), (none, .tk 3 9), (none, .tk 4 10)])
      (.cl ks (.seq
        (.rg 0 [(none, .mkn 5)])
        (.cl ks (.seq
          (.block 0
            (.loop
              (.seq
                (.seq
                  (.rg 0 [(none, .v 11 .mv [.s 3]), (none, .v 12 .nnil [.s 11])])
                  (.cond (.s 12)
                    .skip
                    (.exit 0)))
                (.cl ks (.block 1
                  (.seq
                    (.rg 0 [(none, .v 13 .mv [.s 5]), (none, .v 14 .mv [.s 3]), (none, .lit 15 [.s 14] 1), (none, .app 16 (.s 13) (.s 15) 1), (none, .tk 5 16)])
                    (.cl ks (.rg 0 [(none, .v 17 (.lds 2) [.s 1]), (none, .v 18 .mv [.s 3]), (none, .co 19 26 [.s 17, .s 18]), (none, .tk 3 19)]))))))))
          (.cl ks (.seq
            (.rg 0 [(none, .v 20 .mv [.s 5]), (none, .tk 2 20)])
            .ret)))))))))

theorem chk_impl_RotationChain : ∃ b, Try.f9.body = some b ∧ chk Try.prog Try.f9.ntmps true C_impl_RotationChain b = true := ⟨_, rfl, by kernel_rfl⟩
def K_spec_RotationChain : List Nat := [0, 1, 2, 3, 5, 6, 1001, 2001]
def C_spec_RotationChain : C :=
  let ks := K_spec_RotationChain
  (.seq
    (.rg 0 [(none, .v 1 .boxS [.s 0]), (none, .mkn 2)])
    (.cl ks (.seq
      (.seq
        (.rg 0 [(none, .v 7 (.lds 2) [.s 1]), (none, .co 8 20 [.s 7]), (none, .v 9 .not [.s 8])])
        (.cond (.s 9)
          (.seq
            (.rg 0 [(none, .mkn 2)])
            .ret)
          .skip))
      (.cl ks (.seq
        (.rg 0 [(none, .v 11 (.lds 2) [.s 1]), (none, .co 12 21 [.s 11]), (none, .tk 10 12), (none, .tk 13 100010), (none, .tk 14 101010), (none, .tk 3 13), (none, .tk 4 14)])
        (.cl ks (.seq
          (.rg 0 [(none, .v 15 .mv [.s 3]), (none, .lit 16 [.s 15] 1), (none, .tk 5 16)])
          (.cl ks (.block 0
            (.loop
              (.block 1
                (.seq
                  (.rg 0 [(none, .v 17 (.lds 2) [.s 1]), (none, .v 18 .mv [.s 3]), (none, .co 19 22 [.s 17, .s 18]), (none, .tk 6 19)])
                  (.cl ks (.seq
                    (.seq
                      (.rg 0 [(none, .v 20 .mv [.s 6]), (none, .v 21 .len [.s 20]), (none, .v 22 (.bin .eql) [.s 21, .k (.i 0)])])
                      (.cond (.s 22)
                        (.seq
                          (.rg 0 [(none, .v 23 .mv [.s 5]), (none, .tk 2 23)])
                          .ret)
                        .skip))
                    (.cl ks (.seq
                      (.rg 5 [(none, .v 24 (.lds 2) [.s 1]), (none, .v 25 .mv [.s 3]), (none, .v 26 .mv [.s 6]), (none, .v 27 .idx [.s 26, .k (.i 0)]), (none, .v 28 .ld [.s 27]), (none, .co 29 23 [.s 24, .s 25, .s 28]), (none, .tk 3 29)])
                      (.cl ks (.rg 0 [(none, .v 30 .mv [.s 5]), (none, .v 31 .mv [.s 3]), (none, .lit 32 [.s 31] 1), (none, .app 33 (.s 30) (.s 32) 1), (none, .tk 5 33)]))))))))))))))))))

theorem chk_spec_RotationChain : ∃ b, Try.f7.body = some b ∧ chk Try.prog Try.f7.ntmps true C_spec_RotationChain b = true := ⟨_, rfl, by kernel_rfl⟩
theorem firstTurn_no {n1 n2 n3 : Option Bool} (x y : List (List Int)) (l : List Int) (h : rotsF x y l = []) (hx : x.length ≤ 1048576) (kx : ∀ r ∈ x, r.length ≤ 1048576) (hy : y.length ≤ 1048576) (ky : ∀ r ∈ y, r.length ≤ 1048576) (hl : l.length ≤ 1048576) :
    CallOk Try.prog 26 [.a [.s n1 (rr x), .s n2 (rr y)], .s n3 (ii l)] [(0, .own 1 (some true) [])] := by
  obtain ⟨code0, hcd1, hcd2⟩ := chk_impl_Market_firstTurn; refine callOk_of Try.func26 hcd1 mo Try.call26 (rs := [4]) (by kernel_rfl) hcd2 (by rw [Try.ntmps26]; simp) (by simp) (by decide) ?_; unfold C_impl_Market_firstTurn K_impl_Market_firstTurn; simp (config := { maxSteps := 2000000 }) only [go_sem, Nat.reduceBEq, Nat.reduceAdd, Nat.reduceMul, Nat.reduceMod, Nat.reduceLT, Nat.reduceDiv, Nat.reduceSub, Nat.reduceLeDiff, Int.reduceToNat, Int.reduceLT, Int.reduceLE, reduceCtorEq, List.take_nil, List.drop_nil]
  refine ⟨_, impl_RotationsIn_ok x y l hx kx hy ky hl, ?_⟩; simp (config := { maxSteps := 2000000 }) only [go_sem, Nat.reduceBEq, Nat.reduceAdd, Nat.reduceMul, Nat.reduceMod, Nat.reduceLT, Nat.reduceDiv, Nat.reduceSub, Nat.reduceLeDiff, Int.reduceToNat, Int.reduceLT, Int.reduceLE, reduceCtorEq, List.take_nil, List.drop_nil]
  rw [h]
  exact ⟨fun _ => by simp, fun h1 => by simp at h1⟩
theorem firstTurn_ok {n1 n2 n3 : Option Bool} (x y : List (List Int)) (l : List Int) (h : rotsF x y l ≠ []) (hx : x.length ≤ 1048576) (kx : ∀ r ∈ x, r.length ≤ 1048576) (hy : y.length ≤ 1048576) (ky : ∀ r ∈ y, r.length ≤ 1048576) (hl : l.length ≤ 1048576) (hn : n3 ≠ some true := by simp) :
    CallOk Try.prog 26 [.a [.s n1 (rr x), .s n2 (rr y)], .s n3 (ii l)] [(0, .own 1 none (ii (trnI x y l)))] := by
  obtain ⟨code0, hcd1, hcd2⟩ := chk_impl_Market_firstTurn; refine callOk_of Try.func26 hcd1 mo Try.call26 (rs := [4]) (by kernel_rfl) hcd2 (by rw [Try.ntmps26]; simp) (by simp) (by decide) ?_; unfold C_impl_Market_firstTurn K_impl_Market_firstTurn; simp (config := { maxSteps := 2000000 }) only [go_sem, Nat.reduceBEq, Nat.reduceAdd, Nat.reduceMul, Nat.reduceMod, Nat.reduceLT, Nat.reduceDiv, Nat.reduceSub, Nat.reduceLeDiff, Int.reduceToNat, Int.reduceLT, Int.reduceLE, reduceCtorEq, List.take_nil, List.drop_nil]
  have hpos : 0 < (rotsF x y l).length := List.length_pos_iff.2 h
  have hm : (rotsF x y l).getD 0 [] ∈ rotsF x y l := getD_mem hpos
  have hL := (rotsF_len (x := x) (y := y) (l := l)).2 _ hm
  refine ⟨_, impl_RotationsIn_ok x y l hx kx hy ky hl, ?_⟩; simp (config := { maxSteps := 2000000 }) only [go_sem, Nat.reduceBEq, Nat.reduceAdd, Nat.reduceMul, Nat.reduceMod, Nat.reduceLT, Nat.reduceDiv, Nat.reduceSub, Nat.reduceLeDiff, Int.reduceToNat, Int.reduceLT, Int.reduceLE, reduceCtorEq, List.take_nil, List.drop_nil]
  refine ⟨fun h1 => absurd h1 (by omega), fun _ => ⟨hpos, hpos, ?_⟩⟩
  refine ⟨_, impl_TurnRotation_ok x y l ((rotsF x y l).getD 0 []) hx kx hy ky hl (by omega) hn, ?_⟩; simp (config := { maxSteps := 2000000 }) only [go_sem, Nat.reduceBEq, Nat.reduceAdd, Nat.reduceMul, Nat.reduceMod, Nat.reduceLT, Nat.reduceDiv, Nat.reduceSub, Nat.reduceLeDiff, Int.reduceToNat, Int.reduceLT, Int.reduceLE, reduceCtorEq, List.take_nil, List.drop_nil]
  have hB : turnB x y l ((rotsF x y l).getD 0 []) = true := List.any_eq_true.2 ⟨_, hm, decide_eq_true rfl⟩
  have hF : turnF x y l ((rotsF x y l).getD 0 []) = trnI x y l := if_pos hB
  rw [hF]
theorem impl_RotationChain_ok {n1 n2 : Option Bool} (x y : List (List Int)) (hx : x.length ≤ 1048576) (kx : ∀ r ∈ x, r.length ≤ 1048576) (hy : y.length ≤ 1048576) (ky : ∀ r ∈ y, r.length ≤ 1048576) :
    CallOk Try.prog 9 [.a [.s n1 (rr x), .s n2 (rr y)]] [(0, .own 1 none (rr (chainF x y)))] := by
  obtain ⟨code0, hcd1, hcd2⟩ := chk_impl_RotationChain; refine callOk_of Try.func9 hcd1 mo Try.call9 (rs := [2]) (by kernel_rfl) hcd2 (by rw [Try.ntmps9]; simp) (by simp) (by decide) ?_; unfold C_impl_RotationChain K_impl_RotationChain; simp (config := { maxSteps := 2000000 }) only [go_sem, Nat.reduceBEq, Nat.reduceAdd, Nat.reduceMul, Nat.reduceMod, Nat.reduceLT, Nat.reduceDiv, Nat.reduceSub, Nat.reduceLeDiff, Int.reduceToNat, Int.reduceLT, Int.reduceLE, reduceCtorEq, List.take_nil, List.drop_nil]
  by_cases h : marketB x y = true
  · obtain ⟨m, m31, hm, hq, hF⟩ := chain_of h
    have M := mk_of h
    have n5 := M.m.n5
    have n1' := M.m.n1
    rw [hF]
    refine ⟨_, impl_ProposeMen_ok x y h hx kx hy ky, ?_⟩; simp (config := { maxSteps := 2000000 }) only [go_sem, Nat.reduceBEq, Nat.reduceAdd, Nat.reduceMul, Nat.reduceMod, Nat.reduceLT, Nat.reduceDiv, Nat.reduceSub, Nat.reduceLeDiff, Int.reduceToNat, Int.reduceLT, Int.reduceLE, reduceCtorEq, List.take_nil, List.drop_nil]
    refine loopN (m + 1) (fun j => [(0, .t .arg (.a [.s n1 (rr x), .s n2 (rr y)])), (1, .t .arg (.q [.s n1 (rr x), .s n2 (rr y)] 0)), (3, if j ≤ m then .own 1 none (ii (chI x y j)) else .own 1 (some true) []), (5, .own 1 none (rr (chK x y j)))]) (fun _ => True) ⟨trivial, by simp (config := { maxSteps := 2000000 }) only [go_sem, Nat.reduceBEq, Nat.reduceAdd, Nat.reduceMul, Nat.reduceMod, Nat.reduceLT, Nat.reduceDiv, Nat.reduceSub, Nat.reduceLeDiff, Int.reduceToNat, Int.reduceLT, Int.reduceLE, reduceCtorEq, List.take_nil, List.drop_nil]; simp [chK, chI]; exact V.le_refl _⟩ fun j hj _ => ?_
    have hll := chI_len M (j := j)
    by_cases hjm : j ≤ m
    · simp (config := { maxSteps := 2000000 }) only [go_sem, Nat.reduceBEq, Nat.reduceAdd, Nat.reduceMul, Nat.reduceMod, Nat.reduceLT, Nat.reduceDiv, Nat.reduceSub, Nat.reduceLeDiff, Int.reduceToNat, Int.reduceLT, Int.reduceLE, reduceCtorEq, List.take_nil, List.drop_nil, if_pos hjm]
      have hne : ii (chI x y j) ≠ [] := fun e => by rw [List.map_eq_nil_iff.1 e] at hll; simp at hll; omega
      refine ⟨hne, by simp, by rw [chK_len]; omega, ?_⟩
      have hs : rr (chK x y j) ++ [T.s none (ii (chI x y j))] = rr (chK x y (j + 1)) := by rw [chK_s]; simp [rr]
      rw [hs]
      by_cases e : j = m
      · subst e
        refine ⟨_, firstTurn_no x y (chI x y j) hm hx kx hy ky (by omega), ?_⟩; simp (config := { maxSteps := 2000000 }) only [go_sem, Nat.reduceBEq, Nat.reduceAdd, Nat.reduceMul, Nat.reduceMod, Nat.reduceLT, Nat.reduceDiv, Nat.reduceSub, Nat.reduceLeDiff, Int.reduceToNat, Int.reduceLT, Int.reduceLE, reduceCtorEq, List.take_nil, List.drop_nil]
        simp (config := { maxSteps := 2000000 }) only [go_sem, Nat.reduceBEq, Nat.reduceAdd, Nat.reduceMul, Nat.reduceMod, Nat.reduceLT, Nat.reduceDiv, Nat.reduceSub, Nat.reduceLeDiff, Int.reduceToNat, Int.reduceLT, Int.reduceLE, reduceCtorEq, List.take_nil, List.drop_nil, if_neg (show ¬ j + 1 ≤ j by omega)]
        exact Nat.lt_succ_self _
      · refine ⟨_, firstTurn_ok x y (chI x y j) (hq j (by omega)) hx kx hy ky (by omega), ?_⟩; simp (config := { maxSteps := 2000000 }) only [go_sem, Nat.reduceBEq, Nat.reduceAdd, Nat.reduceMul, Nat.reduceMod, Nat.reduceLT, Nat.reduceDiv, Nat.reduceSub, Nat.reduceLeDiff, Int.reduceToNat, Int.reduceLT, Int.reduceLE, reduceCtorEq, List.take_nil, List.drop_nil]
        simp (config := { maxSteps := 2000000 }) only [go_sem, Nat.reduceBEq, Nat.reduceAdd, Nat.reduceMul, Nat.reduceMod, Nat.reduceLT, Nat.reduceDiv, Nat.reduceSub, Nat.reduceLeDiff, Int.reduceToNat, Int.reduceLT, Int.reduceLE, reduceCtorEq, List.take_nil, List.drop_nil, if_pos (show j + 1 ≤ m by omega)]
        exact ⟨by omega, rfl⟩
    · have : j = m + 1 := by omega
      subst this
      simp (config := { maxSteps := 2000000 }) only [go_sem, Nat.reduceBEq, Nat.reduceAdd, Nat.reduceMul, Nat.reduceMod, Nat.reduceLT, Nat.reduceDiv, Nat.reduceSub, Nat.reduceLeDiff, Int.reduceToNat, Int.reduceLT, Int.reduceLE, reduceCtorEq, List.take_nil, List.drop_nil, if_neg hjm]
  · have h : marketB x y = false := by simpa using h
    have hF : chainF x y = [] := if_neg (by rw [h]; simp)
    rw [hF]
    refine ⟨_, impl_ProposeMen_no x y h hx kx hy ky, ?_⟩; simp (config := { maxSteps := 2000000 }) only [go_sem, Nat.reduceBEq, Nat.reduceAdd, Nat.reduceMul, Nat.reduceMod, Nat.reduceLT, Nat.reduceDiv, Nat.reduceSub, Nat.reduceLeDiff, Int.reduceToNat, Int.reduceLT, Int.reduceLE, reduceCtorEq, List.take_nil, List.drop_nil]
    refine loopN 0 (fun j => [(0, .t .arg (.a [.s n1 (rr x), .s n2 (rr y)])), (1, .t .arg (.q [.s n1 (rr x), .s n2 (rr y)] 0)), (3, .own 1 (some true) []), (5, .own 1 (some true) [])]) (fun _ => True) ⟨trivial, by simp (config := { maxSteps := 2000000 }) only [go_sem, Nat.reduceBEq, Nat.reduceAdd, Nat.reduceMul, Nat.reduceMod, Nat.reduceLT, Nat.reduceDiv, Nat.reduceSub, Nat.reduceLeDiff, Int.reduceToNat, Int.reduceLT, Int.reduceLE, reduceCtorEq, List.take_nil, List.drop_nil]⟩ fun j hj _ => ?_
    simp (config := { maxSteps := 2000000 }) only [go_sem, Nat.reduceBEq, Nat.reduceAdd, Nat.reduceMul, Nat.reduceMod, Nat.reduceLT, Nat.reduceDiv, Nat.reduceSub, Nat.reduceLeDiff, Int.reduceToNat, Int.reduceLT, Int.reduceLE, reduceCtorEq, List.take_nil, List.drop_nil]
theorem spec_RotationChain_ok {n1 n2 : Option Bool} (x y : List (List Int)) (hx : x.length ≤ 1048576) (kx : ∀ r ∈ x, r.length ≤ 1048576) (hy : y.length ≤ 1048576) (ky : ∀ r ∈ y, r.length ≤ 1048576) :
    CallOk Try.prog 7 [.a [.s n1 (rr x), .s n2 (rr y)]] [(0, .own 1 none (rr (chainF x y)))] := by
  obtain ⟨code0, hcd1, hcd2⟩ := chk_spec_RotationChain; refine callOk_of Try.func7 hcd1 mo Try.call7 (rs := [2]) (by kernel_rfl) hcd2 (by rw [Try.ntmps7]; simp) (by simp) (by decide) ?_; unfold C_spec_RotationChain K_spec_RotationChain; simp (config := { maxSteps := 2000000 }) only [go_sem, Nat.reduceBEq, Nat.reduceAdd, Nat.reduceMul, Nat.reduceMod, Nat.reduceLT, Nat.reduceDiv, Nat.reduceSub, Nat.reduceLeDiff, Int.reduceToNat, Int.reduceLT, Int.reduceLE, reduceCtorEq, List.take_nil, List.drop_nil]
  refine ⟨_, spec_MarketOk_ok x y hx kx hy ky, ?_⟩; simp (config := { maxSteps := 2000000 }) only [go_sem, Nat.reduceBEq, Nat.reduceAdd, Nat.reduceMul, Nat.reduceMod, Nat.reduceLT, Nat.reduceDiv, Nat.reduceSub, Nat.reduceLeDiff, Int.reduceToNat, Int.reduceLT, Int.reduceLE, reduceCtorEq, List.take_nil, List.drop_nil]
  refine ⟨fun h0 => ?_, fun h0 => ?_⟩
  · have hF : chainF x y = [] := if_neg (by rw [h0]; simp)
    rw [hF]
    try simp
  · obtain ⟨m, m31, hm, hq, hF⟩ := chain_of h0
    have M := mk_of h0
    have n5 := M.m.n5
    have n1' := M.m.n1
    rw [hF]
    refine ⟨_, spec_ProposeMen_ok x y h0 hx kx hy ky, ?_⟩; simp (config := { maxSteps := 2000000 }) only [go_sem, Nat.reduceBEq, Nat.reduceAdd, Nat.reduceMul, Nat.reduceMod, Nat.reduceLT, Nat.reduceDiv, Nat.reduceSub, Nat.reduceLeDiff, Int.reduceToNat, Int.reduceLT, Int.reduceLE, reduceCtorEq, List.take_nil, List.drop_nil]
    refine loopN m (fun j => [(0, .t .arg (.a [.s n1 (rr x), .s n2 (rr y)])), (1, .t .arg (.q [.s n1 (rr x), .s n2 (rr y)] 0)), (3, .t (.rw 5) (.s none (ii (chI x y j)))), (5, .own 1 none (rr (chK x y (j + 1))))]) (fun _ => True) ⟨trivial, by simp (config := { maxSteps := 2000000 }) only [go_sem, Nat.reduceBEq, Nat.reduceAdd, Nat.reduceMul, Nat.reduceMod, Nat.reduceLT, Nat.reduceDiv, Nat.reduceSub, Nat.reduceLeDiff, Int.reduceToNat, Int.reduceLT, Int.reduceLE, reduceCtorEq, List.take_nil, List.drop_nil]; exact ⟨rfl, T.leL_refl _⟩⟩ fun j hj _ => ?_
    have hll := chI_len M (j := j)
    simp (config := { maxSteps := 2000000 }) only [go_sem, Nat.reduceBEq, Nat.reduceAdd, Nat.reduceMul, Nat.reduceMod, Nat.reduceLT, Nat.reduceDiv, Nat.reduceSub, Nat.reduceLeDiff, Int.reduceToNat, Int.reduceLT, Int.reduceLE, reduceCtorEq, List.take_nil, List.drop_nil]
    refine ⟨_, spec_RotationsIn_ok x y (chI x y j) hx kx hy ky (by omega), ?_⟩; simp (config := { maxSteps := 2000000 }) only [go_sem, Nat.reduceBEq, Nat.reduceAdd, Nat.reduceMul, Nat.reduceMod, Nat.reduceLT, Nat.reduceDiv, Nat.reduceSub, Nat.reduceLeDiff, Int.reduceToNat, Int.reduceLT, Int.reduceLE, reduceCtorEq, List.take_nil, List.drop_nil]
    by_cases e : j = m
    · subst e
      rw [hm]
      exact ⟨fun _ => rfl, fun h1 => absurd rfl h1⟩
    · have hne := hq j (by omega)
      have hpos : 0 < (rotsF x y (chI x y j)).length := List.length_pos_iff.2 hne
      have hmem : (rotsF x y (chI x y j)).getD 0 [] ∈ rotsF x y (chI x y j) := getD_mem hpos
      obtain ⟨M', R, _, h6, hin, _⟩ := rots_facts hmem
      refine ⟨fun h1 => absurd h1 (by omega), fun _ => ⟨hpos, hpos, ?_⟩⟩
      refine ⟨_, spec_l19Turn_ok x y (chI x y j) ((rotsF x y (chI x y j)).getD 0 []) M R h6 hin, ?_⟩; simp (config := { maxSteps := 2000000 }) only [go_sem, Nat.reduceBEq, Nat.reduceAdd, Nat.reduceMul, Nat.reduceMod, Nat.reduceLT, Nat.reduceDiv, Nat.reduceSub, Nat.reduceLeDiff, Int.reduceToNat, Int.reduceLT, Int.reduceLE, reduceCtorEq, List.take_nil, List.drop_nil]
      have hl1 : (chK x y (j + 1)).length = j + 1 := chK_len
      exact ⟨by simp, by omega, by omega, rfl, by rw [chK_s (k := j + 1)]; rfl⟩
def K_impl_CountRotations : List Nat := [0, 1, 2, 1001, 2001]
def C_impl_CountRotations : C :=
  let ks := K_impl_CountRotations
  (.seq
    (.rg 0 [(none, .v 1 .boxS [.s 0]), (none, .v 2 .mv [.k (.i 0)])])
    (.cl ks (.seq
      (.rg 0 [(none, .v 3 (.lds 2) [.s 1]), (none, .co 4 9 [.s 3]), (none, .v 5 .len [.s 4]), (none, .v 6 (.bin .sub) [.s 5, .k (.i 1)]), (none, .tk 2 6)])
      .ret)))

theorem chk_impl_CountRotations : ∃ b, Try.f16.body = some b ∧ chk Try.prog Try.f16.ntmps true C_impl_CountRotations b = true := ⟨_, rfl, by kernel_rfl⟩
def K_spec_CountRotations : List Nat := [0, 1, 2, 1001, 2001]
def C_spec_CountRotations : C :=
  let ks := K_spec_CountRotations
  (.seq
    (.rg 0 [(none, .v 1 .boxS [.s 0]), (none, .v 2 .mv [.k (.i 0)])])
    (.cl ks (.seq
      (.rg 0 [(none, .v 3 (.lds 2) [.s 1]), (none, .co 4 7 [.s 3]), (none, .v 5 .len [.s 4]), (none, .v 6 (.bin .sub) [.s 5, .k (.i 1)]), (none, .tk 2 6)])
      .ret)))

theorem chk_spec_CountRotations : ∃ b, Try.f15.body = some b ∧ chk Try.prog Try.f15.ntmps true C_spec_CountRotations b = true := ⟨_, rfl, by kernel_rfl⟩
def K_impl_LongestRotation : List Nat := [0, 1, 2, 3, 5, 6, 8, 9, 10, 1001, 2001]
def C_impl_LongestRotation : C :=
  let ks := K_impl_LongestRotation
  (.seq
    (.rg 0 [(none, .v 1 .boxS [.s 0]), (none, .v 2 .mv [.k (.i 0)])])
    (.cl ks (.seq
      (.rg 0 [(none, .v 3 .mv [.k (.i 0)])])
      (.cl ks (.seq
        (.seq
          (.rg 0 [(none, .v 7 (.lds 2) [.s 1]), (none, .co 8 9 [.s 7]), (none, .v 9 .len [.s 8]), (none, .v 10 .mv [.k (.i 0)])])
          (.cl ks (.block 0
            (.loop
              (.seq
                (.rg 0 [(none, .v 11 (.bin .lss) [.s 10, .s 9])])
                (.seq
                  (.cond (.s 11)
                    .skip
                    (.exit 0))
                  (.cl ks (.seq
                    (.block 1
                      (.seq
                        (.rg 0 [(none, .v 12 .idx [.s 8, .s 10]), (none, .v 13 .ld [.s 12]), (none, .tk 5 13)])
                        (.cl ks (.seq
                          (.rg 0 [(none, .v 14 (.lds 2) [.s 1]), (none, .v 15 .mv [.s 5]), (none, .co 16 30 [.s 14, .s 15]), (none, .tk 6 16)])
                          (.cl ks (.seq
                            (.rg 0 [(none, .v 17 .mv [.s 6]), (none, .v 18 .len [.s 17]), (none, .v 19 (.bin .gtr) [.s 18, .k (.i 0)])])
                            (.cond (.s 19)
                              (.rg 0 [(none, .v 20 .mv [.s 3]), (none, .v 21 .mv [.s 6]), (none, .v 22 .idx [.s 21, .k (.i 0)]), (none, .v 23 .ld [.s 22]), (none, .v 24 .len [.s 23]), (none, .v 25 .mx [.s 20, .s 24]), (none, .tk 3 25)])
                              .skip)))))))
                    (.cl ks (.rg 0 [(none, .v 26 (.bin .add) [.s 10, .k (.i 1)]), (none, .v 10 .mv [.s 26])]))))))))))
        (.cl ks (.seq
          (.rg 0 [(none, .v 27 .mv [.s 3]), (none, .tk 2 27)])
          .ret)))))))

theorem chk_impl_LongestRotation : ∃ b, Try.f18.body = some b ∧ chk Try.prog Try.f18.ntmps true C_impl_LongestRotation b = true := ⟨_, rfl, by kernel_rfl⟩
def K_spec_LongestRotation : List Nat := [0, 1, 2, 3, 5, 6, 8, 9, 10, 1001, 2001]
def C_spec_LongestRotation : C :=
  let ks := K_spec_LongestRotation
  (.seq
    (.rg 0 [(none, .v 1 .boxS [.s 0]), (none, .v 2 .mv [.k (.i 0)])])
    (.cl ks (.seq
      (.rg 0 [(none, .v 3 .mv [.k (.i 0)])])
      (.cl ks (.seq
        (.seq
          (.rg 0 [(none, .v 7 (.lds 2) [.s 1]), (none, .co 8 7 [.s 7]), (none, .v 9 .len [.s 8]), (none, .v 10 .mv [.k (.i 0)])])
          (.cl ks (.block 0
            (.loop
              (.seq
                (.rg 0 [(none, .v 11 (.bin .lss) [.s 10, .s 9])])
                (.seq
                  (.cond (.s 11)
                    .skip
                    (.exit 0))
                  (.cl ks (.seq
                    (.block 1
                      (.seq
                        (.rg 0 [(none, .v 12 .idx [.s 8, .s 10]), (none, .v 13 .ld [.s 12]), (none, .tk 5 13)])
                        (.cl ks (.seq
                          (.rg 0 [(none, .v 14 (.lds 2) [.s 1]), (none, .v 15 .mv [.s 5]), (none, .co 16 22 [.s 14, .s 15]), (none, .tk 6 16)])
                          (.cl ks (.seq
                            (.rg 0 [(none, .v 17 .mv [.s 6]), (none, .v 18 .len [.s 17]), (none, .v 19 (.bin .gtr) [.s 18, .k (.i 0)])])
                            (.cond (.s 19)
                              (.rg 0 [(none, .v 20 .mv [.s 3]), (none, .v 21 .mv [.s 6]), (none, .v 22 .idx [.s 21, .k (.i 0)]), (none, .v 23 .ld [.s 22]), (none, .v 24 .len [.s 23]), (none, .v 25 .mx [.s 20, .s 24]), (none, .tk 3 25)])
                              .skip)))))))
                    (.cl ks (.rg 0 [(none, .v 26 (.bin .add) [.s 10, .k (.i 1)]), (none, .v 10 .mv [.s 26])]))))))))))
        (.cl ks (.seq
          (.rg 0 [(none, .v 27 .mv [.s 3]), (none, .tk 2 27)])
          .ret)))))))

theorem chk_spec_LongestRotation : ∃ b, Try.f17.body = some b ∧ chk Try.prog Try.f17.ntmps true C_spec_LongestRotation b = true := ⟨_, rfl, by kernel_rfl⟩
theorem chain_bd {x y : List (List Int)} : (chainF x y).length ≤ 32 ∧ ∀ r ∈ chainF x y, r.length ≤ 5 := by
  unfold chainF
  split
  · rename_i h
    obtain ⟨_, h2, _⟩ := stop_ok (x := x) (y := y) (k := 31) (j := 0) (by omega) (fun q hq => by omega)
    refine ⟨by rw [chK_len]; omega, fun r hr => ?_⟩
    simp only [chK, List.mem_map, List.mem_range] at hr
    obtain ⟨j, _, rfl⟩ := hr
    have M := mk_of h
    rw [chI_len M]; exact M.m.n5
  · simp
theorem impl_CountRotations_ok {n1 n2 : Option Bool} (x y : List (List Int)) (hx : x.length ≤ 1048576) (kx : ∀ r ∈ x, r.length ≤ 1048576) (hy : y.length ≤ 1048576) (ky : ∀ r ∈ y, r.length ≤ 1048576) :
    CallOk Try.prog 16 [.a [.s n1 (rr x), .s n2 (rr y)]] [(0, .i ((chainF x y).length - 1))] := by
  obtain ⟨code0, hcd1, hcd2⟩ := chk_impl_CountRotations; refine callOk_of Try.func16 hcd1 mo Try.call16 (rs := [2]) (by kernel_rfl) hcd2 (by rw [Try.ntmps16]; simp) (by simp) (by decide) ?_; unfold C_impl_CountRotations K_impl_CountRotations; simp (config := { maxSteps := 2000000 }) only [go_sem, Nat.reduceBEq, Nat.reduceAdd, Nat.reduceMul, Nat.reduceMod, Nat.reduceLT, Nat.reduceDiv, Nat.reduceSub, Nat.reduceLeDiff, Int.reduceToNat, Int.reduceLT, Int.reduceLE, reduceCtorEq, List.take_nil, List.drop_nil]
  have hb := (chain_bd (x := x) (y := y)).1
  refine ⟨_, impl_RotationChain_ok x y hx kx hy ky, ?_⟩; simp (config := { maxSteps := 2000000 }) only [go_sem, Nat.reduceBEq, Nat.reduceAdd, Nat.reduceMul, Nat.reduceMod, Nat.reduceLT, Nat.reduceDiv, Nat.reduceSub, Nat.reduceLeDiff, Int.reduceToNat, Int.reduceLT, Int.reduceLE, reduceCtorEq, List.take_nil, List.drop_nil]
  exact inR_of (by omega) (by omega)
theorem spec_CountRotations_ok {n1 n2 : Option Bool} (x y : List (List Int)) (hx : x.length ≤ 1048576) (kx : ∀ r ∈ x, r.length ≤ 1048576) (hy : y.length ≤ 1048576) (ky : ∀ r ∈ y, r.length ≤ 1048576) :
    CallOk Try.prog 15 [.a [.s n1 (rr x), .s n2 (rr y)]] [(0, .i ((chainF x y).length - 1))] := by
  obtain ⟨code0, hcd1, hcd2⟩ := chk_spec_CountRotations; refine callOk_of Try.func15 hcd1 mo Try.call15 (rs := [2]) (by kernel_rfl) hcd2 (by rw [Try.ntmps15]; simp) (by simp) (by decide) ?_; unfold C_spec_CountRotations K_spec_CountRotations; simp (config := { maxSteps := 2000000 }) only [go_sem, Nat.reduceBEq, Nat.reduceAdd, Nat.reduceMul, Nat.reduceMod, Nat.reduceLT, Nat.reduceDiv, Nat.reduceSub, Nat.reduceLeDiff, Int.reduceToNat, Int.reduceLT, Int.reduceLE, reduceCtorEq, List.take_nil, List.drop_nil]
  have hb := (chain_bd (x := x) (y := y)).1
  refine ⟨_, spec_RotationChain_ok x y hx kx hy ky, ?_⟩; simp (config := { maxSteps := 2000000 }) only [go_sem, Nat.reduceBEq, Nat.reduceAdd, Nat.reduceMul, Nat.reduceMod, Nat.reduceLT, Nat.reduceDiv, Nat.reduceSub, Nat.reduceLeDiff, Int.reduceToNat, Int.reduceLT, Int.reduceLE, reduceCtorEq, List.take_nil, List.drop_nil]
  exact inR_of (by omega) (by omega)
/-- The longest first rotation of the first k matchings. -/
def lonN (x y : List (List Int)) (L : List (List Int)) : Nat → Int
  | 0 => 0
  | k + 1 => if rotsF x y (L.getD k []) = [] then lonN x y L k else max (lonN x y L k) ((rotsF x y (L.getD k [])).getD 0 []).length
theorem impl_LongestRotation_ok {n1 n2 : Option Bool} (x y : List (List Int)) (hx : x.length ≤ 1048576) (kx : ∀ r ∈ x, r.length ≤ 1048576) (hy : y.length ≤ 1048576) (ky : ∀ r ∈ y, r.length ≤ 1048576) :
    CallOk Try.prog 18 [.a [.s n1 (rr x), .s n2 (rr y)]] [(0, .i (lonN x y (chainF x y) (chainF x y).length))] := by
  obtain ⟨code0, hcd1, hcd2⟩ := chk_impl_LongestRotation; refine callOk_of Try.func18 hcd1 mo Try.call18 (rs := [2]) (by kernel_rfl) hcd2 (by rw [Try.ntmps18]; simp) (by simp) (by decide) ?_; unfold C_impl_LongestRotation K_impl_LongestRotation; simp (config := { maxSteps := 2000000 }) only [go_sem, Nat.reduceBEq, Nat.reduceAdd, Nat.reduceMul, Nat.reduceMod, Nat.reduceLT, Nat.reduceDiv, Nat.reduceSub, Nat.reduceLeDiff, Int.reduceToNat, Int.reduceLT, Int.reduceLE, reduceCtorEq, List.take_nil, List.drop_nil]
  have hb := chain_bd (x := x) (y := y)
  refine ⟨_, impl_RotationChain_ok x y hx kx hy ky, ?_⟩; simp (config := { maxSteps := 2000000 }) only [go_sem, Nat.reduceBEq, Nat.reduceAdd, Nat.reduceMul, Nat.reduceMod, Nat.reduceLT, Nat.reduceDiv, Nat.reduceSub, Nat.reduceLeDiff, Int.reduceToNat, Int.reduceLT, Int.reduceLE, reduceCtorEq, List.take_nil, List.drop_nil]
  revert hb
  generalize chainF x y = L
  intro hb
  refine loopN L.length (fun k => [(0, .t .arg (.a [.s n1 (rr x), .s n2 (rr y)])), (1, .t .arg (.q [.s n1 (rr x), .s n2 (rr y)] 0)), (3, .i (lonN x y L k)), (8, .own 1 none (rr L)), (9, .i L.length), (10, .i (k : Nat))]) (fun _ => True) ⟨trivial, by simp (config := { maxSteps := 2000000 }) only [go_sem, Nat.reduceBEq, Nat.reduceAdd, Nat.reduceMul, Nat.reduceMod, Nat.reduceLT, Nat.reduceDiv, Nat.reduceSub, Nat.reduceLeDiff, Int.reduceToNat, Int.reduceLT, Int.reduceLE, reduceCtorEq, List.take_nil, List.drop_nil]; simp [lonN]⟩ fun k hk _ => ?_
  have hs : lonN x y L (k + 1) = if rotsF x y (L.getD k []) = [] then lonN x y L k else max (lonN x y L k) ((rotsF x y (L.getD k [])).getD 0 []).length := rfl
  simp (config := { maxSteps := 2000000 }) only [go_sem, Nat.reduceBEq, Nat.reduceAdd, Nat.reduceMul, Nat.reduceMod, Nat.reduceLT, Nat.reduceDiv, Nat.reduceSub, Nat.reduceLeDiff, Int.reduceToNat, Int.reduceLT, Int.reduceLE, reduceCtorEq, List.take_nil, List.drop_nil]
  refine ⟨fun hlt => ?_, fun hge => ?_⟩
  · have hk' : k < L.length := by omega
    have hlen := hb.2 _ (getD_mem (d := []) hk')
    refine ⟨by omega, hk', hk', ?_⟩
    refine ⟨_, impl_RotationsIn_ok x y (L.getD k []) hx kx hy ky (by omega), ?_⟩; simp (config := { maxSteps := 2000000 }) only [go_sem, Nat.reduceBEq, Nat.reduceAdd, Nat.reduceMul, Nat.reduceMod, Nat.reduceLT, Nat.reduceDiv, Nat.reduceSub, Nat.reduceLeDiff, Int.reduceToNat, Int.reduceLT, Int.reduceLE, reduceCtorEq, List.take_nil, List.drop_nil]
    refine ⟨fun h => ?_, fun h => ?_⟩
    · have hne : rotsF x y (L.getD k []) ≠ [] := fun e => by rw [e] at h; simp at h
      exact ⟨by omega, by omega, inR_of (by omega) (by omega), hk', by rw [hs, if_neg hne], by simp⟩
    · have he : rotsF x y (L.getD k []) = [] := List.eq_nil_of_length_eq_zero (by omega)
      exact ⟨inR_of (by omega) (by omega), hk', by rw [hs, if_pos he], by simp⟩
  · have : k = L.length := by omega
    subst this
    rfl
theorem spec_LongestRotation_ok {n1 n2 : Option Bool} (x y : List (List Int)) (hx : x.length ≤ 1048576) (kx : ∀ r ∈ x, r.length ≤ 1048576) (hy : y.length ≤ 1048576) (ky : ∀ r ∈ y, r.length ≤ 1048576) :
    CallOk Try.prog 17 [.a [.s n1 (rr x), .s n2 (rr y)]] [(0, .i (lonN x y (chainF x y) (chainF x y).length))] := by
  obtain ⟨code0, hcd1, hcd2⟩ := chk_spec_LongestRotation; refine callOk_of Try.func17 hcd1 mo Try.call17 (rs := [2]) (by kernel_rfl) hcd2 (by rw [Try.ntmps17]; simp) (by simp) (by decide) ?_; unfold C_spec_LongestRotation K_spec_LongestRotation; simp (config := { maxSteps := 2000000 }) only [go_sem, Nat.reduceBEq, Nat.reduceAdd, Nat.reduceMul, Nat.reduceMod, Nat.reduceLT, Nat.reduceDiv, Nat.reduceSub, Nat.reduceLeDiff, Int.reduceToNat, Int.reduceLT, Int.reduceLE, reduceCtorEq, List.take_nil, List.drop_nil]
  have hb := chain_bd (x := x) (y := y)
  refine ⟨_, spec_RotationChain_ok x y hx kx hy ky, ?_⟩; simp (config := { maxSteps := 2000000 }) only [go_sem, Nat.reduceBEq, Nat.reduceAdd, Nat.reduceMul, Nat.reduceMod, Nat.reduceLT, Nat.reduceDiv, Nat.reduceSub, Nat.reduceLeDiff, Int.reduceToNat, Int.reduceLT, Int.reduceLE, reduceCtorEq, List.take_nil, List.drop_nil]
  revert hb
  generalize chainF x y = L
  intro hb
  refine loopN L.length (fun k => [(0, .t .arg (.a [.s n1 (rr x), .s n2 (rr y)])), (1, .t .arg (.q [.s n1 (rr x), .s n2 (rr y)] 0)), (3, .i (lonN x y L k)), (8, .own 1 none (rr L)), (9, .i L.length), (10, .i (k : Nat))]) (fun _ => True) ⟨trivial, by simp (config := { maxSteps := 2000000 }) only [go_sem, Nat.reduceBEq, Nat.reduceAdd, Nat.reduceMul, Nat.reduceMod, Nat.reduceLT, Nat.reduceDiv, Nat.reduceSub, Nat.reduceLeDiff, Int.reduceToNat, Int.reduceLT, Int.reduceLE, reduceCtorEq, List.take_nil, List.drop_nil]; simp [lonN]⟩ fun k hk _ => ?_
  have hs : lonN x y L (k + 1) = if rotsF x y (L.getD k []) = [] then lonN x y L k else max (lonN x y L k) ((rotsF x y (L.getD k [])).getD 0 []).length := rfl
  simp (config := { maxSteps := 2000000 }) only [go_sem, Nat.reduceBEq, Nat.reduceAdd, Nat.reduceMul, Nat.reduceMod, Nat.reduceLT, Nat.reduceDiv, Nat.reduceSub, Nat.reduceLeDiff, Int.reduceToNat, Int.reduceLT, Int.reduceLE, reduceCtorEq, List.take_nil, List.drop_nil]
  refine ⟨fun hlt => ?_, fun hge => ?_⟩
  · have hk' : k < L.length := by omega
    have hlen := hb.2 _ (getD_mem (d := []) hk')
    refine ⟨by omega, hk', hk', ?_⟩
    refine ⟨_, spec_RotationsIn_ok x y (L.getD k []) hx kx hy ky (by omega), ?_⟩; simp (config := { maxSteps := 2000000 }) only [go_sem, Nat.reduceBEq, Nat.reduceAdd, Nat.reduceMul, Nat.reduceMod, Nat.reduceLT, Nat.reduceDiv, Nat.reduceSub, Nat.reduceLeDiff, Int.reduceToNat, Int.reduceLT, Int.reduceLE, reduceCtorEq, List.take_nil, List.drop_nil]
    refine ⟨fun h => ?_, fun h => ?_⟩
    · have hne : rotsF x y (L.getD k []) ≠ [] := fun e => by rw [e] at h; simp at h
      exact ⟨by omega, by omega, inR_of (by omega) (by omega), hk', by rw [hs, if_neg hne], by simp⟩
    · have he : rotsF x y (L.getD k []) = [] := List.eq_nil_of_length_eq_zero (by omega)
      exact ⟨inR_of (by omega) (by omega), hk', by rw [hs, if_pos he], by simp⟩
  · have : k = L.length := by omega
    subst this
    rfl

end Go.Proofs.Ytolofcljdcnmkaa
