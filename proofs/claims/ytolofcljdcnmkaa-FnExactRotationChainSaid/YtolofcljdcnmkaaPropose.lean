/- Own work: contracts of functions that the claim reaches. No condition beyond those that each theorem names. -/
import Derived.Test.YtolofcljdcnmkaaProg
import Derived.Test.YtolofcljdcnmkaaRepeat
import Derived.Test.YtolofcljdcnmkaaMkt
import Derived.Test.YtolofcljdcnmkaaRot
namespace Go.Proofs.Ytolofcljdcnmkaa
open Go Go.Vc
set_option maxRecDepth 100000
set_option linter.unusedSimpArgs false
set_option linter.unusedVariables false
/-! The men propose in turn. -/
structure PS where
  wo : List Int
  ma : List Int
  sk : List Int
  ct : Int
def PS.m (s : PS) : Nat := (placeI s.wo (-1)).toNat
def PS.w (x : List (List Int)) (s : PS) : Int := (x.getD s.m []).getD (s.sk.getD s.m 0).toNat 0
def PS.q (x : List (List Int)) (s : PS) : Int := s.ma.getD (s.w x).toNat 0
def PS.a (s : PS) : List Int := s.sk.set s.m (s.sk.getD s.m 0 + 1)
/-- One proposal. -/
def PS.nx (x y : List (List Int)) (s : PS) : PS :=
  if 0 ≤ s.q x ∧ prefB (y.getD (s.w x).toNat []) (s.q x) s.m = true then ⟨s.wo, s.ma, s.a, s.ct + 1⟩
  else ⟨((if 0 ≤ s.q x then s.wo.set (s.q x).toNat (-1) else s.wo)).set s.m (s.w x), s.ma.set (s.w x).toNat s.m, s.a, s.ct + 1⟩
theorem sum_set1 : ∀ {xs : List Int} {i : Nat}, i < xs.length → (xs.set i (xs.getD i 0 + 1)).sum = xs.sum + 1
  | [], i, h => by simp at h
  | x :: xs, 0, _ => by simp; omega
  | x :: xs, i + 1, h => by
    have := sum_set1 (xs := xs) (i := i) (by simpa using h)
    simp only [List.set_cons_succ, List.sum_cons, List.getD_cons_succ, this]; omega
theorem sum_leB {B : Int} : ∀ {xs : List Int}, (∀ v ∈ xs, v ≤ B) → xs.sum ≤ B * xs.length
  | [], _ => by simp
  | x :: xs, h => by
    have h1 := sum_leB (xs := xs) fun v hv => h v (by simp [hv])
    have h2 := h x (by simp)
    simp only [List.sum_cons, List.length_cons]
    rw [Int.natCast_add, Int.mul_add]; simp; omega
theorem getD_set {xs : List Int} {i j : Nat} {v : Int} (h : i < xs.length) : (xs.set i v).getD j 0 = if i = j then v else xs.getD j 0 := by
  by_cases e : i = j
  · subst e; simp [List.getD, h]
  · simp [List.getD, e]
/-- What holds of every state of the proposing. -/
structure PJ (x : List (List Int)) (n : Nat) (s : PS) : Prop where
  lw : s.wo.length = n
  lm : s.ma.length = n
  la : s.sk.length = n
  a0 : ∀ i, i < n → 0 ≤ s.sk.getD i 0 ∧ s.sk.getD i 0 ≤ n
  mm : ∀ w, w < n → s.ma.getD w 0 = -1 ∨ (0 ≤ s.ma.getD w 0 ∧ s.ma.getD w 0 < n ∧ s.wo.getD (s.ma.getD w 0).toNat 0 = w)
  ww : ∀ i, i < n → s.wo.getD i 0 = -1 ∨ (0 ≤ s.wo.getD i 0 ∧ s.wo.getD i 0 < n ∧ s.ma.getD (s.wo.getD i 0).toNat 0 = i)
  ak : ∀ i, i < n → ∀ k : Nat, (k : Int) < s.sk.getD i 0 → 0 ≤ s.ma.getD ((x.getD i []).getD k 0).toNat 0
section
variable {x y : List (List Int)} {n : Nat} {s : PS}
theorem PJ.act (J : PJ x n s) (h : ¬ placeI s.wo (-1) < 0) : s.m < n ∧ s.wo.getD s.m 0 = -1 ∧ placeI s.wo (-1) = (s.m : Nat) := by
  have hm : (-1 : Int) ∈ s.wo := Classical.byContradiction fun hn => h (placeI_neg.2 hn)
  obtain ⟨j, h1, h2, h3⟩ := placeI_mem hm
  have : s.m = j := by unfold PS.m; omega
  rw [this]; exact ⟨by rw [← J.lw]; exact h1, h2, h3⟩
theorem PJ.free (J : PJ x n s) (M : Mk x y n) (h : ¬ placeI s.wo (-1) < 0) : s.sk.getD s.m 0 < n := by
  obtain ⟨hm, hw, _⟩ := J.act h
  have h0 := J.a0 s.m hm
  refine Classical.byContradiction fun hc => ?_
  have hr := M.m.rk s.m hm
  have hrl := rank_len hr
  have all : ∀ w : Nat, w < n → 0 ≤ s.ma.getD w 0 := fun w hwn => by
    obtain ⟨j, h1, h2, _⟩ := placeI_mem (rank_all hr (a := (w : Int)) (by omega) (by omega))
    have := J.ak s.m hm j (by omega)
    rw [h2] at this; simpa using this
  have nd : s.ma.Nodup := nodup_getD fun i j hij hj e => by
    rw [J.lm] at hj
    have a1 := (J.mm i (by omega)).resolve_left (by have := all i (by omega); omega)
    have a2 := (J.mm j (by omega)).resolve_left (by have := all j (by omega); omega)
    have e1 := a1.2.2
    rw [e, a2.2.2] at e1; omega
  have ni : (s.m : Int) ∉ s.ma := fun hi => by
    obtain ⟨w, hw1, e⟩ := mem_getD 0 hi
    rw [J.lm] at hw1
    have a1 := (J.mm w (by omega)).resolve_left (by have := all w (by omega); omega)
    have e1 := a1.2.2
    rw [e, Int.toNat_natCast, hw] at e1; omega
  have := nodup_sub_len (xs := (s.m : Int) :: s.ma) (ys := upto n) (List.nodup_cons.2 ⟨ni, nd⟩) fun v hv => by
    rcases List.mem_cons.1 hv with e | e
    · rw [e]; exact mem_upto.2 ⟨by omega, by omega⟩
    · obtain ⟨w, hw1, rfl⟩ := mem_getD 0 e
      rw [J.lm] at hw1
      have a1 := (J.mm w (by omega)).resolve_left (by have := all w (by omega); omega)
      exact mem_upto.2 ⟨a1.1, a1.2.1⟩
  rw [List.length_cons, J.lm, upto_len] at this; omega
theorem PJ.w (J : PJ x n s) (M : Mk x y n) (h : ¬ placeI s.wo (-1) < 0) : 0 ≤ s.w x ∧ s.w x < n := by
  obtain ⟨hm, _, _⟩ := J.act h
  have h1 := J.free M h
  have hr := M.m.rk s.m hm
  have hrl := rank_len hr
  have h0 := J.a0 s.m hm
  exact rank_bd hr (by omega)
theorem PJ.qq (J : PJ x n s) (M : Mk x y n) (h : ¬ placeI s.wo (-1) < 0) : s.q x = -1 ∨ (0 ≤ s.q x ∧ s.q x < n ∧ s.q x ≠ s.m ∧ s.wo.getD (s.q x).toNat 0 = s.w x) := by
  have hw := J.w M h
  obtain ⟨hm, hm1, _⟩ := J.act h
  rcases J.mm (s.w x).toNat (by omega) with e | ⟨e1, e2, e3⟩
  · exact .inl e
  · refine .inr ⟨e1, e2, fun e => ?_, by rw [show s.q x = s.ma.getD (s.w x).toNat 0 from rfl, e3]; omega⟩
    have e' : s.ma.getD (s.w x).toNat 0 = s.m := e
    rw [e', Int.toNat_natCast, hm1] at e3; omega
theorem PJ.step (J : PJ x n s) (M : Mk x y n) (h : ¬ placeI s.wo (-1) < 0) : PJ x n (s.nx x y) ∧ (s.nx x y).sk.sum = s.sk.sum + 1 ∧ (s.nx x y).ct = s.ct + 1 := by
  have hw := J.w M h
  have hf := J.free M h
  have hq := J.qq M h
  obtain ⟨hm, hm1, _⟩ := J.act h
  have hm0 := J.a0 s.m hm
  have ga : ∀ i, s.a.getD i 0 = if s.m = i then s.sk.getD s.m 0 + 1 else s.sk.getD i 0 := fun i => by unfold PS.a; exact getD_set (by rw [J.la]; exact hm)
  have a0 : ∀ i, i < n → 0 ≤ s.a.getD i 0 ∧ s.a.getD i 0 ≤ n := fun i hi => by
    rw [ga]; have := J.a0 i hi
    split <;> omega
  have la : s.a.length = n := by unfold PS.a; rw [List.length_set]; exact J.la
  have sa : s.a.sum = s.sk.sum + 1 := sum_set1 (by rw [J.la]; exact hm)
  -- the women asked are not free
  have key : ∀ (ma' : List Int), (∀ w, w < n → 0 ≤ s.ma.getD w 0 → 0 ≤ ma'.getD w 0) → 0 ≤ ma'.getD (s.w x).toNat 0 → ∀ i, i < n → ∀ k : Nat, (k : Int) < s.a.getD i 0 → 0 ≤ ma'.getD ((x.getD i []).getD k 0).toNat 0 := by
    intro ma' h1 h2 i hi k hk
    have hr := M.m.rk i hi
    have hrl := rank_len hr
    have hai := a0 i hi
    have hb := rank_bd hr (i := k) (by omega)
    rw [ga] at hk
    by_cases e : s.m = i
    · rw [if_pos e] at hk
      subst e
      by_cases e2 : (k : Int) = s.sk.getD s.m 0
      · have : (x.getD s.m []).getD k 0 = s.w x := by unfold PS.w; rw [← e2, Int.toNat_natCast]
        rw [this]; exact h2
      · exact h1 _ (by omega) (J.ak s.m hi k (by omega))
    · rw [if_neg e] at hk
      exact h1 _ (by omega) (J.ak i hi k hk)
  unfold PS.nx
  split
  · rename_i hc
    exact ⟨⟨J.lw, J.lm, la, a0, J.mm, J.ww, key s.ma (fun _ _ h => h) hc.1⟩, sa, rfl⟩
  · have gm : ∀ w : Nat, (s.ma.set (s.w x).toNat s.m).getD w 0 = if (s.w x).toNat = w then (s.m : Int) else s.ma.getD w 0 := fun w => getD_set (by rw [J.lm]; omega)
    have gw : ∀ i : Nat, ((if 0 ≤ s.q x then s.wo.set (s.q x).toNat (-1) else s.wo).set s.m (s.w x)).getD i 0 = if s.m = i then s.w x else if 0 ≤ s.q x ∧ (s.q x).toNat = i then -1 else s.wo.getD i 0 := fun i => by
      rw [getD_set (by split <;> simp [J.lw, hm])]
      by_cases e : s.m = i
      · rw [if_pos e, if_pos e]
      · rw [if_neg e, if_neg e]
        by_cases e0 : 0 ≤ s.q x
        · rw [if_pos e0, getD_set (by rw [J.lw]; omega)]
          by_cases e1 : (s.q x).toNat = i
          · rw [if_pos e1, if_pos ⟨e0, e1⟩]
          · rw [if_neg e1, if_neg (fun h => e1 h.2)]
        · rw [if_neg e0, if_neg (fun h => e0 h.1)]
    refine ⟨⟨by split <;> simp [J.lw], by simp [J.lm], la, a0, fun w hwn => ?_, fun i hi => ?_, key _ (fun w hwn h0 => ?_) ?_⟩, sa, rfl⟩
    · show (s.ma.set (s.w x).toNat s.m).getD w 0 = -1 ∨ _
      rw [gm]
      by_cases e : (s.w x).toNat = w
      · rw [if_pos e]; right
        refine ⟨by omega, by omega, ?_⟩
        show ((if 0 ≤ s.q x then s.wo.set (s.q x).toNat (-1) else s.wo).set s.m (s.w x)).getD _ 0 = _
        rw [gw, Int.toNat_natCast, if_pos rfl]; omega
      · rw [if_neg e]
        rcases J.mm w hwn with h1 | ⟨h1, h2, h3⟩
        · exact .inl h1
        · right
          refine ⟨h1, h2, ?_⟩
          show ((if 0 ≤ s.q x then s.wo.set (s.q x).toNat (-1) else s.wo).set s.m (s.w x)).getD _ 0 = _
          rw [gw, if_neg (fun e1 => by rw [← e1, hm1] at h3; omega), if_neg (fun e1 => ?_), h3]
          rcases hq with q1 | ⟨_, _, _, q4⟩
          · omega
          · rw [e1.2, h3] at q4; omega
    · show ((if 0 ≤ s.q x then s.wo.set (s.q x).toNat (-1) else s.wo).set s.m (s.w x)).getD i 0 = -1 ∨ _
      rw [gw]
      by_cases e : s.m = i
      · rw [if_pos e]; right
        refine ⟨hw.1, hw.2, ?_⟩
        show (s.ma.set (s.w x).toNat s.m).getD _ 0 = _
        rw [gm, if_pos rfl, e]
      · rw [if_neg e]
        by_cases e1 : 0 ≤ s.q x ∧ (s.q x).toNat = i
        · rw [if_pos e1]; exact .inl rfl
        · rw [if_neg e1]
          rcases J.ww i hi with h1 | ⟨h1, h2, h3⟩
          · exact .inl h1
          · right
            refine ⟨h1, h2, ?_⟩
            show (s.ma.set (s.w x).toNat s.m).getD _ 0 = _
            rw [gm, if_neg (fun e2 => ?_), h3]
            apply e1
            have : s.q x = i := by rw [← h3, ← e2]; rfl
            omega
    · show 0 ≤ (s.ma.set (s.w x).toNat s.m).getD w 0
      rw [gm]; split <;> omega
    · show 0 ≤ (s.ma.set (s.w x).toNat s.m).getD (s.w x).toNat 0
      rw [gm, if_pos rfl]; omega
theorem PJ.sum (J : PJ x n s) (M : Mk x y n) (h : ¬ placeI s.wo (-1) < 0) : s.sk.sum + 1 ≤ n * n := by
  have hf := J.free M h
  obtain ⟨hm, _, _⟩ := J.act h
  obtain ⟨J', h1, _⟩ := J.step M h
  rw [← h1]
  have := sum_leB (B := n) (xs := (s.nx x y).sk) fun v hv => by
    obtain ⟨i, hi, rfl⟩ := mem_getD 0 hv
    exact (J'.a0 i (by rw [← J'.la]; exact hi)).2
  rw [J'.la] at this; exact this
end
/-- The state after j proposals; it stays when nobody is free. -/
def psI (x y : List (List Int)) (s : PS) : Nat → PS
  | 0 => s
  | k + 1 => if placeI s.wo (-1) < 0 then s else psI x y (s.nx x y) k
theorem psI_done {x y : List (List Int)} {s : PS} (h : placeI s.wo (-1) < 0) : ∀ {k : Nat}, psI x y s k = s
  | 0 => rfl
  | k + 1 => if_pos h
theorem psI_on {x y : List (List Int)} {s : PS} (h : ¬ placeI s.wo (-1) < 0) {k : Nat} : psI x y s (k + 1) = psI x y (s.nx x y) k := if_neg h
def ps0 (n : Nat) : PS := ⟨List.replicate n (-1), List.replicate n (-1), List.replicate n 0, 0⟩
def psF (x y : List (List Int)) : PS := psI x y (ps0 x.length) (x.length * x.length)
theorem pj0 {x : List (List Int)} {n : Nat} : PJ x n (ps0 n) := by
  have g : ∀ (v : Int) i, i < n → (List.replicate n v).getD i 0 = v := fun v i h => by simp [List.getD, h]
  refine ⟨by simp [ps0], by simp [ps0], by simp [ps0], fun i hi => ?_, fun w hw => ?_, fun i hi => ?_, fun i hi k hk => ?_⟩
  · simp only [ps0]; rw [g _ _ hi]; omega
  · simp only [ps0]; rw [g _ _ hw]; exact .inl rfl
  · simp only [ps0]; rw [g _ _ hi]; exact .inl rfl
  · simp only [ps0] at hk; rw [g _ _ hi] at hk; omega
def K_impl_ProposeMen : List Nat := [0, 1, 2, 3, 4, 5, 6, 7, 8, 9, 10, 1001, 2001]
def C_impl_ProposeMen : C :=
  let ks := K_impl_ProposeMen
  (.seq
    (.rg 0 [(none, .v 1 .boxS [.s 0]), (none, .mkn 2), (none, .v 3 .mv [.k (.i 0)])])
    (.cl ks (.seq
      (.seq
        (.rg 0 [(none, .v 11 (.lds 2) [.s 1]), (none, .co 12 40 [.s 11]), (none, .v 13 .not [.s 12])])
        (.cond (.s 13)
          (.seq
            (.rg 0 [(none, .mkn 2), (none, .v 3 .mv [.k (.i 0)])])
            .ret)
          .skip))
      (.cl ks (.seq
        (.rg 0 [(none, .v 14 (.fa 0) [.s 1]), (none, .v 15 .ld [.s 14]), (none, .v 16 .len [.s 15]), (none, .tk 4 16)])
        (.cl ks (.seq
          (.rg 11 [(none, .v 17 .litF [.k (.i (-1))]), (none, .v 18 .mv [.s 4]), (none, .v 19 (.callO 41 519999) [.s 17, .s 18]), (none, .v 20 .litF [.k (.i (-1))]), (none, .v 21 .mv [.s 4]), (none, .v 22 (.callO 41 522999) [.s 20, .s 21]), (none, .v 23 .mv [.s 4]), (none, .v 24 (.mkO 524999 (.i 0)) [.s 23, .s 23]), (none, .v 5 .mv [.s 19]), (none, .v 6 .mv [.s 22]), (none, .v 7 .mv [.s 24]), (none, .tkr 5), (none, .tkr 6), (none, .tkr 7)])
          (.cl ks (.seq
            (.rg 0 [(none, .v 8 .mv [.k (.i 0)])])
            (.cl ks (.seq
              (.seq
                (.rg 0 [(none, .v 25 .mv [.s 5]), (none, .co 26 42 [.s 25, .k (.i (-1))]), (none, .tk 9 26)])
                (.cl ks (.block 0
                  (.loop
                    (.seq
                      (.seq
                        (.rg 0 [(none, .v 27 .mv [.s 9]), (none, .v 28 (.bin .geq) [.s 27, .k (.i 0)])])
                        (.cond (.s 28)
                          .skip
                          (.exit 0)))
                      (.cl ks (.seq
                        (.block 1
                          (.seq
                            (.rg 9 [(none, .v 31 (.fa 0) [.s 1]), (none, .v 32 .ld [.s 31]), (none, .v 33 .mv [.s 9]), (none, .v 34 .idx [.s 32, .s 33]), (none, .v 35 .ld [.s 34]), (none, .v 36 .mv [.s 7]), (none, .v 37 .mv [.s 9]), (none, .v 38 .idx [.s 36, .s 37]), (none, .v 39 .ld [.s 38]), (none, .v 40 .idx [.s 35, .s 39]), (none, .v 41 .ld [.s 40]), (none, .tk 10 41)])
                            (.cl ks (.seq
                              (.rg 0 [(none, .v 42 .mv [.s 7]), (none, .v 43 .mv [.s 9]), (none, .v 44 .idx [.s 42, .s 43]), (none, .v 45 .ld [.s 44]), (none, .v 46 (.bin .add) [.s 45, .k (.i 1)]), (none, .v 47 .idx [.s 42, .s 43]), (none, .st (.s 47) (.s 46))])
                              (.cl ks (.seq
                                (.rg 0 [(none, .v 48 .mv [.s 8]), (none, .v 49 (.bin .add) [.s 48, .k (.i 1)]), (none, .tk 8 49)])
                                (.cl ks (.seq
                                  (.seq
                                    (.rg 0 [(none, .v 50 .mv [.s 6]), (none, .v 51 .mv [.s 10]), (none, .v 52 .idx [.s 50, .s 51]), (none, .v 53 .ld [.s 52]), (none, .v 54 (.bin .geq) [.s 53, .k (.i 0)])])
                                    (.cond (.s 54)
                                      (.seq
                                        (.seq
                                          (.rg 10 [(none, .v 55 (.fa 1) [.s 1]), (none, .v 56 .ld [.s 55]), (none, .v 57 .mv [.s 10]), (none, .v 58 .idx [.s 56, .s 57]), (none, .v 59 .ld [.s 58]), (none, .v 60 .mv [.s 6]), (none, .v 61 .mv [.s 10]), (none, .v 62 .idx [.s 60, .s 61]), (none, .v 63 .ld [.s 62]), (none, .v 64 .mv [.s 9]), (none, .co 65 43 [.s 59, .s 63, .s 64])])
                                          (.cond (.s 65)
                                            (.exit 1)
                                            .skip))
                                        (.cl ks (.rg 0 [(none, .v 66 .mv [.s 5]), (none, .v 67 .mv [.s 6]), (none, .v 68 .mv [.s 10]), (none, .v 69 .idx [.s 67, .s 68]), (none, .v 70 .ld [.s 69]), (none, .v 71 .idx [.s 66, .s 70]), (none, .st (.s 71) (.k (.i (-1))))])))
                                      .skip))
                                  (.cl ks (.rg 0 [(none, .v 72 .mv [.s 5]), (none, .v 73 .mv [.s 9]), (none, .v 74 .mv [.s 6]), (none, .v 75 .mv [.s 10]), (none, .v 76 .mv [.s 10]), (none, .v 77 .mv [.s 9]), (none, .v 78 .idx [.s 72, .s 73]), (none, .st (.s 78) (.s 76)), (none, .v 79 .idx [.s 74, .s 75]), (none, .st (.s 79) (.s 77))]))))))))))
                        (.cl ks (.rg 0 [(none, .v 29 .mv [.s 5]), (none, .co 30 42 [.s 29, .k (.i (-1))]), (none, .tk 9 30)])))))))))
              (.cl ks (.seq
                (.rg 0 [(none, .v 80 .mv [.s 5]), (none, .v 81 .mv [.s 8]), (none, .tk 2 80), (none, .tk 3 81)])
                .ret)))))))))))))

theorem chk_impl_ProposeMen : ∃ b, Try.f25.body = some b ∧ chk Try.prog Try.f25.ntmps true C_impl_ProposeMen b = true := ⟨_, rfl, by kernel_rfl⟩
def K_spec_ProposeMen : List Nat := [0, 1, 2, 3, 4, 5, 6, 7, 8, 9, 10, 11, 25, 26, 1001, 2001]
def C_spec_ProposeMen : C :=
  let ks := K_spec_ProposeMen
  (.seq
    (.rg 0 [(none, .v 1 .boxS [.s 0]), (none, .mkn 2), (none, .v 3 .mv [.k (.i 0)])])
    (.cl ks (.seq
      (.seq
        (.rg 0 [(none, .v 12 (.lds 2) [.s 1]), (none, .co 13 20 [.s 12]), (none, .v 14 .not [.s 13])])
        (.cond (.s 14)
          (.seq
            (.rg 0 [(none, .mkn 2), (none, .v 3 .mv [.k (.i 0)])])
            .ret)
          .skip))
      (.cl ks (.seq
        (.rg 0 [(none, .v 15 (.fa 0) [.s 1]), (none, .v 16 .ld [.s 15]), (none, .v 17 .len [.s 16]), (none, .tk 4 17)])
        (.cl ks (.seq
          (.rg 0 [(none, .v 18 .mv [.s 4]), (none, .mk 19 (.i 0) (.s 18) (.s 18)), (none, .tk 5 19)])
          (.cl ks (.seq
            (.rg 0 [(none, .v 20 .mv [.s 4]), (none, .mk 21 (.i 0) (.s 20) (.s 20)), (none, .tk 6 21)])
            (.cl ks (.seq
              (.rg 0 [(none, .v 22 .mv [.s 4]), (none, .mk 23 (.i 0) (.s 22) (.s 22)), (none, .tk 7 23)])
              (.cl ks (.seq
                (.seq
                  (.rg 0 [(none, .v 24 .mv [.s 5]), (none, .v 25 .len [.s 24]), (none, .v 26 .mv [.k (.i 0)])])
                  (.cl ks (.block 0
                    (.loop
                      (.seq
                        (.rg 0 [(none, .v 27 (.bin .lss) [.s 26, .s 25])])
                        (.seq
                          (.cond (.s 27)
                            .skip
                            (.exit 0))
                          (.cl ks (.seq
                            (.block 1
                              (.seq
                                (.rg 0 [(none, .v 28 .mv [.s 26]), (none, .tk 8 28)])
                                (.cl ks (.seq
                                  (.rg 0 [(none, .v 29 .mv [.s 5]), (none, .v 30 .mv [.s 8]), (none, .v 31 .idx [.s 29, .s 30]), (none, .st (.s 31) (.k (.i (-1))))])
                                  (.cl ks (.rg 0 [(none, .v 32 .mv [.s 6]), (none, .v 33 .mv [.s 8]), (none, .v 34 .idx [.s 32, .s 33]), (none, .st (.s 34) (.k (.i (-1))))]))))))
                            (.cl ks (.rg 0 [(none, .v 35 (.bin .add) [.s 26, .k (.i 1)]), (none, .v 26 .mv [.s 35])]))))))))))
                (.cl ks (.seq
                  (.rg 0 [(none, .v 9 .mv [.k (.i 0)])])
                  (.cl ks (.block 2
                    (.loop
                      (.block 3
                        (.seq
                          (.rg 0 [(none, .v 36 .mv [.s 5]), (none, .co 37 34 [.s 36, .k (.i (-1))]), (none, .tk 10 37)])
                          (.cl ks (.seq
                            (.seq
                              (.rg 0 [(none, .v 38 .mv [.s 10]), (none, .v 39 (.bin .lss) [.s 38, .k (.i 0)])])
                              (.cond (.s 39)
                                (.seq
                                  (.rg 0 [(none, .v 40 .mv [.s 5]), (none, .v 41 .mv [.s 9]), (none, .tk 2 40), (none, .tk 3 41)])
                                  .ret)
                                .skip))
                            (.cl ks (.seq
                              (.rg 9 [(none, .v 42 (.fa 0) [.s 1]), (none, .v 43 .ld [.s 42]), (none, .v 44 .mv [.s 10]), (none, .v 45 .idx [.s 43, .s 44]), (none, .v 46 .ld [.s 45]), (none, .v 47 .mv [.s 7]), (none, .v 48 .mv [.s 10]), (none, .v 49 .idx [.s 47, .s 48]), (none, .v 50 .ld [.s 49]), (none, .v 51 .idx [.s 46, .s 50]), (none, .v 52 .ld [.s 51]), (none, .tk 11 52)])
                              (.cl ks (.seq
                                (.rg 0 [(none, .v 53 .mv [.s 7]), (none, .v 54 .mv [.s 10]), (none, .v 55 .idx [.s 53, .s 54]), (none, .v 56 .ld [.s 55]), (none, .v 57 (.bin .add) [.s 56, .k (.i 1)]), (none, .v 58 .idx [.s 53, .s 54]), (none, .st (.s 58) (.s 57))])
                                (.cl ks (.seq
                                  (.rg 0 [(none, .v 59 .mv [.s 9]), (none, .v 60 (.bin .add) [.s 59, .k (.i 1)]), (none, .tk 9 60)])
                                  (.cl ks (.seq
                                    (.rg 16 [(none, .v 61 .mv [.s 6]), (none, .v 62 .mv [.s 11]), (none, .v 63 .idx [.s 61, .s 62]), (none, .v 64 .ld [.s 63]), (none, .v 65 (.bin .lss) [.s 64, .k (.i 0)]), (none, .v 66 .mv [.s 65]), (some (66, false), .v 67 (.fa 1) [.s 1]), (some (66, false), .v 68 .ld [.s 67]), (some (66, false), .v 69 .mv [.s 11]), (some (66, false), .v 70 .idx [.s 68, .s 69]), (some (66, false), .v 71 .ld [.s 70]), (some (66, false), .v 72 .mv [.s 10]), (some (66, false), .v 73 .mv [.s 6]), (some (66, false), .v 74 .mv [.s 11]), (some (66, false), .v 75 .idx [.s 73, .s 74]), (some (66, false), .v 76 .ld [.s 75]), (some (66, false), .co 77 35 [.s 71, .s 72, .s 76]), (none, .v 78 .pick [.s 66, .k (.b true), .s 77])])
                                    (.cond (.s 78)
                                      (.seq
                                        (.seq
                                          (.rg 0 [(none, .v 79 .mv [.s 6]), (none, .v 80 .mv [.s 11]), (none, .v 81 .idx [.s 79, .s 80]), (none, .v 82 .ld [.s 81]), (none, .v 83 (.bin .geq) [.s 82, .k (.i 0)])])
                                          (.cond (.s 83)
                                            (.rg 0 [(none, .v 84 .mv [.s 5]), (none, .v 85 .mv [.s 6]), (none, .v 86 .mv [.s 11]), (none, .v 87 .idx [.s 85, .s 86]), (none, .v 88 .ld [.s 87]), (none, .v 89 .idx [.s 84, .s 88]), (none, .st (.s 89) (.k (.i (-1))))])
                                            .skip))
                                        (.cl ks (.seq
                                          (.rg 0 [(none, .v 90 .mv [.s 6]), (none, .v 91 .mv [.s 11]), (none, .v 92 .mv [.s 10]), (none, .v 93 .idx [.s 90, .s 91]), (none, .st (.s 93) (.s 92))])
                                          (.cl ks (.rg 0 [(none, .v 94 .mv [.s 5]), (none, .v 95 .mv [.s 10]), (none, .v 96 .mv [.s 11]), (none, .v 97 .idx [.s 94, .s 95]), (none, .st (.s 97) (.s 96))])))))
                                      .skip)))))))))))))))))))))))))))))))

theorem chk_spec_ProposeMen : ∃ b, Try.f21.body = some b ∧ chk Try.prog Try.f21.ntmps true C_spec_ProposeMen b = true := ⟨_, rfl, by kernel_rfl⟩
theorem impl_ProposeMen_no {n1 n2 : Option Bool} (x y : List (List Int)) (h : marketB x y = false) (hx : x.length ≤ 1048576) (kx : ∀ r ∈ x, r.length ≤ 1048576) (hy : y.length ≤ 1048576) (ky : ∀ r ∈ y, r.length ≤ 1048576) :
    CallOk Try.prog 25 [.a [.s n1 (rr x), .s n2 (rr y)]] [(0, .tp 2), (100000, .own 1 (some true) []), (101000, .i 0)] := by
  obtain ⟨code0, hcd1, hcd2⟩ := chk_impl_ProposeMen; refine callOk_of Try.func25 hcd1 mo Try.call25 (rs := [2, 3]) (by kernel_rfl) hcd2 (by rw [Try.ntmps25]; simp) (by simp) (by decide) ?_; unfold C_impl_ProposeMen K_impl_ProposeMen; simp (config := { maxSteps := 2000000 }) only [go_sem, Nat.reduceBEq, Nat.reduceAdd, Nat.reduceMul, Nat.reduceMod, Nat.reduceLT, Nat.reduceDiv, Nat.reduceSub, Nat.reduceLeDiff, Int.reduceToNat, Int.reduceLT, Int.reduceLE, reduceCtorEq, List.take_nil, List.drop_nil]
  refine ⟨_, impl_MarketOk_ok x y hx kx hy ky, ?_⟩; simp (config := { maxSteps := 2000000 }) only [go_sem, Nat.reduceBEq, Nat.reduceAdd, Nat.reduceMul, Nat.reduceMod, Nat.reduceLT, Nat.reduceDiv, Nat.reduceSub, Nat.reduceLeDiff, Int.reduceToNat, Int.reduceLT, Int.reduceLE, reduceCtorEq, List.take_nil, List.drop_nil]
  exact ⟨fun _ => by simp, fun h1 => absurd (h.symm.trans h1) (by simp)⟩
theorem impl_ProposeMen_ok {n1 n2 : Option Bool} (x y : List (List Int)) (h : marketB x y = true) (hx : x.length ≤ 1048576) (kx : ∀ r ∈ x, r.length ≤ 1048576) (hy : y.length ≤ 1048576) (ky : ∀ r ∈ y, r.length ≤ 1048576) :
    CallOk Try.prog 25 [.a [.s n1 (rr x), .s n2 (rr y)]] [(0, .tp 2), (100000, .own 1 none (ii (psF x y).wo)), (101000, .i (psF x y).ct)] := by
  obtain ⟨code0, hcd1, hcd2⟩ := chk_impl_ProposeMen; refine callOk_of Try.func25 hcd1 mo Try.call25 (rs := [2, 3]) (by kernel_rfl) hcd2 (by rw [Try.ntmps25]; simp) (by simp) (by decide) ?_; unfold C_impl_ProposeMen K_impl_ProposeMen; simp (config := { maxSteps := 2000000 }) only [go_sem, Nat.reduceBEq, Nat.reduceAdd, Nat.reduceMul, Nat.reduceMod, Nat.reduceLT, Nat.reduceDiv, Nat.reduceSub, Nat.reduceLeDiff, Int.reduceToNat, Int.reduceLT, Int.reduceLE, reduceCtorEq, List.take_nil, List.drop_nil]
  have M := mk_of h
  have n5 := M.m.n5
  refine ⟨_, impl_MarketOk_ok x y hx kx hy ky, ?_⟩; simp (config := { maxSteps := 2000000 }) only [go_sem, Nat.reduceBEq, Nat.reduceAdd, Nat.reduceMul, Nat.reduceMod, Nat.reduceLT, Nat.reduceDiv, Nat.reduceSub, Nat.reduceLeDiff, Int.reduceToNat, Int.reduceLT, Int.reduceLE, reduceCtorEq, List.take_nil, List.drop_nil]
  refine ⟨fun h1 => absurd (h.symm.trans h1) (by simp), fun _ => ?_⟩
  refine ⟨_, Repeat_ok (-1) x.length (by omega) (by omega), ?_⟩; simp (config := { maxSteps := 2000000 }) only [go_sem, Nat.reduceBEq, Nat.reduceAdd, Nat.reduceMul, Nat.reduceMod, Nat.reduceLT, Nat.reduceDiv, Nat.reduceSub, Nat.reduceLeDiff, Int.reduceToNat, Int.reduceLT, Int.reduceLE, reduceCtorEq, List.take_nil, List.drop_nil]
  refine ⟨_, Repeat_ok (-1) x.length (by omega) (by omega), ?_⟩; simp (config := { maxSteps := 2000000 }) only [go_sem, Nat.reduceBEq, Nat.reduceAdd, Nat.reduceMul, Nat.reduceMod, Nat.reduceLT, Nat.reduceDiv, Nat.reduceSub, Nat.reduceLeDiff, Int.reduceToNat, Int.reduceLT, Int.reduceLE, reduceCtorEq, List.take_nil, List.drop_nil]
  refine ⟨by omega, by omega, ?_⟩
  refine ⟨_, IndexP_ok (List.replicate x.length (-1)) (-1) (by simp; omega), ?_⟩; simp (config := { maxSteps := 2000000 }) only [go_sem, Nat.reduceBEq, Nat.reduceAdd, Nat.reduceMul, Nat.reduceMod, Nat.reduceLT, Nat.reduceDiv, Nat.reduceSub, Nat.reduceLeDiff, Int.reduceToNat, Int.reduceLT, Int.reduceLE, reduceCtorEq, List.take_nil, List.drop_nil]
  refine ⟨{s : PS // PJ x x.length s ∧ 0 ≤ s.ct ∧ s.ct = s.sk.sum ∧ psI x y s (x.length * x.length - s.sk.sum.toNat) = psF x y}, fun s => [(0, .t .arg (.a [.s n1 (rr x), .s n2 (rr y)])), (1, .t .arg (.q [.s n1 (rr x), .s n2 (rr y)] 0)), (4, .i x.length), (5, .own 1 none (ii s.1.wo)), (6, .own 1 none (ii s.1.ma)), (7, .own 1 none (ii s.1.sk)), (8, .i s.1.ct), (9, .i (placeI s.1.wo (-1)))], fun s => x.length * x.length - s.1.sk.sum.toNat, ⟨⟨ps0 x.length, pj0, by simp [ps0], by simp [ps0], by simp [ps0, psF]⟩, ?_⟩, fun s => ?_⟩
  · simp (config := { maxSteps := 2000000 }) only [go_sem, Nat.reduceBEq, Nat.reduceAdd, Nat.reduceMul, Nat.reduceMod, Nat.reduceLT, Nat.reduceDiv, Nat.reduceSub, Nat.reduceLeDiff, Int.reduceToNat, Int.reduceLT, Int.reduceLE, reduceCtorEq, List.take_nil, List.drop_nil]
    simp [ps0]
  · obtain ⟨s, J, hc0, hc, hF⟩ := s
    simp (config := { maxSteps := 2000000 }) only [go_sem, Nat.reduceBEq, Nat.reduceAdd, Nat.reduceMul, Nat.reduceMod, Nat.reduceLT, Nat.reduceDiv, Nat.reduceSub, Nat.reduceLeDiff, Int.reduceToNat, Int.reduceLT, Int.reduceLE, reduceCtorEq, List.take_nil, List.drop_nil]
    refine ⟨fun hge => ?_, fun hlt => ?_⟩
    · have hna : ¬ placeI s.wo (-1) < 0 := by omega
      obtain ⟨hm, hm1, ep⟩ := J.act hna
      have hf := J.free M hna
      have hw := J.w M hna
      have hq := J.qq M hna
      have hsum := J.sum M hna
      obtain ⟨J', hs', hc'⟩ := J.step M hna
      have hnn : x.length * x.length ≤ 25 := Nat.mul_le_mul n5 n5
      have hm0 := J.a0 s.m hm
      have hr := rank_len (M.m.rk s.m hm)
      have hlw := J.lw
      have hlm := J.lm
      have hla := J.la
      have hyl := M.w.len
      have ew : (x.getD s.m []).getD (s.sk.getD s.m 0).toNat 0 = s.w x := rfl
      have eq : s.ma.getD (s.w x).toNat 0 = s.q x := rfl
      have ea : s.sk.set s.m (s.sk.getD s.m 0 + 1) = s.a := rfl
      have hI : psI x y s (x.length * x.length - s.sk.sum.toNat) = psI x y (s.nx x y) (x.length * x.length - (s.nx x y).sk.sum.toNat)   := by
        rw [hs', show x.length * x.length - s.sk.sum.toNat = (x.length * x.length - (s.sk.sum + 1).toNat) + 1 by omega]; exact psI_on hna
      obtain ⟨nxt, nxe⟩ : ∃ nxt : {s : PS // PJ x x.length s ∧ 0 ≤ s.ct ∧ s.ct = s.sk.sum ∧ psI x y s (x.length * x.length - s.sk.sum.toNat) = psF x y}, nxt.1 = s.nx x y := ⟨⟨s.nx x y, J', by omega, by omega, by rw [← hI]; exact hF⟩, rfl⟩
      have lt : x.length * x.length - nxt.1.sk.sum.toNat < x.length * x.length - s.sk.sum.toNat := by rw [nxe, hs']; omega
      rw [ep, Int.toNat_natCast, ew, eq]
      refine ⟨by omega, by omega, by omega, by omega, by omega, by omega, by omega, by omega, by omega, by omega, by omega, by omega, inR_of (by omega) (by omega), by omega, by omega, by omega, inR_of (by omega) (by omega), by omega, by omega, by omega, fun h1 => ⟨by omega, by omega, by omega, by omega, by omega, by omega, ?_⟩, fun h1 => ?_⟩
      · have hyr := rank_len (M.w.rk (s.w x).toNat (by omega))
        refine ⟨_, impl_Prefers_ok (y.getD (s.w x).toNat []) (s.q x) s.m (by omega), ?_⟩; simp (config := { maxSteps := 2000000 }) only [go_sem, Nat.reduceBEq, Nat.reduceAdd, Nat.reduceMul, Nat.reduceMod, Nat.reduceLT, Nat.reduceDiv, Nat.reduceSub, Nat.reduceLeDiff, Int.reduceToNat, Int.reduceLT, Int.reduceLE, reduceCtorEq, List.take_nil, List.drop_nil]
        refine ⟨fun h2 => ?_, fun h2 => ?_⟩
        · have e : s.nx x y = ⟨s.wo, s.ma, s.a, s.ct + 1⟩ := if_pos ⟨h1, h2⟩
          refine ⟨_, IndexP_ok s.wo (-1) (by omega), ?_⟩; simp (config := { maxSteps := 2000000 }) only [go_sem, Nat.reduceBEq, Nat.reduceAdd, Nat.reduceMul, Nat.reduceMod, Nat.reduceLT, Nat.reduceDiv, Nat.reduceSub, Nat.reduceLeDiff, Int.reduceToNat, Int.reduceLT, Int.reduceLE, reduceCtorEq, List.take_nil, List.drop_nil]
          refine ⟨nxt, lt, ?_⟩
          simp (config := { maxSteps := 2000000 }) only [go_sem, Nat.reduceBEq, Nat.reduceAdd, Nat.reduceMul, Nat.reduceMod, Nat.reduceLT, Nat.reduceDiv, Nat.reduceSub, Nat.reduceLeDiff, Int.reduceToNat, Int.reduceLT, Int.reduceLE, reduceCtorEq, List.take_nil, List.drop_nil, nxe, e]; exact ea
        · have e : s.nx x y = ⟨(s.wo.set (s.q x).toNat (-1)).set s.m (s.w x), s.ma.set (s.w x).toNat s.m, s.a, s.ct + 1⟩ := by rw [PS.nx, if_neg (fun h => by rw [h.2] at h2; cases h2), if_pos h1]
          rw [eq]
          refine ⟨by omega, by omega, by omega, by omega, by omega, by omega, by omega, by simp; omega, by simp; omega, by omega, by omega, by omega, ?_⟩
          refine ⟨_, IndexP_ok ((s.wo.set (s.q x).toNat (-1)).set s.m (s.w x)) (-1) (by simp; omega), ?_⟩; simp (config := { maxSteps := 2000000 }) only [go_sem, Nat.reduceBEq, Nat.reduceAdd, Nat.reduceMul, Nat.reduceMod, Nat.reduceLT, Nat.reduceDiv, Nat.reduceSub, Nat.reduceLeDiff, Int.reduceToNat, Int.reduceLT, Int.reduceLE, reduceCtorEq, List.take_nil, List.drop_nil]
          refine ⟨nxt, lt, ?_⟩
          simp (config := { maxSteps := 2000000 }) only [go_sem, Nat.reduceBEq, Nat.reduceAdd, Nat.reduceMul, Nat.reduceMod, Nat.reduceLT, Nat.reduceDiv, Nat.reduceSub, Nat.reduceLeDiff, Int.reduceToNat, Int.reduceLT, Int.reduceLE, reduceCtorEq, List.take_nil, List.drop_nil, nxe, e]; exact ea
      · have e : s.nx x y = ⟨s.wo.set s.m (s.w x), s.ma.set (s.w x).toNat s.m, s.a, s.ct + 1⟩ := by rw [PS.nx, if_neg (fun h => by omega), if_neg (by omega)]
        refine ⟨by omega, by omega, by omega, by omega, by omega, by omega, ?_⟩
        refine ⟨_, IndexP_ok (s.wo.set s.m (s.w x)) (-1) (by simp; omega), ?_⟩; simp (config := { maxSteps := 2000000 }) only [go_sem, Nat.reduceBEq, Nat.reduceAdd, Nat.reduceMul, Nat.reduceMod, Nat.reduceLT, Nat.reduceDiv, Nat.reduceSub, Nat.reduceLeDiff, Int.reduceToNat, Int.reduceLT, Int.reduceLE, reduceCtorEq, List.take_nil, List.drop_nil]
        refine ⟨nxt, lt, ?_⟩
        simp (config := { maxSteps := 2000000 }) only [go_sem, Nat.reduceBEq, Nat.reduceAdd, Nat.reduceMul, Nat.reduceMod, Nat.reduceLT, Nat.reduceDiv, Nat.reduceSub, Nat.reduceLeDiff, Int.reduceToNat, Int.reduceLT, Int.reduceLE, reduceCtorEq, List.take_nil, List.drop_nil, nxe, e]; exact ea
    · have e := psI_done (x := x) (y := y) (s := s) (k := x.length * x.length - s.sk.sum.toNat) (by omega)
      rw [hF] at e
      rw [e]; exact ⟨by omega, rfl, rfl⟩
theorem spec_ProposeMen_no {n1 n2 : Option Bool} (x y : List (List Int)) (h : marketB x y = false) (hx : x.length ≤ 1048576) (kx : ∀ r ∈ x, r.length ≤ 1048576) (hy : y.length ≤ 1048576) (ky : ∀ r ∈ y, r.length ≤ 1048576) :
    CallOk Try.prog 21 [.a [.s n1 (rr x), .s n2 (rr y)]] [(0, .tp 2), (100000, .own 1 (some true) []), (101000, .i 0)] := by
  obtain ⟨code0, hcd1, hcd2⟩ := chk_spec_ProposeMen; refine callOk_of Try.func21 hcd1 mo Try.call21 (rs := [2, 3]) (by kernel_rfl) hcd2 (by rw [Try.ntmps21]; simp) (by simp) (by decide) ?_; unfold C_spec_ProposeMen K_spec_ProposeMen; simp (config := { maxSteps := 2000000 }) only [go_sem, Nat.reduceBEq, Nat.reduceAdd, Nat.reduceMul, Nat.reduceMod, Nat.reduceLT, Nat.reduceDiv, Nat.reduceSub, Nat.reduceLeDiff, Int.reduceToNat, Int.reduceLT, Int.reduceLE, reduceCtorEq, List.take_nil, List.drop_nil]
  refine ⟨_, spec_MarketOk_ok x y hx kx hy ky, ?_⟩; simp (config := { maxSteps := 2000000 }) only [go_sem, Nat.reduceBEq, Nat.reduceAdd, Nat.reduceMul, Nat.reduceMod, Nat.reduceLT, Nat.reduceDiv, Nat.reduceSub, Nat.reduceLeDiff, Int.reduceToNat, Int.reduceLT, Int.reduceLE, reduceCtorEq, List.take_nil, List.drop_nil]
  exact ⟨fun _ => by simp, fun h1 => absurd (h.symm.trans h1) (by simp)⟩
set_option maxHeartbeats 1000000 in
theorem spec_ProposeMen_ok {n1 n2 : Option Bool} (x y : List (List Int)) (h : marketB x y = true) (hx : x.length ≤ 1048576) (kx : ∀ r ∈ x, r.length ≤ 1048576) (hy : y.length ≤ 1048576) (ky : ∀ r ∈ y, r.length ≤ 1048576) :
    CallOk Try.prog 21 [.a [.s n1 (rr x), .s n2 (rr y)]] [(0, .tp 2), (100000, .own 1 none (ii (psF x y).wo)), (101000, .i (psF x y).ct)] := by
  obtain ⟨code0, hcd1, hcd2⟩ := chk_spec_ProposeMen; refine callOk_of Try.func21 hcd1 mo Try.call21 (rs := [2, 3]) (by kernel_rfl) hcd2 (by rw [Try.ntmps21]; simp) (by simp) (by decide) ?_; unfold C_spec_ProposeMen K_spec_ProposeMen; simp (config := { maxSteps := 2000000 }) only [go_sem, Nat.reduceBEq, Nat.reduceAdd, Nat.reduceMul, Nat.reduceMod, Nat.reduceLT, Nat.reduceDiv, Nat.reduceSub, Nat.reduceLeDiff, Int.reduceToNat, Int.reduceLT, Int.reduceLE, reduceCtorEq, List.take_nil, List.drop_nil]
  have M := mk_of h
  have n5 := M.m.n5
  refine ⟨_, spec_MarketOk_ok x y hx kx hy ky, ?_⟩; simp (config := { maxSteps := 2000000 }) only [go_sem, Nat.reduceBEq, Nat.reduceAdd, Nat.reduceMul, Nat.reduceMod, Nat.reduceLT, Nat.reduceDiv, Nat.reduceSub, Nat.reduceLeDiff, Int.reduceToNat, Int.reduceLT, Int.reduceLE, reduceCtorEq, List.take_nil, List.drop_nil]
  refine ⟨fun h1 => absurd (h.symm.trans h1) (by simp), fun _ => ?_⟩
  refine ⟨by omega, by omega, by omega, by omega, by omega, by omega, ?_⟩
  have rs : ∀ j, j < x.length → (repL (-1) x.length j).set j (-1) = repL (-1) x.length (j + 1) := fun j hj => by
    refine List.ext_getElem (by simp [repL]; omega) fun i h1 h2 => ?_
    simp only [repL, List.getElem_set, List.getElem_append, List.length_replicate, List.getElem_replicate]
    by_cases e : j = i
    · subst e; simp
    · rw [if_neg e]
      by_cases e2 : i < j
      · simp [e2, show i < j + 1 by omega]
      · simp [e2, show ¬ i < j + 1 by omega]
  refine loopN x.length (fun j => [(0, .t .arg (.a [.s n1 (rr x), .s n2 (rr y)])), (1, .t .arg (.q [.s n1 (rr x), .s n2 (rr y)] 0)), (4, .i x.length), (5, .own 1 none (ii (repL (-1) x.length j))), (6, .own 1 none (ii (repL (-1) x.length j))), (7, .own 1 none (ii (List.replicate x.length 0))), (25, .i x.length), (26, .i (j : Nat))]) (fun _ => True) ⟨trivial, by simp (config := { maxSteps := 2000000 }) only [go_sem, Nat.reduceBEq, Nat.reduceAdd, Nat.reduceMul, Nat.reduceMod, Nat.reduceLT, Nat.reduceDiv, Nat.reduceSub, Nat.reduceLeDiff, Int.reduceToNat, Int.reduceLT, Int.reduceLE, reduceCtorEq, List.take_nil, List.drop_nil]; simp [repL]⟩ fun j hj _ => ?_
  simp (config := { maxSteps := 2000000 }) only [go_sem, Nat.reduceBEq, Nat.reduceAdd, Nat.reduceMul, Nat.reduceMod, Nat.reduceLT, Nat.reduceDiv, Nat.reduceSub, Nat.reduceLeDiff, Int.reduceToNat, Int.reduceLT, Int.reduceLE, reduceCtorEq, List.take_nil, List.drop_nil]
  refine ⟨fun hlt => ?_, fun hge => ?_⟩
  · have hj' : j < x.length := by omega
    have hl := repL_len (v := -1) hj
    refine ⟨by omega, by omega, by omega, by omega, by omega, by omega, inR_of (by omega) (by omega), hj', ?_⟩
    rw [rs j hj']; simp
  · have : j = x.length := by omega
    subst this
    have e0 : repL (-1) x.length x.length = List.replicate x.length (-1) := by simp [repL]
    rw [e0]
    refine ⟨{s : PS // PJ x x.length s ∧ 0 ≤ s.ct ∧ s.ct = s.sk.sum ∧ psI x y s (x.length * x.length - s.sk.sum.toNat) = psF x y}, fun s => [(0, .t .arg (.a [.s n1 (rr x), .s n2 (rr y)])), (1, .t .arg (.q [.s n1 (rr x), .s n2 (rr y)] 0)), (4, .i x.length), (5, .own 1 none (ii s.1.wo)), (6, .own 1 none (ii s.1.ma)), (7, .own 1 none (ii s.1.sk)), (9, .i s.1.ct)], fun s => x.length * x.length - s.1.sk.sum.toNat, ⟨⟨ps0 x.length, pj0, by simp [ps0], by simp [ps0], by simp [ps0, psF]⟩, ?_⟩, fun s => ?_⟩
    · simp (config := { maxSteps := 2000000 }) only [go_sem, Nat.reduceBEq, Nat.reduceAdd, Nat.reduceMul, Nat.reduceMod, Nat.reduceLT, Nat.reduceDiv, Nat.reduceSub, Nat.reduceLeDiff, Int.reduceToNat, Int.reduceLT, Int.reduceLE, reduceCtorEq, List.take_nil, List.drop_nil]
      simp [ps0]
    · obtain ⟨s, J, hc0, hc, hF⟩ := s
      simp (config := { maxSteps := 2000000 }) only [go_sem, Nat.reduceBEq, Nat.reduceAdd, Nat.reduceMul, Nat.reduceMod, Nat.reduceLT, Nat.reduceDiv, Nat.reduceSub, Nat.reduceLeDiff, Int.reduceToNat, Int.reduceLT, Int.reduceLE, reduceCtorEq, List.take_nil, List.drop_nil]
      have hlw := J.lw
      refine ⟨_, spec_PlaceOf_ok s.wo (-1) (by omega), ?_⟩; simp (config := { maxSteps := 2000000 }) only [go_sem, Nat.reduceBEq, Nat.reduceAdd, Nat.reduceMul, Nat.reduceMod, Nat.reduceLT, Nat.reduceDiv, Nat.reduceSub, Nat.reduceLeDiff, Int.reduceToNat, Int.reduceLT, Int.reduceLE, reduceCtorEq, List.take_nil, List.drop_nil]
      refine ⟨fun hlt => ?_, fun hge => ?_⟩
      · have e := psI_done (x := x) (y := y) (s := s) (k := x.length * x.length - s.sk.sum.toNat) (by omega)
        rw [hF] at e
        rw [e]; exact ⟨by omega, rfl, rfl⟩
      · have hna : ¬ placeI s.wo (-1) < 0 := by omega
        obtain ⟨hm, hm1, ep⟩ := J.act hna
        have hf := J.free M hna
        have hw := J.w M hna
        have hq := J.qq M hna
        have hsum := J.sum M hna
        obtain ⟨J', hs', hc'⟩ := J.step M hna
        have hnn : x.length * x.length ≤ 25 := Nat.mul_le_mul n5 n5
        have hm0 := J.a0 s.m hm
        have hr := rank_len (M.m.rk s.m hm)
        have hlm := J.lm
        have hla := J.la
        have hyl := M.w.len
        have ew : (x.getD s.m []).getD (s.sk.getD s.m 0).toNat 0 = s.w x := rfl
        have eq : s.ma.getD (s.w x).toNat 0 = s.q x := rfl
        have ea : s.sk.set s.m (s.sk.getD s.m 0 + 1) = s.a := rfl
        have hI : psI x y s (x.length * x.length - s.sk.sum.toNat) = psI x y (s.nx x y) (x.length * x.length - (s.nx x y).sk.sum.toNat) := by
          rw [hs', show x.length * x.length - s.sk.sum.toNat = (x.length * x.length - (s.sk.sum + 1).toNat) + 1 by omega]; exact psI_on hna
        obtain ⟨nxt, nxe⟩ : ∃ nxt : {s : PS // PJ x x.length s ∧ 0 ≤ s.ct ∧ s.ct = s.sk.sum ∧ psI x y s (x.length * x.length - s.sk.sum.toNat) = psF x y}, nxt.1 = s.nx x y := ⟨⟨s.nx x y, J', by omega, by omega, by rw [← hI]; exact hF⟩, rfl⟩
        have lt : x.length * x.length - nxt.1.sk.sum.toNat < x.length * x.length - s.sk.sum.toNat := by rw [nxe, hs']; omega
        rw [ep, Int.toNat_natCast, ew, eq]
        refine ⟨by omega, by omega, by omega, by omega, by omega, by omega, by omega, by omega, by omega, by omega, by omega, by omega, inR_of (by omega) (by omega), by omega, by omega, by omega, inR_of (by omega) (by omega), by omega, by omega, by omega, fun h1 => ⟨by omega, by omega, by omega, by omega, by omega, by omega, ?_⟩, fun h1 => ?_⟩
        · have hrk := M.w.rk (s.w x).toNat (by omega)
          have hyr := rank_len hrk
          have ht := pref_total (rank_all hrk (a := (s.m : Int)) (by omega) (by omega)) (rank_all hrk (a := s.q x) (by omega) (by omega)) (by omega)
          refine ⟨_, spec_Prefers_ok (y.getD (s.w x).toNat []) s.m (s.q x) (by omega), ?_⟩; simp (config := { maxSteps := 2000000 }) only [go_sem, Nat.reduceBEq, Nat.reduceAdd, Nat.reduceMul, Nat.reduceMod, Nat.reduceLT, Nat.reduceDiv, Nat.reduceSub, Nat.reduceLeDiff, Int.reduceToNat, Int.reduceLT, Int.reduceLE, reduceCtorEq, List.take_nil, List.drop_nil]
          refine ⟨fun h2 => ?_, fun h2 => ?_⟩
          · have e : s.nx x y = ⟨(s.wo.set (s.q x).toNat (-1)).set s.m (s.w x), s.ma.set (s.w x).toNat s.m, s.a, s.ct + 1⟩ := by rw [PS.nx, if_neg (fun h => by rw [ht, h.2] at h2; cases h2), if_pos (by omega)]
            rw [eq]
            refine ⟨by omega, by omega, by omega, fun h3 => ⟨by omega, by omega, by omega, by omega, by omega, by omega, by omega, by omega, by omega, by omega, by simp; omega, by simp; omega, ?_⟩, fun h3 => absurd (show 0 ≤ s.q x by omega) h3⟩
            refine ⟨nxt, lt, ?_⟩
            simp (config := { maxSteps := 2000000 }) only [go_sem, Nat.reduceBEq, Nat.reduceAdd, Nat.reduceMul, Nat.reduceMod, Nat.reduceLT, Nat.reduceDiv, Nat.reduceSub, Nat.reduceLeDiff, Int.reduceToNat, Int.reduceLT, Int.reduceLE, reduceCtorEq, List.take_nil, List.drop_nil, nxe, e]; exact ea
          · have e : s.nx x y = ⟨s.wo, s.ma, s.a, s.ct + 1⟩ := if_pos ⟨by omega, by rw [ht] at h2; simpa using h2⟩
            refine ⟨nxt, lt, ?_⟩
            simp (config := { maxSteps := 2000000 }) only [go_sem, Nat.reduceBEq, Nat.reduceAdd, Nat.reduceMul, Nat.reduceMod, Nat.reduceLT, Nat.reduceDiv, Nat.reduceSub, Nat.reduceLeDiff, Int.reduceToNat, Int.reduceLT, Int.reduceLE, reduceCtorEq, List.take_nil, List.drop_nil, nxe, e]; exact ea
        · have e : s.nx x y = ⟨s.wo.set s.m (s.w x), s.ma.set (s.w x).toNat s.m, s.a, s.ct + 1⟩ := by rw [PS.nx, if_neg (fun h => by omega), if_neg (by omega)]
          refine ⟨by omega, by omega, by omega, fun h3 => absurd h3 (by omega), fun h3 => ⟨by omega, by omega, by omega, by omega, by omega, by omega, ?_⟩⟩
          refine ⟨nxt, lt, ?_⟩
          simp (config := { maxSteps := 2000000 }) only [go_sem, Nat.reduceBEq, Nat.reduceAdd, Nat.reduceMul, Nat.reduceMod, Nat.reduceLT, Nat.reduceDiv, Nat.reduceSub, Nat.reduceLeDiff, Int.reduceToNat, Int.reduceLT, Int.reduceLE, reduceCtorEq, List.take_nil, List.drop_nil, nxe, e]; exact ea

end Go.Proofs.Ytolofcljdcnmkaa
