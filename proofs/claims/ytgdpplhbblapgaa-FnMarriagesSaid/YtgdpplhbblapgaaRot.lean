/- Own work: contracts of functions that the claim reaches. No condition beyond those that each theorem names. -/
import Derived.Test.YtgdpplhbblapgaaProg
import Derived.Test.YtgdpplhbblapgaaLeast
import Derived.Test.YtgdpplhbblapgaaPth
import Derived.Test.YtgdpplhbblapgaaSame
import Derived.Test.YtgdpplhbblapgaaClone
namespace Go.Proofs.Ytgdpplhbblapgaa
open Go Go.Vc
set_option maxRecDepth 100000
set_option linter.unusedSimpArgs false
set_option linter.unusedVariables false
def K_impl_Market_nextWoman : List Nat := [0, 1, 2, 3, 6, 8, 25, 26, 27, 1003, 2003]
def C_impl_Market_nextWoman : C :=
 let ks := K_impl_Market_nextWoman
 (.seq
  (.rg 0 [(none, .v 3 .boxS [.s 0]), (none, .v 6 .mv [.k (.i 0)])])
  (.cl ks (.seq
  (.seq
  (.rg 19 [(none, .v 9 (.fa 0) [.s 3]), (none, .v 10 .ld [.s 9]), (none, .v 11 .mv [.s 2]), (none, .v 12 .idx [.s 10, .s 11]), (none, .v 13 .ld [.s 12]), (none, .v 14 (.fa 0) [.s 3]), (none, .v 15 .ld [.s 14]), (none, .v 16 .mv [.s 2]), (none, .v 17 .idx [.s 15, .s 16]), (none, .v 18 .ld [.s 17]), (none, .v 19 .mv [.s 1]), (none, .v 20 .mv [.s 2]), (none, .v 21 .idx [.s 19, .s 20]), (none, .v 22 .ld [.s 21]), (none, .v 23 (.call 110) [.s 18, .s 22]), (none, .v 24 (.bin .add) [.s 23, .k (.i 1)]), (none, .v 25 (.sub true false) [.s 13, .s 24]), (none, .v 26 .len [.s 25]), (none, .v 27 .mv [.k (.i 0)])])
  (.cl ks (.block 0
  (.loop
  (.seq
  (.rg 0 [(none, .v 28 (.bin .lss) [.s 27, .s 26])])
  (.seq
  (.cond (.s 28)
  .skip
  (.exit 0))
  (.cl ks (.seq
  (.block 1
  (.seq
  (.rg 0 [(none, .v 29 .idx [.s 25, .s 27]), (none, .v 30 .ld [.s 29]), (none, .tk 8 30)])
  (.cl ks (.seq
  (.rg 9 [(none, .v 31 (.fa 1) [.s 3]), (none, .v 32 .ld [.s 31]), (none, .v 33 .mv [.s 8]), (none, .v 34 .idx [.s 32, .s 33]), (none, .v 35 .ld [.s 34]), (none, .v 36 .mv [.s 2]), (none, .v 37 .mv [.s 1]), (none, .v 38 .mv [.s 8]), (none, .v 39 (.call 120) [.s 37, .s 38]), (none, .co 40 39 [.s 35, .s 36, .s 39])])
  (.cond (.s 40)
  (.seq
  (.rg 0 [(none, .v 41 .mv [.s 8]), (none, .tk 6 41)])
  .ret)
  .skip)))))
  (.cl ks (.rg 0 [(none, .v 42 (.bin .add) [.s 27, .k (.i 1)]), (none, .v 27 .mv [.s 42])]))))))))))
  (.cl ks (.seq
  (.rg 0 [(none, .v 6 .mv [.k (.i (-1))])])
  .ret)))))
theorem chk_impl_Market_nextWoman : ∃ b, Try.f142.body = some b ∧ chk Try.prog Try.f142.ntmps true C_impl_Market_nextWoman b = true := ⟨_, rfl, by kernel_rfl⟩
def takesB (y : List (List Int)) (l : List Int) (i : Nat) (w : Int) : Bool := prefB (y.getD w.toNat []) i (placeI l w)
def nxtL (x : List (List Int)) (l : List Int) (i : Nat) : List Int := (x.getD i []).drop (placeI (x.getD i []) (l.getD i 0) + 1).toNat
def nwI (x y : List (List Int)) (l : List Int) (i : Nat) : Int := if idxP (takesB y l i) (nxtL x l i) < 0 then -1 else (nxtL x l i).getD (idxP (takesB y l i) (nxtL x l i)).toNat 0
theorem nwI_hit {x y : List (List Int)} {l : List Int} {i j : Nat} (hj : j < (nxtL x l i).length) (h : takesB y l i ((nxtL x l i).getD j 0) = true) (hb : ∀ q, q < j → takesB y l i ((nxtL x l i).getD q 0) = false) : nwI x y l i = (nxtL x l i).getD j 0 := by
 have e := idxP_hit (d := 0) hj h hb
 unfold nwI; rw [e, if_neg (by omega), Int.toNat_natCast]
theorem nwI_miss {x y : List (List Int)} {l : List Int} {i : Nat} (hb : ∀ q, q < (nxtL x l i).length → takesB y l i ((nxtL x l i).getD q 0) = false) : nwI x y l i = -1 := by
 have e := idxP_miss (d := 0) hb
 unfold nwI; rw [e]; simp
theorem nwI_in {x y : List (List Int)} {l : List Int} {i : Nat} : nwI x y l i = -1 ∨ nwI x y l i ∈ x.getD i [] := by
 rcases idxP_cases 0 (takesB y l i) (nxtL x l i) with ⟨j, h1, h2, h3, h4⟩ | ⟨_, h⟩
 ·right; rw [nwI_hit h1 h2 h3]; exact List.mem_of_mem_drop (getD_mem h1)
 ·left; unfold nwI; rw [h]; simp
theorem IndexP_ok {nl : Option Bool} (xs : List Int) (v : Int) (hl : xs.length ≤ 1048576) : CallOk Try.prog 120 [.s nl (ii xs), .i v] [(0, .i (placeI xs v))] := by rw [placeI_sym]; exact IndexI xs v hl
theorem impl_Market_nextWoman_ok {n1 n2 n3 : Option Bool} (x y : List (List Int)) (l : List Int) (n i : Nat) (M : Mk x y n) (R : rankB n l = true) (hi : i < n) :
  CallOk Try.prog 142 [.a [.s n1 (rr x), .s n2 (rr y)], .s n3 (ii l), .i i] [(0, .i (nwI x y l i))] := by
 obtain ⟨code0, hcd1, hcd2⟩ := chk_impl_Market_nextWoman; refine callOk_of Try.func142 hcd1 mo Try.call142 (rs := [6]) (by kernel_rfl) hcd2 (by rw [Try.ntmps142]; simp) (by simp) (by decide) ?_; unfold C_impl_Market_nextWoman K_impl_Market_nextWoman; simp (maxSteps := 2000000) only [go_sem, Nat.reduceBEq, Nat.reduceAdd, Nat.reduceMul, Nat.reduceMod, Nat.reduceLT, Nat.reduceDiv, Nat.reduceSub, Nat.reduceLeDiff, Int.reduceToNat, Int.reduceLT, Int.reduceLE, reduceCtorEq]
 have n5 := M.m.n5
 have hl := rank_len R
 have hxl := M.m.len
 have hyl := M.w.len
 have hr1 := rank_len (M.m.rk i hi)
 have hb := rank_bd R (i := i) (by omega)
 have p1 := plM M R hi
 have e1 : placeM x l i = placeI (x.getD i []) (l.getD i 0) := rfl
 obtain ⟨pj, pl, _, pe⟩ := placeI_mem (rank_all (M.m.rk i hi) hb.1 hb.2)
 have hmem : ∀ w ∈ nxtL x l i, 0 ≤ w ∧ w < n := fun w hw => by
  obtain ⟨q, hq, e⟩ := mem_getD 0 (List.mem_of_mem_drop hw)
  have := rank_bd (M.m.rk i hi) (i := q) (by omega); omega
 have hLl : (nxtL x l i).length ≤ n := by unfold nxtL; rw [List.length_drop]; omega
 have hN : (x.getD i []).drop (placeI (x.getD i []) (l.getD i 0) + 1).toNat = nxtL x l i := rfl
 refine ⟨by omega, by omega, by omega, by omega, by omega, by omega, by omega, by omega, by omega, ?_⟩
 refine ⟨_, impl_PlaceOf_ok (x.getD i []) (l.getD i 0) (by omega), ?_⟩; simp (maxSteps := 2000000) only [go_sem, Nat.reduceBEq, Nat.reduceAdd, Nat.reduceMul, Nat.reduceMod, Nat.reduceLT, Nat.reduceDiv, Nat.reduceSub, Nat.reduceLeDiff, Int.reduceToNat, Int.reduceLT, Int.reduceLE, reduceCtorEq]
 refine ⟨inR_of (by omega) (by omega), by unfold subOk; omega, ?_⟩
 rw [List.take_length, hN]
 have hit := fun j hj h hb => nwI_hit (x := x) (y := y) (l := l) (i := i) (j := j) hj h hb
 have mis := fun hb => nwI_miss (x := x) (y := y) (l := l) (i := i) hb
 revert hmem hLl hit mis
 generalize nxtL x l i = L
 intro hmem hLl hit mis
 refine loopN L.length (fun j => [(0, .t .arg (.a [.s n1 (rr x), .s n2 (rr y)])), (1, .t .arg (.s n3 (ii l))), (2, .i i), (3, .t .arg (.q [.s n1 (rr x), .s n2 (rr y)] 0)), (25, .t .arg (.s none (ii L))), (26, .i L.length), (27, .i (j : Nat))]) (fun j => ∀ q, q < j → takesB y l i (L.getD q 0) = false) ⟨by simp, by simp (maxSteps := 2000000) only [go_sem, Nat.reduceBEq, Nat.reduceAdd, Nat.reduceMul, Nat.reduceMod, Nat.reduceLT, Nat.reduceDiv, Nat.reduceSub, Nat.reduceLeDiff, Int.reduceToNat, Int.reduceLT, Int.reduceLE, reduceCtorEq]; simp⟩ fun j hj hI => ?_
 simp (maxSteps := 2000000) only [go_sem, Nat.reduceBEq, Nat.reduceAdd, Nat.reduceMul, Nat.reduceMod, Nat.reduceLT, Nat.reduceDiv, Nat.reduceSub, Nat.reduceLeDiff, Int.reduceToNat, Int.reduceLT, Int.reduceLE, reduceCtorEq]
 refine ⟨fun hlt => ?_, fun hge => ?_⟩
 ·have hj' : j < L.length := by omega
  have hw := hmem _ (getD_mem (d := 0) hj')
  have ry := rank_len (M.w.rk (L.getD j 0).toNat (by omega))
  refine ⟨by omega, hj', hj', by omega, by omega, by omega, ?_⟩
  refine ⟨_, IndexP_ok l (L.getD j 0) (by omega), ?_⟩; simp (maxSteps := 2000000) only [go_sem, Nat.reduceBEq, Nat.reduceAdd, Nat.reduceMul, Nat.reduceMod, Nat.reduceLT, Nat.reduceDiv, Nat.reduceSub, Nat.reduceLeDiff, Int.reduceToNat, Int.reduceLT, Int.reduceLE, reduceCtorEq]
  refine ⟨_, impl_Prefers_ok (y.getD (L.getD j 0).toNat []) _ _ (by omega), ?_⟩; simp (maxSteps := 2000000) only [go_sem, Nat.reduceBEq, Nat.reduceAdd, Nat.reduceMul, Nat.reduceMod, Nat.reduceLT, Nat.reduceDiv, Nat.reduceSub, Nat.reduceLeDiff, Int.reduceToNat, Int.reduceLT, Int.reduceLE, reduceCtorEq]
  have e2 : prefB (y.getD (L.getD j 0).toNat []) i (placeI l (L.getD j 0)) = takesB y l i (L.getD j 0) := rfl
  rw [e2]
  exact ⟨fun h => (hit j hj' h hI).symm, fun h => ⟨inR_of (by omega) (by omega), hj', fun q hq => by
   by_cases e : q = j
   ·rw [e]; exact h
   ·exact hI q (by omega), by simp⟩⟩
 ·have : j = L.length := by omega
  subst this
  rw [mis hI]
def nxI (x y : List (List Int)) (l : List Int) (v : Int) : Int := if v < 0 then -1 else if nwI x y l v.toNat < 0 then -1 else placeI l (nwI x y l v.toNat)
theorem nxI_bad {x y : List (List Int)} {l : List Int} : nxI x y l (-1) = -1 := by simp [nxI]
theorem nw_bd {x y : List (List Int)} {l : List Int} {n i : Nat} (M : Mk x y n) (R : rankB n l = true) (hi : i < n) (h : ¬ nwI x y l i < 0) : 0 ≤ nwI x y l i ∧ nwI x y l i < n ∧ 0 ≤ placeI l (nwI x y l i) ∧ placeI l (nwI x y l i) < n := by
 rcases nwI_in (x := x) (y := y) (l := l) (i := i) with e | e
 ·omega
 ·obtain ⟨q, hq, e2⟩ := mem_getD 0 e
  have hr := M.m.rk i hi
  have h1 := rank_len hr
  have h2 := rank_bd hr (i := q) hq
  obtain ⟨j, j1, _, j3⟩ := placeI_mem (rank_all R (a := nwI x y l i) (by omega) (by omega))
  have h3 := rank_len R
  omega
theorem nxI_in {x y : List (List Int)} {l : List Int} {n : Nat} (M : Mk x y n) (R : rankB n l = true) : ∀ v ∈ (-1 : Int) :: upto n, nxI x y l v ∈ (-1 : Int) :: upto n := fun v hv => by
 have hb : -1 ≤ v ∧ v < n := by
  rcases List.mem_cons.1 hv with e | e
  ·omega
  ·have := mem_upto.1 e; omega
 unfold nxI
 by_cases h0 : v < 0
 ·rw [if_pos h0]; simp
 ·rw [if_neg h0]
  by_cases h1 : nwI x y l v.toNat < 0
  ·rw [if_pos h1]; simp
  ·rw [if_neg h1]
   have := nw_bd M R (by omega) h1
   exact List.mem_cons_of_mem _ (mem_upto.2 ⟨by omega, by omega⟩)
theorem cyc_bad {f : Int → Int} {a : Int} {j k : Nat} (ha : 0 ≤ a) (hf : f (-1) = -1) (h : itI f a (j + 1) = -1) (hp : ∀ v ∈ pthL f a (j + 1), 0 ≤ v) : cycG f a (k + 2) (pthL f a (j + 1)) = [] := by
 rw [cyc_on (by omega) (fun hm => by have := hp _ hm; omega)]
 have e : itI f a (j + 1 + 1) = -1 := by show f (itI f a (j + 1)) = -1; rw [h, hf]
 refine cyc_rep (by omega) ?_
 rw [e, ← h, pthL_s]; simp
def rotG (x y : List (List Int)) (l : List Int) (a : Int) : List Int := cycG (nxI x y l) a (x.length + 2) [a]
def rotS (x y : List (List Int)) (l : List Int) (a : Int) : List Int := spG (nxI x y l) a (x.length + 2) [a]
theorem rotS_eq {x y : List (List Int)} {l : List Int} {a : Int} : rotS x y l a = lowOf a (rotG x y l a) := spG_eq (by simp) (by simp)
def K_impl_Market_rotationFrom : List Nat := [0, 1, 2, 3, 6, 7, 8, 9, 1003, 2003]
def C_impl_Market_rotationFrom : C :=
 let ks := K_impl_Market_rotationFrom
 (.seq
  (.rg 0 [(none, .v 3 .boxS [.s 0]), (none, .mkn 6)])
  (.cl ks (.seq
  (.rg 0 [(none, .mkn 7)])
  (.cl ks (.seq
  (.seq
  (.rg 0 [(none, .v 10 .mv [.s 2]), (none, .tk 8 10)])
  (.cl ks (.block 0
  (.loop
  (.seq
  (.seq
  (.rg 0 [(none, .v 11 .mv [.s 7]), (none, .v 12 .mv [.s 8]), (none, .co 13 147 [.s 11, .s 12]), (none, .v 14 .not [.s 13])])
  (.cond (.s 14)
  .skip
  (.exit 0)))
  (.cl ks (.block 1
  (.seq
  (.rg 0 [(none, .v 15 .mv [.s 7]), (none, .v 16 .mv [.s 8]), (none, .lit 17 [.s 16] 0), (none, .app 18 (.s 15) (.s 17) 0), (none, .tk 7 18)])
  (.cl ks (.seq
  (.rg 0 [(none, .v 19 (.lds 2) [.s 3]), (none, .v 20 .mv [.s 1]), (none, .v 21 .mv [.s 8]), (none, .co 22 142 [.s 19, .s 20, .s 21]), (none, .tk 9 22)])
  (.cl ks (.seq
  (.seq
  (.rg 0 [(none, .v 23 .mv [.s 9]), (none, .v 24 (.bin .lss) [.s 23, .k (.i 0)])])
  (.cond (.s 24)
  (.seq
  (.rg 0 [(none, .mkn 6)])
  .ret)
  .skip))
  (.cl ks (.seq
  (.rg 0 [(none, .v 25 .mv [.s 1]), (none, .v 26 .mv [.s 9]), (none, .co 27 120 [.s 25, .s 26]), (none, .tk 8 27)])
  (.cl ks (.seq
  (.rg 0 [(none, .v 28 .mv [.s 8]), (none, .v 29 .mv [.s 2]), (none, .v 30 (.bin .eql) [.s 28, .s 29])])
  (.cond (.s 30)
  (.seq
  (.rg 0 [(none, .v 31 .mv [.s 7]), (none, .tk 6 31)])
  .ret)
  .skip)))))))))))))))))
  (.cl ks (.seq
  (.rg 0 [(none, .mkn 6)])
  .ret)))))))
theorem chk_impl_Market_rotationFrom : ∃ b, Try.f139.body = some b ∧ chk Try.prog Try.f139.ntmps true C_impl_Market_rotationFrom b = true := ⟨_, rfl, by kernel_rfl⟩
theorem impl_rotationFrom_ok {n1 n2 n3 : Option Bool} (x y : List (List Int)) (l : List Int) (a : Nat) (M : Mk x y x.length) (R : rankB x.length l = true) (ha : a < x.length) :
  CallOk Try.prog 139 [.a [.s n1 (rr x), .s n2 (rr y)], .s n3 (ii l), .i a] [(0, .own 1 (some (decide (rotG x y l a = []))) (ii (rotG x y l a)))] := by
 obtain ⟨code0, hcd1, hcd2⟩ := chk_impl_Market_rotationFrom; refine callOk_of Try.func139 hcd1 mo Try.call139 (rs := [6]) (by kernel_rfl) hcd2 (by rw [Try.ntmps139]; simp) (by simp) (by decide) ?_; unfold C_impl_Market_rotationFrom K_impl_Market_rotationFrom; simp (maxSteps := 2000000) only [go_sem, Nat.reduceBEq, Nat.reduceAdd, Nat.reduceMul, Nat.reduceMod, Nat.reduceLT, Nat.reduceDiv, Nat.reduceSub, Nat.reduceLeDiff, Int.reduceToNat, Int.reduceLT, Int.reduceLE, reduceCtorEq]
 have n5 := M.m.n5
 have hl := rank_len R
 have hS := nxI_in M R
 have haS : (a : Int) ∈ (-1 : Int) :: upto x.length := List.mem_cons_of_mem _ (mem_upto.2 ⟨by omega, by omega⟩)
 have hSl : ((-1 : Int) :: upto x.length).length = x.length + 1 := by simp [upto_len]
 refine loopN (x.length + 1) (fun j => [(0, .t .arg (.a [.s n1 (rr x), .s n2 (rr y)])), (1, .t .arg (.s n3 (ii l))), (2, .i a), (3, .t .arg (.q [.s n1 (rr x), .s n2 (rr y)] 0)), (7, .own 1 none (ii (pthL (nxI x y l) a j))), (8, .i (itI (nxI x y l) a j))]) (fun j => (pthL (nxI x y l) a j).Nodup ∧ (∀ v ∈ pthL (nxI x y l) a j, 0 ≤ v) ∧ 0 ≤ itI (nxI x y l) a j ∧ (0 < j → itI (nxI x y l) a j ≠ a ∧ cycG (nxI x y l) a (x.length + 3 - j) (pthL (nxI x y l) a j) = rotG x y l a)) ⟨⟨by simp [pthL], by simp [pthL], by simp [itI], by simp⟩, by simp (maxSteps := 2000000) only [go_sem, Nat.reduceBEq, Nat.reduceAdd, Nat.reduceMul, Nat.reduceMod, Nat.reduceLT, Nat.reduceDiv, Nat.reduceSub, Nat.reduceLeDiff, Int.reduceToNat, Int.reduceLT, Int.reduceLE, reduceCtorEq]; simp [pthL, itI]⟩ fun j hj hI => ?_
 obtain ⟨hnd, hnn, hi0, hI⟩ := hI
 have hin : itI (nxI x y l) a j ∈ (-1 : Int) :: upto x.length := itI_in hS haS
 have hib : itI (nxI x y l) a j < x.length := by
  rcases List.mem_cons.1 hin with e | e
  ·omega
  ·have := mem_upto.1 e; omega
 have hpl := pthL_len (f := nxI x y l) (a := (a : Int)) (j := j)
 obtain ⟨i, hi⟩ : ∃ i : Nat, itI (nxI x y l) a j = i := ⟨(itI (nxI x y l) a j).toNat, by omega⟩
 simp (maxSteps := 2000000) only [go_sem, Nat.reduceBEq, Nat.reduceAdd, Nat.reduceMul, Nat.reduceMod, Nat.reduceLT, Nat.reduceDiv, Nat.reduceSub, Nat.reduceLeDiff, Int.reduceToNat, Int.reduceLT, Int.reduceLE, reduceCtorEq]
 refine ⟨_, ContainsI (pthL (nxI x y l) a j) (itI (nxI x y l) a j) (by omega), ?_⟩; simp (maxSteps := 2000000) only [go_sem, Nat.reduceBEq, Nat.reduceAdd, Nat.reduceMul, Nat.reduceMod, Nat.reduceLT, Nat.reduceDiv, Nat.reduceSub, Nat.reduceLeDiff, Int.reduceToNat, Int.reduceLT, Int.reduceLE, reduceCtorEq]
 have hmem : ((pthL (nxI x y l) a j).any fun v => decide (itI (nxI x y l) a j = v)) = true ↔ itI (nxI x y l) a j ∈ pthL (nxI x y l) a j := by
  rw [List.any_eq_true]
  exact ⟨fun ⟨v, h1, h2⟩ => by rw [of_decide_eq_true h2]; exact h1, fun h => ⟨_, h, decide_eq_true rfl⟩⟩
 refine ⟨fun hc => ?_, fun hc => ?_⟩
 ·have hc : itI (nxI x y l) a j ∉ pthL (nxI x y l) a j := fun h => by have h1 := hmem.2 h; rw [h1] at hc; cases hc
  have hnd' := pthL_nd hnd hc
  have hle := pthL_le hS haS hnd'
  have hnn' : ∀ v ∈ pthL (nxI x y l) a (j + 1), 0 ≤ v := fun v hv => by
   rw [pthL_s] at hv
   rcases List.mem_append.1 hv with e | e
   ·exact hnn v e
   ·rw [List.mem_singleton.1 e]; exact hi0
  have hC : cycG (nxI x y l) a (x.length + 2 - j - 1 + 1) (pthL (nxI x y l) a (j + 1)) = rotG x y l a := by
   cases j with
   | zero => rw [pthL_1]; unfold rotG; congr 1
   | succ j =>
    obtain ⟨h1, h2⟩ := hI (by omega)
    rw [← h2, show x.length + 3 - (j + 1) = (x.length + 2 - (j + 1) - 1 + 1) + 1 by omega, cyc_on h1 hc]
  have hn1 : itI (nxI x y l) a (j + 1) = if nwI x y l i < 0 then -1 else placeI l (nwI x y l i) := by
   show nxI x y l (itI (nxI x y l) a j) = _
   rw [hi, nxI, if_neg (by omega), Int.toNat_natCast]
  have hw := impl_Market_nextWoman_ok (n1 := n1) (n2 := n2) (n3 := n3) x y l x.length i M R (by omega)
  rw [← hi] at hw
  refine ⟨by omega, ?_⟩
  refine ⟨_, hw, ?_⟩; simp (maxSteps := 2000000) only [go_sem, Nat.reduceBEq, Nat.reduceAdd, Nat.reduceMul, Nat.reduceMod, Nat.reduceLT, Nat.reduceDiv, Nat.reduceSub, Nat.reduceLeDiff, Int.reduceToNat, Int.reduceLT, Int.reduceLE, reduceCtorEq]
  refine ⟨fun h1 => ?_, fun h1 => ?_⟩
  ·rw [if_pos h1] at hn1
   have e : rotG x y l a = [] := by
    rw [← hC, show x.length + 2 - j - 1 + 1 = (x.length - j) + 2 by omega]
    exact cyc_bad (by omega) nxI_bad hn1 hnn'
   rw [e]; exact ⟨rfl, rfl⟩
  ·rw [if_neg h1] at hn1
   have hp := nw_bd M R (by omega) h1
   refine ⟨_, IndexP_ok l (nwI x y l i) (by omega), ?_⟩; simp (maxSteps := 2000000) only [go_sem, Nat.reduceBEq, Nat.reduceAdd, Nat.reduceMul, Nat.reduceMod, Nat.reduceLT, Nat.reduceDiv, Nat.reduceSub, Nat.reduceLeDiff, Int.reduceToNat, Int.reduceLT, Int.reduceLE, reduceCtorEq]
   rw [← hn1] at hp ⊢
   refine ⟨fun h2 => ?_, fun h2 => ?_⟩
   ·have e : rotG x y l a = pthL (nxI x y l) a (j + 1) := by rw [← hC]; exact cyc_hit h2
    have hne : pthL (nxI x y l) a (j + 1) ≠ [] := by rw [pthL_s]; simp
    rw [e]; exact ⟨pthL_s.symm, by rw [decide_eq_false hne]⟩
   ·refine ⟨by omega, ⟨hnd', hnn', hp.2.2.1, fun _ => ⟨h2, ?_⟩⟩, pthL_s.symm, rfl⟩
    rw [← hC, show x.length + 3 - (j + 1) = x.length + 2 - j - 1 + 1 by omega]
 ·have hc : itI (nxI x y l) a j ∈ pthL (nxI x y l) a j := hmem.1 hc
  cases j with
  | zero => simp [pthL] at hc
  | succ j =>
   obtain ⟨h1, h2⟩ := hI (by omega)
   have e : rotG x y l a = [] := by
    rw [← h2, show x.length + 3 - (j + 1) = (x.length + 2 - j - 1) + 1 by omega]; exact cyc_rep h1 hc
   rw [e]; exact ⟨rfl, rfl⟩
def K_impl_IsStable : List Nat := [0, 1, 2, 4, 1002, 2002]
def C_impl_IsStable : C :=
 let ks := K_impl_IsStable
 (.seq
  (.rg 0 [(none, .v 2 .boxS [.s 0]), (none, .v 4 .mv [.k (.b false)])])
  (.cl ks (.seq
  (.rg 0 [(none, .v 5 (.lds 2) [.s 2]), (none, .v 6 .mv [.s 1]), (none, .co 7 123 [.s 5, .s 6]), (none, .v 8 .mv [.s 7]), (some (8, true), .v 9 (.lds 2) [.s 2]), (some (8, true), .v 10 .mv [.s 1]), (some (8, true), .co 11 122 [.s 9, .s 10]), (some (8, true), .v 12 .len [.s 11]), (some (8, true), .v 13 (.bin .eql) [.s 12, .k (.i 0)]), (none, .v 14 .pick [.s 8, .s 13, .k (.b false)]), (none, .tk 4 14)])
  .ret)))
theorem chk_impl_IsStable : ∃ b, Try.f47.body = some b ∧ chk Try.prog Try.f47.ntmps true C_impl_IsStable b = true := ⟨_, rfl, by kernel_rfl⟩
def stabB (x y : List (List Int)) (l : List Int) : Bool := matchB x y l && stableB x y x.length l
theorem impl_IsStable_ok {n1 n2 n3 : Option Bool} (x y : List (List Int)) (l : List Int) (hx : x.length ≤ 1048576) (kx : ∀ r ∈ x, r.length ≤ 1048576) (hy : y.length ≤ 1048576) (ky : ∀ r ∈ y, r.length ≤ 1048576) (hl : l.length ≤ 1048576) :
  CallOk Try.prog 47 [.a [.s n1 (rr x), .s n2 (rr y)], .s n3 (ii l)] [(0, .b (stabB x y l))] := by
 obtain ⟨code0, hcd1, hcd2⟩ := chk_impl_IsStable; refine callOk_of Try.func47 hcd1 mo Try.call47 (rs := [4]) (by kernel_rfl) hcd2 (by rw [Try.ntmps47]; simp) (by simp) (by decide) ?_; unfold C_impl_IsStable K_impl_IsStable; simp (maxSteps := 2000000) only [go_sem, Nat.reduceBEq, Nat.reduceAdd, Nat.reduceMul, Nat.reduceMod, Nat.reduceLT, Nat.reduceDiv, Nat.reduceSub, Nat.reduceLeDiff, Int.reduceToNat, Int.reduceLT, Int.reduceLE, reduceCtorEq]
 refine ⟨_, impl_IsMatching_ok x y l hx kx hy ky hl, ?_⟩; simp (maxSteps := 2000000) only [go_sem, Nat.reduceBEq, Nat.reduceAdd, Nat.reduceMul, Nat.reduceMod, Nat.reduceLT, Nat.reduceDiv, Nat.reduceSub, Nat.reduceLeDiff, Int.reduceToNat, Int.reduceLT, Int.reduceLE, reduceCtorEq]
 refine ⟨fun h0 => ?_, fun h0 => by simp [stabB, h0]⟩
 have h0' := h0
 simp only [matchB, Bool.and_eq_true] at h0'
 have M := mk_of h0'.1
 refine ⟨_, impl_blocks_ok x y l x.length M h0'.2, ?_⟩; simp (maxSteps := 2000000) only [go_sem, Nat.reduceBEq, Nat.reduceAdd, Nat.reduceMul, Nat.reduceMod, Nat.reduceLT, Nat.reduceDiv, Nat.reduceSub, Nat.reduceLeDiff, Int.reduceToNat, Int.reduceLT, Int.reduceLE, reduceCtorEq]
 rw [stabB, h0, Bool.true_and]
 rw [Bool.eq_iff_iff, decide_eq_true_iff]
 first | exact blkL_st | exact blkU_st M
def K_impl_RotationsIn : List Nat := [0, 1, 2, 4, 5, 6, 7, 13, 14, 1002, 2002]
def C_impl_RotationsIn : C :=
 let ks := K_impl_RotationsIn
 (.seq
  (.rg 0 [(none, .v 2 .boxS [.s 0]), (none, .mkn 4)])
  (.cl ks (.seq
  (.seq
  (.rg 0 [(none, .v 8 (.lds 2) [.s 2]), (none, .v 9 .mv [.s 1]), (none, .co 10 47 [.s 8, .s 9]), (none, .v 11 .not [.s 10])])
  (.cond (.s 11)
  (.seq
  (.rg 0 [(none, .mkn 4)])
  .ret)
  .skip))
  (.cl ks (.seq
  (.rg 0 [(none, .mkn 5)])
  (.cl ks (.seq
  (.seq
  (.rg 0 [(none, .v 12 .mv [.s 1]), (none, .v 13 .len [.s 12]), (none, .v 14 .mv [.k (.i 0)])])
  (.cl ks (.block 0
  (.loop
  (.seq
  (.rg 0 [(none, .v 15 (.bin .lss) [.s 14, .s 13])])
  (.seq
  (.cond (.s 15)
  .skip
  (.exit 0))
  (.cl ks (.seq
  (.block 1
  (.seq
  (.rg 0 [(none, .v 16 .mv [.s 14]), (none, .tk 6 16)])
  (.cl ks (.seq
  (.rg 0 [(none, .v 17 (.lds 2) [.s 2]), (none, .v 18 .mv [.s 1]), (none, .v 19 .mv [.s 6]), (none, .co 20 139 [.s 17, .s 18, .s 19]), (none, .tk 7 20)])
  (.cl ks (.seq
  (.rg 0 [(none, .v 21 .mv [.s 7]), (none, .v 22 .nnil [.s 21]), (none, .v 23 .mv [.s 22]), (some (23, true), .v 24 .mv [.s 7]), (some (23, true), .co 25 140 [.s 24]), (some (23, true), .v 26 .mv [.s 6]), (some (23, true), .v 27 (.bin .eql) [.s 25, .s 26]), (none, .v 28 .pick [.s 23, .s 27, .k (.b false)])])
  (.cond (.s 28)
  (.rg 0 [(none, .v 29 .mv [.s 5]), (none, .v 30 .mv [.s 7]), (none, .lit 31 [.s 30] 1), (none, .app 32 (.s 29) (.s 31) 1), (none, .tk 5 32)])
  .skip)))))))
  (.cl ks (.rg 0 [(none, .v 33 (.bin .add) [.s 14, .k (.i 1)]), (none, .v 14 .mv [.s 33])]))))))))))
  (.cl ks (.seq
  (.rg 0 [(none, .v 34 .mv [.s 5]), (none, .tk 4 34)])
  .ret)))))))))
theorem chk_impl_RotationsIn : ∃ b, Try.f65.body = some b ∧ chk Try.prog Try.f65.ntmps true C_impl_RotationsIn b = true := ⟨_, rfl, by kernel_rfl⟩
def rotK (x y : List (List Int)) (l : List Int) : Nat → List (List Int)
 | 0 => []
 | k + 1 => rotK x y l k ++ if rotS x y l k = [] then [] else [rotS x y l k]
def rotsF (x y : List (List Int)) (l : List Int) : List (List Int) := if stabB x y l = true then rotK x y l x.length else []
theorem rotK_len {x y : List (List Int)} {l : List Int} : ∀ {k : Nat}, (rotK x y l k).length ≤ k
 | 0 => by simp [rotK]
 | k + 1 => by
  have := rotK_len (x := x) (y := y) (l := l) (k := k)
  simp only [rotK, List.length_append]; split <;> simp <;> omega
theorem rotG_len {x y : List (List Int)} {l : List Int} {a : Nat} (M : Mk x y x.length) (R : rankB x.length l = true) (ha : a < x.length) : (rotG x y l a).length ≤ x.length + 1 := by
 rcases cycG_ok (f := nxI x y l) (k := x.length + 2) (pth_one (f := nxI x y l) (a := (a : Int))) with e | e
 ·unfold rotG; rw [e]; simp
 ·have := nodup_sub_len e.nd (pth_sub (nxI_in M R) e.toPth (List.mem_cons_of_mem _ (mem_upto.2 ⟨by omega, by omega⟩)))
  simp only [List.length_cons, upto_len] at this; exact this
theorem rotS_len {x y : List (List Int)} {l : List Int} {a : Nat} (M : Mk x y x.length) (R : rankB x.length l = true) (ha : a < x.length) : (rotS x y l a).length ≤ x.length + 1 := by
 rw [rotS_eq]; unfold lowOf; split
 ·exact rotG_len M R ha
 ·simp
theorem stab_of {x y : List (List Int)} {l : List Int} (h : stabB x y l = true) : marketB x y = true ∧ rankB x.length l = true ∧ Mk x y x.length := by
 simp only [stabB, matchB, Bool.and_eq_true] at h
 exact ⟨h.1.1, h.1.2, mk_of h.1.1⟩
theorem impl_RotationsIn_ok {n1 n2 n3 : Option Bool} (x y : List (List Int)) (l : List Int) (hx : x.length ≤ 1048576) (kx : ∀ r ∈ x, r.length ≤ 1048576) (hy : y.length ≤ 1048576) (ky : ∀ r ∈ y, r.length ≤ 1048576) (hl : l.length ≤ 1048576) :
  CallOk Try.prog 65 [.a [.s n1 (rr x), .s n2 (rr y)], .s n3 (ii l)] [(0, .own 1 none (rr (rotsF x y l)))] := by
 obtain ⟨code0, hcd1, hcd2⟩ := chk_impl_RotationsIn; refine callOk_of Try.func65 hcd1 mo Try.call65 (rs := [4]) (by kernel_rfl) hcd2 (by rw [Try.ntmps65]; simp) (by simp) (by decide) ?_; unfold C_impl_RotationsIn K_impl_RotationsIn; simp (maxSteps := 2000000) only [go_sem, Nat.reduceBEq, Nat.reduceAdd, Nat.reduceMul, Nat.reduceMod, Nat.reduceLT, Nat.reduceDiv, Nat.reduceSub, Nat.reduceLeDiff, Int.reduceToNat, Int.reduceLT, Int.reduceLE, reduceCtorEq]
 refine ⟨_, impl_IsStable_ok x y l hx kx hy ky hl, ?_⟩; simp (maxSteps := 2000000) only [go_sem, Nat.reduceBEq, Nat.reduceAdd, Nat.reduceMul, Nat.reduceMod, Nat.reduceLT, Nat.reduceDiv, Nat.reduceSub, Nat.reduceLeDiff, Int.reduceToNat, Int.reduceLT, Int.reduceLE, reduceCtorEq]
 refine ⟨fun h0 => by simp [rotsF, h0], fun h0 => ?_⟩
 have hF : rotsF x y l = rotK x y l x.length := if_pos h0
 rw [hF]
 obtain ⟨_, R, M⟩ := stab_of h0
 have n5 := M.m.n5
 have hll := rank_len R
 refine loopN x.length (fun k => [(0, .t .arg (.a [.s n1 (rr x), .s n2 (rr y)])), (1, .t .arg (.s n3 (ii l))), (2, .t .arg (.q [.s n1 (rr x), .s n2 (rr y)] 0)), (5, .own 1 none (rr (rotK x y l k))), (13, .i x.length), (14, .i (k : Nat))]) (fun _ => True) ⟨trivial, by simp (maxSteps := 2000000) only [go_sem, Nat.reduceBEq, Nat.reduceAdd, Nat.reduceMul, Nat.reduceMod, Nat.reduceLT, Nat.reduceDiv, Nat.reduceSub, Nat.reduceLeDiff, Int.reduceToNat, Int.reduceLT, Int.reduceLE, reduceCtorEq]; simp [rotK]; omega⟩ fun k hk _ => ?_
 have hs : rotK x y l (k + 1) = rotK x y l k ++ if rotS x y l k = [] then [] else [rotS x y l k] := rfl
 have hkl := rotK_len (x := x) (y := y) (l := l) (k := k)
 simp (maxSteps := 2000000) only [go_sem, Nat.reduceBEq, Nat.reduceAdd, Nat.reduceMul, Nat.reduceMod, Nat.reduceLT, Nat.reduceDiv, Nat.reduceSub, Nat.reduceLeDiff, Int.reduceToNat, Int.reduceLT, Int.reduceLE, reduceCtorEq]
 refine ⟨fun hlt => ?_, fun hge => ?_⟩
 ·have hk' : k < x.length := by omega
  have hp := impl_rotationFrom_ok (n1 := n1) (n2 := n2) (n3 := n3) x y l k M R hk'
  have hlow := rotS_eq (x := x) (y := y) (l := l) (a := (k : Int))
  have hcy := cycG_ok (f := nxI x y l) (k := x.length + 2) (pth_one (f := nxI x y l) (a := (k : Int)))
  have hcl := rotG_len M R hk'
  change rotG x y l k = [] ∨ Cyc (nxI x y l) k (rotG x y l k) at hcy
  revert hp hlow hcy hcl hs
  generalize rotS x y l k = L
  generalize rotG x y l k = c
  intro hs hp hlow hcl hcy
  by_cases hc : c = []
  ·subst hc
   have hL : L = [] := by rw [hlow]; simp [lowOf]
   subst hL
   simp only [decide_true] at hp
   refine ⟨_, hp, ?_⟩; simp (maxSteps := 2000000) only [go_sem, Nat.reduceBEq, Nat.reduceAdd, Nat.reduceMul, Nat.reduceMod, Nat.reduceLT, Nat.reduceDiv, Nat.reduceSub, Nat.reduceLeDiff, Int.reduceToNat, Int.reduceLT, Int.reduceLE, reduceCtorEq]
   rw [hs]
   exact ⟨inR_of (by omega) (by omega), hk', by simp, by simp⟩
  ·simp only [decide_eq_false hc] at hp
   have hC := hcy.resolve_left hc
   have hpc := hC.pos
   refine ⟨_, hp, ?_⟩; simp (maxSteps := 2000000) only [go_sem, Nat.reduceBEq, Nat.reduceAdd, Nat.reduceMul, Nat.reduceMod, Nat.reduceLT, Nat.reduceDiv, Nat.reduceSub, Nat.reduceLeDiff, Int.reduceToNat, Int.reduceLT, Int.reduceLE, reduceCtorEq]
   refine ⟨_, Min_ok c (by omega) hpc, ?_⟩; simp (maxSteps := 2000000) only [go_sem, Nat.reduceBEq, Nat.reduceAdd, Nat.reduceMul, Nat.reduceMod, Nat.reduceLT, Nat.reduceDiv, Nat.reduceSub, Nat.reduceLeDiff, Int.reduceToNat, Int.reduceLT, Int.reduceLE, reduceCtorEq]
   refine ⟨fun hm => ?_, fun hm => ?_⟩
   ·have hL : L = c := by rw [hlow, lowOf, if_pos ⟨hc, (min_low hC).1 hm⟩]
    exact ⟨by simp, by omega, inR_of (by omega) (by omega), hk', by rw [hs, hL, if_neg hc], by simp⟩
   ·have hL : L = [] := by rw [hlow, lowOf, if_neg (fun h => hm ((min_low hC).2 h.2))]
    exact ⟨inR_of (by omega) (by omega), hk', by rw [hs, hL]; simp, by simp⟩
 ·have : k = x.length := by omega
  subst this
  rfl
def K_impl_TurnRotation_1 : List Nat := [0, 1, 3]
def C_impl_TurnRotation_1 : C :=
 let ks := K_impl_TurnRotation_1
 (.seq
  (.rg 0 [(none, .v 3 .mv [.k (.b false)])])
  (.cl ks (.seq
  (.rg 0 [(none, .v 4 .mv [.s 0]), (none, .v 5 .ld [.s 1]), (none, .co 6 102 [.s 4, .s 5]), (none, .tk 3 6)])
  .ret)))
theorem chk_impl_TurnRotation_1 : ∃ b, Try.f141.body = some b ∧ chk Try.prog Try.f141.ntmps true C_impl_TurnRotation_1 b = true := ⟨_, rfl, by kernel_rfl⟩
def K_impl_TurnRotation : List Nat := [0, 1, 2, 3, 5, 6, 7, 8, 9, 11, 21, 22, 23, 1003, 2003, 1005]
def C_impl_TurnRotation : C :=
 let ks := K_impl_TurnRotation
 (.seq
  (.rg 0 [(none, .v 3 .boxS [.s 0]), (none, .box 5 (.s 2)), (none, .mkn 6), (none, .v 7 .mv [.k (.b false)])])
  (.cl ks (.seq
  (.rg 0 [(none, .v 12 (.lds 2) [.s 3]), (none, .v 13 .mv [.s 1]), (none, .co 14 65 [.s 12, .s 13]), (none, .v 15 (.clo 141) [.s 5]), (none, .co 16 103 [.s 14, .s 15]), (none, .tk 8 16)])
  (.cl ks (.seq
  (.seq
  (.rg 0 [(none, .v 17 .mv [.s 8]), (none, .v 18 .not [.s 17])])
  (.cond (.s 18)
  (.seq
  (.rg 0 [(none, .mkn 6), (none, .v 7 .mv [.k (.b false)])])
  .ret)
  .skip))
  (.cl ks (.seq
  (.rg 0 [(none, .v 19 .mv [.s 1]), (none, .co 20 114 [.s 19]), (none, .tk 9 20)])
  (.cl ks (.seq
  (.seq
  (.rg 0 [(none, .v 21 .ld [.s 5]), (none, .v 22 .len [.s 21]), (none, .v 23 .mv [.k (.i 0)])])
  (.cl ks (.block 0
  (.loop
  (.seq
  (.rg 0 [(none, .v 24 (.bin .lss) [.s 23, .s 22])])
  (.seq
  (.cond (.s 24)
  .skip
  (.exit 0))
  (.cl ks (.seq
  (.block 1
  (.seq
  (.rg 0 [(none, .v 25 .idx [.s 21, .s 23]), (none, .v 26 .ld [.s 25]), (none, .tk 11 26)])
  (.cl ks (.rg 0 [(none, .v 27 .mv [.s 9]), (none, .v 28 .mv [.s 11]), (none, .v 29 (.lds 2) [.s 3]), (none, .v 30 .mv [.s 1]), (none, .v 31 .mv [.s 11]), (none, .co 32 142 [.s 29, .s 30, .s 31]), (none, .v 33 .idx [.s 27, .s 28]), (none, .st (.s 33) (.s 32))]))))
  (.cl ks (.rg 0 [(none, .v 34 (.bin .add) [.s 23, .k (.i 1)]), (none, .v 23 .mv [.s 34])]))))))))))
  (.cl ks (.seq
  (.rg 0 [(none, .v 35 .mv [.s 9]), (none, .tk 6 35), (none, .v 7 .mv [.k (.b true)])])
  .ret)))))))))))
theorem chk_impl_TurnRotation : ∃ b, Try.f66.body = some b ∧ chk Try.prog Try.f66.ntmps true C_impl_TurnRotation b = true := ⟨_, rfl, by kernel_rfl⟩
def turnN (x y : List (List Int)) (l r : List Int) : Nat → List Int
 | 0 => l
 | k + 1 => (turnN x y l r k).set (r.getD k 0).toNat (nwI x y l (r.getD k 0).toNat)
theorem turnN_len {x y : List (List Int)} {l r : List Int} : ∀ {k : Nat}, (turnN x y l r k).length = l.length
 | 0 => rfl
 | k + 1 => by simp only [turnN, List.length_set]; exact turnN_len
theorem rotK_mem {x y : List (List Int)} {l r : List Int} : ∀ {k : Nat}, r ∈ rotK x y l k → ∃ a, a < k ∧ r = rotS x y l a
 | 0, h => by simp [rotK] at h
 | k + 1, h => by
  simp only [rotK, List.mem_append] at h
  rcases h with h | h
  ·obtain ⟨a, h1, h2⟩ := rotK_mem h; exact ⟨a, by omega, h2⟩
  ·split at h
   ·cases h
   ·exact ⟨k, by omega, List.mem_singleton.1 h⟩
theorem rotS_in {x y : List (List Int)} {l : List Int} {a : Nat} (M : Mk x y x.length) (R : rankB x.length l = true) (ha : a < x.length) : ∀ v ∈ rotS x y l a, 0 ≤ v ∧ v < x.length := by
 rw [rotS_eq]; unfold lowOf
 intro v hv
 split at hv
 ·rename_i h
  rcases cycG_ok (f := nxI x y l) (k := x.length + 2) (pth_one (f := nxI x y l) (a := (a : Int))) with e | e
  ·unfold rotG at hv; rw [e] at hv; cases hv
  ·have h1 := pth_sub (nxI_in M R) e.toPth (List.mem_cons_of_mem _ (mem_upto.2 ⟨by omega, by omega⟩)) v hv
   have h2 := h.2 v hv
   rcases List.mem_cons.1 h1 with q | q
   ·omega
   ·have := mem_upto.1 q; omega
 ·cases hv
theorem impl_TurnRotation1_ok {n1 n2 : Option Bool} (o r : List Int) (ho : o.length ≤ 1048576) (hr : r.length ≤ 1048576) : CallOk Try.prog 141 [.s n1 (ii o), .q [.s n2 (ii r)] 0] [(0, .b (decide (o = r)))] := by
 obtain ⟨code0, hcd1, hcd2⟩ := chk_impl_TurnRotation_1; refine callOk_of Try.func141 hcd1 mo Try.call141 (rs := [3]) (by kernel_rfl) hcd2 (by rw [Try.ntmps141]; simp) (by simp) (by decide) ?_; unfold C_impl_TurnRotation_1 K_impl_TurnRotation_1; simp (maxSteps := 2000000) only [go_sem, Nat.reduceBEq, Nat.reduceAdd, Nat.reduceMul, Nat.reduceMod, Nat.reduceLT, Nat.reduceDiv, Nat.reduceSub, Nat.reduceLeDiff, Int.reduceToNat, Int.reduceLT, Int.reduceLE, reduceCtorEq]
 refine ⟨_, Equal_ok o r ho hr, ?_⟩; simp (maxSteps := 2000000) only [go_sem, Nat.reduceBEq, Nat.reduceAdd, Nat.reduceMul, Nat.reduceMod, Nat.reduceLT, Nat.reduceDiv, Nat.reduceSub, Nat.reduceLeDiff, Int.reduceToNat, Int.reduceLT, Int.reduceLE, reduceCtorEq]
def turnB (x y : List (List Int)) (l r : List Int) : Bool := (rotsF x y l).any fun o => decide (o = r)
def turnF (x y : List (List Int)) (l r : List Int) : List Int := if turnB x y l r = true then turnN x y l r r.length else []
theorem turn_of {x y : List (List Int)} {l r : List Int} (h : turnB x y l r = true) : Mk x y x.length ∧ rankB x.length l = true ∧ r.length ≤ x.length + 1 ∧ ∀ v ∈ r, 0 ≤ v ∧ v < x.length := by
 obtain ⟨o, h1, h2⟩ := List.any_eq_true.1 h
 obtain rfl := of_decide_eq_true h2
 unfold rotsF at h1
 split at h1
 ·rename_i hs
  obtain ⟨_, R, M⟩ := stab_of hs
  obtain ⟨a, ha, rfl⟩ := rotK_mem h1
  exact ⟨M, R, rotS_len M R ha, rotS_in M R ha⟩
 ·cases h1
theorem rotsF_len {x y : List (List Int)} {l : List Int} : (rotsF x y l).length ≤ 5 ∧ ∀ r ∈ rotsF x y l, r.length ≤ 6 := by
 unfold rotsF
 split
 ·rename_i hs
  obtain ⟨_, R, M⟩ := stab_of hs
  have n5 := M.m.n5
  exact ⟨Nat.le_trans rotK_len n5, fun r hr => by obtain ⟨a, ha, rfl⟩ := rotK_mem hr; have := rotS_len M R ha; omega⟩
 ·simp
theorem impl_TurnRotation_ok {n1 n2 n3 n4 : Option Bool} (x y : List (List Int)) (l r : List Int) (hx : x.length ≤ 1048576) (kx : ∀ r ∈ x, r.length ≤ 1048576) (hy : y.length ≤ 1048576) (ky : ∀ r ∈ y, r.length ≤ 1048576) (hl : l.length ≤ 1048576) (hr : r.length ≤ 1048576) (hn : n3 ≠ some true := by simp) :
  CallOk Try.prog 66 [.a [.s n1 (rr x), .s n2 (rr y)], .s n3 (ii l), .s n4 (ii r)] [(0, .tp 2), (100000, .own 1 none (ii (turnF x y l r))), (101000, .b (turnB x y l r))] := by
 obtain ⟨code0, hcd1, hcd2⟩ := chk_impl_TurnRotation; refine callOk_of Try.func66 hcd1 mo Try.call66 (rs := [6, 7]) (by kernel_rfl) hcd2 (by rw [Try.ntmps66]; simp) (by simp) (by decide) ?_; unfold C_impl_TurnRotation K_impl_TurnRotation; simp (maxSteps := 2000000) only [go_sem, Nat.reduceBEq, Nat.reduceAdd, Nat.reduceMul, Nat.reduceMod, Nat.reduceLT, Nat.reduceDiv, Nat.reduceSub, Nat.reduceLeDiff, Int.reduceToNat, Int.reduceLT, Int.reduceLE, reduceCtorEq]
 refine ⟨_, impl_RotationsIn_ok x y l hx kx hy ky hl, ?_⟩; simp (maxSteps := 2000000) only [go_sem, Nat.reduceBEq, Nat.reduceAdd, Nat.reduceMul, Nat.reduceMod, Nat.reduceLT, Nat.reduceDiv, Nat.reduceSub, Nat.reduceLeDiff, Int.reduceToNat, Int.reduceLT, Int.reduceLE, reduceCtorEq]
 have hL := rotsF_len (x := x) (y := y) (l := l)
 refine ⟨_, ContainsFuncR (fun o => decide (o = r)) (fun o ho => impl_TurnRotation1_ok o r (by have := hL.2 o ho; omega) hr) (by omega), ?_⟩; simp (maxSteps := 2000000) only [go_sem, Nat.reduceBEq, Nat.reduceAdd, Nat.reduceMul, Nat.reduceMod, Nat.reduceLT, Nat.reduceDiv, Nat.reduceSub, Nat.reduceLeDiff, Int.reduceToNat, Int.reduceLT, Int.reduceLE, reduceCtorEq]
 have hB : ((rotsF x y l).any fun o => decide (o = r)) = turnB x y l r := rfl
 rw [hB]
 refine ⟨fun h => ?_, fun h => ?_⟩
 ·have e : turnF x y l r = [] := if_neg (by rw [h]; simp)
  rw [e, h]; exact ⟨by omega, rfl, rfl⟩
 ·have e : turnF x y l r = turnN x y l r r.length := if_pos h
  rw [e, h]
  obtain ⟨M, R, h6, hin⟩ := turn_of h
  have hll := rank_len R
  have n5 := M.m.n5
  refine ⟨_, Clone_ok l (by have := M.m.n1; omega) hl hn, ?_⟩; simp (maxSteps := 2000000) only [go_sem, Nat.reduceBEq, Nat.reduceAdd, Nat.reduceMul, Nat.reduceMod, Nat.reduceLT, Nat.reduceDiv, Nat.reduceSub, Nat.reduceLeDiff, Int.reduceToNat, Int.reduceLT, Int.reduceLE, reduceCtorEq]
  refine loopN r.length (fun k => [(0, .t .arg (.a [.s n1 (rr x), .s n2 (rr y)])), (1, .t .arg (.s n3 (ii l))), (2, .t .arg (.s n4 (ii r))), (3, .t .arg (.q [.s n1 (rr x), .s n2 (rr y)] 0)), (9, .own 1 none (ii (turnN x y l r k))), (21, .t .arg (.s n4 (ii r))), (22, .i r.length), (23, .i (k : Nat))]) (fun _ => True) ⟨trivial, by simp (maxSteps := 2000000) only [go_sem, Nat.reduceBEq, Nat.reduceAdd, Nat.reduceMul, Nat.reduceMod, Nat.reduceLT, Nat.reduceDiv, Nat.reduceSub, Nat.reduceLeDiff, Int.reduceToNat, Int.reduceLT, Int.reduceLE, reduceCtorEq]; simp [turnN]⟩ fun k hk _ => ?_
  have htl := turnN_len (x := x) (y := y) (l := l) (r := r) (k := k)
  have hts : turnN x y l r (k + 1) = (turnN x y l r k).set (r.getD k 0).toNat (nwI x y l (r.getD k 0).toNat) := rfl
  simp (maxSteps := 2000000) only [go_sem, Nat.reduceBEq, Nat.reduceAdd, Nat.reduceMul, Nat.reduceMod, Nat.reduceLT, Nat.reduceDiv, Nat.reduceSub, Nat.reduceLeDiff, Int.reduceToNat, Int.reduceLT, Int.reduceLE, reduceCtorEq]
  refine ⟨fun hlt => ?_, fun hge => ?_⟩
  ·have hk' : k < r.length := by omega
   have hv := hin _ (getD_mem (d := 0) hk')
   have hw := impl_Market_nextWoman_ok (n1 := n1) (n2 := n2) (n3 := n3) x y l x.length (r.getD k 0).toNat M R (by omega)
   rw [Int.toNat_of_nonneg hv.1] at hw
   refine ⟨by omega, hk', hk', ?_⟩
   refine ⟨_, hw, ?_⟩; simp (maxSteps := 2000000) only [go_sem, Nat.reduceBEq, Nat.reduceAdd, Nat.reduceMul, Nat.reduceMod, Nat.reduceLT, Nat.reduceDiv, Nat.reduceSub, Nat.reduceLeDiff, Int.reduceToNat, Int.reduceLT, Int.reduceLE, reduceCtorEq]
   exact ⟨by omega, by omega, by omega, inR_of (by omega) (by omega), hk', hts.symm, by simp⟩
  ·have : k = r.length := by omega
   subst this
   exact ⟨by omega, rfl⟩
end Go.Proofs.Ytgdpplhbblapgaa
