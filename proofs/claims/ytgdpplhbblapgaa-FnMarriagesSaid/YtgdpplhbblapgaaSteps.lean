/- Own work: contracts of functions that the claim reaches. No condition beyond those that each theorem names. -/
import Derived.Test.YtgdpplhbblapgaaProg
import Derived.Test.YtgdpplhbblapgaaPbest
namespace Go.Proofs.Ytgdpplhbblapgaa
open Go Go.Vc
set_option maxRecDepth 100000
set_option linter.unusedSimpArgs false
set_option linter.unusedVariables false
theorem nodupR_len {α : Type} [DecidableEq α] : ∀ {xs ys : List α}, xs.Nodup → (∀ x ∈ xs, x ∈ ys) → xs.length ≤ ys.length
 | [], _, _, _ => by simp
 | x :: xs, ys, hn, hs => by
  rw [List.nodup_cons] at hn
  have hx := hs x (by simp)
  have h1 := nodupR_len (xs := xs) (ys := ys.erase x) hn.2 fun y hy => (List.mem_erase_of_ne (by rintro rfl; exact hn.1 hy)).2 (hs y (by simp [hy]))
  rw [List.length_erase_of_mem hx] at h1
  have : 0 < ys.length := List.length_pos_of_mem hx
  simp only [List.length_cons]; omega
def stepN (x y : List (List Int)) (z : List Int) : Nat → Nat → Nat
 | 0, j => j
 | k + 1, j => if z ∈ levS x y j then j else stepN x y z k (j + 1)
theorem stepN_ok {x y : List (List Int)} {z : List Int} : ∀ {k j m : Nat}, j ≤ m → m ≤ j + k → z ∈ levS x y m → z ∈ levS x y (stepN x y z k j) ∧ stepN x y z k j ≤ m ∧ ∀ q, j ≤ q → q < stepN x y z k j → z ∉ levS x y q
 | 0, j, m, h1, h2, h3 => by
  have : m = j := by omega
  subst this
  exact ⟨h3, Nat.le_refl _, fun q h4 h5 => by simp only [stepN] at h5; omega⟩
 | k + 1, j, m, h1, h2, h3 => by
  simp only [stepN]
  split
  ·rename_i h; exact ⟨h, h1, fun q h4 h5 => by omega⟩
  ·rename_i h
   have : m ≠ j := fun e => h (e ▸ h3)
   obtain ⟨a1, a2, a3⟩ := stepN_ok (k := k) (j := j + 1) (m := m) (by omega) (by omega) h3
   refine ⟨a1, a2, fun q h4 h5 => ?_⟩
   by_cases e : q = j
   ·rw [e]; exact h
   ·exact a3 q (by omega) h5
def stepF (x y : List (List Int)) (z : List Int) : Int := if stabB x y z = true then stepN x y z 12 0 else -1
theorem stepF_of {x y : List (List Int)} {z : List Int} (h : stabB x y z = true) : ∃ m : Nat, stepF x y z = m ∧ z ∈ levS x y m ∧ m ≤ 12 ∧ ∀ q, q < m → z ∉ levS x y q := by
 obtain ⟨m, hm, h12⟩ := lev_ex h
 obtain ⟨a1, a2, a3⟩ := stepN_ok (x := x) (y := y) (z := z) (k := 12) (j := 0) (Nat.zero_le _) (by omega) hm
 exact ⟨_, if_pos h, a1, by omega, fun q h => a3 q (Nat.zero_le _) h⟩
def K_impl_StepsTo_1 : List Nat := [0, 1, 3]
def C_impl_StepsTo_1 : C :=
 let ks := K_impl_StepsTo_1
 (.seq
  (.rg 0 [(none, .v 3 .mv [.k (.b false)])])
  (.cl ks (.seq
  (.rg 0 [(none, .v 4 .mv [.s 0]), (none, .v 5 .ld [.s 1]), (none, .co 6 102 [.s 4, .s 5]), (none, .tk 3 6)])
  .ret)))
theorem chk_impl_StepsTo_1 : ∃ b, Try.f104.body = some b ∧ chk Try.prog Try.f104.ntmps true C_impl_StepsTo_1 b = true := ⟨_, rfl, by kernel_rfl⟩
def K_impl_StepsTo : List Nat := [0, 1, 2, 4, 5, 7, 8, 9, 11, 13, 14, 29, 30, 31, 41, 42, 43, 1002, 2002, 1014]
def C_impl_StepsTo : C :=
 let ks := K_impl_StepsTo
 (.seq
  (.rg 0 [(none, .v 2 .boxS [.s 0]), (none, .v 4 .mv [.k (.i 0)])])
  (.cl ks (.seq
  (.seq
  (.rg 0 [(none, .v 16 (.lds 2) [.s 2]), (none, .v 17 .mv [.s 1]), (none, .co 18 47 [.s 16, .s 17]), (none, .v 19 .not [.s 18])])
  (.cond (.s 19)
  (.seq
  (.rg 0 [(none, .v 4 .mv [.k (.i (-1))])])
  .ret)
  .skip))
  (.cl ks (.seq
  (.rg 0 [(none, .v 21 (.lds 2) [.s 2]), (none, .co 22 44 [.s 21]), (none, .tk 20 22), (none, .tk 23 100020), (none, .tk 24 101020), (none, .tk 5 23), (none, .tk 6 24)])
  (.cl ks (.seq
  (.rg 0 [(none, .v 25 .mv [.s 5]), (none, .lit 26 [.s 25] 1), (none, .tk 7 26)])
  (.cl ks (.seq
  (.rg 0 [(none, .v 8 .mv [.k (.i 0)])])
  (.cl ks (.block 0
  (.loop
  (.seq
  (.block 1
  (.seq
  (.rg 0 [(none, .mkn 9)])
  (.cl ks (.seq
  (.seq
  (.rg 0 [(none, .v 29 .mv [.s 7]), (none, .v 30 .len [.s 29]), (none, .v 31 .mv [.k (.i 0)])])
  (.cl ks (.block 2
  (.loop
  (.seq
  (.rg 0 [(none, .v 32 (.bin .lss) [.s 31, .s 30])])
  (.seq
  (.cond (.s 32)
  .skip
  (.exit 2))
  (.cl ks (.seq
  (.block 3
  (.seq
  (.rg 0 [(none, .v 33 .idx [.s 29, .s 31]), (none, .v 34 .ld [.s 33]), (none, .tk 11 34)])
  (.cl ks (.seq
  (.seq
  (.rg 0 [(none, .v 35 .mv [.s 11]), (none, .v 36 .mv [.s 1]), (none, .co 37 102 [.s 35, .s 36])])
  (.cond (.s 37)
  (.seq
  (.rg 0 [(none, .v 38 .mv [.s 8]), (none, .tk 4 38)])
  .ret)
  .skip))
  (.cl ks (.seq
  (.rg 0 [(none, .v 39 (.lds 2) [.s 2]), (none, .v 40 .mv [.s 11]), (none, .co 41 65 [.s 39, .s 40]), (none, .v 42 .len [.s 41]), (none, .v 43 .mv [.k (.i 0)])])
  (.cl ks (.block 4
  (.loop
  (.seq
  (.rg 0 [(none, .v 44 (.bin .lss) [.s 43, .s 42])])
  (.seq
  (.cond (.s 44)
  .skip
  (.exit 4))
  (.cl ks (.seq
  (.block 5
  (.seq
  (.rg 0 [(none, .v 45 .idx [.s 41, .s 43]), (none, .v 46 .ld [.s 45]), (none, .tk 13 46)])
  (.cl ks (.seq
  (.rg 0 [(none, .v 48 (.lds 2) [.s 2]), (none, .v 49 .mv [.s 11]), (none, .v 50 .mv [.s 13]), (none, .co 51 66 [.s 48, .s 49, .s 50]), (none, .tk 47 51), (none, .tk 52 100047), (none, .tk 53 101047), (none, .new 14 [.s (some true) []]), (none, .st (.s 14) (.s 52)), (none, .tk 15 53)])
  (.cl ks (.seq
  (.rg 0 [(none, .v 54 .mv [.s 9]), (none, .v 55 (.clo 104) [.s 14]), (none, .co 56 103 [.s 54, .s 55]), (none, .v 57 .not [.s 56])])
  (.cond (.s 57)
  (.rg 0 [(none, .v 58 .mv [.s 9]), (none, .v 59 .ld [.s 14]), (none, .lit 60 [.s 59] 1), (none, .app 61 (.s 58) (.s 60) 1), (none, .tk 9 61)])
  .skip)))))))
  (.cl ks (.rg 0 [(none, .v 62 (.bin .add) [.s 43, .k (.i 1)]), (none, .v 43 .mv [.s 62])])))))))))))))))
  (.cl ks (.rg 0 [(none, .v 63 (.bin .add) [.s 31, .k (.i 1)]), (none, .v 31 .mv [.s 63])]))))))))))
  (.cl ks (.seq
  (.seq
  (.rg 0 [(none, .v 64 .mv [.s 9]), (none, .v 65 .len [.s 64]), (none, .v 66 (.bin .eql) [.s 65, .k (.i 0)])])
  (.cond (.s 66)
  (.seq
  (.rg 0 [(none, .v 4 .mv [.k (.i (-1))])])
  .ret)
  .skip))
  (.cl ks (.rg 0 [(none, .tk 67 9), (none, .tk 7 67)]))))))))
  (.cl ks (.rg 0 [(none, .v 27 .mv [.s 8]), (none, .v 28 (.bin .add) [.s 27, .k (.i 1)]), (none, .tk 8 28)])))))))))))))))
theorem chk_impl_StepsTo : ∃ b, Try.f27.body = some b ∧ chk Try.prog Try.f27.ntmps true C_impl_StepsTo b = true := ⟨_, rfl, by kernel_rfl⟩
theorem impl_StepsTo1_ok {n1 n2 : Option Bool} (o r : List Int) (ho : o.length ≤ 1048576) (hr : r.length ≤ 1048576) : CallOk Try.prog 104 [.s n1 (ii o), .q [.s n2 (ii r)] 0] [(0, .b (decide (o = r)))] := by
 obtain ⟨code0, hcd1, hcd2⟩ := chk_impl_StepsTo_1; refine callOk_of Try.func104 hcd1 mo Try.call104 (rs := [3]) (by kernel_rfl) hcd2 (by rw [Try.ntmps104]; simp) (by simp) (by decide) ?_; unfold C_impl_StepsTo_1 K_impl_StepsTo_1; simp (maxSteps := 2000000) only [go_sem, Nat.reduceBEq, Nat.reduceAdd, Nat.reduceMul, Nat.reduceMod, Nat.reduceLT, Nat.reduceDiv, Nat.reduceSub, Nat.reduceLeDiff, Int.reduceToNat, Int.reduceLT, Int.reduceLE, reduceCtorEq]
 refine ⟨_, Equal_ok o r ho hr, ?_⟩; simp (maxSteps := 2000000) only [go_sem, Nat.reduceBEq, Nat.reduceAdd, Nat.reduceMul, Nat.reduceMod, Nat.reduceLT, Nat.reduceDiv, Nat.reduceSub, Nat.reduceLeDiff, Int.reduceToNat, Int.reduceLT, Int.reduceLE, reduceCtorEq]
def insD (A : List (List Int)) (r : List Int) : List (List Int) := if (A.any fun o => decide (o = r)) = true then A else A ++ [r]
theorem insD_mem {A : List (List Int)} {r a : List Int} : a ∈ insD A r ↔ a ∈ A ∨ a = r := by
 unfold insD
 split
 ·rename_i h
  obtain ⟨o, h1, h2⟩ := List.any_eq_true.1 h
  obtain rfl := of_decide_eq_true h2
  exact ⟨fun h => .inl h, fun h => h.elim id (fun e => e ▸ h1)⟩
 ·rw [List.mem_append, List.mem_singleton]
theorem insD_nd {A : List (List Int)} {r : List Int} (h : A.Nodup) : (insD A r).Nodup := by
 unfold insD
 split
 ·exact h
 ·rename_i hn
  rw [List.nodup_append]
  refine ⟨h, by simp, fun a ha b hb e => hn ?_⟩
  rw [List.mem_singleton.1 hb] at e
  exact List.any_eq_true.2 ⟨a, ha, decide_eq_true e⟩
theorem insD_mem' {rs : List (List Int)} {a : List Int} : ∀ {A : List (List Int)}, a ∈ rs.foldl insD A ↔ a ∈ A ∨ a ∈ rs := by
 induction rs with
 | nil => simp
 | cons r rs ih => intro A; rw [List.foldl_cons, ih, insD_mem, List.mem_cons]; constructor <;> (intro h; simp_all [or_assoc])
theorem insD_nd' {rs : List (List Int)} : ∀ {A : List (List Int)}, A.Nodup → (rs.foldl insD A).Nodup := by
 induction rs with
 | nil => intro A h; exact h
 | cons r rs ih => intro A h; exact ih (insD_nd h)
def nxtD (x y : List (List Int)) (L : List (List Int)) : Nat → List (List Int)
 | 0 => []
 | i + 1 => ((rotsF x y (L.getD i [])).map fun r => trL x y (L.getD i []) r).foldl insD (nxtD x y L i)
def levD (x y : List (List Int)) : Nat → List (List Int)
 | 0 => [(psF x y).wo]
 | k + 1 => nxtD x y (levD x y k) (levD x y k).length
theorem nxtD_mem {x y L : List (List Int)} {a : List Int} : ∀ {i : Nat}, a ∈ nxtD x y L i ↔ ∃ q, q < i ∧ ∃ r ∈ rotsF x y (L.getD q []), trL x y (L.getD q []) r = a
 | 0 => by simp [nxtD]
 | i + 1 => by
  simp only [nxtD]
  rw [insD_mem', nxtD_mem, List.mem_map]
  constructor
  ·rintro (⟨q, h1, h2⟩ | h)
   ·exact ⟨q, by omega, h2⟩
   ·exact ⟨i, by omega, h⟩
  ·rintro ⟨q, h1, h2⟩
   by_cases e : q = i
   ·subst e; exact .inr h2
   ·exact .inl ⟨q, by omega, h2⟩
theorem nxtD_nd {x y L : List (List Int)} : ∀ {i : Nat}, (nxtD x y L i).Nodup
 | 0 => by simp [nxtD]
 | i + 1 => insD_nd' nxtD_nd
theorem levD_mem {x y : List (List Int)} {a : List Int} : ∀ {k : Nat}, a ∈ levD x y k ↔ a ∈ levS x y k
 | 0 => by simp [levD, levS]
 | k + 1 => by
  simp only [levD, levS, List.mem_flatMap, List.mem_map]
  rw [nxtD_mem]
  constructor
  ·rintro ⟨q, h1, r, h2, h3⟩
   exact ⟨_, levD_mem.1 (getD_mem (d := []) h1), r, h2, h3⟩
  ·rintro ⟨l, h1, r, h2, h3⟩
   obtain ⟨q, q1, q2⟩ := mem_getD [] (levD_mem.2 h1)
   exact ⟨q, q1, r, by rw [q2]; exact h2, by rw [q2]; exact h3⟩
theorem stabs_len {x y : List (List Int)} {A : List (List Int)} (hn : A.Nodup) (h : ∀ a ∈ A, stabB x y a = true) : A.length ≤ 3125 := by
 have h1 := nodupR_len hn (ys := allRank (x.length : Int)) fun a ha => rank_allRank (stab_of (h a ha)).2.1
 have := allRank_len (m := (x.length : Int))
 omega
theorem levS_dead {x y : List (List Int)} {k : Nat} (h : levS x y k = []) : ∀ {j : Nat}, levS x y (k + j) = []
 | 0 => h
 | j + 1 => by show (levS x y (k + j)).flatMap _ = []; rw [levS_dead h]; rfl
theorem impl_StepsTo_ok {n1 n2 n3 : Option Bool} (x y : List (List Int)) (l : List Int) (hx : x.length ≤ 1048576) (kx : ∀ r ∈ x, r.length ≤ 1048576) (hy : y.length ≤ 1048576) (ky : ∀ r ∈ y, r.length ≤ 1048576) (hl : l.length ≤ 1048576) :
  CallOk Try.prog 27 [.a [.s n1 (rr x), .s n2 (rr y)], .s n3 (ii l)] [(0, .i (stepF x y l))] := by
 obtain ⟨code0, hcd1, hcd2⟩ := chk_impl_StepsTo; refine callOk_of Try.func27 hcd1 mo Try.call27 (rs := [4]) (by kernel_rfl) hcd2 (by rw [Try.ntmps27]; simp) (by simp) (by decide) ?_; unfold C_impl_StepsTo K_impl_StepsTo; simp (maxSteps := 2000000) only [go_sem, Nat.reduceBEq, Nat.reduceAdd, Nat.reduceMul, Nat.reduceMod, Nat.reduceLT, Nat.reduceDiv, Nat.reduceSub, Nat.reduceLeDiff, Int.reduceToNat, Int.reduceLT, Int.reduceLE, reduceCtorEq]
 refine ⟨_, impl_IsStable_ok x y l hx kx hy ky hl, ?_⟩; simp (maxSteps := 2000000) only [go_sem, Nat.reduceBEq, Nat.reduceAdd, Nat.reduceMul, Nat.reduceMod, Nat.reduceLT, Nat.reduceDiv, Nat.reduceSub, Nat.reduceLeDiff, Int.reduceToNat, Int.reduceLT, Int.reduceLE, reduceCtorEq]
 refine ⟨fun h0 => by simp [stepF, h0], fun h0 => ?_⟩
 obtain ⟨hm, R, M⟩ := stab_of h0
 have n5 := M.m.n5
 have hll := rank_len R
 obtain ⟨m, e, hz, h12, hlt⟩ := stepF_of h0
 rw [e]
 refine ⟨_, impl_ProposeMen_ok x y hm hx kx hy ky, ?_⟩; simp (maxSteps := 2000000) only [go_sem, Nat.reduceBEq, Nat.reduceAdd, Nat.reduceMul, Nat.reduceMod, Nat.reduceLT, Nat.reduceDiv, Nat.reduceSub, Nat.reduceLeDiff, Int.reduceToNat, Int.reduceLT, Int.reduceLE, reduceCtorEq]
 refine loopN m (fun k => [(0, .t .arg (.a [.s n1 (rr x), .s n2 (rr y)])), (1, .t .arg (.s n3 (ii l))), (2, .t .arg (.q [.s n1 (rr x), .s n2 (rr y)] 0)), (7, .own 1 none (rr (levD x y k))), (8, .i (k : Nat))]) (fun _ => True) ⟨trivial, by simp (maxSteps := 2000000) only [go_sem, Nat.reduceBEq, Nat.reduceAdd, Nat.reduceMul, Nat.reduceMod, Nat.reduceLT, Nat.reduceDiv, Nat.reduceSub, Nat.reduceLeDiff, Int.reduceToNat, Int.reduceLT, Int.reduceLE, reduceCtorEq]; exact ⟨T.leL_refl (rr [(psF x y).wo]), rfl⟩⟩ fun k hk _ => ?_
 have hS := fun u (hu : u ∈ levD x y k) => (levS_ok (psF_stab hm) (k := k) u (levD_mem.1 hu)).1
 have hE : levD x y (k + 1) = nxtD x y (levD x y k) (levD x y k).length := rfl
 have hzk : k = m → l ∈ levD x y k := fun e => levD_mem.2 (e ▸ hz)
 have hnk : k < m → l ∉ levD x y k := fun h h2 => hlt k h (levD_mem.1 h2)
 have hnd : (levD x y k).Nodup := by
  cases k with
  | zero => simp [levD]
  | succ k => exact nxtD_nd
 have hlen := stabs_len hnd hS
 have hne : k < m → (levD x y (k + 1)).length ≠ 0 := fun h h2 => by
  have h3 : levS x y (k + 1) = [] := List.eq_nil_iff_forall_not_mem.2 fun a ha => by
   have h4 := levD_mem.2 ha
   rw [List.eq_nil_of_length_eq_zero h2] at h4; cases h4
  have := levS_dead h3 (j := m - (k + 1))
  rw [show k + 1 + (m - (k + 1)) = m by omega] at this
  rw [this] at hz; cases hz
 rw [hE] at hne
 revert hS hE hlen hzk hnk hne
 clear hnd
 generalize levD x y k = L
 intro hS hE hzk hnk hlen hne
 simp (maxSteps := 2000000) only [go_sem, Nat.reduceBEq, Nat.reduceAdd, Nat.reduceMul, Nat.reduceMod, Nat.reduceLT, Nat.reduceDiv, Nat.reduceSub, Nat.reduceLeDiff, Int.reduceToNat, Int.reduceLT, Int.reduceLE, reduceCtorEq]
 refine loopN L.length (fun i => [(0, .t .arg (.a [.s n1 (rr x), .s n2 (rr y)])), (1, .t .arg (.s n3 (ii l))), (2, .t .arg (.q [.s n1 (rr x), .s n2 (rr y)] 0)), (7, .own 1 none (rr L)), (8, .i (k : Nat)), (9, .own 1 none (rr (nxtD x y L i))), (29, .al 7), (30, .i L.length), (31, .i (i : Nat))]) (fun i => ∀ q, q < i → L.getD q [] ≠ l) ⟨by simp, by simp (maxSteps := 2000000) only [go_sem, Nat.reduceBEq, Nat.reduceAdd, Nat.reduceMul, Nat.reduceMod, Nat.reduceLT, Nat.reduceDiv, Nat.reduceSub, Nat.reduceLeDiff, Int.reduceToNat, Int.reduceLT, Int.reduceLE, reduceCtorEq]; simp [nxtD]⟩ fun i hi hI => ?_
 simp (maxSteps := 2000000) only [go_sem, Nat.reduceBEq, Nat.reduceAdd, Nat.reduceMul, Nat.reduceMod, Nat.reduceLT, Nat.reduceDiv, Nat.reduceSub, Nat.reduceLeDiff, Int.reduceToNat, Int.reduceLT, Int.reduceLE, reduceCtorEq]
 refine ⟨fun hlt' => ?_, fun hge => ?_⟩
 ·have hi' : i < L.length := by omega
  have hst := hS _ (getD_mem (d := []) hi')
  obtain ⟨_, R', _⟩ := stab_of hst
  have hl' := rank_len R'
  refine ⟨by omega, hi', hi', ?_⟩
  refine ⟨_, Equal_ok (L.getD i []) l (by omega) hl, ?_⟩; simp (maxSteps := 2000000) only [go_sem, Nat.reduceBEq, Nat.reduceAdd, Nat.reduceMul, Nat.reduceMod, Nat.reduceLT, Nat.reduceDiv, Nat.reduceSub, Nat.reduceLeDiff, Int.reduceToNat, Int.reduceLT, Int.reduceLE, reduceCtorEq]
  refine ⟨fun h => ?_, fun h => ?_⟩
  ·have hin : l ∈ L := by rw [← h]; exact getD_mem hi'
   have : k = m := Classical.byContradiction fun hc => hnk (by omega) hin
   subst this; rfl
  ·refine ⟨_, impl_RotationsIn_ok x y (L.getD i []) hx kx hy ky (by omega), ?_⟩; simp (maxSteps := 2000000) only [go_sem, Nat.reduceBEq, Nat.reduceAdd, Nat.reduceMul, Nat.reduceMod, Nat.reduceLT, Nat.reduceDiv, Nat.reduceSub, Nat.reduceLeDiff, Int.reduceToNat, Int.reduceLT, Int.reduceLE, reduceCtorEq]
   have hrl := rotsF_len (x := x) (y := y) (l := L.getD i [])
   refine loopN (rotsF x y (L.getD i [])).length (fun j => [(0, .t .arg (.a [.s n1 (rr x), .s n2 (rr y)])), (1, .t .arg (.s n3 (ii l))), (2, .t .arg (.q [.s n1 (rr x), .s n2 (rr y)] 0)), (7, .own 1 none (rr L)), (8, .i (k : Nat)), (9, .own 1 none (rr ((((rotsF x y (L.getD i [])).take j).map fun r => trL x y (L.getD i []) r).foldl insD (nxtD x y L i)))), (11, .t (.rw 7) (.s none (ii (L.getD i [])))), (29, .al 7), (30, .i L.length), (31, .i (i : Nat)), (41, .own 1 none (rr (rotsF x y (L.getD i [])))), (42, .i (rotsF x y (L.getD i [])).length), (43, .i (j : Nat))]) (fun _ => True) ⟨trivial, by simp (maxSteps := 2000000) only [go_sem, Nat.reduceBEq, Nat.reduceAdd, Nat.reduceMul, Nat.reduceMod, Nat.reduceLT, Nat.reduceDiv, Nat.reduceSub, Nat.reduceLeDiff, Int.reduceToNat, Int.reduceLT, Int.reduceLE, reduceCtorEq]; simp⟩ fun j hj _ => ?_
   simp (maxSteps := 2000000) only [go_sem, Nat.reduceBEq, Nat.reduceAdd, Nat.reduceMul, Nat.reduceMod, Nat.reduceLT, Nat.reduceDiv, Nat.reduceSub, Nat.reduceLeDiff, Int.reduceToNat, Int.reduceLT, Int.reduceLE, reduceCtorEq]
   refine ⟨fun hlt2 => ?_, fun hge2 => ?_⟩
   ·have hj' : j < (rotsF x y (L.getD i [])).length := by omega
    have hr := getD_mem (d := []) hj'
    have hr6 := hrl.2 _ hr
    refine ⟨by omega, hj', hj', ?_⟩
    refine ⟨_, impl_TurnRotation_ok x y (L.getD i []) ((rotsF x y (L.getD i [])).getD j []) hx kx hy ky (by omega) (by omega), ?_⟩; simp (maxSteps := 2000000) only [go_sem, Nat.reduceBEq, Nat.reduceAdd, Nat.reduceMul, Nat.reduceMod, Nat.reduceLT, Nat.reduceDiv, Nat.reduceSub, Nat.reduceLeDiff, Int.reduceToNat, Int.reduceLT, Int.reduceLE, reduceCtorEq]
    have et : turnF x y (L.getD i []) ((rotsF x y (L.getD i [])).getD j []) = trL x y (L.getD i []) ((rotsF x y (L.getD i [])).getD j []) := if_pos (List.any_eq_true.2 ⟨_, hr, decide_eq_true rfl⟩)
    have es : (((rotsF x y (L.getD i [])).take (j + 1)).map fun r => trL x y (L.getD i []) r).foldl insD (nxtD x y L i) = insD ((((rotsF x y (L.getD i [])).take j).map fun r => trL x y (L.getD i []) r).foldl insD (nxtD x y L i)) (trL x y (L.getD i []) ((rotsF x y (L.getD i [])).getD j [])) := by
     rw [take_getD [] hj', List.map_append, List.foldl_append]; rfl
    have hAn : ((((rotsF x y (L.getD i [])).take j).map fun r => trL x y (L.getD i []) r).foldl insD (nxtD x y L i)).Nodup := insD_nd' nxtD_nd
    have hAs : ∀ a ∈ (((rotsF x y (L.getD i [])).take j).map fun r => trL x y (L.getD i []) r).foldl insD (nxtD x y L i), stabB x y a = true := fun a ha => by
     rw [insD_mem', nxtD_mem, List.mem_map] at ha
     rcases ha with ⟨q, _, r, h2, rfl⟩ | ⟨r, h2, rfl⟩
     ·exact trL_stab h2
     ·exact trL_stab (List.mem_of_mem_take h2)
    have hAl := stabs_len hAn hAs
    have hts := trL_stab hr
    rw [et]
    revert hAs hAl hts es
    clear hAn et
    generalize (((rotsF x y (L.getD i [])).take j).map fun r => trL x y (L.getD i []) r).foldl insD (nxtD x y L i) = A
    generalize trL x y (L.getD i []) ((rotsF x y (L.getD i [])).getD j []) = t
    intro es hAs hAl hts
    have htl := rank_len (stab_of hts).2.1
    refine ⟨_, ContainsFuncR (fun o => decide (o = t)) (fun o ho => impl_StepsTo1_ok o t (by have := rank_len (stab_of (hAs o ho)).2.1; omega) (by omega)) (by omega), ?_⟩; simp (maxSteps := 2000000) only [go_sem, Nat.reduceBEq, Nat.reduceAdd, Nat.reduceMul, Nat.reduceMod, Nat.reduceLT, Nat.reduceDiv, Nat.reduceSub, Nat.reduceLeDiff, Int.reduceToNat, Int.reduceLT, Int.reduceLE, reduceCtorEq]
    refine ⟨fun hc => ?_, fun hc => ?_⟩
    ·exact ⟨by simp, by omega, inR_of (by omega) (by omega), hj', by rw [es, insD, if_neg (by rw [hc]; simp)], by simp⟩
    ·exact ⟨inR_of (by omega) (by omega), hj', by rw [es, insD, if_pos hc], by simp⟩
   ·have : j = (rotsF x y (L.getD i [])).length := by omega
    subst this
    rw [List.take_length]
    refine ⟨inR_of (by omega) (by omega), hi', fun q hq => ?_, rfl, by simp⟩
    by_cases e : q = i
    ·rw [e]; exact h
    ·exact hI q (by omega)
 ·have : i = L.length := by omega
  subst this
  have hkm : k < m := Classical.byContradiction fun hc => by
   obtain ⟨q, q1, q2⟩ := mem_getD [] (hzk (by omega))
   exact hI q q1 q2
  have := hne hkm
  exact ⟨fun h => this (by omega), fun _ => ⟨inR_of (by omega) (by omega), hkm, hE.symm, by simp⟩⟩
end Go.Proofs.Ytgdpplhbblapgaa
