/- Own work: contracts of functions that the claim reaches. No condition beyond those that each theorem names. -/
import Derived.Test.YtfdoddeccnjcmaaProg
import Derived.Test.YtfdoddeccnjcmaaSmall
namespace Go.Proofs.Ytfdoddeccnjcmaa
open Go Go.Vc
set_option maxRecDepth 100000
set_option linter.unusedSimpArgs false
set_option linter.unusedVariables false
def K_slices_insertionSortCmpFunc_int : List Nat := [0, 1, 2, 3, 8, 9]
def C_slices_insertionSortCmpFunc_int : C :=
  let ks := K_slices_insertionSortCmpFunc_int
  (.seq
   (.rg 0 [(none, .v 10 .mv [.s 1]), (none, .v 11 (.bin .add) [.s 10, .k (.i 1)]), (none, .tk 8 11)])
   (.cl ks (.block 0
   (.loop
   (.seq
   (.seq
   (.rg 0 [(none, .v 12 .mv [.s 8]), (none, .v 13 .mv [.s 2]), (none, .v 14 (.bin .lss) [.s 12, .s 13])])
   (.cond (.s 14)
   .skip
   (.exit 0)))
   (.cl ks (.seq
   (.block 1
   (.seq
   (.rg 0 [(none, .v 17 .mv [.s 8]), (none, .tk 9 17)])
   (.cl ks (.block 2
   (.loop
   (.seq
   (.seq
   (.rg 14 [(none, .v 18 .mv [.s 9]), (none, .v 19 .mv [.s 1]), (none, .v 20 (.bin .gtr) [.s 18, .s 19]), (none, .v 21 .mv [.s 20]), (some (21, true), .v 22 .mv [.s 3]), (some (21, true), .v 23 .mv [.s 0]), (some (21, true), .v 24 .mv [.s 9]), (some (21, true), .v 25 .idx [.s 23, .s 24]), (some (21, true), .v 26 .ld [.s 25]), (some (21, true), .v 27 .mv [.s 0]), (some (21, true), .v 28 .mv [.s 9]), (some (21, true), .v 29 (.bin .sub) [.s 28, .k (.i 1)]), (some (21, true), .v 30 .idx [.s 27, .s 29]), (some (21, true), .v 31 .ld [.s 30]), (some (21, true), .coC 32 [.s 22, .s 26, .s 31]), (some (21, true), .v 33 (.bin .lss) [.s 32, .k (.i 0)]), (none, .v 34 .pick [.s 21, .s 33, .k (.b false)])])
   (.cond (.s 34)
   .skip
   (.exit 2)))
   (.cl ks (.seq
   (.block 3
   (.rgF 15 15 [(2, 39, 0, none), (3, 40, 9, none), (4, 41, 9, some (40, 1))] [(none, .v 37 .mv [.s 0]), (none, .v 38 .mv [.s 9]), (none, .v 39 .mv [.s 0]), (none, .v 40 .mv [.s 9]), (none, .v 41 (.bin .sub) [.s 40, .k (.i 1)]), (none, .v 42 .mv [.s 0]), (none, .v 43 .mv [.s 9]), (none, .v 44 (.bin .sub) [.s 43, .k (.i 1)]), (none, .v 45 .idx [.s 42, .s 44]), (none, .v 46 .ld [.s 45]), (none, .v 47 .mv [.s 0]), (none, .v 48 .mv [.s 9]), (none, .v 49 .idx [.s 47, .s 48]), (none, .v 50 .ld [.s 49]), (none, .v 51 .idx [.s 37, .s 38]), (none, .st (.s 51) (.s 46)), (none, .v 52 .idx [.s 39, .s 41]), (none, .st (.s 52) (.s 50))]))
   (.cl ks (.rg 0 [(none, .v 35 .mv [.s 9]), (none, .v 36 (.bin .sub) [.s 35, .k (.i 1)]), (none, .tk 9 36)]))))))))))
   (.cl ks (.rg 0 [(none, .v 15 .mv [.s 8]), (none, .v 16 (.bin .add) [.s 15, .k (.i 1)]), (none, .tk 8 16)])))))))))

theorem chk_slices_insertionSortCmpFunc_int : ∃ b, Try.f159.body = some b ∧ chk Try.prog Try.f159.ntmps false C_slices_insertionSortCmpFunc_int b = true := ⟨_, rfl, by kernel_rfl⟩
def K_slices_stableCmpFunc_int : List Nat := [0, 1, 2, 6, 7, 8, 9]
def C_slices_stableCmpFunc_int : C :=
  let ks := K_slices_stableCmpFunc_int
  (.seq
   (.rg 0 [(none, .v 6 .mv [.k (.i 20)])])
   (.cl ks (.seq
   (.rg 0 [(none, .v 10 .mv [.s 6]), (none, .v 7 .mv [.k (.i 0)]), (none, .tk 8 10)])
   (.cl ks (.seq
   (.block 0
   (.loop
   (.seq
   (.seq
   (.rg 0 [(none, .v 11 .mv [.s 8]), (none, .v 12 .mv [.s 1]), (none, .v 13 (.bin .leq) [.s 11, .s 12])])
   (.cond (.s 13)
   .skip
   (.exit 0)))
   (.cl ks (.block 1
   (.seq
   (.rg 0 [(none, .v 14 .mv [.s 0]), (none, .v 15 .mv [.s 7]), (none, .v 16 .mv [.s 8]), (none, .v 17 .mv [.s 2]), (none, .cox (some 18) 159 [.s 14, .s 15, .s 16, .s 17] 0)])
   (.cl ks (.seq
   (.rg 0 [(none, .v 19 .mv [.s 8]), (none, .tk 7 19)])
   (.cl ks (.rg 0 [(none, .v 20 .mv [.s 8]), (none, .v 21 .mv [.s 6]), (none, .v 22 (.bin .add) [.s 20, .s 21]), (none, .tk 8 22)]))))))))))
   (.cl ks (.seq
   (.rg 0 [(none, .v 23 .mv [.s 0]), (none, .v 24 .mv [.s 7]), (none, .v 25 .mv [.s 1]), (none, .v 26 .mv [.s 2]), (none, .cox (some 27) 159 [.s 23, .s 24, .s 25, .s 26] 0)])
   (.cl ks (.block 2
   (.loop
   (.seq
   (.seq
   (.rg 0 [(none, .v 28 .mv [.s 6]), (none, .v 29 .mv [.s 1]), (none, .v 30 (.bin .lss) [.s 28, .s 29])])
   (.cond (.s 30)
   .skip
   (.exit 2)))
   (.cl ks (.block 3
   (.seq
   (.rg 0 [(none, .v 31 .mv [.s 6]), (none, .v 32 (.bin .mul) [.k (.i 2), .s 31]), (none, .v 7 .mv [.k (.i 0)]), (none, .tk 8 32)])
   (.cl ks (.seq
   (.block 4
   (.loop
   (.seq
   (.seq
   (.rg 0 [(none, .v 33 .mv [.s 8]), (none, .v 34 .mv [.s 1]), (none, .v 35 (.bin .leq) [.s 33, .s 34])])
   (.cond (.s 35)
   .skip
   (.exit 4)))
   (.cl ks (.block 5
   (.seq
   (.rg 0 [(none, .v 36 .mv [.s 0]), (none, .v 37 .mv [.s 7]), (none, .v 38 .mv [.s 7]), (none, .v 39 .mv [.s 6]), (none, .v 40 (.bin .add) [.s 38, .s 39]), (none, .v 41 .mv [.s 8]), (none, .v 42 .mv [.s 2]), (none, .co 43 160 [.s 36, .s 37, .s 40, .s 41, .s 42])])
   (.cl ks (.seq
   (.rg 0 [(none, .v 44 .mv [.s 8]), (none, .tk 7 44)])
   (.cl ks (.rg 0 [(none, .v 45 .mv [.s 8]), (none, .v 46 .mv [.s 6]), (none, .v 47 (.bin .mul) [.k (.i 2), .s 46]), (none, .v 48 (.bin .add) [.s 45, .s 47]), (none, .tk 8 48)]))))))))))
   (.cl ks (.seq
   (.seq
   (.rg 0 [(none, .v 49 .mv [.s 7]), (none, .v 50 .mv [.s 6]), (none, .v 51 (.bin .add) [.s 49, .s 50]), (none, .tk 9 51)])
   (.cl ks (.seq
   (.rg 0 [(none, .v 52 .mv [.s 9]), (none, .v 53 .mv [.s 1]), (none, .v 54 (.bin .lss) [.s 52, .s 53])])
   (.cond (.s 54)
   (.rg 0 [(none, .v 55 .mv [.s 0]), (none, .v 56 .mv [.s 7]), (none, .v 57 .mv [.s 9]), (none, .v 58 .mv [.s 1]), (none, .v 59 .mv [.s 2]), (none, .co 60 160 [.s 55, .s 56, .s 57, .s 58, .s 59])])
   .skip))))
   (.cl ks (.rg 0 [(none, .v 61 .mv [.s 6]), (none, .v 62 (.bin .mul) [.s 61, .k (.i 2)]), (none, .tk 6 62)]))))))))))))))))))))

theorem chk_slices_stableCmpFunc_int : ∃ b, Try.f154.body = some b ∧ chk Try.prog Try.f154.ntmps false C_slices_stableCmpFunc_int b = true := ⟨_, rfl, by kernel_rfl⟩
def K_slices_SortStableFunc_Sint_int : List Nat := [0, 1]
def C_slices_SortStableFunc_Sint_int : C :=
  let ks := K_slices_SortStableFunc_Sint_int
  (.rg 0 [(none, .v 4 .mv [.s 0]), (none, .v 5 .mv [.s 0]), (none, .v 6 .len [.s 5]), (none, .v 7 .mv [.s 1]), (none, .cox (some 8) 154 [.s 4, .s 6, .s 7] 0)])

theorem chk_slices_SortStableFunc_Sint_int : ∃ b, Try.f133.body = some b ∧ chk Try.prog Try.f133.ntmps false C_slices_SortStableFunc_Sint_int b = true := ⟨_, rfl, by kernel_rfl⟩
/-- P, with x ahead of place j, and R behind. -/
def contP (P : List Int) (x : Int) (j : Nat) (R : List Int) : List Int := P.take j ++ x :: (P.drop j ++ R)
theorem contP_len {P R : List Int} {x : Int} {j : Nat} : (contP P x j R).length = P.length + 1 + R.length := by
  simp [contP]; omega
theorem contP_get {P R : List Int} {x : Int} {j : Nat} (h : j ≤ P.length) : (contP P x j R).getD j 0 = x := by
  have : (P.take j).length = j := by simp; omega
  simp [contP, List.getD, List.getElem?_append, this]
theorem contP_prev {P R : List Int} {x : Int} {j : Nat} (h : j < P.length) : (contP P x (j + 1) R).getD j 0 = P.getD j 0 := by
  have : (P.take (j + 1)).length = j + 1 := by simp; omega
  simp only [contP, List.getD]
  rw [List.getElem?_append_left (by omega), List.getElem?_take, if_pos (by omega)]
theorem contP_swap {P R : List Int} {x : Int} {j : Nat} (h : j < P.length) : ((contP P x (j + 1) R).set (j + 1) (P.getD j 0)).set j x = contP P x j R := by
  have h1 : (P.take j).length = j := by simp; omega
  have e1 : contP P x (j + 1) R = P.take j ++ (P.getD j 0 :: x :: (P.drop (j + 1) ++ R)) := by
    simp only [contP]; rw [take_getD 0 h, List.append_assoc]; rfl
  rw [e1, List.set_append_right _ _ (by omega), h1, show j + 1 - j = 1 from by omega, List.set_append_right _ _ (by omega), h1, Nat.sub_self]
  simp only [contP]
  rw [drop_getD 0 h]
  simp
/-- How far down x goes among the first j of P. -/
def stopP (cmp : Int → Int → Int) (P : List Int) (x : Int) : Nat → Nat
  | 0 => 0
  | j + 1 => if cmp x (P.getD j 0) < 0 then stopP cmp P x j else j + 1
theorem stopP_le {cmp : Int → Int → Int} {P : List Int} {x : Int} : ∀ {j : Nat}, stopP cmp P x j ≤ j
  | 0 => Nat.le_refl _
  | j + 1 => by
    simp only [stopP]; split
    · exact Nat.le_succ_of_le stopP_le
    · exact Nat.le_refl _
/-- The first i, in order. -/
def preP (cmp : Int → Int → Int) (xs : List Int) : Nat → List Int
  | 0 => []
  | i + 1 => contP (preP cmp xs i) (xs.getD i 0) (stopP cmp (preP cmp xs i) (xs.getD i 0) i) []
theorem preP_len {cmp : Int → Int → Int} {xs : List Int} : ∀ {i : Nat}, (preP cmp xs i).length = i
  | 0 => rfl
  | i + 1 => by simp only [preP, contP_len, preP_len (i := i)]; rfl
theorem contP_app {P R : List Int} {x : Int} {j : Nat} : contP P x j [] ++ R = contP P x j R := by simp [contP]
theorem contP_mem {P R : List Int} {x y : Int} {j : Nat} : y ∈ contP P x j R ↔ y ∈ P ∨ y = x ∨ y ∈ R := by
  have : y ∈ P ↔ y ∈ P.take j ∨ y ∈ P.drop j := by rw [← List.mem_append, List.take_append_drop]
  simp only [contP, List.mem_append, List.mem_cons, this]
  constructor
  · rintro (h | h | h | h)
    · exact .inl (.inl h)
    · exact .inr (.inl h)
    · exact .inl (.inr h)
    · exact .inr (.inr h)
  · rintro ((h | h) | h | h)
    · exact .inl h
    · exact .inr (.inr (.inl h))
    · exact .inr (.inl h)
    · exact .inr (.inr (.inr h))
theorem preP_mem {cmp : Int → Int → Int} {xs : List Int} {y : Int} : ∀ {i : Nat}, i ≤ xs.length → y ∈ preP cmp xs i → y ∈ xs
  | 0, _, h => by simp [preP] at h
  | i + 1, hi, h => by
    simp only [preP, contP_mem] at h
    rcases h with h | h | h
    · exact preP_mem (by omega) h
    · rw [h]; exact getD_mem (by omega)
    · simp at h
theorem insSort_ok (nl : Option Bool) (xs : List Int) (f : Nat) (cp : List T) (cmp : Int → Int → Int) (h0 : 0 < xs.length) (hl : xs.length ≤ 1000000) (hc : ∀ x ∈ xs, ∀ y ∈ xs, CallOk Try.prog f ([.i x, .i y] ++ cp) [(0, .i (cmp x y))]) :
    CallX Try.prog 159 0 [.s nl (ii xs), .i 0, .i xs.length, .c f cp] (.u []) nl (ii (preP cmp xs xs.length)) := by
  obtain ⟨code0, hcd1, hcd2⟩ := chk_slices_insertionSortCmpFunc_int; refine callX_of Try.func159 hcd1 mo Try.call159 (rs := []) (i := 0) (by kernel_rfl) hcd2 (by rw [Try.ntmps159]; simp) (by simp) (by decide) rfl ?_; unfold C_slices_insertionSortCmpFunc_int K_slices_insertionSortCmpFunc_int; simp (config := { maxSteps := 2000000 }) only [go_sem, Nat.reduceBEq, Nat.reduceAdd, Nat.reduceMul, Nat.reduceMod, Nat.reduceLT, Nat.reduceDiv, Nat.reduceSub, Nat.reduceLeDiff, Int.reduceToNat, Int.reduceLT, Int.reduceLE, reduceCtorEq, List.take_nil, List.drop_nil]
  refine ⟨by unfold inR; omega, ?_⟩
  refine loopN (xs.length - 1) (fun t => [(0, .own 11 nl (ii (preP cmp xs (t + 1) ++ xs.drop (t + 1)))), (1, .i 0), (2, .i xs.length), (3, .t .arg (.c f cp)), (8, .i (t + 1 : Nat))]) (fun _ => True) ⟨trivial, ?_⟩ fun t ht _ => ?_
  · simp (config := { maxSteps := 2000000 }) only [go_sem, Nat.reduceBEq, Nat.reduceAdd, Nat.reduceMul, Nat.reduceMod, Nat.reduceLT, Nat.reduceDiv, Nat.reduceSub, Nat.reduceLeDiff, Int.reduceToNat, Int.reduceLT, Int.reduceLE, reduceCtorEq, List.take_nil, List.drop_nil]
    refine ⟨?_, by simp⟩
    cases xs with
    | nil => simp at h0
    | cons a xs => simp [preP, contP, stopP]
  simp (config := { maxSteps := 2000000 }) only [go_sem, Nat.reduceBEq, Nat.reduceAdd, Nat.reduceMul, Nat.reduceMod, Nat.reduceLT, Nat.reduceDiv, Nat.reduceSub, Nat.reduceLeDiff, Int.reduceToNat, Int.reduceLT, Int.reduceLE, reduceCtorEq, List.take_nil, List.drop_nil]
  refine ⟨fun hlt => ?_, fun hge => ?_⟩
  · have hj' : t + 1 < xs.length := by omega
    have hPl := preP_len (cmp := cmp) (xs := xs) (i := t + 1)
    have hPm := fun y => preP_mem (cmp := cmp) (xs := xs) (y := y) (i := t + 1) (by omega)
    have e0 : preP cmp xs (t + 1) ++ xs.drop (t + 1) = contP (preP cmp xs (t + 1)) (xs.getD (t + 1) 0) (t + 1) (xs.drop (t + 2)) := by
      have q1 : (preP cmp xs (t + 1)).take (t + 1) = preP cmp xs (t + 1) := List.take_of_length_le (by omega)
      have q2 : (preP cmp xs (t + 1)).drop (t + 1) = [] := List.drop_of_length_le (by omega)
      simp only [contP]
      rw [q1, q2, drop_getD 0 hj']; rfl
    have e1 : preP cmp xs (t + 1 + 1) ++ xs.drop (t + 2) = contP (preP cmp xs (t + 1)) (xs.getD (t + 1) 0) (stopP cmp (preP cmp xs (t + 1)) (xs.getD (t + 1) 0) (t + 1)) (xs.drop (t + 2)) := by
      rw [preP, contP_app]
    rw [e0]
    have hx : xs.getD (t + 1) 0 ∈ xs := getD_mem hj'
    have hR : (xs.drop (t + 2)).length + (t + 2) = xs.length := by rw [List.length_drop]; omega
    generalize preP cmp xs (t + 1) = P at *
    generalize xs.getD (t + 1) 0 = x at *
    generalize hRR : xs.drop (t + 2) = R at *
    refine loopN (t + 1) (fun k => [(0, .own 11 nl (ii (contP P x (t + 1 - k) R))), (1, .i 0), (2, .i xs.length), (3, .t .arg (.c f cp)), (8, .i (t + 1 : Nat)), (9, .i ((t + 1 - k : Nat) : Int))]) (fun k => stopP cmp P x (t + 1) = stopP cmp P x (t + 1 - k)) ⟨by simp, by simp (config := { maxSteps := 2000000 }) only [go_sem, Nat.reduceBEq, Nat.reduceAdd, Nat.reduceMul, Nat.reduceMod, Nat.reduceLT, Nat.reduceDiv, Nat.reduceSub, Nat.reduceLeDiff, Int.reduceToNat, Int.reduceLT, Int.reduceLE, reduceCtorEq, List.take_nil, List.drop_nil]; simp⟩ fun k hk hI => ?_
    simp (config := { maxSteps := 2000000 }) only [go_sem, Nat.reduceBEq, Nat.reduceAdd, Nat.reduceMul, Nat.reduceMod, Nat.reduceLT, Nat.reduceDiv, Nat.reduceSub, Nat.reduceLeDiff, Int.reduceToNat, Int.reduceLT, Int.reduceLE, reduceCtorEq, List.take_nil, List.drop_nil]
    have hcl : (contP P x (t + 1 - k) R).length = xs.length := by rw [contP_len]; omega
    have stop : stopP cmp P x (t + 1 - k) = t + 1 - k → inR (((t + 1 : Nat) : Int) + 1) ∧ t < xs.length - 1 ∧ contP P x (t + 1 - k) R = preP cmp xs (t + 1 + 1) ++ xs.drop (t + 1 + 1) ∧ ((t + 1 : Nat) : Int) + 1 = ((t + 1 + 1 : Nat) : Int) := fun h => ⟨inR_of (by omega) (by omega), by omega, by rw [show xs.drop (t + 1 + 1) = R from hRR, e1, hI, h], by simp⟩
    refine ⟨fun hlt => ?_, fun hge => ?_⟩
    · obtain ⟨j, hj⟩ : ∃ j, t + 1 - k = j + 1 := ⟨t - k, by omega⟩
      rw [hj] at hI hcl stop ⊢
      have hjP : j < P.length := by omega
      have e2 : ((j + 1 : Nat) : Int) - 1 = (j : Int) := by omega
      have e3 : (((j + 1 : Nat) : Int) - 1).toNat = j := by omega
      have hp : P.getD j 0 ∈ xs := hPm _ (getD_mem hjP)
      rw [e3, hcl, contP_get (by omega), contP_prev hjP]
      refine ⟨by omega, by omega, by omega, inR_of (by omega) (by omega), by omega, by omega, by omega, ?_⟩
      refine ⟨_, hc x hx _ hp, ?_⟩
      simp (config := { maxSteps := 2000000 }) only [go_sem, Nat.reduceBEq, Nat.reduceAdd, Nat.reduceMul, Nat.reduceMod, Nat.reduceLT, Nat.reduceDiv, Nat.reduceSub, Nat.reduceLeDiff, Int.reduceToNat, Int.reduceLT, Int.reduceLE, reduceCtorEq, List.take_nil, List.drop_nil]
      rw [e3, hcl, contP_get (by omega), contP_prev hjP]
      refine ⟨fun hc1 => ?_, fun hc1 => stop (by rw [stopP, if_neg hc1])⟩
      have hsl : ((contP P x (j + 1) R).set (j + 1) (P.getD j 0)).length = xs.length := by rw [List.length_set, hcl]
      rw [hsl]
      have hk1 : t + 1 - (k + 1) = j := by omega
      rw [hk1]
      exact ⟨inR_of (by omega) (by omega), inR_of (by omega) (by omega), by omega, by omega, by omega, by omega, by omega, by omega, by omega, by omega, by omega, by omega, by omega, by omega, inR_of (by omega) (by omega), by omega, by rw [hI, stopP, if_pos hc1], contP_swap hjP, e2⟩
    · have hz : t + 1 - k = 0 := by omega
      exact stop (by rw [hz]; rfl)
  · have : t = xs.length - 1 := by omega
    subst this
    rw [show xs.length - 1 + 1 = xs.length from by omega]
    simp
theorem stable_ok (nl : Option Bool) (xs : List Int) (f : Nat) (cp : List T) (cmp : Int → Int → Int) (h0 : 0 < xs.length) (hl : xs.length ≤ 19) (hc : ∀ x ∈ xs, ∀ y ∈ xs, CallOk Try.prog f ([.i x, .i y] ++ cp) [(0, .i (cmp x y))]) :
    CallX Try.prog 154 0 [.s nl (ii xs), .i xs.length, .c f cp] (.u []) nl (ii (preP cmp xs xs.length)) := by
  obtain ⟨code0, hcd1, hcd2⟩ := chk_slices_stableCmpFunc_int; refine callX_of Try.func154 hcd1 mo Try.call154 (rs := []) (i := 0) (by kernel_rfl) hcd2 (by rw [Try.ntmps154]; simp) (by simp) (by decide) rfl ?_; unfold C_slices_stableCmpFunc_int K_slices_stableCmpFunc_int; simp (config := { maxSteps := 2000000 }) only [go_sem, Nat.reduceBEq, Nat.reduceAdd, Nat.reduceMul, Nat.reduceMod, Nat.reduceLT, Nat.reduceDiv, Nat.reduceSub, Nat.reduceLeDiff, Int.reduceToNat, Int.reduceLT, Int.reduceLE, reduceCtorEq, List.take_nil, List.drop_nil]
  refine loopN 0 (fun _ => [(0, .own 11 nl (ii xs)), (1, .i xs.length), (2, .t .arg (.c f cp)), (6, .i 20), (7, .i 0), (8, .i 20)]) (fun _ => True) ⟨trivial, by simp (config := { maxSteps := 2000000 }) only [go_sem, Nat.reduceBEq, Nat.reduceAdd, Nat.reduceMul, Nat.reduceMod, Nat.reduceLT, Nat.reduceDiv, Nat.reduceSub, Nat.reduceLeDiff, Int.reduceToNat, Int.reduceLT, Int.reduceLE, reduceCtorEq, List.take_nil, List.drop_nil]⟩ fun j hj _ => ?_
  simp (config := { maxSteps := 2000000 }) only [go_sem, Nat.reduceBEq, Nat.reduceAdd, Nat.reduceMul, Nat.reduceMod, Nat.reduceLT, Nat.reduceDiv, Nat.reduceSub, Nat.reduceLeDiff, Int.reduceToNat, Int.reduceLT, Int.reduceLE, reduceCtorEq, List.take_nil, List.drop_nil]
  refine ⟨fun h => by omega, fun _ => ?_⟩
  refine ⟨_, _, _, insSort_ok nl xs f cp cmp h0 (by omega) hc, ?_⟩; simp (config := { maxSteps := 2000000 }) only [go_sem, Nat.reduceBEq, Nat.reduceAdd, Nat.reduceMul, Nat.reduceMod, Nat.reduceLT, Nat.reduceDiv, Nat.reduceSub, Nat.reduceLeDiff, Int.reduceToNat, Int.reduceLT, Int.reduceLE, reduceCtorEq, List.take_nil, List.drop_nil]
  refine loopN 0 (fun _ => [(0, .own 11 nl (ii (preP cmp xs xs.length))), (1, .i xs.length), (2, .t .arg (.c f cp)), (6, .i 20), (7, .i 0), (8, .i 20)]) (fun _ => True) ⟨trivial, by simp (config := { maxSteps := 2000000 }) only [go_sem, Nat.reduceBEq, Nat.reduceAdd, Nat.reduceMul, Nat.reduceMod, Nat.reduceLT, Nat.reduceDiv, Nat.reduceSub, Nat.reduceLeDiff, Int.reduceToNat, Int.reduceLT, Int.reduceLE, reduceCtorEq, List.take_nil, List.drop_nil]⟩ fun j hj _ => ?_
  simp (config := { maxSteps := 2000000 }) only [go_sem, Nat.reduceBEq, Nat.reduceAdd, Nat.reduceMul, Nat.reduceMod, Nat.reduceLT, Nat.reduceDiv, Nat.reduceSub, Nat.reduceLeDiff, Int.reduceToNat, Int.reduceLT, Int.reduceLE, reduceCtorEq, List.take_nil, List.drop_nil]
  exact ⟨fun h => by omega, fun _ => trivial⟩
theorem sortStable_ok (nl : Option Bool) (xs : List Int) (f : Nat) (cp : List T) (cmp : Int → Int → Int) (h0 : 0 < xs.length) (hl : xs.length ≤ 19) (hc : ∀ x ∈ xs, ∀ y ∈ xs, CallOk Try.prog f ([.i x, .i y] ++ cp) [(0, .i (cmp x y))]) :
    CallX Try.prog 133 0 [.s nl (ii xs), .c f cp] (.u []) nl (ii (preP cmp xs xs.length)) := by
  obtain ⟨code0, hcd1, hcd2⟩ := chk_slices_SortStableFunc_Sint_int; refine callX_of Try.func133 hcd1 mo Try.call133 (rs := []) (i := 0) (by kernel_rfl) hcd2 (by rw [Try.ntmps133]; simp) (by simp) (by decide) rfl ?_; unfold C_slices_SortStableFunc_Sint_int K_slices_SortStableFunc_Sint_int; simp (config := { maxSteps := 2000000 }) only [go_sem, Nat.reduceBEq, Nat.reduceAdd, Nat.reduceMul, Nat.reduceMod, Nat.reduceLT, Nat.reduceDiv, Nat.reduceSub, Nat.reduceLeDiff, Int.reduceToNat, Int.reduceLT, Int.reduceLE, reduceCtorEq, List.take_nil, List.drop_nil]
  refine ⟨_, _, _, stable_ok nl xs f cp cmp h0 hl hc, ?_⟩; simp (config := { maxSteps := 2000000 }) only [go_sem, Nat.reduceBEq, Nat.reduceAdd, Nat.reduceMul, Nat.reduceMod, Nat.reduceLT, Nat.reduceDiv, Nat.reduceSub, Nat.reduceLeDiff, Int.reduceToNat, Int.reduceLT, Int.reduceLE, reduceCtorEq, List.take_nil, List.drop_nil]
theorem pairwise_contP {p : Int → Int → Prop} {P : List Int} {x : Int} {j : Nat} (h1 : P.Pairwise p) (h2 : ∀ y ∈ P.take j, p y x) (h3 : ∀ y ∈ P.drop j, p x y) : (contP P x j []).Pairwise p := by
  simp only [contP, List.append_nil]
  have e := List.take_append_drop j P
  rw [← e, List.pairwise_append] at h1
  obtain ⟨a1, a2, a3⟩ := h1
  rw [List.pairwise_append]
  refine ⟨a1, List.pairwise_cons.2 ⟨h3, a2⟩, fun y hy z hz => ?_⟩
  rcases List.mem_cons.1 hz with rfl | hz
  · exact h2 y hy
  · exact a3 y hy z hz
theorem contP_perm {P : List Int} {x : Int} {j : Nat} : (contP P x j []).Perm (P ++ [x]) := by
  simp only [contP, List.append_nil]
  refine List.perm_middle.trans ?_
  rw [List.take_append_drop]
  exact (List.perm_append_singleton x P).symm
theorem preP_perm {cmp : Int → Int → Int} {xs : List Int} : ∀ {i : Nat}, i ≤ xs.length → (preP cmp xs i).Perm (xs.take i)
  | 0, _ => by simp [preP]
  | i + 1, hi => by
    rw [preP, take_getD 0 (by omega)]
    exact contP_perm.trans ((preP_perm (by omega)).append_right _)
theorem stopP_spec {cmp : Int → Int → Int} {P : List Int} {x : Int} : ∀ {j : Nat}, j ≤ P.length → (∀ k, stopP cmp P x j ≤ k → k < j → cmp x (P.getD k 0) < 0) ∧ (stopP cmp P x j = 0 ∨ ¬ cmp x (P.getD (stopP cmp P x j - 1) 0) < 0)
  | 0, _ => ⟨fun k _ h => by omega, .inl rfl⟩
  | j + 1, hj => by
    simp only [stopP]
    split
    · rename_i h
      obtain ⟨a1, a2⟩ := stopP_spec (cmp := cmp) (P := P) (x := x) (j := j) (by omega)
      refine ⟨fun k h1 h2 => ?_, a2⟩
      by_cases e : k = j
      · subst e; exact h
      · exact a1 k h1 (by omega)
    · rename_i h
      exact ⟨fun k h1 h2 => by omega, .inr h⟩

end Go.Proofs.Ytfdoddeccnjcmaa
