/- Own work: contracts of functions that the claim reaches. No condition beyond those that each theorem names. -/
import Derived.Test.YtgdpplhbblapgaaProg
import Derived.Test.YtgdpplhbblapgaaCyc
namespace Go.Proofs.Ytgdpplhbblapgaa
open Go Go.Vc
set_option maxRecDepth 100000
set_option linter.unusedSimpArgs false
set_option linter.unusedVariables false
def K_slices_Min_Sint_int : List Nat := [0, 2, 3, 4]
def C_slices_Min_Sint_int : C :=
 let ks := K_slices_Min_Sint_int
 (.seq
  (.rg 0 [(none, .v 2 .mv [.k (.i 0)])])
  (.cl ks (.seq
  (.seq
  (.rg 0 [(none, .v 5 .mv [.s 0]), (none, .v 6 .len [.s 5]), (none, .v 7 (.bin .lss) [.s 6, .k (.i 1)])])
  (.cond (.s 7)
  .no
  .skip))
  (.cl ks (.seq
  (.rg 0 [(none, .v 9 .mv [.s 0]), (none, .v 10 .idx [.s 9, .k (.i 0)]), (none, .v 11 .ld [.s 10]), (none, .tk 3 11)])
  (.cl ks (.seq
  (.seq
  (.rg 0 [(none, .v 4 .mv [.k (.i 1)])])
  (.cl ks (.block 0
  (.loop
  (.seq
  (.seq
  (.rg 0 [(none, .v 12 .mv [.s 4]), (none, .v 13 .mv [.s 0]), (none, .v 14 .len [.s 13]), (none, .v 15 (.bin .lss) [.s 12, .s 14])])
  (.cond (.s 15)
  .skip
  (.exit 0)))
  (.cl ks (.seq
  (.block 1
  (.rg 0 [(none, .v 18 .mv [.s 3]), (none, .v 19 .mv [.s 0]), (none, .v 20 .mv [.s 4]), (none, .v 21 .idx [.s 19, .s 20]), (none, .v 22 .ld [.s 21]), (none, .v 23 .mn [.s 18, .s 22]), (none, .tk 3 23)]))
  (.cl ks (.rg 0 [(none, .v 16 .mv [.s 4]), (none, .v 17 (.bin .add) [.s 16, .k (.i 1)]), (none, .tk 4 17)])))))))))
  (.cl ks (.seq
  (.rg 0 [(none, .v 24 .mv [.s 3]), (none, .tk 2 24)])
  .ret)))))))))
theorem chk_slices_Min_Sint_int : ∃ b, Try.f140.body = some b ∧ chk Try.prog Try.f140.ntmps true C_slices_Min_Sint_int b = true := ⟨_, rfl, by kernel_rfl⟩
def itI (f : Int → Int) (a : Int) : Nat → Int
 | 0 => a
 | k + 1 => f (itI f a k)
def pthL (f : Int → Int) (a : Int) (j : Nat) : List Int := (List.range j).map (itI f a)
section
variable {f : Int → Int} {a : Int}
theorem pthL_len {j : Nat} : (pthL f a j).length = j := by simp [pthL]
theorem pthL_s {j : Nat} : pthL f a (j + 1) = pthL f a j ++ [itI f a j] := by simp [pthL, List.range_succ]
theorem pthL_get {i j : Nat} (h : i < j) : (pthL f a j).getD i 0 = itI f a i := by simp [pthL, List.getD, h]
theorem pthL_1 : pthL f a 1 = [a] := rfl
theorem pthL_last {j : Nat} : f ((pthL f a (j + 1)).getD ((pthL f a (j + 1)).length - 1) 0) = itI f a (j + 1) := by
 rw [pthL_len, Nat.add_sub_cancel, pthL_get (by omega)]; rfl
theorem cyc_hit {j k : Nat} (h : itI f a (j + 1) = a) : cycG f a (k + 1) (pthL f a (j + 1)) = pthL f a (j + 1) := by
 simp only [cycG]; rw [pthL_last (f := f) (a := a) (j := j), if_pos h]
theorem cyc_rep {j k : Nat} (h : itI f a (j + 1) ≠ a) (h2 : itI f a (j + 1) ∈ pthL f a (j + 1)) : cycG f a (k + 1) (pthL f a (j + 1)) = [] := by
 simp only [cycG]; rw [pthL_last (f := f) (a := a) (j := j), if_neg h, if_pos h2]
theorem cyc_on {j k : Nat} (h : itI f a (j + 1) ≠ a) (h2 : itI f a (j + 1) ∉ pthL f a (j + 1)) : cycG f a (k + 1) (pthL f a (j + 1)) = cycG f a k (pthL f a (j + 2)) := by
 rw [show cycG f a (k + 1) (pthL f a (j + 1)) = _ from rfl]
 simp only [cycG]; rw [pthL_last (f := f) (a := a) (j := j), if_neg h, if_neg h2, ← pthL_s]
theorem itI_in {S : List Int} (hf : ∀ x ∈ S, f x ∈ S) (ha : a ∈ S) : ∀ {k : Nat}, itI f a k ∈ S
 | 0 => ha
 | k + 1 => hf _ (itI_in hf ha)
theorem pthL_le {S : List Int} (hf : ∀ x ∈ S, f x ∈ S) (ha : a ∈ S) {j : Nat} (hn : (pthL f a j).Nodup) : j ≤ S.length := by
 have := nodup_sub_len hn (ys := S) fun x hx => by
  obtain ⟨i, _, rfl⟩ := List.mem_map.1 hx; exact itI_in hf ha
 rwa [pthL_len] at this
theorem pthL_nd {j : Nat} (hn : (pthL f a j).Nodup) (h : itI f a j ∉ pthL f a j) : (pthL f a (j + 1)).Nodup := by
 rw [pthL_s, List.nodup_append]
 exact ⟨hn, by simp, fun x hx y hy e => h (by rw [← List.mem_singleton.1 hy, ← e]; exact hx)⟩
end
def minN (xs : List Int) : Nat → Int
 | 0 => xs.getD 0 0
 | j + 1 => min (minN xs j) (xs.getD (j + 1) 0)
theorem Min_ok {n1 : Option Bool} (xs : List Int) (hl : xs.length ≤ 1048576) (h0 : 0 < xs.length) : CallOk Try.prog 140 [.s n1 (ii xs)] [(0, .i (minN xs (xs.length - 1)))] := by
 obtain ⟨code0, hcd1, hcd2⟩ := chk_slices_Min_Sint_int; refine callOk_of Try.func140 hcd1 mo Try.call140 (rs := [2]) (by kernel_rfl) hcd2 (by rw [Try.ntmps140]; simp) (by simp) (by decide) ?_; unfold C_slices_Min_Sint_int K_slices_Min_Sint_int; simp (maxSteps := 2000000) only [go_sem, Nat.reduceBEq, Nat.reduceAdd, Nat.reduceMul, Nat.reduceMod, Nat.reduceLT, Nat.reduceDiv, Nat.reduceSub, Nat.reduceLeDiff, Int.reduceToNat, Int.reduceLT, Int.reduceLE, reduceCtorEq]
 refine ⟨fun h => by omega, fun _ => ⟨h0, h0, ?_⟩⟩
 refine loopN (xs.length - 1) (fun j => [(0, .t .arg (.s n1 (ii xs))), (3, .i (minN xs j)), (4, .i (j + 1 : Nat))]) (fun _ => True) ⟨trivial, by simp (maxSteps := 2000000) only [go_sem, Nat.reduceBEq, Nat.reduceAdd, Nat.reduceMul, Nat.reduceMod, Nat.reduceLT, Nat.reduceDiv, Nat.reduceSub, Nat.reduceLeDiff, Int.reduceToNat, Int.reduceLT, Int.reduceLE, reduceCtorEq]; simp [minN]⟩ fun j hj _ => ?_
 simp (maxSteps := 2000000) only [go_sem, Nat.reduceBEq, Nat.reduceAdd, Nat.reduceMul, Nat.reduceMod, Nat.reduceLT, Nat.reduceDiv, Nat.reduceSub, Nat.reduceLeDiff, Int.reduceToNat, Int.reduceLT, Int.reduceLE, reduceCtorEq]
 refine ⟨fun hlt => ?_, fun hge => ?_⟩
 ·have hj' : j + 1 < xs.length := by omega
  exact ⟨by omega, hj', hj', inR_of (by omega) (by omega), by omega, rfl, by simp⟩
 ·have : j = xs.length - 1 := by omega
  subst this
  rfl
theorem minN_le {xs : List Int} : ∀ {j i : Nat}, i ≤ j → minN xs j ≤ xs.getD i 0
 | 0, i, h => by obtain rfl : i = 0 := by omega
                 simp [minN]
 | j + 1, i, h => by
  simp only [minN]
  by_cases e : i = j + 1
  ·subst e; omega
  ·have := minN_le (xs := xs) (j := j) (i := i) (by omega); omega
theorem minN_mem {xs : List Int} : ∀ {j : Nat}, j < xs.length → minN xs j ∈ xs
 | 0, h => mem_getD' h
 | j + 1, h => by
  have := minN_mem (xs := xs) (j := j) (by omega)
  have h2 := mem_getD' h
  simp only [minN]
  rcases Int.le_total (minN xs j) (xs.getD (j + 1) 0) with h3 | h3
  ·rw [Int.min_eq_left h3]; exact this
  ·rw [Int.min_eq_right h3]; exact h2
theorem min_low {f : Int → Int} {a : Int} {xs : List Int} (h : Cyc f a xs) : (minN xs (xs.length - 1) = a) ↔ ∀ y ∈ xs, a ≤ y := by
 have hp := h.pos
 constructor
 ·intro e y hy
  obtain ⟨i, hi, rfl⟩ := mem_getD 0 hy
  rw [← e]; exact minN_le (by omega)
 ·intro h1
  have h2 := minN_mem (xs := xs) (j := xs.length - 1) (by omega)
  have h3 := minN_le (xs := xs) (j := xs.length - 1) (i := 0) (by omega)
  rw [h.hd] at h3
  have := h1 _ h2; omega
end Go.Proofs.Ytgdpplhbblapgaa
