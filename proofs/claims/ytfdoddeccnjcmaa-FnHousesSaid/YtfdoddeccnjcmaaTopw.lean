/- Own work: contracts of functions that the claim reaches. No condition beyond those that each theorem names. -/
import Derived.Test.YtfdoddeccnjcmaaProg
import Derived.Test.YtfdoddeccnjcmaaTops
import Derived.Test.YtfdoddeccnjcmaaSerial
import Derived.Test.YtfdoddeccnjcmaaMarks
import Derived.Test.YtfdoddeccnjcmaaPth
namespace Go.Proofs.Ytfdoddeccnjcmaa
open Go Go.Vc
set_option maxRecDepth 100000
set_option linter.unusedSimpArgs false
set_option linter.unusedVariables false
def K_impl_pointingCycle : List Nat := [0, 1, 2, 6, 7, 8]
def C_impl_pointingCycle : C :=
  let ks := K_impl_pointingCycle
  (.seq
   (.rg 0 [(none, .mkn 6)])
   (.cl ks (.seq
   (.rg 0 [(none, .mkn 7)])
   (.cl ks (.seq
   (.seq
   (.rg 0 [(none, .v 9 .mv [.s 2]), (none, .tk 8 9)])
   (.cl ks (.block 0
   (.loop
   (.seq
   (.seq
   (.rg 0 [(none, .v 10 .mv [.s 7]), (none, .v 11 .mv [.s 8]), (none, .co 12 104 [.s 10, .s 11]), (none, .v 13 .not [.s 12])])
   (.cond (.s 13)
   .skip
   (.exit 0)))
   (.cl ks (.block 1
   (.seq
   (.rg 0 [(none, .v 14 .mv [.s 7]), (none, .v 15 .mv [.s 8]), (none, .lit 16 [.s 15] 0), (none, .app 17 (.s 14) (.s 16) 0), (none, .tk 7 17)])
   (.cl ks (.seq
   (.rg 0 [(none, .v 18 .mv [.s 0]), (none, .v 19 .mv [.s 8]), (none, .v 20 .idx [.s 18, .s 19]), (none, .v 21 .ld [.s 20]), (none, .v 22 .mv [.s 1]), (none, .co 23 92 [.s 21, .s 22]), (none, .tk 8 23)])
   (.cl ks (.seq
   (.rg 0 [(none, .v 24 .mv [.s 8]), (none, .v 25 .mv [.s 2]), (none, .v 26 (.bin .eql) [.s 24, .s 25])])
   (.cond (.s 26)
   (.seq
   (.rg 0 [(none, .v 27 .mv [.s 7]), (none, .tk 6 27)])
   .ret)
   .skip)))))))))))))
   (.cl ks (.seq
   (.rg 0 [(none, .mkn 6)])
   .ret)))))))

theorem chk_impl_pointingCycle : ∃ b, Try.f101.body = some b ∧ chk Try.prog Try.f101.ntmps true C_impl_pointingCycle b = true := ⟨_, rfl, by kernel_rfl⟩
/- spec_l22Cycle: not in this cut -/
def K_impl_TopCycles_1 : List Nat := [0, 1, 3]
def C_impl_TopCycles_1 : C :=
  let ks := K_impl_TopCycles_1
  (.seq
   (.rg 0 [(none, .v 3 .mv [.k (.b false)])])
   (.cl ks (.seq
   (.rg 0 [(none, .v 4 .ld [.s 1]), (none, .v 5 .mv [.s 0]), (none, .co 6 104 [.s 4, .s 5]), (none, .tk 3 6)])
   .ret)))

theorem chk_impl_TopCycles_1 : ∃ b, Try.f103.body = some b ∧ chk Try.prog Try.f103.ntmps true C_impl_TopCycles_1 b = true := ⟨_, rfl, by kernel_rfl⟩
def K_impl_TopCycles : List Nat := [0, 2, 3, 4, 5, 7, 8, 18, 19, 20, 1005]
def C_impl_TopCycles : C :=
  let ks := K_impl_TopCycles
  (.seq
   (.rg 0 [(none, .mkn 2)])
   (.cl ks (.seq
   (.seq
   (.rg 0 [(none, .v 9 .mv [.s 0]), (none, .co 10 44 [.s 9]), (none, .v 11 .not [.s 10])])
   (.cond (.s 11)
   (.seq
   (.rg 0 [(none, .mkn 2)])
   .ret)
   .skip))
   (.cl ks (.seq
   (.rg 0 [(none, .v 12 .mv [.s 0]), (none, .v 13 .len [.s 12]), (none, .co 14 91 [.s 13]), (none, .tk 3 14)])
   (.cl ks (.seq
   (.rg 0 [(none, .mkn 4)])
   (.cl ks (.seq
   (.block 0
   (.loop
   (.seq
   (.seq
   (.rg 0 [(none, .v 15 .mv [.s 3]), (none, .v 16 .len [.s 15]), (none, .v 17 (.bin .gtr) [.s 16, .k (.i 0)])])
   (.cond (.s 17)
   .skip
   (.exit 0)))
   (.cl ks (.block 1
   (.seq
   (.rg 0 [(none, .new 5 [.s (some true) []])])
   (.cl ks (.seq
   (.seq
   (.rg 0 [(none, .onl 1005), (none, .v 18 .mv [.s 3]), (none, .v 19 .len [.s 18]), (none, .v 20 .mv [.k (.i 0)])])
   (.cl ks (.block 2
   (.loop
   (.seq
   (.rg 0 [(none, .v 21 (.bin .lss) [.s 20, .s 19])])
   (.seq
   (.cond (.s 21)
   .skip
   (.exit 2))
   (.cl ks (.seq
   (.block 3
   (.seq
   (.rg 0 [(none, .v 22 .idx [.s 18, .s 20]), (none, .v 23 .ld [.s 22]), (none, .tk 7 23)])
   (.cl ks (.seq
   (.rg 0 [(none, .v 24 .mv [.s 0]), (none, .v 25 .mv [.s 3]), (none, .v 26 .mv [.s 7]), (none, .co 27 101 [.s 24, .s 25, .s 26]), (none, .tk 8 27)])
   (.cl ks (.seq
   (.rg 0 [(none, .v 28 .mv [.s 8]), (none, .v 29 .nnil [.s 28]), (none, .v 30 .mv [.s 29]), (some (30, true), .v 31 .mv [.s 8]), (some (30, true), .co 32 102 [.s 31]), (some (30, true), .v 33 .mv [.s 7]), (some (30, true), .v 34 (.bin .eql) [.s 32, .s 33]), (none, .v 35 .pick [.s 30, .s 34, .k (.b false)])])
   (.cond (.s 35)
   (.seq
   (.rg 0 [(none, .v 36 .mv [.s 4]), (none, .v 37 .mv [.s 8]), (none, .lit 38 [.s 37] 1), (none, .app 39 (.s 36) (.s 38) 1), (none, .tk 4 39)])
   (.cl ks (.rg 0 [(none, .v 40 .ld [.s 5]), (none, .v 41 .mv [.s 8]), (none, .app 42 (.s 40) (.s 41) 0), (none, .st (.s 5) (.s 42))])))
   .skip)))))))
   (.cl ks (.rg 0 [(none, .v 43 (.bin .add) [.s 20, .k (.i 1)]), (none, .v 20 .mv [.s 43])]))))))))))
   (.cl ks (.rg 0 [(none, .v 44 .mv [.s 3]), (none, .v 45 (.clo 103) [.s 5]), (none, .coc 46 93 [.s 44, .s 45] [0]), (none, .tk 3 46)]))))))))))
   (.cl ks (.seq
   (.rg 0 [(none, .v 47 .mv [.s 4]), (none, .tk 2 47)])
   .ret)))))))))))

theorem chk_impl_TopCycles : ∃ b, Try.f41.body = some b ∧ chk Try.prog Try.f41.ntmps true C_impl_TopCycles b = true := ⟨_, rfl, by kernel_rfl⟩
/- spec_TopCycles: not in this cut -/
theorem impl_pointingCycle_ok {n1 n2 : Option Bool} (ls : List (List Int)) (S : List Int) (a : Int) (H : Hs ls ls.length) (hS : Lf ls.length S) (ha : a ∈ S) : CallOk Try.prog 101 [.s n1 (rr ls), .s n2 (ii S), .i a]
    [(0, .own 1 (some (decide (cycG (topI ls S) a ls.length [a] = []))) (ii (cycG (topI ls S) a ls.length [a])))] := by
  have hf : ∀ x ∈ S, topI ls S x ∈ S := fun x hx => (top_in H hS hx).2.2
  have n5 := H.n5
  have hSl := hS.len
  obtain ⟨code0, hcd1, hcd2⟩ := chk_impl_pointingCycle; refine callOk_of Try.func101 hcd1 mo Try.call101 (rs := [6]) (by kernel_rfl) hcd2 (by rw [Try.ntmps101]; simp) (by simp) (by decide) ?_; unfold C_impl_pointingCycle K_impl_pointingCycle; simp (config := { maxSteps := 2000000 }) only [go_sem, Nat.reduceBEq, Nat.reduceAdd, Nat.reduceMul, Nat.reduceMod, Nat.reduceLT, Nat.reduceDiv, Nat.reduceSub, Nat.reduceLeDiff, Int.reduceToNat, Int.reduceLT, Int.reduceLE, reduceCtorEq, List.take_nil, List.drop_nil]
  refine loopN ls.length (fun j => [(0, .t .arg (.s n1 (rr ls))), (1, .t .arg (.s n2 (ii S))), (2, .i a), (7, .own 1 none (ii (pthL (topI ls S) a j))), (8, .i (itI (topI ls S) a j))]) (fun j => (pthL (topI ls S) a j).Nodup ∧ (0 < j → itI (topI ls S) a j ≠ a ∧ cycG (topI ls S) a (ls.length + 1 - j) (pthL (topI ls S) a j) = cycG (topI ls S) a ls.length [a])) ⟨⟨by simp [pthL], by simp⟩, by simp (config := { maxSteps := 2000000 }) only [go_sem, Nat.reduceBEq, Nat.reduceAdd, Nat.reduceMul, Nat.reduceMod, Nat.reduceLT, Nat.reduceDiv, Nat.reduceSub, Nat.reduceLeDiff, Int.reduceToNat, Int.reduceLT, Int.reduceLE, reduceCtorEq, List.take_nil, List.drop_nil]; simp [pthL, itI]⟩ fun j hj hI => ?_
  obtain ⟨hnd, hI⟩ := hI
  simp (config := { maxSteps := 2000000 }) only [go_sem, Nat.reduceBEq, Nat.reduceAdd, Nat.reduceMul, Nat.reduceMod, Nat.reduceLT, Nat.reduceDiv, Nat.reduceSub, Nat.reduceLeDiff, Int.reduceToNat, Int.reduceLT, Int.reduceLE, reduceCtorEq, List.take_nil, List.drop_nil]
  refine ⟨_, ContainsI (pthL (topI ls S) a j) (itI (topI ls S) a j) (by rw [pthL_len]; omega), ?_⟩; simp (config := { maxSteps := 2000000 }) only [go_sem, Nat.reduceBEq, Nat.reduceAdd, Nat.reduceMul, Nat.reduceMod, Nat.reduceLT, Nat.reduceDiv, Nat.reduceSub, Nat.reduceLeDiff, Int.reduceToNat, Int.reduceLT, Int.reduceLE, reduceCtorEq, List.take_nil, List.drop_nil]
  have hmem : inL (pthL (topI ls S) a j) (itI (topI ls S) a j) = true ↔ _ := inL_iff
  refine ⟨fun hc => ?_, fun hc => ?_⟩
  · have hc : itI (topI ls S) a j ∉ pthL (topI ls S) a j := fun h => by have h1 := hmem.2 h; unfold inL at h1; rw [h1] at hc; cases hc
    have hnd' := pthL_nd hnd hc
    have hle := pthL_le hf ha hnd'
    have hin : itI (topI ls S) a j ∈ S := itI_in hf ha
    have hb := hS.bd _ hin
    have ht := top_in H hS hin
    have hrk := H.rk (itI (topI ls S) a j).toNat (by omega)
    have hrl := rank_len hrk
    have hC : cycG (topI ls S) a (ls.length - j - 1 + 1) (pthL (topI ls S) a (j + 1)) = cycG (topI ls S) a ls.length [a] := by
      cases j with
      | zero => rw [pthL_1]; congr 1; omega
      | succ j =>
        obtain ⟨h1, h2⟩ := hI (by omega)
        rw [← h2, show ls.length + 1 - (j + 1) = (ls.length - (j + 1) - 1 + 1) + 1 by omega, cyc_on h1 hc]
    have hpl := pthL_len (f := topI ls S) (a := a) (j := j)
    refine ⟨by omega, by omega, by omega, by omega, ?_⟩
    refine ⟨_, impl_firstOfLeft_ok (ls.getD (itI (topI ls S) a j).toNat []) S (by omega) (by omega) ⟨ht.1, ht.2.1⟩, ?_⟩; simp (config := { maxSteps := 2000000 }) only [go_sem, Nat.reduceBEq, Nat.reduceAdd, Nat.reduceMul, Nat.reduceMod, Nat.reduceLT, Nat.reduceDiv, Nat.reduceSub, Nat.reduceLeDiff, Int.reduceToNat, Int.reduceLT, Int.reduceLE, reduceCtorEq, List.take_nil, List.drop_nil]
    refine ⟨fun he => ?_, fun he => ?_⟩
    · have e : cycG (topI ls S) a ls.length [a] = pthL (topI ls S) a (j + 1) := by
        rw [← hC]; exact cyc_hit he
      rw [e]; simp [pthL_s]
    · refine ⟨by omega, ⟨hnd', fun _ => ⟨he, ?_⟩⟩, pthL_s.symm, rfl⟩
      rw [← hC, show ls.length + 1 - (j + 1) = ls.length - j - 1 + 1 by omega]
  · have hc : itI (topI ls S) a j ∈ pthL (topI ls S) a j := hmem.1 hc
    cases j with
    | zero => simp [pthL] at hc
    | succ j =>
      obtain ⟨h1, h2⟩ := hI (by omega)
      have e : cycG (topI ls S) a ls.length [a] = [] := by
        rw [← h2, show ls.length + 1 - (j + 1) = (ls.length - j - 1) + 1 by omega]; exact cyc_rep h1 hc
      rw [e]; simp
theorem impl_TopCycles1_ok {n1 : Option Bool} (x : Int) (gone : List Int) (hl : gone.length ≤ 1048576) : CallOk Try.prog 103 [.i x, .q [.s n1 (ii gone)] 0] [(0, .b (inL gone x))] := by
  obtain ⟨code0, hcd1, hcd2⟩ := chk_impl_TopCycles_1; refine callOk_of Try.func103 hcd1 mo Try.call103 (rs := [3]) (by kernel_rfl) hcd2 (by rw [Try.ntmps103]; simp) (by simp) (by decide) ?_; unfold C_impl_TopCycles_1 K_impl_TopCycles_1; simp (config := { maxSteps := 2000000 }) only [go_sem, Nat.reduceBEq, Nat.reduceAdd, Nat.reduceMul, Nat.reduceMod, Nat.reduceLT, Nat.reduceDiv, Nat.reduceSub, Nat.reduceLeDiff, Int.reduceToNat, Int.reduceLT, Int.reduceLE, reduceCtorEq, List.take_nil, List.drop_nil]
  refine ⟨_, ContainsI gone x hl, ?_⟩; simp (config := { maxSteps := 2000000 }) only [go_sem, Nat.reduceBEq, Nat.reduceAdd, Nat.reduceMul, Nat.reduceMod, Nat.reduceLT, Nat.reduceDiv, Nat.reduceSub, Nat.reduceLeDiff, Int.reduceToNat, Int.reduceLT, Int.reduceLE, reduceCtorEq, List.take_nil, List.drop_nil]
  trivial
theorem rndK_len {ls : List (List Int)} {S : List Int} : ∀ {t : Nat}, t ≤ S.length → (rndK ls S t).length ≤ t
  | 0, _ => by simp [rndK]
  | t + 1, h => by
    have ih := rndK_len (ls := ls) (S := S) (t := t) (by omega)
    rw [rndK_s (by omega), List.length_append]
    unfold rowC; split
    · simp; omega
    · simp; omega
theorem tcS_rows {ls : List (List Int)} : ∀ {j : Nat}, (tcS ls j).2.length ≤ j * ls.length
  | 0 => by simp [tcS]
  | j + 1 => by
    have ih := tcS_rows (ls := ls) (j := j)
    have h1 := rndK_len (ls := ls) (Nat.le_refl (tcS ls j).1.length)
    have h2 := (tcS_lf (ls := ls) (j := j)).len
    simp only [tcS, List.length_append, rndS, Nat.succ_mul]; omega
theorem impl_TopCycles_ok {n1 : Option Bool} (ls : List (List Int)) (hl : ls.length ≤ 1048576) (hr : ∀ r ∈ ls, r.length ≤ 1048576) : CallOk Try.prog 41 [.s n1 (rr ls)] [(0, .own 1 none (rr (topsF ls)))] := by
  obtain ⟨code0, hcd1, hcd2⟩ := chk_impl_TopCycles; refine callOk_of Try.func41 hcd1 mo Try.call41 (rs := [2]) (by kernel_rfl) hcd2 (by rw [Try.ntmps41]; simp) (by simp) (by decide) ?_; unfold C_impl_TopCycles K_impl_TopCycles; simp (config := { maxSteps := 2000000 }) only [go_sem, Nat.reduceBEq, Nat.reduceAdd, Nat.reduceMul, Nat.reduceMod, Nat.reduceLT, Nat.reduceDiv, Nat.reduceSub, Nat.reduceLeDiff, Int.reduceToNat, Int.reduceLT, Int.reduceLE, reduceCtorEq, List.take_nil, List.drop_nil]
  refine ⟨_, impl_HousesOk_ok ls hl hr, ?_⟩; simp (config := { maxSteps := 2000000 }) only [go_sem, Nat.reduceBEq, Nat.reduceAdd, Nat.reduceMul, Nat.reduceMod, Nat.reduceLT, Nat.reduceDiv, Nat.reduceSub, Nat.reduceLeDiff, Int.reduceToNat, Int.reduceLT, Int.reduceLE, reduceCtorEq, List.take_nil, List.drop_nil]
  refine ⟨fun h0 => by simp [topsF, h0], fun h0 => ?_⟩
  have H := hs_of h0
  have n5 := H.n5
  have hF : topsF ls = (tcS ls ls.length).2 := if_pos h0
  rw [hF]
  refine ⟨_, indices_ok (ls.length : Int) (by omega) (by omega), ?_⟩; simp (config := { maxSteps := 2000000 }) only [go_sem, Nat.reduceBEq, Nat.reduceAdd, Nat.reduceMul, Nat.reduceMod, Nat.reduceLT, Nat.reduceDiv, Nat.reduceSub, Nat.reduceLeDiff, Int.reduceToNat, Int.reduceLT, Int.reduceLE, reduceCtorEq, List.take_nil, List.drop_nil]
  refine loopN ls.length (fun j => [(0, .t .arg (.s n1 (rr ls))), (3, .own 1 none (ii (tcS ls j).1)), (4, .own 1 none (rr (tcS ls j).2))]) (fun _ => True) ⟨trivial, by simp (config := { maxSteps := 2000000 }) only [go_sem, Nat.reduceBEq, Nat.reduceAdd, Nat.reduceMul, Nat.reduceMod, Nat.reduceLT, Nat.reduceDiv, Nat.reduceSub, Nat.reduceLeDiff, Int.reduceToNat, Int.reduceLT, Int.reduceLE, reduceCtorEq, List.take_nil, List.drop_nil]; simp [tcS]⟩ fun j hj _ => ?_
  have hS := tcS_lf (ls := ls) (j := j)
  have hSl := hS.len
  have hdn := tcS_down H (j := j)
  have hrows := tcS_rows (ls := ls) (j := j)
  have hrows5 : j * ls.length ≤ 5 * 5 := Nat.mul_le_mul (by omega) n5
  simp (config := { maxSteps := 2000000 }) only [go_sem, Nat.reduceBEq, Nat.reduceAdd, Nat.reduceMul, Nat.reduceMod, Nat.reduceLT, Nat.reduceDiv, Nat.reduceSub, Nat.reduceLeDiff, Int.reduceToNat, Int.reduceLT, Int.reduceLE, reduceCtorEq, List.take_nil, List.drop_nil]
  refine ⟨fun hlt => ?_, fun hge => ?_⟩
  · have hpos : 0 < (tcS ls j).1.length := by omega
    refine loopN (tcS ls j).1.length (fun t => [(0, .t .arg (.s n1 (rr ls))), (3, .own 1 none (ii (tcS ls j).1)), (4, .own 1 none (rr ((tcS ls j).2 ++ rndK ls (tcS ls j).1 t))), (5, .bx 1), (1005, .own 1 none (ii (rndK ls (tcS ls j).1 t).flatten)), (18, .al 3), (19, .i (tcS ls j).1.length), (20, .i (t : Nat))]) (fun _ => True) ⟨trivial, by simp (config := { maxSteps := 2000000 }) only [go_sem, Nat.reduceBEq, Nat.reduceAdd, Nat.reduceMul, Nat.reduceMod, Nat.reduceLT, Nat.reduceDiv, Nat.reduceSub, Nat.reduceLeDiff, Int.reduceToNat, Int.reduceLT, Int.reduceLE, reduceCtorEq, List.take_nil, List.drop_nil]; simp [rndK]⟩ fun t ht _ => ?_
    have hfl := flat_ok H hS ht
    have hrk := rndK_len (ls := ls) ht
    have hfll : (rndK ls (tcS ls j).1 t).flatten.length ≤ (tcS ls j).1.length := nodup_sub_len hfl.1 hfl.2
    simp (config := { maxSteps := 2000000 }) only [go_sem, Nat.reduceBEq, Nat.reduceAdd, Nat.reduceMul, Nat.reduceMod, Nat.reduceLT, Nat.reduceDiv, Nat.reduceSub, Nat.reduceLeDiff, Int.reduceToNat, Int.reduceLT, Int.reduceLE, reduceCtorEq, List.take_nil, List.drop_nil]
    refine ⟨fun hlt2 => ?_, fun hge2 => ?_⟩
    · have ht' : t < (tcS ls j).1.length := by omega
      have ha : (tcS ls j).1.getD t 0 ∈ (tcS ls j).1 := mem_getD' ht'
      have hrs := rndK_s (ls := ls) ht'
      have hrf := rnd_flat_s (ls := ls) ht'
      have hp := impl_pointingCycle_ok (n1 := n1) (n2 := none) ls (tcS ls j).1 ((tcS ls j).1.getD t 0) H hS ha
      have hlow : lowC (topI ls (tcS ls j).1) ls.length ((tcS ls j).1.getD t 0) = _ := lowC_eq
      have hcy := cycG_ok (f := topI ls (tcS ls j).1) (k := ls.length) (pth_one (a := (tcS ls j).1.getD t 0))
      have hcl : (cycG (topI ls (tcS ls j).1) ((tcS ls j).1.getD t 0) ls.length [(tcS ls j).1.getD t 0]).length ≤ (tcS ls j).1.length := by
        rcases hcy with e | e
        · rw [e]; simp
        · exact nodup_sub_len e.nd (pth_sub (fun x hx => (top_in H hS hx).2.2) e.toPth ha)
      unfold rowC at hrs
      revert hp hlow hcy hrs hrf hcl
      generalize lowC (topI ls (tcS ls j).1) ls.length ((tcS ls j).1.getD t 0) = L
      generalize cycG (topI ls (tcS ls j).1) ((tcS ls j).1.getD t 0) ls.length [(tcS ls j).1.getD t 0] = c
      intro hrs hrf hp hlow hcy hcl
      refine ⟨by omega, by omega, by omega, ?_⟩
      by_cases hc : c = []
      · subst hc
        have hL : L = [] := by rw [hlow]; simp [lowOf]
        subst hL
        simp only [decide_true] at hp
        refine ⟨_, hp, ?_⟩; simp (config := { maxSteps := 2000000 }) only [go_sem, Nat.reduceBEq, Nat.reduceAdd, Nat.reduceMul, Nat.reduceMod, Nat.reduceLT, Nat.reduceDiv, Nat.reduceSub, Nat.reduceLeDiff, Int.reduceToNat, Int.reduceLT, Int.reduceLE, reduceCtorEq, List.take_nil, List.drop_nil]
        rw [hrf, hrs]
        exact ⟨inR_of (by omega) (by omega), ht', by simp, by simp, by simp⟩
      · simp only [decide_eq_false hc] at hp
        have hC := hcy.resolve_left hc
        have hpc := hC.pos
        refine ⟨_, hp, ?_⟩; simp (config := { maxSteps := 2000000 }) only [go_sem, Nat.reduceBEq, Nat.reduceAdd, Nat.reduceMul, Nat.reduceMod, Nat.reduceLT, Nat.reduceDiv, Nat.reduceSub, Nat.reduceLeDiff, Int.reduceToNat, Int.reduceLT, Int.reduceLE, reduceCtorEq, List.take_nil, List.drop_nil]
        refine ⟨_, Min_ok c (by omega) hpc, ?_⟩; simp (config := { maxSteps := 2000000 }) only [go_sem, Nat.reduceBEq, Nat.reduceAdd, Nat.reduceMul, Nat.reduceMod, Nat.reduceLT, Nat.reduceDiv, Nat.reduceSub, Nat.reduceLeDiff, Int.reduceToNat, Int.reduceLT, Int.reduceLE, reduceCtorEq, List.take_nil, List.drop_nil]
        refine ⟨fun hm => ?_, fun hm => ?_⟩
        · have hL : L = c := by rw [hlow, lowOf, if_pos ⟨hc, (min_low hC).1 hm⟩]
          subst hL
          rw [if_neg hc] at hrs
          rw [hrf, hrs]
          exact ⟨by simp, by rw [List.length_append]; omega, by omega, inR_of (by omega) (by omega), ht', by simp, rfl, by simp⟩
        · have hL : L = [] := by rw [hlow, lowOf, if_neg fun h => hm ((min_low hC).2 h.2)]
          subst hL
          rw [hrf, hrs]
          exact ⟨inR_of (by omega) (by omega), ht', by simp, by simp, by simp⟩
    · have : t = (tcS ls j).1.length := by omega
      subst this
      have hlen := tcS_len H (j := j)
      have hsome := rnd_some H hS (fun e => by rw [e] at hpos; simp at hpos)
      refine ⟨_, DeleteFunc_ok (tcS ls j).1 103 [.q [.s none (ii (rndK ls (tcS ls j).1 (tcS ls j).1.length).flatten)] 0] (fun x => inL (rndK ls (tcS ls j).1 (tcS ls j).1.length).flatten x) (fun x _ => impl_TopCycles1_ok x _ (by omega)) (by omega), ?_⟩; simp (config := { maxSteps := 2000000 }) only [go_sem, Nat.reduceBEq, Nat.reduceAdd, Nat.reduceMul, Nat.reduceMod, Nat.reduceLT, Nat.reduceDiv, Nat.reduceSub, Nat.reduceLeDiff, Int.reduceToNat, Int.reduceLT, Int.reduceLE, reduceCtorEq, List.take_nil, List.drop_nil]
      exact ⟨by omega, rfl, rfl⟩
  · exact tops_at H (List.eq_nil_of_length_eq_zero (by omega))
/-- Those of S that are not in D. -/
def cutS (S D : List Int) : List Int := S.filter fun x => !inL D x
theorem cutS_s {S D : List Int} {x : Int} : (cutS S D).filter (fun y => !decide (y = x)) = cutS S (D ++ [x]) := by
  unfold cutS
  rw [List.filter_filter]
  apply List.filter_congr
  intro y _
  simp only [inL, List.any_append, List.any_cons, List.any_nil, Bool.or_false, Bool.not_or]
  rw [Bool.and_comm]
theorem lB_cut {S D : List Int} {n : Nat} {x : Int} (h0 : 0 ≤ x) (h1 : x < n) : (lB (cutS S D) n).set x.toNat false = lB (cutS S (D ++ [x])) n := by
  have := lB_set (left := cutS S D) (n := n) (x := x.toNat) (by omega)
  rw [Int.toNat_of_nonneg h0, cutS_s] at this; exact this
def rndQ (ls : List (List Int)) (S : List Int) (i : Nat) : List (List Int) := (upto i).flatMap fun a => if inL S a = true then rowC ls S a else []
theorem rndQ_s {ls : List (List Int)} {S : List Int} {i : Nat} : rndQ ls S (i + 1) = rndQ ls S i ++ if inL S (i : Int) = true then rowC ls S (i : Int) else [] := by
  simp [rndQ, upto, List.range_succ]
theorem rndQ_all {ls : List (List Int)} {S : List Int} {n : Nat} (h : Lf n S) : rndQ ls S n = rndS ls S := by
  have key : ∀ (xs : List Int) (p : Int → Bool) (g : Int → List (List Int)), (xs.flatMap fun a => if p a = true then g a else []) = (xs.filter p).flatMap g := by
    intro xs p g
    induction xs with
    | nil => rfl
    | cons x xs ih =>
      simp only [List.flatMap_cons, ih, List.filter_cons]
      by_cases hp : p x = true
      · rw [if_pos hp, if_pos hp, List.flatMap_cons]
      · rw [if_neg hp, if_neg hp, List.nil_append]
  unfold rndQ rndS rndK
  rw [key, ← h.up, List.take_length]
theorem rndQ_len {ls : List (List Int)} {S : List Int} : ∀ {i : Nat}, (rndQ ls S i).length ≤ i
  | 0 => by simp [rndQ, upto]
  | i + 1 => by
    have ih := rndQ_len (ls := ls) (S := S) (i := i)
    rw [rndQ_s, List.length_append]
    unfold rowC
    split <;> (try split) <;> simp <;> omega
end Go.Proofs.Ytfdoddeccnjcmaa
