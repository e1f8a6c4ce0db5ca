/- Own work: contracts of functions that the claim reaches. No condition beyond those that each theorem names. -/
import Derived.Test.YtkkhikpbnjbalaaProg
import Derived.Test.YtkkhikpbnjbalaaLraise
namespace Go.Proofs.Ytkkhikpbnjbalaa
open Go Go.Vc
set_option maxRecDepth 100000
set_option linter.unusedSimpArgs false
set_option linter.unusedVariables false
theorem impl_LeastRaises_ok {n1 n2 : Option Bool} (vs : List (List Int)) (l : List Int) (hl : vs.length ≤ 1048576) (hr : ∀ r ∈ vs, r.length ≤ 1048576) (hll : l.length ≤ 1048576) :
    CallOk Try.prog 30 [.s n1 (rr vs), .s n2 (ii l)] [(0, .tp 2), (100000, .own 1 none (ii (lrRes vs l).1)), (101000, .b (lrRes vs l).2)] := by
  obtain ⟨code0, hcd1, hcd2⟩ := chk_impl_LeastRaises; refine callOk_of Try.func30 hcd1 mo Try.call30 (rs := [4, 5]) (by kernel_rfl) hcd2 (by rw [Try.ntmps30]; simp) (by simp) (by decide) ?_; unfold C_impl_LeastRaises K_impl_LeastRaises; simp (config := { maxSteps := 2000000 }) only [go_sem, Nat.reduceBEq, Nat.reduceAdd, Nat.reduceMul, Nat.reduceMod, Nat.reduceLT, Nat.reduceDiv, Nat.reduceSub, Nat.reduceLeDiff, Int.reduceToNat, Int.reduceLT, Int.reduceLE, reduceCtorEq]
  refine ⟨_, impl_RentOk_ok vs hl hr, ?_⟩; simp (config := { maxSteps := 2000000 }) only [go_sem, Nat.reduceBEq, Nat.reduceAdd, Nat.reduceMul, Nat.reduceMod, Nat.reduceLT, Nat.reduceDiv, Nat.reduceSub, Nat.reduceLeDiff, Int.reduceToNat, Int.reduceLT, Int.reduceLE, reduceCtorEq]
  refine ⟨fun h0 => ?_, fun h0 => ?_⟩
  case refine_2 => simp [lrRes, chB, h0]
  refine ⟨_, impl_RankingOk_ok _ l hll, ?_⟩; simp (config := { maxSteps := 2000000 }) only [go_sem, Nat.reduceBEq, Nat.reduceAdd, Nat.reduceMul, Nat.reduceMod, Nat.reduceLT, Nat.reduceDiv, Nat.reduceSub, Nat.reduceLeDiff, Int.reduceToNat, Int.reduceLT, Int.reduceLE, reduceCtorEq]
  refine ⟨fun h1 => ?_, fun h1 => ?_⟩
  case refine_1 => simp [lrRes, chB, h0, h1]
  have R := rent_of h0
  have hrk := rank_len h1
  have n4 := R.n4
  refine ⟨by omega, by omega, inR_of (by omega) (by omega), ?_⟩
  refine loopN (vs.length + 1) (fun k => [(0, .t .arg (.s n1 (rr vs))), (1, .t .arg (.s n2 (ii l))), (6, .own 1 (some false) (ii (lrIt vs l vs.length k))), (27, .i (vs.length + 1)), (28, .i (k : Nat))]) (fun k => lrRes vs l = lrRun vs l vs.length k (vs.length + 1 - k)) ⟨by simp [lrRes, chB, h0, h1], by simp (config := { maxSteps := 2000000 }) only [go_sem, Nat.reduceBEq, Nat.reduceAdd, Nat.reduceMul, Nat.reduceMod, Nat.reduceLT, Nat.reduceDiv, Nat.reduceSub, Nat.reduceLeDiff, Int.reduceToNat, Int.reduceLT, Int.reduceLE, reduceCtorEq]; simp [lrIt, ii]⟩ fun k hk hI => ?_
  simp (config := { maxSteps := 2000000 }) only [go_sem, Nat.reduceBEq, Nat.reduceAdd, Nat.reduceMul, Nat.reduceMod, Nat.reduceLT, Nat.reduceDiv, Nat.reduceSub, Nat.reduceLeDiff, Int.reduceToNat, Int.reduceLT, Int.reduceLE, reduceCtorEq]
  refine ⟨fun hlt => ?_, fun hge => ?_⟩
  case refine_2 =>
    have : k = vs.length + 1 := by omega
    subst this
    rw [hI]; simp [lrRun, ii]
  refine loopN l.length (fun i => [(0, .t .arg (.s n1 (rr vs))), (1, .t .arg (.s n2 (ii l))), (6, .own 1 (some false) (ii (lrOut vs l vs.length (lrIt vs l vs.length k, false) i).1)), (7, .b (lrOut vs l vs.length (lrIt vs l vs.length k, false) i).2), (27, .i (vs.length + 1)), (28, .i (k : Nat)), (30, .t .arg (.s n2 (ii l))), (31, .i l.length), (32, .i (i : Nat))]) (fun _ => True) ⟨trivial, by simp (config := { maxSteps := 2000000 }) only [go_sem, Nat.reduceBEq, Nat.reduceAdd, Nat.reduceMul, Nat.reduceMod, Nat.reduceLT, Nat.reduceDiv, Nat.reduceSub, Nat.reduceLeDiff, Int.reduceToNat, Int.reduceLT, Int.reduceLE, reduceCtorEq]; simp [lrOut]⟩ fun i hi _ => ?_
  simp (config := { maxSteps := 2000000 }) only [go_sem, Nat.reduceBEq, Nat.reduceAdd, Nat.reduceMul, Nat.reduceMod, Nat.reduceLT, Nat.reduceDiv, Nat.reduceSub, Nat.reduceLeDiff, Int.reduceToNat, Int.reduceLT, Int.reduceLE, reduceCtorEq]
  have hO := lrOut_bd R h1 (s := (lrIt vs l vs.length k, false)) (lrIt_bd R h1 (k := k)) (i := i) (by omega)
  refine ⟨fun hlt2 => ?_, fun hge2 => ?_⟩
  case refine_2 =>
    have : i = vs.length := by omega
    subst this
    have hlast : vs.length + 1 - k = (vs.length + 1 - (k + 1)) + 1 := by omega
    refine ⟨fun h => ⟨by decide, ?_, ?_⟩, fun h => ⟨inR_of (by omega) (by omega), by omega, ?_, rfl, by simp⟩⟩
    · rw [hI, hlast]; simp [lrRun, h]; rfl
    · rw [hI, hlast]; simp [lrRun, h]
    · rw [hI, hlast]; simp [lrRun, h]
  have hi' : i < vs.length := by omega
  have hro := R.row i hi'
  have hrl := rank_lt h1 hi'
  refine ⟨by omega, by omega, by omega, ?_⟩
  refine loopN vs.length (fun x => [(0, .t .arg (.s n1 (rr vs))), (1, .t .arg (.s n2 (ii l))), (6, .own 1 (some false) (ii (lrIn vs l i (lrOut vs l vs.length (lrIt vs l vs.length k, false) i) x).1)), (7, .b (lrIn vs l i (lrOut vs l vs.length (lrIt vs l vs.length k, false) i) x).2), (8, .i i), (9, .i (l.getD i 0)), (27, .i (vs.length + 1)), (28, .i (k : Nat)), (30, .t .arg (.s n2 (ii l))), (31, .i l.length), (32, .i (i : Nat)), (38, .i vs.length), (39, .i (x : Nat))]) (fun _ => True) ⟨trivial, by simp (config := { maxSteps := 2000000 }) only [go_sem, Nat.reduceBEq, Nat.reduceAdd, Nat.reduceMul, Nat.reduceMod, Nat.reduceLT, Nat.reduceDiv, Nat.reduceSub, Nat.reduceLeDiff, Int.reduceToNat, Int.reduceLT, Int.reduceLE, reduceCtorEq]; simp [lrIn, hO.1]⟩ fun x hx _ => ?_
  simp (config := { maxSteps := 2000000 }) only [go_sem, Nat.reduceBEq, Nat.reduceAdd, Nat.reduceMul, Nat.reduceMod, Nat.reduceLT, Nat.reduceDiv, Nat.reduceSub, Nat.reduceLeDiff, Int.reduceToNat, Int.reduceLT, Int.reduceLE, reduceCtorEq]
  have hB := lrIn_bd R h1 hi' (s := lrOut vs l vs.length (lrIt vs l vs.length k, false) i) hO hx
  refine ⟨fun hlt3 => ?_, fun hge3 => ?_⟩
  case refine_2 =>
    have : x = vs.length := by omega
    subst this
    refine ⟨inR_of (by omega) (by omega), by omega, rfl, rfl, by simp⟩
  have hw := lrW_bd R h1 hi' (x := x) (by omega) hB
  have hv1 := R.bd i x hi' (by omega)
  have hv2 := R.bd i (l.getD i 0).toNat hi' hrl.1
  have hd1 := hB.2 x (by omega)
  have hd2 := hB.2 _ hrl.1
  have hBl := hB.1
  have hx' : x < vs.length := by omega
  simp only [hro, hBl]
  refine ⟨by omega, hrl.1, hrl.1, by omega, hi', hi', by omega, hx', hx', inR_of (by omega) (by omega), by omega, hi', hi', by omega, hrl.1, hrl.1, inR_of (by omega) (by omega), by omega, hx', hx', fun hc => ⟨by omega, hx', hx', inR_of (by omega) (by omega), hx', ?_, ?_, by simp⟩, fun hc => ⟨inR_of (by omega) (by omega), hx', ?_, ?_, by simp⟩⟩
  · exact (congrArg Prod.fst (lrStep_pos (vs := vs) (l := l) (i := i) hc)).symm
  · exact (congrArg Prod.snd (lrStep_pos (vs := vs) (l := l) (i := i) hc)).symm
  · exact (congrArg Prod.fst (lrStep_neg (vs := vs) (l := l) (i := i) hc)).symm
  · exact (congrArg Prod.snd (lrStep_neg (vs := vs) (l := l) (i := i) hc)).symm
theorem spec_LeastRaises_ok {n1 n2 : Option Bool} (vs : List (List Int)) (l : List Int) (hl : vs.length ≤ 1048576) (hr : ∀ r ∈ vs, r.length ≤ 1048576) (hll : l.length ≤ 1048576) :
    CallOk Try.prog 29 [.s n1 (rr vs), .s n2 (ii l)] [(0, .tp 2), (100000, .own 1 none (ii (lrRes vs l).1)), (101000, .b (lrRes vs l).2)] := by
  obtain ⟨code0, hcd1, hcd2⟩ := chk_spec_LeastRaises; refine callOk_of Try.func29 hcd1 mo Try.call29 (rs := [4, 5]) (by kernel_rfl) hcd2 (by rw [Try.ntmps29]; simp) (by simp) (by decide) ?_; unfold C_spec_LeastRaises K_spec_LeastRaises; simp (config := { maxSteps := 2000000 }) only [go_sem, Nat.reduceBEq, Nat.reduceAdd, Nat.reduceMul, Nat.reduceMod, Nat.reduceLT, Nat.reduceDiv, Nat.reduceSub, Nat.reduceLeDiff, Int.reduceToNat, Int.reduceLT, Int.reduceLE, reduceCtorEq]
  refine ⟨_, spec_l25Ok_ok vs l hl hr hll, ?_⟩; simp (config := { maxSteps := 2000000 }) only [go_sem, Nat.reduceBEq, Nat.reduceAdd, Nat.reduceMul, Nat.reduceMod, Nat.reduceLT, Nat.reduceDiv, Nat.reduceSub, Nat.reduceLeDiff, Int.reduceToNat, Int.reduceLT, Int.reduceLE, reduceCtorEq]
  refine ⟨fun h => ?_, fun h => ?_⟩
  case refine_1 => simp [lrRes, h]
  obtain ⟨R, h1⟩ := ch_rent h
  have hrk := rank_len h1
  have hlv : l.length = vs.length := by omega
  have n4 := R.n4
  refine ⟨by omega, by omega, ?_⟩
  refine loopN (vs.length + 1) (fun k => [(0, .t .arg (.s n1 (rr vs))), (1, .t .arg (.s n2 (ii l))), (6, .own 1 (some false) (ii (lrIt vs l vs.length k))), (7, .i (k : Nat))]) (fun k => lrRes vs l = lrRun vs l vs.length k (vs.length + 1 - k)) ⟨by simp [lrRes, h], by simp (config := { maxSteps := 2000000 }) only [go_sem, Nat.reduceBEq, Nat.reduceAdd, Nat.reduceMul, Nat.reduceMod, Nat.reduceLT, Nat.reduceDiv, Nat.reduceSub, Nat.reduceLeDiff, Int.reduceToNat, Int.reduceLT, Int.reduceLE, reduceCtorEq]; simp [lrIt, ii, hlv]⟩ fun k hk hI => ?_
  simp (config := { maxSteps := 2000000 }) only [go_sem, Nat.reduceBEq, Nat.reduceAdd, Nat.reduceMul, Nat.reduceMod, Nat.reduceLT, Nat.reduceDiv, Nat.reduceSub, Nat.reduceLeDiff, Int.reduceToNat, Int.reduceLT, Int.reduceLE, reduceCtorEq]
  refine ⟨fun hlt => ?_, fun hge => ?_⟩
  case refine_2 =>
    have : k = vs.length + 1 := by omega
    subst this
    rw [hI]; simp [lrRun, ii]
  refine loopN l.length (fun i => [(0, .t .arg (.s n1 (rr vs))), (1, .t .arg (.s n2 (ii l))), (6, .own 1 (some false) (ii (lrOut vs l vs.length (lrIt vs l vs.length k, false) i).1)), (8, .b (lrOut vs l vs.length (lrIt vs l vs.length k, false) i).2), (7, .i (k : Nat)), (26, .t .arg (.s n2 (ii l))), (27, .i l.length), (28, .i (i : Nat))]) (fun _ => True) ⟨trivial, by simp (config := { maxSteps := 2000000 }) only [go_sem, Nat.reduceBEq, Nat.reduceAdd, Nat.reduceMul, Nat.reduceMod, Nat.reduceLT, Nat.reduceDiv, Nat.reduceSub, Nat.reduceLeDiff, Int.reduceToNat, Int.reduceLT, Int.reduceLE, reduceCtorEq]; simp [lrOut]⟩ fun i hi _ => ?_
  simp (config := { maxSteps := 2000000 }) only [go_sem, Nat.reduceBEq, Nat.reduceAdd, Nat.reduceMul, Nat.reduceMod, Nat.reduceLT, Nat.reduceDiv, Nat.reduceSub, Nat.reduceLeDiff, Int.reduceToNat, Int.reduceLT, Int.reduceLE, reduceCtorEq]
  have hO := lrOut_bd R h1 (s := (lrIt vs l vs.length k, false)) (lrIt_bd R h1 (k := k)) (i := i) (by omega)
  refine ⟨fun hlt2 => ?_, fun hge2 => ?_⟩
  case refine_2 =>
    have : i = vs.length := by omega
    subst this
    have hlast : vs.length + 1 - k = (vs.length + 1 - (k + 1)) + 1 := by omega
    refine ⟨fun h => ⟨by decide, ?_, ?_⟩, fun h => ⟨inR_of (by omega) (by omega), by omega, ?_, rfl, by simp⟩⟩
    · rw [hI, hlast]; simp [lrRun, h]; rfl
    · rw [hI, hlast]; simp [lrRun, h]
    · rw [hI, hlast]; simp [lrRun, h]
  have hi' : i < vs.length := by omega
  have hro := R.row i hi'
  have hrl := rank_lt h1 hi'
  refine ⟨by omega, by omega, by omega, ?_⟩
  refine loopN vs.length (fun x => [(0, .t .arg (.s n1 (rr vs))), (1, .t .arg (.s n2 (ii l))), (6, .own 1 (some false) (ii (lrIn vs l i (lrOut vs l vs.length (lrIt vs l vs.length k, false) i) x).1)), (8, .b (lrIn vs l i (lrOut vs l vs.length (lrIt vs l vs.length k, false) i) x).2), (9, .i i), (10, .i (l.getD i 0)), (7, .i (k : Nat)), (26, .t .arg (.s n2 (ii l))), (27, .i l.length), (28, .i (i : Nat)), (34, .i l.length), (35, .i (x : Nat))]) (fun _ => True) ⟨trivial, by simp (config := { maxSteps := 2000000 }) only [go_sem, Nat.reduceBEq, Nat.reduceAdd, Nat.reduceMul, Nat.reduceMod, Nat.reduceLT, Nat.reduceDiv, Nat.reduceSub, Nat.reduceLeDiff, Int.reduceToNat, Int.reduceLT, Int.reduceLE, reduceCtorEq]; simp [lrIn, hO.1]; try omega⟩ fun x hx _ => ?_
  simp (config := { maxSteps := 2000000 }) only [go_sem, Nat.reduceBEq, Nat.reduceAdd, Nat.reduceMul, Nat.reduceMod, Nat.reduceLT, Nat.reduceDiv, Nat.reduceSub, Nat.reduceLeDiff, Int.reduceToNat, Int.reduceLT, Int.reduceLE, reduceCtorEq]
  have hB := lrIn_bd R h1 hi' (s := lrOut vs l vs.length (lrIt vs l vs.length k, false) i) hO hx
  refine ⟨fun hlt3 => ?_, fun hge3 => ?_⟩
  case refine_2 =>
    have : x = vs.length := by omega
    subst this
    refine ⟨inR_of (by omega) (by omega), by omega, rfl, rfl, by simp⟩
  have hw := lrW_bd R h1 hi' (x := x) (by omega) hB
  have hv1 := R.bd i x hi' (by omega)
  have hv2 := R.bd i (l.getD i 0).toNat hi' hrl.1
  have hd1 := hB.2 x (by omega)
  have hd2 := hB.2 _ hrl.1
  have hBl := hB.1
  have hx' : x < vs.length := by omega
  simp only [hro, hBl]
  refine ⟨by omega, hrl.1, hrl.1, by omega, hi', hi', by omega, hx', hx', inR_of (by omega) (by omega), by omega, hi', hi', by omega, hrl.1, hrl.1, inR_of (by omega) (by omega), by omega, hx', hx', fun hc => ⟨by omega, hx', hx', inR_of (by omega) (by omega), hx', ?_, ?_, by simp⟩, fun hc => ⟨inR_of (by omega) (by omega), hx', ?_, ?_, by simp⟩⟩
  · exact (congrArg Prod.fst (lrStep_pos (vs := vs) (l := l) (i := i) hc)).symm
  · exact (congrArg Prod.snd (lrStep_pos (vs := vs) (l := l) (i := i) hc)).symm
  · exact (congrArg Prod.fst (lrStep_neg (vs := vs) (l := l) (i := i) hc)).symm
  · exact (congrArg Prod.snd (lrStep_neg (vs := vs) (l := l) (i := i) hc)).symm
theorem lrRun_len {vs : List (List Int)} {l : List Int} {n : Nat} (R : Rent vs n) (h : rankB n l = true) : ∀ {m k : Nat}, (lrRun vs l n k m).1.length ≤ n
  | 0, k => by simp [lrRun]
  | m + 1, k => by
    unfold lrRun
    split
    · exact lrRun_len R h
    · rw [(lrIt_bd R h (k := k + 1)).1]; exact Nat.le_refl n
theorem lr_len {vs : List (List Int)} {l : List Int} (hl : vs.length ≤ 1048576) : (lrRes vs l).1.length ≤ 1048576 := by
  unfold lrRes
  split
  · rename_i h
    obtain ⟨R, h1⟩ := ch_rent h
    exact Nat.le_trans (lrRun_len R h1) hl
  · simp

end Go.Proofs.Ytkkhikpbnjbalaa
