/- Own work: contracts of functions that the claim reaches. No condition beyond those that each theorem names. -/
import Derived.Test.YtelblnfnfeoapaaProg
import Derived.Test.YtelblnfnfeoapaaCollege
import Derived.Test.YtelblnfnfeoapaaEnum0
import Derived.Test.YtelblnfnfeoapaaClone
namespace Go.Proofs.Ytelblnfnfeoapaa
open Go Go.Vc
set_option maxRecDepth 100000
set_option linter.unusedSimpArgs false
set_option linter.unusedVariables false
def K_impl_IsStableEntry : List Nat := [0, 1, 2, 4, 1002, 2002, 3002]
def C_impl_IsStableEntry : C :=
  let ks := K_impl_IsStableEntry
  (.seq
    (.rg 0 [(none, .v 2 .boxS [.s 0]), (none, .v 4 .mv [.k (.b false)])])
    (.cl ks (.seq
      (.rg 0 [(none, .v 5 (.lds 3) [.s 2]), (none, .v 6 .mv [.s 1]), (none, .co 7 51 [.s 5, .s 6]), (none, .v 8 .mv [.s 7]), (some (8, true), .v 9 (.lds 3) [.s 2]), (some (8, true), .v 10 .mv [.s 1]), (some (8, true), .co 11 52 [.s 9, .s 10]), (some (8, true), .v 12 .len [.s 11]), (some (8, true), .v 13 (.bin .eql) [.s 12, .k (.i 0)]), (none, .v 14 .pick [.s 8, .s 13, .k (.b false)]), (none, .tk 4 14)])
      .ret)))

theorem chk_impl_IsStableEntry : ∃ b, Try.f30.body = some b ∧ chk Try.prog Try.f30.ntmps true C_impl_IsStableEntry b = true := ⟨_, rfl, by kernel_rfl⟩
def K_spec_IsStableEntry : List Nat := [0, 1, 2, 4, 1002, 2002, 3002]
def C_spec_IsStableEntry : C :=
  let ks := K_spec_IsStableEntry
  (.seq
    (.rg 0 [(none, .v 2 .boxS [.s 0]), (none, .v 4 .mv [.k (.b false)])])
    (.cl ks (.seq
      (.rg 0 [(none, .v 5 (.lds 3) [.s 2]), (none, .v 6 .mv [.s 1]), (none, .co 7 71 [.s 5, .s 6]), (none, .v 8 .mv [.s 7]), (some (8, true), .v 9 (.lds 3) [.s 2]), (some (8, true), .v 10 .mv [.s 1]), (some (8, true), .co 11 72 [.s 9, .s 10]), (some (8, true), .v 12 .len [.s 11]), (some (8, true), .v 13 (.bin .eql) [.s 12, .k (.i 0)]), (none, .v 14 .pick [.s 8, .s 13, .k (.b false)]), (none, .tk 4 14)])
      .ret)))

theorem chk_spec_IsStableEntry : ∃ b, Try.f47.body = some b ∧ chk Try.prog Try.f47.ntmps true C_spec_IsStableEntry b = true := ⟨_, rfl, by kernel_rfl⟩
def stEB (x y : List (List Int)) (z l : List Int) : Bool := entryB x y z l && decide ((prI (blkB x y z l) y.length x.length).length = 0)
theorem impl_IsStableEntry_ok {n1 n2 n3 n4 : Option Bool} (x y : List (List Int)) (z l : List Int) (hx : x.length ≤ 1048576) (kx : ∀ r ∈ x, r.length ≤ 1048576) (hy : y.length ≤ 1048576) (ky : ∀ r ∈ y, r.length ≤ 1048576) (hz : z.length ≤ 1048576) (hl : l.length ≤ 1048576) :
    CallOk Try.prog 30 [.a [.s n1 (rr x), .s n2 (rr y), .s n3 (ii z)], .s n4 (ii l)] [(0, .b (stEB x y z l))] := by
  obtain ⟨code0, hcd1, hcd2⟩ := chk_impl_IsStableEntry; refine callOk_of Try.func30 hcd1 mo Try.call30 (rs := [4]) (by kernel_rfl) hcd2 (by rw [Try.ntmps30]; simp) (by simp) (by decide) ?_; unfold C_impl_IsStableEntry K_impl_IsStableEntry; simp (config := { maxSteps := 2000000 }) only [go_sem, Nat.reduceBEq, Nat.reduceAdd, Nat.reduceMul, Nat.reduceMod, Nat.reduceLT, Nat.reduceDiv, Nat.reduceSub, Nat.reduceLeDiff, Int.reduceToNat, Int.reduceLT, Int.reduceLE, reduceCtorEq, List.take_nil, List.drop_nil]
  refine ⟨_, impl_EntryOk_ok x y z l hx kx hy ky hz hl, ?_⟩; simp (config := { maxSteps := 2000000 }) only [go_sem, Nat.reduceBEq, Nat.reduceAdd, Nat.reduceMul, Nat.reduceMod, Nat.reduceLT, Nat.reduceDiv, Nat.reduceSub, Nat.reduceLeDiff, Int.reduceToNat, Int.reduceLT, Int.reduceLE, reduceCtorEq, List.take_nil, List.drop_nil]
  refine ⟨fun h0 => ?_, fun h0 => by simp [stEB, h0]⟩
  refine ⟨_, impl_blocks_ok x y z l h0, ?_⟩; simp (config := { maxSteps := 2000000 }) only [go_sem, Nat.reduceBEq, Nat.reduceAdd, Nat.reduceMul, Nat.reduceMod, Nat.reduceLT, Nat.reduceDiv, Nat.reduceSub, Nat.reduceLeDiff, Int.reduceToNat, Int.reduceLT, Int.reduceLE, reduceCtorEq, List.take_nil, List.drop_nil]
  simp [stEB, h0]
theorem spec_IsStableEntry_ok {n1 n2 n3 n4 : Option Bool} (x y : List (List Int)) (z l : List Int) (hx : x.length ≤ 1048576) (kx : ∀ r ∈ x, r.length ≤ 1048576) (hy : y.length ≤ 1048576) (ky : ∀ r ∈ y, r.length ≤ 1048576) (hz : z.length ≤ 1048576) (hl : l.length ≤ 1048576) :
    CallOk Try.prog 47 [.a [.s n1 (rr x), .s n2 (rr y), .s n3 (ii z)], .s n4 (ii l)] [(0, .b (stEB x y z l))] := by
  obtain ⟨code0, hcd1, hcd2⟩ := chk_spec_IsStableEntry; refine callOk_of Try.func47 hcd1 mo Try.call47 (rs := [4]) (by kernel_rfl) hcd2 (by rw [Try.ntmps47]; simp) (by simp) (by decide) ?_; unfold C_spec_IsStableEntry K_spec_IsStableEntry; simp (config := { maxSteps := 2000000 }) only [go_sem, Nat.reduceBEq, Nat.reduceAdd, Nat.reduceMul, Nat.reduceMod, Nat.reduceLT, Nat.reduceDiv, Nat.reduceSub, Nat.reduceLeDiff, Int.reduceToNat, Int.reduceLT, Int.reduceLE, reduceCtorEq, List.take_nil, List.drop_nil]
  refine ⟨_, spec_EntryOk_ok x y z l hx kx hy ky hz hl, ?_⟩; simp (config := { maxSteps := 2000000 }) only [go_sem, Nat.reduceBEq, Nat.reduceAdd, Nat.reduceMul, Nat.reduceMod, Nat.reduceLT, Nat.reduceDiv, Nat.reduceSub, Nat.reduceLeDiff, Int.reduceToNat, Int.reduceLT, Int.reduceLE, reduceCtorEq, List.take_nil, List.drop_nil]
  refine ⟨fun h0 => ?_, fun h0 => by simp [stEB, h0]⟩
  refine ⟨_, spec_l21Blocks_ok x y z l h0, ?_⟩; simp (config := { maxSteps := 2000000 }) only [go_sem, Nat.reduceBEq, Nat.reduceAdd, Nat.reduceMul, Nat.reduceMod, Nat.reduceLT, Nat.reduceDiv, Nat.reduceSub, Nat.reduceLeDiff, Int.reduceToNat, Int.reduceLT, Int.reduceLE, reduceCtorEq, List.take_nil, List.drop_nil]
  simp [stEB, h0]
/-! All stable entries. -/
/-- Those of the first n that p takes. -/
def selG (p : List Int → Bool) (f : Nat → List Int) : Nat → List (List Int)
  | 0 => []
  | n + 1 => selG p f n ++ if p (f n) = true then [f n] else []
theorem selG_len {p : List Int → Bool} {f : Nat → List Int} : ∀ {n : Nat}, (selG p f n).length ≤ n
  | 0 => by simp [selG]
  | n + 1 => by
    have := selG_len (p := p) (f := f) (n := n)
    simp only [selG, List.length_append]; split <;> simp <;> omega
theorem selG_mem {p : List Int → Bool} {f : Nat → List Int} {r : List Int} : ∀ {n : Nat}, r ∈ selG p f n → ∃ j, r = f j
  | 0, h => by simp [selG] at h
  | n + 1, h => by
    simp only [selG, List.mem_append] at h
    rcases h with h | h
    · exact selG_mem h
    · split at h
      · exact ⟨n, List.mem_singleton.1 h⟩
      · cases h
theorem selG_add {p : List Int → Bool} {f : Nat → List Int} {a : Nat} : ∀ {b : Nat}, selG p f (a + b) = selG p f a ++ selG p (fun r => f (a + r)) b
  | 0 => by simp [selG]
  | b + 1 => by
    have : a + (b + 1) = (a + b) + 1 := rfl
    rw [this]
    simp only [selG]
    rw [selG_add (b := b), List.append_assoc]
theorem selG_congr {p : List Int → Bool} {f g : Nat → List Int} : ∀ {n : Nat}, (∀ j, j < n → f j = g j) → selG p f n = selG p g n
  | 0, _ => rfl
  | n + 1, h => by
    simp only [selG]
    rw [selG_congr fun j hj => h j (by omega), h n (by omega)]
/-- The first number stands for the whole block. -/
theorem sn_head {low : Int} {b : Nat} (hb : 0 < b) {i : Nat} (hi : i < b) : ∀ {d r : Nat}, r < b ^ d → sn low b (d + 1) (i * b ^ d + r) = (low + i) :: sn low b d r
  | 0, r, hr => by
    have : r = 0 := by simp at hr; exact hr
    subst this
    simp [sn, Nat.mod_eq_of_lt hi]
  | d + 1, r, hr => by
    have hq : r / b < b ^ d := Nat.div_lt_of_lt_mul (by rw [Nat.mul_comm, ← Nat.pow_succ]; exact hr)
    have e : i * b ^ (d + 1) + r = r + (i * b ^ d) * b := by rw [Nat.pow_succ, Nat.mul_assoc]; omega
    have e1 : (i * b ^ (d + 1) + r) / b = i * b ^ d + r / b := by rw [e, Nat.add_mul_div_right _ _ hb]; omega
    have e2 : (i * b ^ (d + 1) + r) % b = r % b := by rw [e, Nat.add_mul_mod_self_right]
    show sn low b (d + 1) ((i * b ^ (d + 1) + r) / b) ++ [low + ((i * b ^ (d + 1) + r) % b : Nat)] = (low + i) :: (sn low b d (r / b) ++ [low + (r % b : Nat)])
    rw [e1, e2, sn_head hb hi hq]; rfl
def K_spec_l21All : List Nat := [0, 1, 2, 3, 6, 7, 1003, 2003, 3003]
def C_spec_l21All : C :=
  let ks := K_spec_l21All
  (.seq
    (.rg 0 [(none, .v 3 .boxS [.s 0]), (none, .mkn 6)])
    (.cl ks (.seq
      (.seq
        (.rg 0 [(none, .v 8 .mv [.s 2]), (none, .v 9 .len [.s 8]), (none, .v 10 (.fa 0) [.s 3]), (none, .v 11 .ld [.s 10]), (none, .v 12 .len [.s 11]), (none, .v 13 (.bin .eql) [.s 9, .s 12])])
        (.cond (.s 13)
          (.seq
            (.seq
              (.rg 0 [(none, .v 14 (.lds 3) [.s 3]), (none, .v 15 .mv [.s 2]), (none, .co 16 47 [.s 14, .s 15])])
              (.cond (.s 16)
                (.seq
                  (.rg 0 [(none, .v 17 .mv [.s 1]), (none, .v 18 .mv [.s 2]), (none, .lit 19 [.s 18] 1), (none, .app 20 (.s 17) (.s 19) 1), (none, .tk 6 20)])
                  .ret)
                .skip))
            (.cl ks (.seq
              (.rg 0 [(none, .v 21 .mv [.s 1]), (none, .tk 6 21)])
              .ret)))
          .skip))
      (.cl ks (.seq
        (.seq
          (.rg 0 [(none, .v 7 .mv [.k (.i (-1))])])
          (.cl ks (.block 0
            (.loop
              (.seq
                (.seq
                  (.rg 0 [(none, .v 22 .mv [.s 7]), (none, .v 23 (.fa 1) [.s 3]), (none, .v 24 .ld [.s 23]), (none, .v 25 .len [.s 24]), (none, .v 26 (.bin .lss) [.s 22, .s 25])])
                  (.cond (.s 26)
                    .skip
                    (.exit 0)))
                (.cl ks (.seq
                  (.block 1
                    (.rgE 7 2 [(none, .v 29 (.lds 3) [.s 3]), (none, .v 30 .mv [.s 1]), (none, .v 31 (.litO 531999 true) []), (none, .v 32 .mv [.s 2]), (none, .v 33 (.appO 531999) [.s 31, .s 32]), (none, .v 34 .mv [.s 7]), (none, .v 35 .litF [.s 34])] [(none, .tkr 33), (none, .app 36 (.s 33) (.s 35) 0)] [(none, .coc 37 27 [.s 29, .s 30, .s 36] [1, 2]), (none, .tk 1 37)]))
                  (.cl ks (.rg 0 [(none, .v 27 .mv [.s 7]), (none, .v 28 (.bin .add) [.s 27, .k (.i 1)]), (none, .tk 7 28)])))))))))
        (.cl ks (.seq
          (.rg 0 [(none, .v 38 .mv [.s 1]), (none, .tk 6 38)])
          .ret)))))))

theorem chk_spec_l21All : ∃ b, Try.f27.body = some b ∧ chk Try.prog Try.f27.ntmps false C_spec_l21All b = true := ⟨_, rfl, by kernel_rfl⟩
def K_spec_StableEntries : List Nat := [0, 1, 2, 1001, 2001, 3001]
def C_spec_StableEntries : C :=
  let ks := K_spec_StableEntries
  (.seq
    (.rg 0 [(none, .v 1 .boxS [.s 0]), (none, .mkn 2)])
    (.cl ks (.seq
      (.seq
        (.rg 0 [(none, .v 3 (.lds 3) [.s 1]), (none, .co 4 26 [.s 3]), (none, .v 5 .not [.s 4])])
        (.cond (.s 5)
          (.seq
            (.rg 0 [(none, .mkn 2)])
            .ret)
          .skip))
      (.cl ks (.seq
        (.rg 0 [(none, .v 6 (.lds 3) [.s 1]), (none, .lit 7 [] 0), (none, .lit 8 [] 0), (none, .coc 9 27 [.s 6, .s 7, .s 8] [1, 2]), (none, .tk 2 9)])
        .ret)))))

theorem chk_spec_StableEntries : ∃ b, Try.f7.body = some b ∧ chk Try.prog Try.f7.ntmps true C_spec_StableEntries b = true := ⟨_, rfl, by kernel_rfl⟩
theorem sel_blk {p : List Int → Bool} {low : Int} {b d : Nat} {l : List Int} {v : Int} (hb : 0 < b) {i : Nat} (hi : i < b) (hv : low + i = v) :
    selG p (fun r => l ++ sn low b (d + 1) (i * b ^ d + r)) (b ^ d) = selG p (fun r => (l ++ [v]) ++ sn low b d r) (b ^ d) :=
  selG_congr fun r hr => by rw [sn_head hb hi hr, ← hv, List.append_assoc]; rfl
theorem sel_row {p : List Int → Bool} {low : Int} {b d : Nat} {l : List Int} {v : Int} (hb : 0 < b) {i : Nat} (hi : i < b) (hv : low + i = v) :
    selG p (fun j => l ++ sn low b (d + 1) j) ((i + 1) * b ^ d) = selG p (fun j => l ++ sn low b (d + 1) j) (i * b ^ d) ++ selG p (fun r => (l ++ [v]) ++ sn low b d r) (b ^ d) := by
  rw [Nat.succ_mul, selG_add, sel_blk hb hi hv]
theorem spec_l21All_ok (x y : List (List Int)) (z : List Int) (S : Sc x y z x.length y.length) (hx : x.length ≤ 1048576) (kx : ∀ r ∈ x, r.length ≤ 1048576) (hy : y.length ≤ 1048576) (ky : ∀ r ∈ y, r.length ≤ 1048576) (hz : z.length ≤ 1048576) : ∀ (d : Nat) (n1 n2 n3 n4 n5 : Option Bool) (out : List (List Int)) (l : List Int), l.length + d = x.length → out.length + (y.length + 1) ^ d ≤ 1000000 →
    CallC Try.prog 27 [1, 2] [.a [.s n1 (rr x), .s n2 (rr y), .s n3 (ii z)], .s n4 (rr out), .s n5 (ii l)] [(0, .own 1 none (rr (out ++ selG (stEB x y z) (fun j => l ++ sn (-1) (y.length + 1) d j) ((y.length + 1) ^ d))))] := by
  intro d
  induction d with
  | zero =>
    intro n1 n2 n3 n4 n5 out l hl ho
    obtain ⟨code0, hcd1, hcd2⟩ := chk_spec_l21All; refine callC_of Try.func27 hcd1 mo Try.call27 (r := 6) (is := [1, 2]) (by kernel_rfl) hcd2 (by rw [Try.ntmps27]; simp) (by simp) (by decide) ?_; unfold C_spec_l21All K_spec_l21All; simp (config := { maxSteps := 2000000 }) only [go_sem, Nat.reduceBEq, Nat.reduceAdd, Nat.reduceMul, Nat.reduceMod, Nat.reduceLT, Nat.reduceDiv, Nat.reduceSub, Nat.reduceLeDiff, Int.reduceToNat, Int.reduceLT, Int.reduceLE, reduceCtorEq, List.take_nil, List.drop_nil]
    have hl' : l.length = x.length := by omega
    refine ⟨fun _ => ?_, fun h => absurd hl' (by simpa using h)⟩
    refine ⟨_, spec_IsStableEntry_ok x y z l hx kx hy ky hz (by omega), ?_⟩; simp (config := { maxSteps := 2000000 }) only [go_sem, Nat.reduceBEq, Nat.reduceAdd, Nat.reduceMul, Nat.reduceMod, Nat.reduceLT, Nat.reduceDiv, Nat.reduceSub, Nat.reduceLeDiff, Int.reduceToNat, Int.reduceLT, Int.reduceLE, reduceCtorEq, List.take_nil, List.drop_nil]
    refine ⟨fun h => ⟨by simp, by omega, by simp [selG, sn, h]⟩, fun h => by simp [selG, sn, h]⟩
  | succ d ih =>
    intro n1 n2 n3 n4 n5 out l hl ho
    obtain ⟨code0, hcd1, hcd2⟩ := chk_spec_l21All; refine callC_of Try.func27 hcd1 mo Try.call27 (r := 6) (is := [1, 2]) (by kernel_rfl) hcd2 (by rw [Try.ntmps27]; simp) (by simp) (by decide) ?_; unfold C_spec_l21All K_spec_l21All; simp (config := { maxSteps := 2000000 }) only [go_sem, Nat.reduceBEq, Nat.reduceAdd, Nat.reduceMul, Nat.reduceMod, Nat.reduceLT, Nat.reduceDiv, Nat.reduceSub, Nat.reduceLeDiff, Int.reduceToNat, Int.reduceLT, Int.reduceLE, reduceCtorEq, List.take_nil, List.drop_nil]
    have hl' : ¬ l.length = x.length := by omega
    refine ⟨fun h => absurd (by simpa using h) hl', fun _ => ?_⟩
    have n5' := S.n5
    have c3' := S.c3
    refine loopN (y.length + 1) (fun j => [(0, .t .arg (.a [.s n1 (rr x), .s n2 (rr y), .s n3 (ii z)])), (1, .own 1 none (rr (out ++ selG (stEB x y z) (fun r => l ++ sn (-1) (y.length + 1) (d + 1) r) (j * (y.length + 1) ^ d)))), (2, .own 1 n5 (ii l)), (3, .t .arg (.q [.s n1 (rr x), .s n2 (rr y), .s n3 (ii z)] 0)), (6, .own 1 (some true) []), (7, .i ((j : Int) - 1))]) (fun _ => True) ⟨trivial, by simp (config := { maxSteps := 2000000 }) only [go_sem, Nat.reduceBEq, Nat.reduceAdd, Nat.reduceMul, Nat.reduceMod, Nat.reduceLT, Nat.reduceDiv, Nat.reduceSub, Nat.reduceLeDiff, Int.reduceToNat, Int.reduceLT, Int.reduceLE, reduceCtorEq, List.take_nil, List.drop_nil]; simp [selG]⟩ fun j hj _ => ?_
    simp (config := { maxSteps := 2000000 }) only [go_sem, Nat.reduceBEq, Nat.reduceAdd, Nat.reduceMul, Nat.reduceMod, Nat.reduceLT, Nat.reduceDiv, Nat.reduceSub, Nat.reduceLeDiff, Int.reduceToNat, Int.reduceLT, Int.reduceLE, reduceCtorEq, List.take_nil, List.drop_nil]
    refine ⟨fun hlt => ?_, fun hge => ?_⟩
    · have hp : 0 < (y.length + 1) ^ d := Nat.pow_pos (by omega)
      have hjl : j < y.length + 1 := by omega
      have hrow := sel_row (p := stEB x y z) (low := -1) (b := y.length + 1) (d := d) (l := l) (v := (j : Int) - 1) (by omega) hjl (by omega)
      have hmul : (j + 1) * (y.length + 1) ^ d ≤ (y.length + 1) ^ (d + 1) := by rw [Nat.pow_succ, Nat.mul_comm ((y.length + 1) ^ d)]; exact Nat.mul_le_mul_right _ (by omega)
      have hmul' : (j + 1) * (y.length + 1) ^ d = j * (y.length + 1) ^ d + (y.length + 1) ^ d := Nat.succ_mul _ _
      have hsl := selG_len (p := stEB x y z) (f := fun r => l ++ sn (-1) (y.length + 1) (d + 1) r) (n := j * (y.length + 1) ^ d)
      have W := ih n1 n2 n3 none (some false) (out ++ selG (stEB x y z) (fun r => l ++ sn (-1) (y.length + 1) (d + 1) r) (j * (y.length + 1) ^ d)) (l ++ [(j : Int) - 1]) (by simp; omega) (by rw [List.length_append]; omega)
      repeat' apply And.intro
      all_goals (try (first | omega | trivial))
      all_goals (refine ⟨_, W, ?_⟩)
      all_goals simp (config := { maxSteps := 2000000 }) only [go_sem, Nat.reduceBEq, Nat.reduceAdd, Nat.reduceMul, Nat.reduceMod, Nat.reduceLT, Nat.reduceDiv, Nat.reduceSub, Nat.reduceLeDiff, Int.reduceToNat, Int.reduceLT, Int.reduceLE, reduceCtorEq, List.take_nil, List.drop_nil]
      all_goals (refine ⟨by simp only [inR]; omega, hjl, by rw [hrow, List.append_assoc], by omega⟩)
    · have hje : j = y.length + 1 := by omega
      subst hje
      rw [Nat.pow_succ, Nat.mul_comm ((y.length + 1) ^ d)]
def steF (x y : List (List Int)) (z : List Int) : List (List Int) := if schoolB x y z = true then selG (stEB x y z) (fun j => sn (-1) (y.length + 1) x.length j) ((y.length + 1) ^ x.length) else []
theorem pow_ste {x y : List (List Int)} {z : List Int} (S : Sc x y z x.length y.length) : (y.length + 1) ^ x.length ≤ 1024 := by
  have h1 := S.n5
  have h2 := S.c3
  exact Nat.le_trans (Nat.pow_le_pow_left (m := 4) (by omega) _) (Nat.pow_le_pow_right (n := 4) (by omega) h1)
theorem spec_StableEntries_ok {n1 n2 n3 : Option Bool} (x y : List (List Int)) (z : List Int) (hx : x.length ≤ 1048576) (kx : ∀ r ∈ x, r.length ≤ 1048576) (hy : y.length ≤ 1048576) (ky : ∀ r ∈ y, r.length ≤ 1048576) (hz : z.length ≤ 1048576) :
    CallOk Try.prog 7 [.a [.s n1 (rr x), .s n2 (rr y), .s n3 (ii z)]] [(0, .own 1 none (rr (steF x y z)))] := by
  obtain ⟨code0, hcd1, hcd2⟩ := chk_spec_StableEntries; refine callOk_of Try.func7 hcd1 mo Try.call7 (rs := [2]) (by kernel_rfl) hcd2 (by rw [Try.ntmps7]; simp) (by simp) (by decide) ?_; unfold C_spec_StableEntries K_spec_StableEntries; simp (config := { maxSteps := 2000000 }) only [go_sem, Nat.reduceBEq, Nat.reduceAdd, Nat.reduceMul, Nat.reduceMod, Nat.reduceLT, Nat.reduceDiv, Nat.reduceSub, Nat.reduceLeDiff, Int.reduceToNat, Int.reduceLT, Int.reduceLE, reduceCtorEq, List.take_nil, List.drop_nil]
  refine ⟨_, spec_SchoolOk_ok x y z hx kx hy ky hz, ?_⟩; simp (config := { maxSteps := 2000000 }) only [go_sem, Nat.reduceBEq, Nat.reduceAdd, Nat.reduceMul, Nat.reduceMod, Nat.reduceLT, Nat.reduceDiv, Nat.reduceSub, Nat.reduceLeDiff, Int.reduceToNat, Int.reduceLT, Int.reduceLE, reduceCtorEq, List.take_nil, List.drop_nil]
  refine ⟨fun h0 => by simp [steF, h0, rr], fun h0 => ?_⟩
  have S := sc_of h0
  have hb := pow_ste S
  have W := spec_l21All_ok x y z S hx kx hy ky hz x.length n1 n2 n3 (some false) (some false) [] [] (by simp) (by simp; omega)
  refine ⟨_, W, ?_⟩
  simp (config := { maxSteps := 2000000 }) only [go_sem, Nat.reduceBEq, Nat.reduceAdd, Nat.reduceMul, Nat.reduceMod, Nat.reduceLT, Nat.reduceDiv, Nat.reduceSub, Nat.reduceLeDiff, Int.reduceToNat, Int.reduceLT, Int.reduceLE, reduceCtorEq, List.take_nil, List.drop_nil]
  simp [steF, h0]
def K_impl_StableEntries : List Nat := [0, 1, 2, 3, 4, 15, 16, 1001, 2001, 3001, 1003]
def C_impl_StableEntries_p0 : C :=
  let ks := K_impl_StableEntries
  (.cl ks (.rg 0 [(none, .v 1 .boxS [.s 0]), (none, .mkn 2)]))
def C_impl_StableEntries_p1 : C :=
  let ks := K_impl_StableEntries
  (.cl ks (.seq
    (.rg 0 [(none, .v 5 (.lds 3) [.s 1]), (none, .co 6 28 [.s 5]), (none, .v 7 .not [.s 6])])
    (.cond (.s 7)
      (.seq
        (.rg 0 [(none, .mkn 2)])
        .ret)
      .skip)))
def C_impl_StableEntries_p2 : C :=
  let ks := K_impl_StableEntries
  (.cl ks (.rg 0 [(none, .new 3 [.s (some true) []])]))
def C_impl_StableEntries_c4 : C :=
  let ks := K_impl_StableEntries
  (.cl ks (.rg 0 [(none, .onl 1003), (none, .v 8 (.fa 0) [.s 1]), (none, .v 9 .ld [.s 8]), (none, .v 10 .len [.s 9]), (none, .v 11 (.fa 1) [.s 1]), (none, .v 12 .ld [.s 11]), (none, .v 13 .len [.s 12]), (none, .v 14 (.bin .sub) [.s 13, .k (.i 1)]), (none, .co 15 29 [.s 10, .k (.i (-1)), .s 14])]))
def C_impl_StableEntries_ca : C :=
  let ks := K_impl_StableEntries
  (.cl ks (.rg 0 [(none, .v 4 .mv [.s 16])]))
def C_impl_StableEntries_cb : C :=
  let ks := K_impl_StableEntries
  (.cl ks (.block 1
    (.seq
      (.rg 0 [(none, .v 17 (.lds 3) [.s 1]), (none, .v 18 .mv [.s 4]), (none, .co 19 30 [.s 17, .s 18])])
      (.cond (.s 19)
        (.rgE 3 1 [(none, .v 20 .ld [.s 3]), (none, .v 21 .mv [.s 4]), (none, .v 22 (.callO 31 522999) [.s 21])] [(none, .tkr 22), (none, .lit 23 [.s 22] 1)] [(none, .app 24 (.s 20) (.s 23) 1), (none, .st (.s 3) (.s 24))])
        .skip))))
def C_impl_StableEntries_cp : C :=
  let ks := K_impl_StableEntries
  (.cl ks (.seq
    (.rg 0 [(none, .v 25 .ld [.s 3]), (none, .tk 2 25)])
    .ret))

def D_impl_StableEntries : Nat → Bool := fun d => d == 0 || d == 1 || d == 2 || d == 3 || d == 15 || d == 16
theorem chkS_impl_StableEntries : ∃ b, Try.f9.body = some b ∧ chkS Try.prog Try.f9.ntmps 15 16 D_impl_StableEntries C_impl_StableEntries_c4 C_impl_StableEntries_ca C_impl_StableEntries_cb C_impl_StableEntries_cp [C_impl_StableEntries_p0, C_impl_StableEntries_p1, C_impl_StableEntries_p2] b = true := ⟨_, rfl, by kernel_rfl⟩
theorem impl_StableEntries_ok {n1 n2 n3 : Option Bool} (x y : List (List Int)) (z : List Int) (hx : x.length ≤ 1048576) (kx : ∀ r ∈ x, r.length ≤ 1048576) (hy : y.length ≤ 1048576) (ky : ∀ r ∈ y, r.length ≤ 1048576) (hz : z.length ≤ 1048576) :
    CallOk Try.prog 9 [.a [.s n1 (rr x), .s n2 (rr y), .s n3 (ii z)]] [(0, .own 1 none (rr (steF x y z)))] := by
  obtain ⟨code0, hcd1, hcd2⟩ := chkS_impl_StableEntries; obtain ⟨codeI, hci1, hci2⟩ := chkIt_impl_lists_1; refine callOk_rf (m := 3) (y := 5) (t := 16) (g := 15) Try.func9 hcd1 mo Try.call9 (rs := [2]) (by kernel_rfl) hcd2 (by rw [Try.ntmps9]; simp) (by simp) (by decide) Try.func50 hci1 Try.call50 (by kernel_rfl) hci2 (by decide) (by decide) (by rw [Try.ntmps50]; decide) (by decide) (by rw [Try.ntmps9]; decide) (by decide) (by decide) (by kernel_rfl) ?_; unfold C_impl_StableEntries_p0 C_impl_StableEntries_p1 C_impl_StableEntries_p2 C_impl_StableEntries_c4 K_impl_StableEntries; simp (config := { maxSteps := 2000000 }) only [go_sem, Nat.reduceBEq, Nat.reduceAdd, Nat.reduceMul, Nat.reduceMod, Nat.reduceLT, Nat.reduceDiv, Nat.reduceSub, Nat.reduceLeDiff, Int.reduceToNat, Int.reduceLT, Int.reduceLE, reduceCtorEq, List.take_nil, List.drop_nil]
  refine ⟨_, impl_SchoolOk_ok x y z hx kx hy ky hz, ?_⟩; simp (config := { maxSteps := 2000000 }) only [go_sem, Nat.reduceBEq, Nat.reduceAdd, Nat.reduceMul, Nat.reduceMod, Nat.reduceLT, Nat.reduceDiv, Nat.reduceSub, Nat.reduceLeDiff, Int.reduceToNat, Int.reduceLT, Int.reduceLE, reduceCtorEq, List.take_nil, List.drop_nil]
  refine ⟨fun h0 => by simp [steF, h0, rr], fun h0 => ?_⟩
  have S := sc_of h0
  have hb := pow_ste S
  have hF : steF x y z = selG (stEB x y z) (fun j => sn (-1) (y.length + 1) x.length j) ((y.length + 1) ^ x.length) := if_pos h0
  rw [hF]
  have n5' := S.n5
  have n1' := S.n1
  have c3' := S.c3
  refine ⟨inR_of (by omega) (by omega), ?_⟩
  refine ⟨_, impl_lists_ok x.length (-1) (y.length - 1), ?_⟩; simp (config := { maxSteps := 2000000 }) only [go_sem, Nat.reduceBEq, Nat.reduceAdd, Nat.reduceMul, Nat.reduceMod, Nat.reduceLT, Nat.reduceDiv, Nat.reduceSub, Nat.reduceLeDiff, Int.reduceToNat, Int.reduceLT, Int.reduceLE, reduceCtorEq, List.take_nil, List.drop_nil]
  refine ⟨(y.length + 1) ^ x.length, x.length, fun j => ii (sn (-1) (y.length + 1) x.length j), fun j => [(0, .t .arg (.a [.s n1 (rr x), .s n2 (rr y), .s n3 (ii z)])), (1, .t .arg (.q [.s n1 (rr x), .s n2 (rr y), .s n3 (ii z)] 0)), (3, .bx 1), (15, .t .arg (.c 50 (capT (-1) x.length (y.length - 1)))), (1003, .own 1 none (rr (selG (stEB x y z) (fun j => sn (-1) (y.length + 1) x.length j) j)))], capT (-1) x.length (y.length - 1), Nat.pow_pos (by omega), rfl, ?_, fun j hj => ⟨by kernel_rfl, rfl⟩, fun j hj => ⟨by rw [scalL_ii]; trivial, ii_ne (by rw [sn_len]; omega), by simp [ii, sn_len]⟩, itA (by omega) (by omega), fun j hj => itB (by omega) (by omega) (by omega) rfl hj (by omega) (by omega), fun j hj => ?_, ?_⟩
  · simp (config := { maxSteps := 2000000 }) only [go_sem, Nat.reduceBEq, Nat.reduceAdd, Nat.reduceMul, Nat.reduceMod, Nat.reduceLT, Nat.reduceDiv, Nat.reduceSub, Nat.reduceLeDiff, Int.reduceToNat, Int.reduceLT, Int.reduceLE, reduceCtorEq, List.take_nil, List.drop_nil]
    rfl
  · unfold C_impl_StableEntries_ca C_impl_StableEntries_cb K_impl_StableEntries; simp (config := { maxSteps := 2000000 }) only [go_sem, Nat.reduceBEq, Nat.reduceAdd, Nat.reduceMul, Nat.reduceMod, Nat.reduceLT, Nat.reduceDiv, Nat.reduceSub, Nat.reduceLeDiff, Int.reduceToNat, Int.reduceLT, Int.reduceLE, reduceCtorEq, List.take_nil, List.drop_nil]
    refine ⟨by kernel_rfl, ?_⟩
    refine ⟨_, impl_IsStableEntry_ok x y z (sn (-1) (y.length + 1) x.length j) hx kx hy ky hz (by rw [sn_len]; omega), ?_⟩; simp (config := { maxSteps := 2000000 }) only [go_sem, Nat.reduceBEq, Nat.reduceAdd, Nat.reduceMul, Nat.reduceMod, Nat.reduceLT, Nat.reduceDiv, Nat.reduceSub, Nat.reduceLeDiff, Int.reduceToNat, Int.reduceLT, Int.reduceLE, reduceCtorEq, List.take_nil, List.drop_nil]
    refine ⟨fun h => ?_, fun h => ?_⟩
    · refine ⟨_, Clone_ok (sn (-1) (y.length + 1) x.length j) (by rw [sn_len]; omega) (by rw [sn_len]; omega), ?_⟩; simp (config := { maxSteps := 2000000 }) only [go_sem, Nat.reduceBEq, Nat.reduceAdd, Nat.reduceMul, Nat.reduceMod, Nat.reduceLT, Nat.reduceDiv, Nat.reduceSub, Nat.reduceLeDiff, Int.reduceToNat, Int.reduceLT, Int.reduceLE, reduceCtorEq, List.take_nil, List.drop_nil]
      have e : selG (stEB x y z) (fun j => sn (-1) (y.length + 1) x.length j) (j + 1) = selG (stEB x y z) (fun j => sn (-1) (y.length + 1) x.length j) j ++ [sn (-1) (y.length + 1) x.length j] := by simp [selG, h]
      have hle := selG_len (p := stEB x y z) (f := fun j => sn (-1) (y.length + 1) x.length j) (n := j)
      exact ⟨⟨by simp, by omega, e.symm⟩, by simp, by omega, e.symm⟩
    · simp [selG, h]
  · unfold C_impl_StableEntries_cp K_impl_StableEntries; simp (config := { maxSteps := 2000000 }) only [go_sem, Nat.reduceBEq, Nat.reduceAdd, Nat.reduceMul, Nat.reduceMod, Nat.reduceLT, Nat.reduceDiv, Nat.reduceSub, Nat.reduceLeDiff, Int.reduceToNat, Int.reduceLT, Int.reduceLE, reduceCtorEq, List.take_nil, List.drop_nil]

end Go.Proofs.Ytelblnfnfeoapaa
