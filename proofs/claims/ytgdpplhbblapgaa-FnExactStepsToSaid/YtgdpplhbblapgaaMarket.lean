/- Own work: contracts of functions that the claim reaches. No condition beyond those that each theorem names. -/
import Derived.Test.YtgdpplhbblapgaaProg
import Derived.Test.YtgdpplhbblapgaaMarks
namespace Go.Proofs.Ytgdpplhbblapgaa
open Go Go.Vc
set_option maxRecDepth 100000
set_option linter.unusedSimpArgs false
set_option linter.unusedVariables false
def K_laws_toMarket : List Nat := [0, 1, 2, 3, 1001, 2001, 1002, 2002, 1003, 2003]
def C_laws_toMarket : C :=
  let ks := K_laws_toMarket
  (.seq
   (.rg 0 [(none, .v 1 .boxS [.s 0]), (none, .new 2 [.s (some true) [], .s (some true) []])])
   (.cl ks (.seq
   (.rg 0 [(none, .new 3 [.s (some true) [], .s (some true) []])])
   (.cl ks (.seq
   (.rg 0 [(none, .v 4 (.fa 0) [.s 1]), (none, .v 5 .ld [.s 4]), (none, .co 6 85 [.s 5]), (none, .v 7 (.fa 0) [.s 3]), (none, .st (.s 7) (.s 6))])
   (.cl ks (.seq
   (.rg 0 [(none, .v 8 (.fa 1) [.s 1]), (none, .v 9 .ld [.s 8]), (none, .co 10 85 [.s 9]), (none, .v 11 (.fa 1) [.s 3]), (none, .st (.s 11) (.s 10))])
   (.cl ks (.seq
   (.rg 0 [(none, .v 12 (.lds 2) [.s 3]), (none, .sts (.s 2) (.s 12) 2)])
   .ret)))))))))

theorem chk_laws_toMarket : ∃ b, Try.f25.body = some b ∧ chk Try.prog Try.f25.ntmps true C_laws_toMarket b = true := ⟨_, rfl, by kernel_rfl⟩
def K_laws_szMarket : List Nat := [0, 1, 2, 4, 1002, 2002]
def C_laws_szMarket : C :=
  let ks := K_laws_szMarket
  (.seq
   (.rg 0 [(none, .v 2 .boxS [.s 0]), (none, .v 4 .mv [.k (.i 0)])])
   (.cl ks (.seq
   (.rg 0 [(none, .v 5 (.fa 0) [.s 2]), (none, .v 6 .ld [.s 5]), (none, .v 7 .mv [.s 1]), (none, .co 8 80 [.s 6, .s 7]), (none, .tk 1 8)])
   (.cl ks (.seq
   (.seq
   (.rg 0 [(none, .v 9 .mv [.s 1]), (none, .v 10 (.bin .lss) [.s 9, .k (.i 0)])])
   (.cond (.s 10)
   (.seq
   (.rg 0 [(none, .v 4 .mv [.k (.i (-1))])])
   .ret)
   .skip))
   (.cl ks (.seq
   (.rg 0 [(none, .v 11 (.fa 1) [.s 2]), (none, .v 12 .ld [.s 11]), (none, .v 13 .mv [.s 1]), (none, .co 14 80 [.s 12, .s 13]), (none, .tk 1 14)])
   (.cl ks (.seq
   (.seq
   (.rg 0 [(none, .v 15 .mv [.s 1]), (none, .v 16 (.bin .lss) [.s 15, .k (.i 0)])])
   (.cond (.s 16)
   (.seq
   (.rg 0 [(none, .v 4 .mv [.k (.i (-1))])])
   .ret)
   .skip))
   (.cl ks (.seq
   (.rg 0 [(none, .v 17 .mv [.s 1]), (none, .tk 4 17)])
   .ret)))))))))))

theorem chk_laws_szMarket : ∃ b, Try.f23.body = some b ∧ chk Try.prog Try.f23.ntmps true C_laws_szMarket b = true := ⟨_, rfl, by kernel_rfl⟩
def K_laws_eqMarket : List Nat := [0, 1, 2, 3, 4, 1002, 2002, 1003, 2003]
def C_laws_eqMarket : C :=
  let ks := K_laws_eqMarket
  (.seq
   (.rg 0 [(none, .v 2 .boxS [.s 0]), (none, .v 3 .boxS [.s 1]), (none, .v 4 .mv [.k (.b false)])])
   (.cl ks (.seq
   (.seq
   (.rg 0 [(none, .v 5 (.fa 0) [.s 2]), (none, .v 6 .ld [.s 5]), (none, .v 7 (.fa 0) [.s 3]), (none, .v 8 .ld [.s 7]), (none, .co 9 92 [.s 6, .s 8]), (none, .v 10 .not [.s 9])])
   (.cond (.s 10)
   (.seq
   (.rg 0 [(none, .v 4 .mv [.k (.b false)])])
   .ret)
   .skip))
   (.cl ks (.seq
   (.seq
   (.rg 0 [(none, .v 11 (.fa 1) [.s 2]), (none, .v 12 .ld [.s 11]), (none, .v 13 (.fa 1) [.s 3]), (none, .v 14 .ld [.s 13]), (none, .co 15 92 [.s 12, .s 14]), (none, .v 16 .not [.s 15])])
   (.cond (.s 16)
   (.seq
   (.rg 0 [(none, .v 4 .mv [.k (.b false)])])
   .ret)
   .skip))
   (.cl ks (.seq
   (.rg 0 [(none, .v 4 .mv [.k (.b true)])])
   .ret)))))))

theorem chk_laws_eqMarket : ∃ b, Try.f28.body = some b ∧ chk Try.prog Try.f28.ntmps true C_laws_eqMarket b = true := ⟨_, rfl, by kernel_rfl⟩
theorem toMarket_ok (x y : List (List Int)) (hx : x.length ≤ 1048576) (kx : ∀ r ∈ x, r.length ≤ 1048576) (hy : y.length ≤ 1048576) (ky : ∀ r ∈ y, r.length ≤ 1048576) :
    CallOk Try.prog 25 [.a [.s none (rr x), .s none (rr y)]] [(0, .ag 2), (200000, .own 1 none (rr x)), (201000, .own 1 none (rr y))] := by
  obtain ⟨code0, hcd1, hcd2⟩ := chk_laws_toMarket; refine callB_of Try.func25 hcd1 mo Try.call25 (z := 2) (ty := 39) (n := 2) (by kernel_rfl) (by kernel_rfl) hcd2 (by rw [Try.ntmps25]; simp) (by simp) (by decide) ?_; unfold C_laws_toMarket K_laws_toMarket; simp (config := { maxSteps := 2000000 }) only [go_sem, Nat.reduceBEq, Nat.reduceAdd, Nat.reduceMul, Nat.reduceMod, Nat.reduceLT, Nat.reduceDiv, Nat.reduceSub, Nat.reduceLeDiff, Int.reduceToNat, Int.reduceLT, Int.reduceLE, reduceCtorEq, List.take_nil, List.drop_nil]
  refine ⟨_, toIntSS_ok none x hx kx, ?_⟩; simp (config := { maxSteps := 2000000 }) only [go_sem, Nat.reduceBEq, Nat.reduceAdd, Nat.reduceMul, Nat.reduceMod, Nat.reduceLT, Nat.reduceDiv, Nat.reduceSub, Nat.reduceLeDiff, Int.reduceToNat, Int.reduceLT, Int.reduceLE, reduceCtorEq, List.take_nil, List.drop_nil]
  refine ⟨_, toIntSS_ok none y hy ky, ?_⟩; simp (config := { maxSteps := 2000000 }) only [go_sem, Nat.reduceBEq, Nat.reduceAdd, Nat.reduceMul, Nat.reduceMod, Nat.reduceLT, Nat.reduceDiv, Nat.reduceSub, Nat.reduceLeDiff, Int.reduceToNat, Int.reduceLT, Int.reduceLE, reduceCtorEq, List.take_nil, List.drop_nil]
  decide
def szM (x y : List (List Int)) (left : Int) : Int := if szII x left < 0 then -1 else if szII y (szII x left) < 0 then -1 else szII y (szII x left)
theorem szII_bd {a : List (List Int)} {left : Int} (h1 : left ≤ 1048576) : szII a left ≤ 1048576 := by
  have key : ∀ (a : List (List Int)) (left : Int), left ≤ 1048576 → szIL a left ≤ 1048576 := by
    intro a
    induction a with
    | nil => intro left h; simpa [szIL] using h
    | cons r a ih =>
      intro left h
      simp only [szIL]
      have h2 := szI_bd (a := r) h
      split
      · omega
      · exact ih _ h2
  unfold szII; split
  · omega
  · exact key _ _ (by omega)
theorem szMarket_ok (x y : List (List Int)) (left : Int) (h0 : 0 ≤ left) (h1 : left ≤ 1048576) (ax : x.length ≤ 9223372036854775807) (bx : ∀ r ∈ x, r.length ≤ 9223372036854775807) (ay : y.length ≤ 9223372036854775807) (bY : ∀ r ∈ y, r.length ≤ 9223372036854775807) :
    CallOk Try.prog 23 [.a [.s none (rr x), .s none (rr y)], .i left] [(0, .i (szM x y left))] := by
  obtain ⟨code0, hcd1, hcd2⟩ := chk_laws_szMarket; refine callOk_of Try.func23 hcd1 mo Try.call23 (rs := [4]) (by kernel_rfl) hcd2 (by rw [Try.ntmps23]; simp) (by simp) (by decide) ?_; unfold C_laws_szMarket K_laws_szMarket; simp (config := { maxSteps := 2000000 }) only [go_sem, Nat.reduceBEq, Nat.reduceAdd, Nat.reduceMul, Nat.reduceMod, Nat.reduceLT, Nat.reduceDiv, Nat.reduceSub, Nat.reduceLeDiff, Int.reduceToNat, Int.reduceLT, Int.reduceLE, reduceCtorEq, List.take_nil, List.drop_nil]
  refine ⟨_, szIntSS_ok none x left h0 h1 ax bx, ?_⟩; simp (config := { maxSteps := 2000000 }) only [go_sem, Nat.reduceBEq, Nat.reduceAdd, Nat.reduceMul, Nat.reduceMod, Nat.reduceLT, Nat.reduceDiv, Nat.reduceSub, Nat.reduceLeDiff, Int.reduceToNat, Int.reduceLT, Int.reduceLE, reduceCtorEq, List.take_nil, List.drop_nil]
  have h2 := szII_bd (a := x) h1
  refine ⟨fun h => by simp [szM, h], fun h => ?_⟩
  refine ⟨_, szIntSS_ok none y (szII x left) (by omega) h2 ay bY, ?_⟩; simp (config := { maxSteps := 2000000 }) only [go_sem, Nat.reduceBEq, Nat.reduceAdd, Nat.reduceMul, Nat.reduceMod, Nat.reduceLT, Nat.reduceDiv, Nat.reduceSub, Nat.reduceLeDiff, Int.reduceToNat, Int.reduceLT, Int.reduceLE, reduceCtorEq, List.take_nil, List.drop_nil]
  refine ⟨fun h3 => by simp [szM, h, h3], fun h3 => by simp [szM, h, h3]⟩
theorem szM_ok {x y : List (List Int)} {left : Int} (h1 : left ≤ 1048576) (h : ¬ szM x y left < 0) : ¬ szII x left < 0 ∧ ¬ szII y (szII x left) < 0 ∧ szII x left ≤ 1048576 := by
  unfold szM at h
  by_cases h2 : szII x left < 0
  · rw [if_pos h2] at h; omega
  · rw [if_neg h2] at h
    by_cases h3 : szII y (szII x left) < 0
    · rw [if_pos h3] at h; omega
    · exact ⟨h2, h3, szII_bd h1⟩
theorem eqMarket_ok {n1 n2 n3 n4 : Option Bool} (x y : List (List Int)) (hx : x.length ≤ 1048576) (kx : ∀ r ∈ x, r.length ≤ 1048576) (hy : y.length ≤ 1048576) (ky : ∀ r ∈ y, r.length ≤ 1048576) :
    CallOk Try.prog 28 [.a [.s n1 (rr x), .s n2 (rr y)], .a [.s n3 (rr x), .s n4 (rr y)]] [(0, .b true)] := by
  obtain ⟨code0, hcd1, hcd2⟩ := chk_laws_eqMarket; refine callOk_of Try.func28 hcd1 mo Try.call28 (rs := [4]) (by kernel_rfl) hcd2 (by rw [Try.ntmps28]; simp) (by simp) (by decide) ?_; unfold C_laws_eqMarket K_laws_eqMarket; simp (config := { maxSteps := 2000000 }) only [go_sem, Nat.reduceBEq, Nat.reduceAdd, Nat.reduceMul, Nat.reduceMod, Nat.reduceLT, Nat.reduceDiv, Nat.reduceSub, Nat.reduceLeDiff, Int.reduceToNat, Int.reduceLT, Int.reduceLE, reduceCtorEq, List.take_nil, List.drop_nil]
  refine ⟨_, eqIntSS_ok _ _ x x hx kx, ?_⟩; simp (config := { maxSteps := 2000000 }) only [go_sem, Nat.reduceBEq, Nat.reduceAdd, Nat.reduceMul, Nat.reduceMod, Nat.reduceLT, Nat.reduceDiv, Nat.reduceSub, Nat.reduceLeDiff, Int.reduceToNat, Int.reduceLT, Int.reduceLE, reduceCtorEq, List.take_nil, List.drop_nil]
  refine ⟨_, eqIntSS_ok _ _ y y hy ky, ?_⟩; simp (config := { maxSteps := 2000000 }) only [go_sem, Nat.reduceBEq, Nat.reduceAdd, Nat.reduceMul, Nat.reduceMod, Nat.reduceLT, Nat.reduceDiv, Nat.reduceSub, Nat.reduceLeDiff, Int.reduceToNat, Int.reduceLT, Int.reduceLE, reduceCtorEq, List.take_nil, List.drop_nil]
  done
end Go.Proofs.Ytgdpplhbblapgaa
