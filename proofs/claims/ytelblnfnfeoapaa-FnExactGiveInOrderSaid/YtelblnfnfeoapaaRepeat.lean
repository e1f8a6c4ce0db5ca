/- Own work: contracts of functions that the claim reaches. No condition beyond those that each theorem names. -/
import Derived.Test.YtelblnfnfeoapaaProg
import Derived.Test.YtelblnfnfeoapaaBase
namespace Go.Proofs.Ytelblnfnfeoapaa
open Go Go.Vc
set_option maxRecDepth 100000
set_option linter.unusedSimpArgs false
set_option linter.unusedVariables false
def K_math_bits_Mul64 : List Nat := [0, 1, 4, 5, 6, 7, 8, 9, 10, 11, 12, 13]
def C_math_bits_Mul64 : C :=
  let ks := K_math_bits_Mul64
  (.seq
    (.rg 0 [(none, .v 4 .mv [.k (.w .u64 (0))]), (none, .v 5 .mv [.k (.w .u64 (0))])])
    (.cl ks (.seq
      (.rg 0 [(none, .v 14 .mv [.s 0]), (none, .v 15 (.ub .and) [.s 14, .k (.w .u64 (4294967295))]), (none, .tk 6 15)])
      (.cl ks (.seq
        (.rg 0 [(none, .v 16 .mv [.s 0]), (none, .v 17 (.ub .shr) [.s 16, .k (.w .u64 (32))]), (none, .tk 7 17)])
        (.cl ks (.seq
          (.rg 0 [(none, .v 18 .mv [.s 1]), (none, .v 19 (.ub .and) [.s 18, .k (.w .u64 (4294967295))]), (none, .tk 8 19)])
          (.cl ks (.seq
            (.rg 0 [(none, .v 20 .mv [.s 1]), (none, .v 21 (.ub .shr) [.s 20, .k (.w .u64 (32))]), (none, .tk 9 21)])
            (.cl ks (.seq
              (.rg 0 [(none, .v 22 .mv [.s 6]), (none, .v 23 .mv [.s 8]), (none, .v 24 (.ub .mul) [.s 22, .s 23]), (none, .tk 10 24)])
              (.cl ks (.seq
                (.rg 0 [(none, .v 25 .mv [.s 7]), (none, .v 26 .mv [.s 8]), (none, .v 27 (.ub .mul) [.s 25, .s 26]), (none, .v 28 .mv [.s 10]), (none, .v 29 (.ub .shr) [.s 28, .k (.w .u64 (32))]), (none, .v 30 (.ub .add) [.s 27, .s 29]), (none, .tk 11 30)])
                (.cl ks (.seq
                  (.rg 0 [(none, .v 31 .mv [.s 11]), (none, .v 32 (.ub .and) [.s 31, .k (.w .u64 (4294967295))]), (none, .tk 12 32)])
                  (.cl ks (.seq
                    (.rg 0 [(none, .v 33 .mv [.s 11]), (none, .v 34 (.ub .shr) [.s 33, .k (.w .u64 (32))]), (none, .tk 13 34)])
                    (.cl ks (.seq
                      (.rg 0 [(none, .v 35 .mv [.s 12]), (none, .v 36 .mv [.s 6]), (none, .v 37 .mv [.s 9]), (none, .v 38 (.ub .mul) [.s 36, .s 37]), (none, .v 39 (.ub .add) [.s 35, .s 38]), (none, .tk 12 39)])
                      (.cl ks (.seq
                        (.rg 0 [(none, .v 40 .mv [.s 7]), (none, .v 41 .mv [.s 9]), (none, .v 42 (.ub .mul) [.s 40, .s 41]), (none, .v 43 .mv [.s 13]), (none, .v 44 (.ub .add) [.s 42, .s 43]), (none, .v 45 .mv [.s 12]), (none, .v 46 (.ub .shr) [.s 45, .k (.w .u64 (32))]), (none, .v 47 (.ub .add) [.s 44, .s 46]), (none, .tk 4 47)])
                        (.cl ks (.seq
                          (.rg 0 [(none, .v 48 .mv [.s 0]), (none, .v 49 .mv [.s 1]), (none, .v 50 (.ub .mul) [.s 48, .s 49]), (none, .tk 5 50)])
                          .ret)))))))))))))))))))))))

theorem chk_math_bits_Mul64 : ∃ b, Try.f95.body = some b ∧ chk Try.prog Try.f95.ntmps true C_math_bits_Mul64 b = true := ⟨_, rfl, by kernel_rfl⟩
def K_math_bits_Mul : List Nat := [0, 1, 4, 5, 6, 7, 8, 9]
def C_math_bits_Mul : C :=
  let ks := K_math_bits_Mul
  (.seq
    (.rg 0 [(none, .v 4 .mv [.k (.w .u64 (0))]), (none, .v 5 .mv [.k (.w .u64 (0))])])
    (.seq
      (.cond (.k (.b false))
        .no
        .skip)
      (.cl ks (.seq
        (.rg 0 [(none, .v 23 .mv [.s 0]), (none, .v 24 .mv [.s 1]), (none, .co 25 95 [.s 23, .s 24]), (none, .tk 22 25), (none, .tk 26 100022), (none, .tk 27 101022), (none, .tk 8 26), (none, .tk 9 27)])
        (.cl ks (.seq
          (.rg 0 [(none, .v 28 .mv [.s 8]), (none, .v 29 .mv [.s 9]), (none, .tk 4 28), (none, .tk 5 29)])
          .ret))))))

theorem chk_math_bits_Mul : ∃ b, Try.f62.body = some b ∧ chk Try.prog Try.f62.ntmps true C_math_bits_Mul b = true := ⟨_, rfl, by kernel_rfl⟩
def K_slices_Repeat_Sint_int : List Nat := [0, 1, 4, 5, 6, 7, 8]
def C_slices_Repeat_Sint_int : C :=
  let ks := K_slices_Repeat_Sint_int
  (.seq
    (.rg 0 [(none, .mkn 4)])
    (.cl ks (.seq
      (.seq
        (.rg 0 [(none, .v 9 .mv [.s 1]), (none, .v 10 (.bin .lss) [.s 9, .k (.i 0)])])
        (.cond (.s 10)
          .no
          .skip))
      (.cl ks (.seq
        (.rg 0 [(none, .v 13 .mv [.s 0]), (none, .v 14 .len [.s 13]), (none, .v 15 (.cvw .u64) [.s 14]), (none, .v 16 .mv [.s 1]), (none, .v 17 (.cvw .u64) [.s 16]), (none, .co 18 62 [.s 15, .s 17]), (none, .tk 12 18), (none, .tk 19 100012), (none, .tk 20 101012), (none, .tk 5 19), (none, .tk 6 20)])
        (.cl ks (.seq
          (.seq
            (.rg 0 [(none, .v 21 .mv [.s 5]), (none, .v 22 (.ub .gtr) [.s 21, .k (.w .u64 (0))]), (none, .v 23 .mv [.s 22]), (some (23, false), .v 24 .mv [.s 6]), (some (23, false), .v 25 (.ub .gtr) [.s 24, .k (.w .u64 (9223372036854775807))]), (none, .v 26 .pick [.s 23, .k (.b true), .s 25])])
            (.cond (.s 26)
              .no
              .skip))
          (.cl ks (.seq
            (.rg 0 [(none, .v 28 .mv [.s 6]), (none, .v 29 .cvi [.s 28]), (none, .mk 30 (.i 0) (.s 29) (.s 29)), (none, .tk 7 30)])
            (.cl ks (.seq
              (.rg 0 [(none, .v 31 .mv [.s 7]), (none, .v 32 .mv [.s 0]), (none, .cpy 33 (.s 31) (.s 32)), (none, .tk 8 33)])
              (.cl ks (.seq
                (.block 0
                  (.loop
                    (.seq
                      (.seq
                        (.rg 0 [(none, .v 34 .mv [.s 8]), (none, .v 35 .mv [.s 7]), (none, .v 36 .len [.s 35]), (none, .v 37 (.bin .lss) [.s 34, .s 36])])
                        (.cond (.s 37)
                          .skip
                          (.exit 0)))
                      (.cl ks (.block 1
                        (.rgF 7 7 [(0, 38, 8, none)] [(none, .v 38 .mv [.s 8]), (none, .v 39 .mv [.s 7]), (none, .v 40 .mv [.s 8]), (none, .v 41 .subp [.s 39, .s 40]), (none, .v 42 .mv [.s 7]), (none, .v 43 .mv [.s 8]), (none, .v 44 (.sub false true) [.s 42, .s 43]), (none, .cpy 45 (.s 41) (.s 44)), (none, .v 46 (.bin .add) [.s 38, .s 45]), (none, .tk 8 46)]))))))
                (.cl ks (.seq
                  (.rg 0 [(none, .v 47 .mv [.s 7]), (none, .tk 4 47)])
                  .ret)))))))))))))))

theorem chk_slices_Repeat_Sint_int : ∃ b, Try.f42.body = some b ∧ chk Try.prog Try.f42.ntmps true C_slices_Repeat_Sint_int b = true := ⟨_, rfl, by kernel_rfl⟩
theorem wrapU {n : Int} (h0 : 0 ≤ n) (h1 : n < 18446744073709551616) : IntKind.u64.wrap n = n := by
  simp only [IntKind.wrap, IntKind.bits, IntKind.signed]
  simp
  omega
theorem andU {n : Int} (h0 : 0 ≤ n) (h1 : n < 4294967296) : ((BitVec.ofInt IntKind.u64.bits n &&& BitVec.ofInt IntKind.u64.bits 4294967295).toNat : Int) = n := by
  obtain ⟨m, rfl⟩ := Int.eq_ofNat_of_zero_le h0
  have hb : IntKind.u64.bits = 64 := rfl
  rw [hb]
  have e1 : BitVec.ofInt 64 (m : Int) = BitVec.ofNat 64 m := BitVec.ofInt_natCast 64 m
  have e2 : BitVec.ofInt 64 4294967295 = BitVec.ofNat 64 4294967295 := rfl
  rw [e1, e2, BitVec.toNat_and, BitVec.toNat_ofNat, BitVec.toNat_ofNat]
  have e3 : m % 2 ^ 64 = m := Nat.mod_eq_of_lt (by omega)
  have e4 : 4294967295 % 2 ^ 64 = 2 ^ 32 - 1 := rfl
  rw [e3, e4, Nat.and_two_pow_sub_one_eq_mod, Nat.mod_eq_of_lt (by omega)]
theorem andW {n : Int} (h0 : 0 ≤ n) (h1 : n < 4294967296) : IntKind.u64.wrap ((BitVec.ofInt IntKind.u64.bits n &&& BitVec.ofInt IntKind.u64.bits 4294967295).toNat : Int) = n := by
  rw [andU h0 h1, wrapU h0 (by omega)]
theorem shrU {n : Int} (h0 : 0 ≤ n) (h1 : n < 4294967296) : n.fdiv (2 ^ (32 : Int).toNat) = 0 := by
  rw [Int.fdiv_eq_ediv_of_nonneg _ (by decide)]
  exact Int.ediv_eq_zero_of_lt h0 (by simpa using h1)
theorem andX {n : Int} (h0 : 0 ≤ n) (h1 : n < 4294967296) : andK .u64 n 4294967295 = n := andW h0 h1
theorem shrX {n : Int} (h0 : 0 ≤ n) (h1 : n < 4294967296) : n.fdiv (2 ^ 32) = 0 := shrU h0 h1
theorem le_w {g : G} {k : IntKind} {n : Int} : (V.t g (.w k n)).le (V.t g (.w k n)) := by cases g <;> simp [V.le, T.le, G.le]
theorem Mul64_ok (n : Int) (h0 : 0 ≤ n) (h1 : n < 4294967296) : CallOk Try.prog 95 [.w .u64 1, .w .u64 n] [(0, .tp 2), (100000, .t .fr (.w .u64 0)), (101000, .t .fr (.w .u64 n))] := by
  have a1 := andX (n := 1) (by omega) (by omega)
  have a0 := andX (n := 0) (by omega) (by omega)
  have an := andX h0 h1
  have s1 := shrX (n := 1) (by omega) (by omega)
  have s0 := shrX (n := 0) (by omega) (by omega)
  have sn := shrX h0 h1
  have wn := wrapU h0 (by omega)
  have w0 := wrapU (n := 0) (by omega) (by omega)
  obtain ⟨code0, hcd1, hcd2⟩ := chk_math_bits_Mul64; refine callOk_of Try.func95 hcd1 mo Try.call95 (rs := [4, 5]) (by kernel_rfl) hcd2 (by rw [Try.ntmps95]; simp) (by simp) (by decide) ?_; unfold C_math_bits_Mul64 K_math_bits_Mul64; simp (config := { maxSteps := 2000000 }) only [go_sem, Nat.reduceBEq, Nat.reduceAdd, Nat.reduceMul, Nat.reduceMod, Nat.reduceLT, Nat.reduceDiv, Nat.reduceSub, Nat.reduceLeDiff, Int.reduceToNat, Int.reduceLT, Int.reduceLE, reduceCtorEq, List.take_nil, List.drop_nil]
  simp only [a1, an, s1, sn, wn, w0, Int.one_mul, Int.zero_mul, Int.mul_zero, Int.add_zero, a0, s0]
  exact ⟨by omega, le_w, le_w⟩
theorem Mul_ok (n : Int) (h0 : 0 ≤ n) (h1 : n < 4294967296) : CallOk Try.prog 62 [.w .u64 1, .w .u64 n] [(0, .tp 2), (100000, .t .fr (.w .u64 0)), (101000, .t .fr (.w .u64 n))] := by
  obtain ⟨code0, hcd1, hcd2⟩ := chk_math_bits_Mul; refine callOk_of Try.func62 hcd1 mo Try.call62 (rs := [4, 5]) (by kernel_rfl) hcd2 (by rw [Try.ntmps62]; simp) (by simp) (by decide) ?_; unfold C_math_bits_Mul K_math_bits_Mul; simp (config := { maxSteps := 2000000 }) only [go_sem, Nat.reduceBEq, Nat.reduceAdd, Nat.reduceMul, Nat.reduceMod, Nat.reduceLT, Nat.reduceDiv, Nat.reduceSub, Nat.reduceLeDiff, Int.reduceToNat, Int.reduceLT, Int.reduceLE, reduceCtorEq, List.take_nil, List.drop_nil]
  refine ⟨_, Mul64_ok n h0 h1, ?_⟩; simp (config := { maxSteps := 2000000 }) only [go_sem, Nat.reduceBEq, Nat.reduceAdd, Nat.reduceMul, Nat.reduceMod, Nat.reduceLT, Nat.reduceDiv, Nat.reduceSub, Nat.reduceLeDiff, Int.reduceToNat, Int.reduceLT, Int.reduceLE, reduceCtorEq, List.take_nil, List.drop_nil]
  exact ⟨rfl, rfl, by omega, le_w, le_w⟩
/-- n places, the first m of them v. -/
def repL (v : Int) (N m : Nat) : List Int := List.replicate m v ++ List.replicate (N - m) 0
theorem repL_len {v : Int} {N m : Nat} (h : m ≤ N) : (repL v N m).length = N := by simp [repL]; omega
theorem repL_take {v : Int} {N m : Nat} (h : m ≤ N) : (repL v N m).take m = List.replicate m v := by simp [repL]
theorem repL_cpy {v : Int} {N m : Nat} (h : m ≤ N) : cpyL m N (ii (repL v N m)) (ii (List.replicate m v)) = ii (repL v N (m + min m (N - m))) := by
  have e : ∀ (a b : List Int), ii (a ++ b) = ii a ++ ii b := fun a b => by simp [ii]
  have e2 : ∀ (a : List Int) k, (ii a).take k = ii (a.take k) := fun a k => by simp [ii, List.map_take]
  have e3 : ∀ (a : List Int) k, (ii a).drop k = ii (a.drop k) := fun a k => by simp [ii, List.map_drop]
  unfold cpyL
  rw [e2, e2, e3, ← e, ← e]
  congr 1
  simp only [repL, ii, List.length_map, List.length_replicate]
  rw [List.take_left' (by simp), List.take_replicate, List.drop_append]
  simp only [List.length_replicate, List.drop_replicate]
  have h1 : m - (m + min m (N - m)) = 0 := by omega
  have h2 : N - m - (m + min m (N - m) - m) = N - (m + min m (N - m)) := by omega
  have h3 : min (N - m) m = min m (N - m) := by omega
  rw [h1, h2, h3, List.replicate_zero, List.nil_append, List.replicate_append_replicate]
theorem Repeat_ok {nl : Option Bool} (v n : Int) (h0 : 0 ≤ n) (h1 : n < 1048576) : CallOk Try.prog 42 [.s nl (ii [v]), .i n] [(0, .own 1 none (ii (List.replicate n.toNat v)))] := by
  obtain ⟨N, rfl⟩ := Int.eq_ofNat_of_zero_le h0
  obtain ⟨code0, hcd1, hcd2⟩ := chk_slices_Repeat_Sint_int; refine callOk_of Try.func42 hcd1 mo Try.call42 (rs := [4]) (by kernel_rfl) hcd2 (by rw [Try.ntmps42]; simp) (by simp) (by decide) ?_; unfold C_slices_Repeat_Sint_int K_slices_Repeat_Sint_int; simp (config := { maxSteps := 2000000 }) only [go_sem, Nat.reduceBEq, Nat.reduceAdd, Nat.reduceMul, Nat.reduceMod, Nat.reduceLT, Nat.reduceDiv, Nat.reduceSub, Nat.reduceLeDiff, Int.reduceToNat, Int.reduceLT, Int.reduceLE, reduceCtorEq, List.take_nil, List.drop_nil]
  refine ⟨fun h => by omega, fun _ => ?_⟩
  have w1 : IntKind.u64.wrap ((1 : Nat) : Int) = 1 := wrapU (by omega) (by omega)
  rw [w1, wrapU h0 (by omega)]
  refine ⟨_, Mul_ok N h0 (by omega), ?_⟩; simp (config := { maxSteps := 2000000 }) only [go_sem, Nat.reduceBEq, Nat.reduceAdd, Nat.reduceMul, Nat.reduceMod, Nat.reduceLT, Nat.reduceDiv, Nat.reduceSub, Nat.reduceLeDiff, Int.reduceToNat, Int.reduceLT, Int.reduceLE, reduceCtorEq, List.take_nil, List.drop_nil]
  refine ⟨rfl, rfl, fun h => by omega, fun _ => ⟨inR_of (by omega) (by omega), by omega, by omega, by omega, by omega, ?_⟩⟩
  refine ⟨{m : Nat // m ≤ N ∧ (0 < N → 0 < m)}, fun m => [(0, .t .arg (.s nl (ii [v]))), (1, .i (N : Nat)), (7, .own 1 none (ii (repL v N m.1))), (8, .i (m.1 : Nat))], fun m => N - m.1, ⟨⟨min 1 N, by omega, by omega⟩, ?_⟩, fun m => ?_⟩
  · simp (config := { maxSteps := 2000000 }) only [go_sem, Nat.reduceBEq, Nat.reduceAdd, Nat.reduceMul, Nat.reduceMod, Nat.reduceLT, Nat.reduceDiv, Nat.reduceSub, Nat.reduceLeDiff, Int.reduceToNat, Int.reduceLT, Int.reduceLE, reduceCtorEq, List.take_nil, List.drop_nil]
    have e0 : cpyL 0 (List.replicate N (0 : Int)).length (ii (List.replicate N 0)) (ii [v]) = ii (repL v N (min 1 N)) := by
      rw [List.length_replicate]
      cases N with
      | zero => rfl
      | succ N => simp [cpyL, ii, repL, List.replicate_succ]
    rw [e0]
    exact ⟨T.leL_refl _, by simp⟩
  · obtain ⟨m, hm, hp⟩ := m
    have hl := repL_len (v := v) hm
    have hd : ((repL v N m).take m).drop 0 = List.replicate m v := by rw [List.drop_zero]; exact repL_take hm
    simp (config := { maxSteps := 2000000 }) only [go_sem, Nat.reduceBEq, Nat.reduceAdd, Nat.reduceMul, Nat.reduceMod, Nat.reduceLT, Nat.reduceDiv, Nat.reduceSub, Nat.reduceLeDiff, Int.reduceToNat, Int.reduceLT, Int.reduceLE, reduceCtorEq, List.take_nil, List.drop_nil]
    rw [hl, hd, List.length_replicate, repL_cpy hm]
    refine ⟨fun hlt => ⟨by omega, by omega, by unfold subOk; omega, by omega, by omega, inR_of (by omega) (by omega), ?_⟩, fun hge => ?_⟩
    · refine ⟨⟨m + min m (N - m), by omega, by omega⟩, by show N - (m + min m (N - m)) < N - m; omega, ?_⟩
      first | (simp (config := { maxSteps := 2000000 }) only [go_sem, Nat.reduceBEq, Nat.reduceAdd, Nat.reduceMul, Nat.reduceMod, Nat.reduceLT, Nat.reduceDiv, Nat.reduceSub, Nat.reduceLeDiff, Int.reduceToNat, Int.reduceLT, Int.reduceLE, reduceCtorEq, List.take_nil, List.drop_nil]; omega) | omega
    · have : m = N := by omega
      subst this
      simp [repL]

end Go.Proofs.Ytelblnfnfeoapaa
