/- Own work: contracts of functions that the claim reaches. No condition beyond those that each theorem names. -/
import Derived.Test.YtgdpplhbblapgaaProg
import Derived.Test.YtgdpplhbblapgaaSmall
import Derived.Test.YtgdpplhbblapgaaV5
namespace Go.Proofs.Ytgdpplhbblapgaa
open Go Go.Vc
set_option maxRecDepth 100000
set_option linter.unusedSimpArgs false
set_option linter.unusedVariables false
def byt (l : List Int) : List T := l.map fun n => .w .u8 n
structure CodeL (l : List Int) : Prop where
 len : l.length ≤ 1048576
 bd : ∀ x ∈ l, 0 ≤ x ∧ x < 256
def cur (u : Value) (nl : Option Bool) (l : List Int) (p : Int × Int) : List T := [.xv u (.s nl (byt l)), .i p.1, .i p.2]
structure Cur (l : List Int) (p : Int × Int) : Prop where
 i0 : 0 ≤ p.1
 il : p.1 ≤ l.length
 hh : inR p.2
theorem andI_bd {a b : Int} (h0 : 0 ≤ b) (h1 : b < 9223372036854775808) : 0 ≤ andI a b ∧ andI a b ≤ b := by
 unfold andI
 have hb : (BitVec.ofInt 64 b).toNat = b.toNat := by simp [BitVec.toNat_ofInt]; omega
 have hle : (BitVec.ofInt 64 a &&& BitVec.ofInt 64 b).toNat ≤ b.toNat := by
  rw [BitVec.toNat_and, hb]; exact Nat.and_le_right
 generalize (BitVec.ofInt 64 a &&& BitVec.ofInt 64 b).toNat = n at hle
 have : IntKind.i64.wrap (n : Int) = n := by
  unfold IntKind.wrap; simp [IntKind.bits, IntKind.signed]; omega
 rw [this]; omega
theorem wrI_bd {n : Int} : inR (wrI n) := by
 unfold inR wrI IntKind.wrap; simp [IntKind.bits, IntKind.signed]; omega
theorem byt_len {l : List Int} : (byt l).length = l.length := by simp [byt]
theorem byt_get {l : List Int} {i : Nat} (h : i < l.length) : (byt l)[i]? = some (.w .u8 (l.getD i 0)) := by simp [byt, List.getD, h]
theorem le_self {v : V} : V.le v v = True := eq_true (Vc.V.le_refl v)
theorem byt_at {l : List Int} {k : Nat} (h : k < l.length) : (byt l).getD k T.any = .w .u8 (l.getD k 0) := by rw [List.getD, byt_get h]; rfl
def K_spec_l01New : List Nat := [0, 2, 3, 4, 1002, 2002, 3002]
def C_spec_l01New : C :=
 let ks := K_spec_l01New
 (.seq
  (.rg 0 [(none, .v 2 .mv [.k .any])])
  (.cl ks (.seq
  (.rg 0 [(none, .v 5 .mv [.s 0]), (none, .v 6 .len [.s 5]), (none, .v 7 (.bin .add) [.k (.i 2139), .s 6]), (none, .tk 3 7)])
  (.cl ks (.seq
  (.seq
  (.rg 0 [(none, .v 4 .mv [.k (.i 0)])])
  (.cl ks (.block 0
  (.loop
  (.seq
  (.seq
  (.rg 0 [(none, .v 8 .mv [.s 4]), (none, .v 9 .mv [.s 0]), (none, .v 10 .len [.s 9]), (none, .v 11 (.bin .lss) [.s 8, .s 10]), (none, .v 12 .mv [.s 11]), (some (12, true), .v 13 .mv [.s 4]), (some (12, true), .v 14 (.bin .lss) [.s 13, .k (.i 4000)]), (none, .v 15 .pick [.s 12, .s 14, .k (.b false)])])
  (.cond (.s 15)
  .skip
  (.exit 0)))
  (.cl ks (.seq
  (.block 1
  (.rg 0 [(none, .v 18 .mv [.s 3]), (none, .v 19 (.bin .mul) [.s 18, .k (.i 149)]), (none, .v 20 .mv [.s 0]), (none, .v 21 .mv [.s 4]), (none, .v 22 .idx [.s 20, .s 21]), (none, .v 23 .ld [.s 22]), (none, .v 24 .cvi [.s 23]), (none, .v 25 (.bin .add) [.s 19, .s 24]), (none, .v 26 (.bin .add) [.s 25, .k (.i 7)]), (none, .v 27 (.bin .and) [.s 26, .k (.i 1073741823)]), (none, .tk 3 27)]))
  (.cl ks (.rg 0 [(none, .v 16 .mv [.s 4]), (none, .v 17 (.bin .add) [.s 16, .k (.i 1)]), (none, .tk 4 17)])))))))))
  (.cl ks (.seq
  (.rg 0 [(none, .v 28 .mv [.s 0]), (none, .v 29 .mv [.s 3]), (none, .v 30 .bld [.s 28, .k (.i 0), .s 29]), (none, .box 31 (.s 30)), (none, .tk 2 31)])
  .ret)))))))
theorem chk_spec_l01New : ∃ b, Try.f165.body = some b ∧ chk Try.prog Try.f165.ntmps true C_spec_l01New b = true := ⟨_, rfl, by kernel_rfl⟩
def K_spec_l01Byte : List Nat := [0, 2, 3, 1000, 2000, 3000]
def C_spec_l01Byte : C :=
 let ks := K_spec_l01Byte
 (.seq
  (.rg 0 [(none, .v 2 .mv [.k (.i 0)])])
  (.cl ks (.seq
  (.rg 0 [(none, .v 4 .mv [.s 0]), (none, .v 5 .mv [.s 0]), (none, .v 6 .nilc [.s 5]), (none, .v 7 (.fa 2) [.s 6]), (none, .v 8 .ld [.s 7]), (none, .v 9 (.bin .mlw) [.s 8, .k (.i 6364136223846793005)]), (none, .v 10 (.bin .adw) [.s 9, .k (.i 1442695040888963407)]), (none, .v 11 .nilc [.s 4]), (none, .v 12 (.fa 2) [.s 11]), (none, .st (.s 12) (.s 10))])
  (.cl ks (.seq
  (.rg 10 [(none, .v 13 .mv [.s 0]), (none, .v 14 .nilc [.s 13]), (none, .v 15 (.fa 2) [.s 14]), (none, .v 16 .ld [.s 15]), (none, .v 17 (.shw 33) [.s 16]), (none, .v 18 .mv [.s 0]), (none, .v 19 .nilc [.s 18]), (none, .v 20 (.fa 2) [.s 19]), (none, .v 21 .ld [.s 20]), (none, .v 22 (.shw 45) [.s 21]), (none, .v 23 (.bin .xor) [.s 17, .s 22]), (none, .v 24 (.bin .and) [.s 23, .k (.i 255)]), (none, .tk 3 24)])
  (.cl ks (.seq
  (.seq
  (.rg 9 [(none, .v 25 .mv [.s 0]), (none, .v 26 .nilc [.s 25]), (none, .v 27 (.fa 1) [.s 26]), (none, .v 28 .ld [.s 27]), (none, .v 29 .mv [.s 0]), (none, .v 30 .nilc [.s 29]), (none, .v 31 (.fa 0) [.s 30]), (none, .v 32 .ld [.s 31]), (none, .v 33 .len [.s 32]), (none, .v 34 (.bin .lss) [.s 28, .s 33])])
  (.cond (.s 34)
  (.seq
  (.rg 12 [(none, .v 35 .mv [.s 3]), (none, .v 36 .mv [.s 0]), (none, .v 37 .nilc [.s 36]), (none, .v 38 (.fa 0) [.s 37]), (none, .v 39 .ld [.s 38]), (none, .v 40 .mv [.s 0]), (none, .v 41 .nilc [.s 40]), (none, .v 42 (.fa 1) [.s 41]), (none, .v 43 .ld [.s 42]), (none, .v 44 .idx [.s 39, .s 43]), (none, .v 45 .ld [.s 44]), (none, .v 46 .cvi [.s 45]), (none, .v 47 (.bin .add) [.s 35, .s 46]), (none, .v 48 (.bin .and) [.s 47, .k (.i 255)]), (none, .tk 3 48)])
  (.cl ks (.rg 0 [(none, .v 49 .mv [.s 0]), (none, .v 50 .mv [.s 0]), (none, .v 51 .nilc [.s 50]), (none, .v 52 (.fa 1) [.s 51]), (none, .v 53 .ld [.s 52]), (none, .v 54 (.bin .add) [.s 53, .k (.i 1)]), (none, .v 55 .nilc [.s 49]), (none, .v 56 (.fa 1) [.s 55]), (none, .st (.s 56) (.s 54))])))
  .skip))
  (.cl ks (.seq
  (.rg 0 [(none, .v 57 .mv [.s 3]), (none, .tk 2 57)])
  .ret)))))))))
theorem chk_spec_l01Byte : ∃ b, Try.f128.body = some b ∧ chk Try.prog Try.f128.ntmps false C_spec_l01Byte b = true ∧ dstB (fun k => k == 0) b = true := ⟨_, rfl, by kernel_rfl, by kernel_rfl⟩
def K_spec_l01Below : List Nat := [0, 1, 4, 5, 6, 7, 8, 1000, 2000, 3000]
def C_spec_l01Below : C :=
 let ks := K_spec_l01Below
 (.seq
  (.rg 0 [(none, .v 4 .mv [.k (.i 0)])])
  (.cl ks (.seq
  (.seq
  (.rg 0 [(none, .v 9 .mv [.s 1]), (none, .v 10 (.bin .leq) [.s 9, .k (.i 0)])])
  (.cond (.s 10)
  (.seq
  (.rg 0 [(none, .v 4 .mv [.k (.i 0)])])
  .ret)
  .skip))
  (.cl ks (.seq
  (.seq
  (.rg 0 [(none, .v 11 .mv [.s 1]), (none, .v 12 (.bin .leq) [.s 11, .k (.i 256)])])
  (.cond (.s 12)
  (.seq
  (.rg 0 [(none, .v 13 .mv [.s 0]), (none, .cop 14 128 [.s 13] 0), (none, .v 15 .mv [.s 1]), (none, .v 16 (.bin .rem) [.s 14, .s 15]), (none, .tk 4 16)])
  .ret)
  .skip))
  (.cl ks (.seq
  (.rg 0 [(none, .v 17 .mv [.s 0]), (none, .cop 18 128 [.s 17] 0), (none, .tk 5 18)])
  (.cl ks (.seq
  (.rg 0 [(none, .v 19 .mv [.s 0]), (none, .cop 20 128 [.s 19] 0), (none, .tk 6 20)])
  (.cl ks (.seq
  (.rg 0 [(none, .v 21 .mv [.s 0]), (none, .cop 22 128 [.s 21] 0), (none, .tk 7 22)])
  (.cl ks (.seq
  (.rg 0 [(none, .v 23 .mv [.s 0]), (none, .cop 24 128 [.s 23] 0), (none, .tk 8 24)])
  (.cl ks (.seq
  (.rg 0 [(none, .v 25 .mv [.s 5]), (none, .v 26 (.bin .mul) [.s 25, .k (.i 16777216)]), (none, .v 27 .mv [.s 6]), (none, .v 28 (.bin .mul) [.s 27, .k (.i 65536)]), (none, .v 29 (.bin .add) [.s 26, .s 28]), (none, .v 30 .mv [.s 7]), (none, .v 31 (.bin .mul) [.s 30, .k (.i 256)]), (none, .v 32 (.bin .add) [.s 29, .s 31]), (none, .v 33 .mv [.s 8]), (none, .v 34 (.bin .add) [.s 32, .s 33]), (none, .v 35 .mv [.s 1]), (none, .v 36 (.bin .rem) [.s 34, .s 35]), (none, .tk 4 36)])
  .ret)))))))))))))))
theorem chk_spec_l01Below : ∃ b, Try.f164.body = some b ∧ chk Try.prog Try.f164.ntmps false C_spec_l01Below b = true ∧ dstB (fun k => k == 0) b = true := ⟨_, rfl, by kernel_rfl, by kernel_rfl⟩
def K_spec_l32New : List Nat := [0, 1, 4, 5, 6, 1005, 2005, 3005]
def C_spec_l32New : C :=
 let ks := K_spec_l32New
 (.seq
  (.rg 0 [(none, .v 4 .mv [.k .any])])
  (.cl ks (.seq
  (.rg 0 [(none, .v 7 .mv [.s 0]), (none, .con 8 165 [.s 7]), (none, .tk 5 8)])
  (.cl ks (.seq
  (.seq
  (.rg 0 [(none, .v 6 .mv [.k (.i 0)])])
  (.cl ks (.block 0
  (.loop
  (.seq
  (.seq
  (.rg 0 [(none, .v 9 .mv [.s 6]), (none, .v 10 .mv [.s 1]), (none, .v 11 (.bin .lss) [.s 9, .s 10])])
  (.cond (.s 11)
  .skip
  (.exit 0)))
  (.cl ks (.seq
  (.block 1
  (.rg 0 [(none, .v 14 .mv [.s 5]), (none, .cop 15 128 [.s 14] 0)]))
  (.cl ks (.rg 0 [(none, .v 12 .mv [.s 6]), (none, .v 13 (.bin .add) [.s 12, .k (.i 1)]), (none, .tk 6 13)])))))))))
  (.cl ks (.seq
  (.rg 0 [(none, .v 16 .mv [.s 5]), (none, .tk 4 16)])
  .ret)))))))
theorem chk_spec_l32New : ∃ b, Try.f112.body = some b ∧ chk Try.prog Try.f112.ntmps true C_spec_l32New b = true := ⟨_, rfl, by kernel_rfl⟩
def newH (l : List Int) : Nat → Int
 | 0 => 2139 + l.length
 | k + 1 => andI (newH l k * 149 + l.getD k 0 + 7) 1073741823
theorem newH_bd {l : List Int} (C : CodeL l) : ∀ {k : Nat}, 0 ≤ newH l k ∧ newH l k ≤ 1073741823
 | 0 => by have := C.len; simp only [newH]; omega
 | k + 1 => andI_bd (by omega) (by omega)
theorem spec_l01New_ok (u : Value) (nl : Option Bool) {l : List Int} (C : CodeL l) : ∃ p, Cur l p ∧ CallN Try.prog 165 [.xv u (.s nl (byt l))] (cur u nl l p) := by
 refine ⟨(0, newH l (min l.length 4000)), ⟨by simp, by simp, inR_of (by have := newH_bd C (k := min l.length 4000); simp; omega) (by have := newH_bd C (k := min l.length 4000); simp; omega)⟩, ?_⟩
 have hl := C.len
 obtain ⟨code0, hcd1, hcd2⟩ := chk_spec_l01New; refine callN_of Try.func165 hcd1 mo Try.call165 (r := 2) (by kernel_rfl) hcd2 (by rw [Try.ntmps165]; simp) (by simp) (by decide) ?_; unfold C_spec_l01New K_spec_l01New; simp (maxSteps := 2000000) only [go_sem, Nat.reduceBEq, Nat.reduceAdd, Nat.reduceMul, Nat.reduceMod, Nat.reduceLT, Nat.reduceDiv, Nat.reduceSub, Nat.reduceLeDiff, Int.reduceToNat, Int.reduceLT, Int.reduceLE, reduceCtorEq]
 simp only [byt_len]
 refine ⟨inR_of (by omega) (by omega), ?_⟩
 refine loopN (min l.length 4000) (fun k => [(0, .t .arg (.xv u (.s nl (byt l)))), (3, .i (newH l k)), (4, .i (k : Nat))]) (fun _ => True) ⟨trivial, by simp (maxSteps := 2000000) only [go_sem, Nat.reduceBEq, Nat.reduceAdd, Nat.reduceMul, Nat.reduceMod, Nat.reduceLT, Nat.reduceDiv, Nat.reduceSub, Nat.reduceLeDiff, Int.reduceToNat, Int.reduceLT, Int.reduceLE, reduceCtorEq, le_self]; simp [newH]⟩ fun k hk _ => ?_
 have hh := newH_bd C (k := k)
 by_cases hkl : k < l.length
 ·have hg := C.bd _ (getD_mem (d := 0) hkl)
  have hs : newH l (k + 1) = andI (newH l k * 149 + l.getD k 0 + 7) 1073741823 := rfl
  simp (maxSteps := 2000000) only [go_sem, Nat.reduceBEq, Nat.reduceAdd, Nat.reduceMul, Nat.reduceMod, Nat.reduceLT, Nat.reduceDiv, Nat.reduceSub, Nat.reduceLeDiff, Int.reduceToNat, Int.reduceLT, Int.reduceLE, reduceCtorEq, le_self, byt_at hkl, byt_len]
  refine ⟨fun _ => ⟨fun h4 => ?_, fun h4 => ?_⟩, fun hge => absurd hkl (by omega)⟩
  ·refine ⟨inR_of (by omega) (by omega), by omega, hkl, hkl, inR_of (by omega) (by omega), inR_of (by omega) (by omega), inR_of (by omega) (by omega), inR_of (by omega) (by omega), by omega, hs.symm, by simp⟩
  ·rw [show min l.length 4000 = k by omega]
   exact Vc.T.leL_refl _
 ·simp (maxSteps := 2000000) only [go_sem, Nat.reduceBEq, Nat.reduceAdd, Nat.reduceMul, Nat.reduceMod, Nat.reduceLT, Nat.reduceDiv, Nat.reduceSub, Nat.reduceLeDiff, Int.reduceToNat, Int.reduceLT, Int.reduceLE, reduceCtorEq, le_self, byt_len]
  refine ⟨fun h => absurd h (by omega), fun _ => ?_⟩
  rw [show min l.length 4000 = k by omega]
  exact Vc.T.leL_refl _
theorem spec_l01Byte_ok (u : Value) (nl : Option Bool) {l : List Int} (C : CodeL l) {p : Int × Int} (h : Cur l p) : ∃ q x, Cur l q ∧ 0 ≤ x ∧ x ≤ 255 ∧ CallQ Try.prog 128 0 [.q (cur u nl l p) 0] (cur u nl l q) [(0, .i x)] := by
 obtain ⟨i, e⟩ := p
 have hl := C.len
 have i0 := h.i0
 have il := h.il
 simp only at i0 il
 by_cases hlt : i < l.length
 ·refine ⟨(i + 1, wrI (wrI (e * 6364136223846793005) + 1442695040888963407)), andI (andI (xorI (wrI (wrI (e * 6364136223846793005) + 1442695040888963407) / 2 ^ 33) (wrI (wrI (e * 6364136223846793005) + 1442695040888963407) / 2 ^ 45)) 255 + l.getD i.toNat 0) 255, ⟨by simp only; omega, by simp only; omega, wrI_bd⟩, (andI_bd (by omega) (by omega)).1, (andI_bd (by omega) (by omega)).2, ?_⟩
  unfold cur
  obtain ⟨code0, hcd1, hcd2, hcd3⟩ := chk_spec_l01Byte; refine callQ_of Try.func128 hcd1 mo Try.call128 (r := 2) (i := 0) (by kernel_rfl) hcd2 hcd3 (by rw [Try.ntmps128]; simp) (by simp) (by decide) rfl rfl (by simp) ?_; unfold C_spec_l01Byte K_spec_l01Byte; simp (maxSteps := 2000000) only [go_sem, Nat.reduceBEq, Nat.reduceAdd, Nat.reduceMul, Nat.reduceMod, Nat.reduceLT, Nat.reduceDiv, Nat.reduceSub, Nat.reduceLeDiff, Int.reduceToNat, Int.reduceLT, Int.reduceLE, reduceCtorEq]
  have hx := C.bd _ (getD_mem (d := 0) (show i.toNat < l.length by omega))
  have ha := andI_bd (a := xorI (wrI (wrI (e * 6364136223846793005) + 1442695040888963407) / 2 ^ 33) (wrI (wrI (e * 6364136223846793005) + 1442695040888963407) / 2 ^ 45)) (b := 255) (by omega) (by omega)
  simp (maxSteps := 2000000) only [go_sem, Nat.reduceBEq, Nat.reduceAdd, Nat.reduceMul, Nat.reduceMod, Nat.reduceLT, Nat.reduceDiv, Nat.reduceSub, Nat.reduceLeDiff, Int.reduceToNat, Int.reduceLT, Int.reduceLE, reduceCtorEq, byt_at (show i.toNat < l.length by omega), byt_len, le_self]
  exact ⟨fun _ => ⟨i0, by omega, by omega, inR_of (by omega) (by omega), inR_of (by omega) (by omega), inR_of (by omega) (by omega)⟩, fun h => absurd hlt h⟩
 ·refine ⟨(i, wrI (wrI (e * 6364136223846793005) + 1442695040888963407)), andI (xorI (wrI (wrI (e * 6364136223846793005) + 1442695040888963407) / 2 ^ 33) (wrI (wrI (e * 6364136223846793005) + 1442695040888963407) / 2 ^ 45)) 255, ⟨by simp only; omega, by simp only; omega, wrI_bd⟩, (andI_bd (by omega) (by omega)).1, (andI_bd (by omega) (by omega)).2, ?_⟩
  unfold cur
  obtain ⟨code0, hcd1, hcd2, hcd3⟩ := chk_spec_l01Byte; refine callQ_of Try.func128 hcd1 mo Try.call128 (r := 2) (i := 0) (by kernel_rfl) hcd2 hcd3 (by rw [Try.ntmps128]; simp) (by simp) (by decide) rfl rfl (by simp) ?_; unfold C_spec_l01Byte K_spec_l01Byte; simp (maxSteps := 2000000) only [go_sem, Nat.reduceBEq, Nat.reduceAdd, Nat.reduceMul, Nat.reduceMod, Nat.reduceLT, Nat.reduceDiv, Nat.reduceSub, Nat.reduceLeDiff, Int.reduceToNat, Int.reduceLT, Int.reduceLE, reduceCtorEq]
  simp (maxSteps := 2000000) only [go_sem, Nat.reduceBEq, Nat.reduceAdd, Nat.reduceMul, Nat.reduceMod, Nat.reduceLT, Nat.reduceDiv, Nat.reduceSub, Nat.reduceLeDiff, Int.reduceToNat, Int.reduceLT, Int.reduceLE, reduceCtorEq, byt_len, le_self]
  exact ⟨fun h => absurd h hlt, fun _ => trivial⟩
theorem iter_ex {α : Type} {R : α → α → Prop} (step : ∀ a, ∃ b, R a b) (a : α) : ∃ f : Nat → α, f 0 = a ∧ ∀ k, R (f k) (f (k + 1)) :=
 ⟨fun k => Nat.rec a (fun _ p => Classical.choose (step p)) k, rfl, fun k => Classical.choose_spec (step _)⟩
theorem spec_l01Below_ok (u : Value) (nl : Option Bool) {l : List Int} (C : CodeL l) {p : Int × Int} (h : Cur l p) {n : Int} (h1 : 1 ≤ n) (h2 : n ≤ 256) : ∃ q x, Cur l q ∧ 0 ≤ x ∧ x < n ∧ CallQ Try.prog 164 0 [.q (cur u nl l p) 0, .i n] (cur u nl l q) [(0, .i x)] := by
 obtain ⟨q, x, hq, x0, x1, W⟩ := spec_l01Byte_ok u nl C h
 refine ⟨q, x.tmod n, hq, Int.tmod_nonneg _ x0, Int.tmod_lt_of_pos _ (by omega), ?_⟩
 unfold cur at W ⊢
 obtain ⟨code0, hcd1, hcd2, hcd3⟩ := chk_spec_l01Below; refine callQ_of Try.func164 hcd1 mo Try.call164 (r := 4) (i := 0) (by kernel_rfl) hcd2 hcd3 (by rw [Try.ntmps164]; simp) (by simp) (by decide) rfl rfl (by simp) ?_; unfold C_spec_l01Below K_spec_l01Below; simp (maxSteps := 2000000) only [go_sem, Nat.reduceBEq, Nat.reduceAdd, Nat.reduceMul, Nat.reduceMod, Nat.reduceLT, Nat.reduceDiv, Nat.reduceSub, Nat.reduceLeDiff, Int.reduceToNat, Int.reduceLT, Int.reduceLE, reduceCtorEq]
 refine ⟨fun h => absurd h (by omega), fun _ => ⟨fun _ => ?_, fun h => absurd h2 h⟩⟩
 refine ⟨_, _, W, ?_⟩
 simp (maxSteps := 2000000) only [go_sem, Nat.reduceBEq, Nat.reduceAdd, Nat.reduceMul, Nat.reduceMod, Nat.reduceLT, Nat.reduceDiv, Nat.reduceSub, Nat.reduceLeDiff, Int.reduceToNat, Int.reduceLT, Int.reduceLE, reduceCtorEq, le_self]
 omega
theorem spec_l32New_ok (u : Value) (nl : Option Bool) {l : List Int} (C : CodeL l) {n : Int} (h0 : 0 ≤ n) (h1 : n ≤ 1000) : ∃ q, Cur l q ∧ CallN Try.prog 112 [.xv u (.s nl (byt l)), .i n] (cur u nl l q) := by
 obtain ⟨p, hp, W⟩ := spec_l01New_ok u nl C
 obtain ⟨F, F0, FltS⟩ := iter_ex (α := {p // Cur l p}) (R := fun a b => ∃ x, CallQ Try.prog 128 0 [.q (cur u nl l a.1) 0] (cur u nl l b.1) [(0, .i x)]) (fun a => by
  obtain ⟨q, x, hq, _, _, W⟩ := spec_l01Byte_ok u nl C a.2
  exact ⟨⟨q, hq⟩, x, W⟩) ⟨p, hp⟩
 refine ⟨(F n.toNat).1, (F n.toNat).2, ?_⟩
 unfold cur at W
 obtain ⟨code0, hcd1, hcd2⟩ := chk_spec_l32New; refine callN_of Try.func112 hcd1 mo Try.call112 (r := 4) (by kernel_rfl) hcd2 (by rw [Try.ntmps112]; simp) (by simp) (by decide) ?_; unfold C_spec_l32New K_spec_l32New; simp (maxSteps := 2000000) only [go_sem, Nat.reduceBEq, Nat.reduceAdd, Nat.reduceMul, Nat.reduceMod, Nat.reduceLT, Nat.reduceDiv, Nat.reduceSub, Nat.reduceLeDiff, Int.reduceToNat, Int.reduceLT, Int.reduceLE, reduceCtorEq]
 refine ⟨_, W, ?_⟩
 simp (maxSteps := 2000000) only [go_sem, Nat.reduceBEq, Nat.reduceAdd, Nat.reduceMul, Nat.reduceMod, Nat.reduceLT, Nat.reduceDiv, Nat.reduceSub, Nat.reduceLeDiff, Int.reduceToNat, Int.reduceLT, Int.reduceLE, reduceCtorEq, le_self]
 refine loopN n.toNat (fun k => [(0, .t .arg (.xv u (.s nl (byt l)))), (1, .i n), (5, .bx 3), (6, .i (k : Nat)), (1005, .t .arg (.xv u (.s nl (byt l)))), (2005, .i (F k).1.1), (3005, .i (F k).1.2)]) (fun _ => True) ⟨trivial, by simp (maxSteps := 2000000) only [go_sem, Nat.reduceBEq, Nat.reduceAdd, Nat.reduceMul, Nat.reduceMod, Nat.reduceLT, Nat.reduceDiv, Nat.reduceSub, Nat.reduceLeDiff, Int.reduceToNat, Int.reduceLT, Int.reduceLE, reduceCtorEq, le_self]; simp [F0]⟩ fun k hk _ => ?_
 simp (maxSteps := 2000000) only [go_sem, Nat.reduceBEq, Nat.reduceAdd, Nat.reduceMul, Nat.reduceMod, Nat.reduceLT, Nat.reduceDiv, Nat.reduceSub, Nat.reduceLeDiff, Int.reduceToNat, Int.reduceLT, Int.reduceLE, reduceCtorEq, le_self]
 refine ⟨fun hlt => ?_, fun hge => ?_⟩
 ·obtain ⟨x, W1⟩ := FltS k
  unfold cur at W1
  refine ⟨_, _, W1, ?_⟩
  simp (maxSteps := 2000000) only [go_sem, Nat.reduceBEq, Nat.reduceAdd, Nat.reduceMul, Nat.reduceMod, Nat.reduceLT, Nat.reduceDiv, Nat.reduceSub, Nat.reduceLeDiff, Int.reduceToNat, Int.reduceLT, Int.reduceLE, reduceCtorEq, le_self]
  exact ⟨inR_of (by omega) (by omega), by omega, by simp⟩
 ·have : k = n.toNat := by omega
  subst this
  exact Vc.T.leL_refl _
end Go.Proofs.Ytgdpplhbblapgaa
