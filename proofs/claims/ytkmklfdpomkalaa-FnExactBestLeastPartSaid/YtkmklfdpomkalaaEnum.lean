/- Own work: contracts of functions that the claim reaches. No condition beyond those that each theorem names. -/
import Derived.Test.YtkmklfdpomkalaaProg
import Derived.Test.YtkmklfdpomkalaaRepeat
import Derived.Test.YtkmklfdpomkalaaRanks
import Derived.Test.YtkmklfdpomkalaaGoods
import Derived.Test.YtkmklfdpomkalaaV5
namespace Go.Proofs.Ytkmklfdpomkalaa
open Go Go.Vc
set_option maxRecDepth 100000
set_option linter.unusedSimpArgs false
set_option linter.unusedVariables false
/-! All lists of a length over a range of numbers, one after another. -/
/-- The j-th list of k numbers, b of them from low on. -/
def sn (low : Int) (b : Nat) : Nat → Nat → List Int
  | 0, _ => []
  | k + 1, j => sn low b k (j / b) ++ [low + (j % b : Nat)]
section
variable {low : Int} {b : Nat}
theorem sn_len : ∀ {k j : Nat}, (sn low b k j).length = k
  | 0, _ => rfl
  | k + 1, j => by simp only [sn, List.length_append, List.length_singleton]; rw [sn_len]
theorem sn_z (hb : 0 < b) : ∀ {k : Nat}, sn low b k 0 = List.replicate k low
  | 0 => rfl
  | k + 1 => by simp only [sn, Nat.zero_div, Nat.zero_mod]; rw [sn_z hb, List.replicate_succ']; simp
theorem sn_bd (hb : 0 < b) : ∀ {k j : Nat}, ∀ v ∈ sn low b k j, low ≤ v ∧ v < low + b
  | 0, _, v, h => by simp [sn] at h
  | k + 1, j, v, h => by
    simp only [sn, List.mem_append, List.mem_singleton] at h
    rcases h with h | h
    · exact sn_bd hb v h
    · have := Nat.mod_lt j hb; omega
/-- With q trailing noughts. -/
theorem sn_pad (hb : 0 < b) {k j : Nat} : ∀ {q : Nat}, sn low b (k + q) (j * b ^ q) = sn low b k j ++ List.replicate q low
  | 0 => by simp
  | q + 1 => by
    have e1 : j * b ^ (q + 1) = (j * b ^ q) * b := by rw [Nat.pow_succ, Nat.mul_assoc]
    show sn low b (k + q + 1) _ = _
    simp only [sn]
    rw [e1, Nat.mul_div_cancel _ hb, Nat.mul_mod_left, sn_pad hb, List.replicate_succ', List.append_assoc]; simp
theorem sn_last (hb : 0 < b) {k j : Nat} (hj : j % b + 1 < b) : sn low b (k + 1) (j + 1) = sn low b k (j / b) ++ [low + (j % b : Nat) + 1] := by
  have h1 := Nat.div_add_mod j b
  have e1 : (j + 1) / b = j / b := by
    conv => lhs; rw [← h1, show b * (j / b) + j % b + 1 = j % b + 1 + b * (j / b) by omega, Nat.add_mul_div_left _ _ hb, Nat.div_eq_of_lt hj, Nat.zero_add]
  have e2 : (j + 1) % b = j % b + 1 := by
    conv => lhs; rw [← h1, show b * (j / b) + j % b + 1 = j % b + 1 + b * (j / b) by omega, Nat.add_mul_mod_self_left, Nat.mod_eq_of_lt hj]
  simp only [sn]
  rw [e1, e2]
  congr 2
  omega
theorem carry (hb : 0 < b) {j : Nat} (h : j % b + 1 = b) : (j / b + 1) * b = j + 1 := by
  have h1 := Nat.div_add_mod j b
  rw [Nat.add_mul, Nat.one_mul, Nat.mul_comm]; omega
end
def capT (low len high : Int) : List T := [.q [.i low] 0, .q [.i len] 0, .q [.i high] 0]
theorem mid_get {a r : List Int} {x : Int} : (a ++ [x] ++ r).getD a.length 0 = x := by simp [List.getD]
theorem mid_set {a r : List Int} {x v : Int} : (a ++ [x] ++ r).set a.length v = a ++ [v] ++ r := by simp
def K_impl_lists : List Nat := [0, 1, 2, 3, 4, 5, 6, 1003, 1004, 1005]
def C_impl_lists : C :=
  let ks := K_impl_lists
  (.seq
    (.rg 0 [(none, .v 3 .boxF [.s 0]), (none, .v 4 .boxF [.s 1]), (none, .v 5 .boxF [.s 2]), (none, .v 6 .mv [.k .any])])
    (.cl ks (.seq
      (.rg 0 [(none, .v 7 (.cloF 76) [.s 4, .s 3, .s 5]), (none, .tk 6 7)])
      .ret)))

theorem chk_impl_lists : ∃ b, Try.f68.body = some b ∧ chk Try.prog Try.f68.ntmps true C_impl_lists b = true := ⟨_, rfl, by kernel_rfl⟩
theorem impl_lists_ok (len low high : Int) : CallOk Try.prog 68 [.i len, .i low, .i high] [(0, .t .fr (.c 76 (capT low len high)))] := by
  obtain ⟨code0, hcd1, hcd2⟩ := chk_impl_lists; refine callOk_of Try.func68 hcd1 mo Try.call68 (rs := [6]) (by kernel_rfl) hcd2 (by rw [Try.ntmps68]; simp) (by simp) (by decide) ?_; unfold C_impl_lists K_impl_lists; simp (config := { maxSteps := 2000000 }) only [go_sem, Nat.reduceBEq, Nat.reduceAdd, Nat.reduceMul, Nat.reduceMod, Nat.reduceLT, Nat.reduceDiv, Nat.reduceSub, Nat.reduceLeDiff, Int.reduceToNat, Int.reduceLT, Int.reduceLE, reduceCtorEq, List.take_nil, List.drop_nil]
  exact T.leL_refl _
def K_impl_lists_1 : List Nat := [0, 1, 2, 3, 5, 6]
def C_impl_lists_1_A : C :=
  let ks := K_impl_lists_1
  (.cl ks (.rg 0 [(none, .v 7 .ld [.s 1]), (none, .v 8 .litF [.s 7]), (none, .v 9 .ld [.s 2]), (none, .co 10 66 [.s 8, .s 9]), (none, .tk 5 10)]))
def C_impl_lists_1_B : C :=
  let ks := K_impl_lists_1
  (.cl ks (.block 1
    (.seq
      (.rg 0 [(none, .v 14 .ld [.s 2]), (none, .v 15 (.bin .sub) [.s 14, .k (.i 1)]), (none, .tk 6 15)])
      (.cl ks (.seq
        (.block 2
          (.loop
            (.seq
              (.seq
                (.rg 8 [(none, .v 16 .mv [.s 6]), (none, .v 17 (.bin .geq) [.s 16, .k (.i 0)]), (none, .v 18 .mv [.s 17]), (some (18, true), .v 19 .mv [.s 5]), (some (18, true), .v 20 .mv [.s 6]), (some (18, true), .v 21 .idx [.s 19, .s 20]), (some (18, true), .v 22 .ld [.s 21]), (some (18, true), .v 23 .ld [.s 3]), (some (18, true), .v 24 (.bin .eql) [.s 22, .s 23]), (none, .v 25 .pick [.s 18, .s 24, .k (.b false)])])
                (.cond (.s 25)
                  .skip
                  (.exit 2)))
              (.cl ks (.block 3
                (.seq
                  (.rg 0 [(none, .v 26 .mv [.s 5]), (none, .v 27 .mv [.s 6]), (none, .v 28 .ld [.s 1]), (none, .v 29 .idx [.s 26, .s 27]), (none, .st (.s 29) (.s 28))])
                  (.cl ks (.rg 0 [(none, .v 30 .mv [.s 6]), (none, .v 31 (.bin .sub) [.s 30, .k (.i 1)]), (none, .tk 6 31)]))))))))
        (.cl ks (.seq
          (.seq
            (.rg 0 [(none, .v 32 .mv [.s 6]), (none, .v 33 (.bin .lss) [.s 32, .k (.i 0)])])
            (.cond (.s 33)
              .ret
              .skip))
          (.cl ks (.rg 0 [(none, .v 34 .mv [.s 5]), (none, .v 35 .mv [.s 6]), (none, .v 36 .idx [.s 34, .s 35]), (none, .v 37 .ld [.s 36]), (none, .v 38 (.bin .add) [.s 37, .k (.i 1)]), (none, .v 39 .idx [.s 34, .s 35]), (none, .st (.s 39) (.s 38))])))))))))

theorem chkIt_impl_lists_1 : ∃ b, Try.f76.body = some b ∧ chkIt Try.prog Try.f76.ntmps (1 + 3) 5 C_impl_lists_1_A C_impl_lists_1_B b = true := ⟨_, rfl, by kernel_rfl⟩
theorem itA {low high : Int} {b k : Nat} (hb : 0 < b) (hk : k < 1048576) : wpC Try.prog C_impl_lists_1_A (fun e s => e = .n ∧ s.le (Sit 5 (capT low k high) (ii (sn low b k 0)))) (argSt 0 (.any :: capT low k high)) := by
  unfold C_impl_lists_1_A K_impl_lists_1 capT; simp (config := { maxSteps := 2000000 }) only [go_sem, Nat.reduceBEq, Nat.reduceAdd, Nat.reduceMul, Nat.reduceMod, Nat.reduceLT, Nat.reduceDiv, Nat.reduceSub, Nat.reduceLeDiff, Int.reduceToNat, Int.reduceLT, Int.reduceLE, reduceCtorEq, List.take_nil, List.drop_nil]
  refine ⟨_, Repeat_ok low k (by omega) (by omega), ?_⟩; simp (config := { maxSteps := 2000000 }) only [go_sem, Nat.reduceBEq, Nat.reduceAdd, Nat.reduceMul, Nat.reduceMod, Nat.reduceLT, Nat.reduceDiv, Nat.reduceSub, Nat.reduceLeDiff, Int.reduceToNat, Int.reduceLT, Int.reduceLE, reduceCtorEq, List.take_nil, List.drop_nil]
  rw [sn_z hb]
  unfold Sit; simp (config := { maxSteps := 2000000 }) only [go_sem, Nat.reduceBEq, Nat.reduceAdd, Nat.reduceMul, Nat.reduceMod, Nat.reduceLT, Nat.reduceDiv, Nat.reduceSub, Nat.reduceLeDiff, Int.reduceToNat, Int.reduceLT, Int.reduceLE, reduceCtorEq, List.take_nil, List.drop_nil]
theorem itB {low high : Int} {b k j n : Nat} (hb : 0 < b) (hh : high = low + b - 1) (hk : k < 1048576) (hn : n = b ^ k) (hj : j < n) (hl : -1000000 ≤ low ∧ low ≤ 1000000) (hb2 : b ≤ 1000000) : wpC Try.prog C_impl_lists_1_B
    (fun e s => (e = .n ∧ j + 1 < n ∧ s.le (Sit 5 (capT low k high) (ii (sn low b k (j + 1))))) ∨ (e = .r ∧ j + 1 = n ∧ s.le (Sit 5 (capT low k high) (ii (sn low b k 0))))) (Sit 5 (capT low k high) (ii (sn low b k j))) := by
  unfold C_impl_lists_1_B K_impl_lists_1 capT Sit; simp (config := { maxSteps := 2000000 }) only [go_sem, Nat.reduceBEq, Nat.reduceAdd, Nat.reduceMul, Nat.reduceMod, Nat.reduceLT, Nat.reduceDiv, Nat.reduceSub, Nat.reduceLeDiff, Int.reduceToNat, Int.reduceLT, Int.reduceLE, reduceCtorEq, List.take_nil, List.drop_nil]
  refine ⟨inR_of (by omega) (by omega), ?_⟩
  refine loopN k (fun q => [(1, .t .arg (.q [.i low] 0)), (2, .t .arg (.q [.i k] 0)), (3, .t .arg (.q [.i high] 0)), (5, .own 1 none (ii (sn low b (k - q) (j / b ^ q) ++ List.replicate q low))), (6, .i ((k : Int) - 1 - q))])
    (fun q => j + 1 = (j / b ^ q + 1) * b ^ q) ⟨by simp, by simp (config := { maxSteps := 2000000 }) only [go_sem, Nat.reduceBEq, Nat.reduceAdd, Nat.reduceMul, Nat.reduceMod, Nat.reduceLT, Nat.reduceDiv, Nat.reduceSub, Nat.reduceLeDiff, Int.reduceToNat, Int.reduceLT, Int.reduceLE, reduceCtorEq, List.take_nil, List.drop_nil]; simp⟩ fun q hq hI => ?_
  have hsl : (sn low b (k - q) (j / b ^ q) ++ List.replicate q low).length = k := by rw [List.length_append, sn_len, List.length_replicate]; omega
  simp (config := { maxSteps := 2000000 }) only [go_sem, Nat.reduceBEq, Nat.reduceAdd, Nat.reduceMul, Nat.reduceMod, Nat.reduceLT, Nat.reduceDiv, Nat.reduceSub, Nat.reduceLeDiff, Int.reduceToNat, Int.reduceLT, Int.reduceLE, reduceCtorEq, List.take_nil, List.drop_nil]
  have hbq : 0 < b ^ q := Nat.pow_pos hb
  by_cases hqk : q < k
  · obtain ⟨p, hp⟩ : ∃ p, k - q = p + 1 := ⟨k - q - 1, by omega⟩
    rw [hp] at hsl ⊢
    have ei : ((k : Int) - 1 - q).toNat = p := by omega
    have eJ : j / b ^ (q + 1) = j / b ^ q / b := by rw [Nat.pow_succ, Nat.div_div_eq_div_mul]
    have hJ : j / b ^ q < b ^ (p + 1) := Nat.div_lt_of_lt_mul (by rw [← Nat.pow_add, show q + (p + 1) = k by omega, ← hn]; exact hj)
    rw [ei, show k - (q + 1) = p by omega, eJ]
    revert hI hsl hJ
    generalize j / b ^ q = J
    intro hI hsl hJ
    have hmod := Nat.mod_lt J hb
    obtain ⟨d, hd⟩ : ∃ d, J % b = d := ⟨_, rfl⟩
    have hg : (sn low b (p + 1) J ++ List.replicate q low).getD p 0 = low + (J % b : Nat) := by
      have := mid_get (a := sn low b p (J / b)) (r := List.replicate q low) (x := low + (J % b : Nat))
      rw [sn_len] at this; exact this
    have hset : ∀ v, (sn low b (p + 1) J ++ List.replicate q low).set p v = sn low b p (J / b) ++ [v] ++ List.replicate q low := fun v => by
      have := mid_set (a := sn low b p (J / b)) (r := List.replicate q low) (x := low + (J % b : Nat)) (v := v)
      rw [sn_len] at this; exact this
    rw [hd] at hg hmod
    rw [hg, hset, hset]
    refine ⟨fun _ => ⟨by omega, by omega, by omega, fun he => ⟨by omega, by omega, by omega, inR_of (by omega) (by omega), hqk, ?_, ?_, by omega⟩, fun he => ⟨fun h => by omega, fun _ => ⟨by omega, by omega, by omega, inR_of (by omega) (by omega), by omega, by omega, by omega, .inl ⟨?_, ?_⟩⟩⟩⟩, fun h => by omega⟩
    · rw [Nat.pow_succ, Nat.mul_comm (b ^ q), ← Nat.mul_assoc, carry hb (by rw [hd]; omega)]; exact hI
    · rw [List.replicate_succ, List.append_assoc]; rfl
    · have h1 := Nat.div_add_mod J b
      have h2 : J / b < b ^ p := Nat.div_lt_of_lt_mul (by rw [Nat.mul_comm, ← Nat.pow_succ]; assumption)
      have h3 : b * (J / b + 1) ≤ b * b ^ p := Nat.mul_le_mul_left b h2
      rw [Nat.mul_add, Nat.mul_one, Nat.mul_comm b (b ^ p), ← Nat.pow_succ] at h3
      have h3 : b * (J / b) + b ≤ b ^ (p + 1) := h3
      rw [hd] at h1
      have h4 : J + 1 < b ^ (p + 1) := by omega
      rw [hI, hn, show k = (p + 1) + q by omega, Nat.pow_add]
      exact Nat.mul_lt_mul_of_pos_right h4 hbq
    · rw [hI, show k = (p + 1) + q by omega, sn_pad hb, sn_last hb (by rw [hd]; omega), hd]
  · have : q = k := by omega
    subst this
    have h0 : j / b ^ q = 0 := Nat.div_eq_of_lt (by omega)
    rw [h0] at hI ⊢
    have e : sn low b (q - q) 0 ++ List.replicate q low = sn low b q 0 := by rw [Nat.sub_self, sn_z hb, sn_z hb]; rfl
    exact ⟨fun h => by omega, fun _ => ⟨fun _ => .inr ⟨by omega, e⟩, fun h => by omega⟩⟩
def K_impl_countAllocations : List Nat := [0, 1, 3, 4, 5, 6, 17, 18, 1003, 1005]
def C_impl_countAllocations_p0 : C :=
  let ks := K_impl_countAllocations
  (.cl ks (.rg 0 [(none, .v 3 .boxF [.s 1]), (none, .v 4 .mv [.k (.i 0)])]))
def C_impl_countAllocations_p1 : C :=
  let ks := K_impl_countAllocations
  (.cl ks (.seq
    (.rg 0 [(none, .v 7 .mv [.s 0]), (none, .co 8 54 [.s 7]), (none, .v 9 .not [.s 8])])
    (.cond (.s 9)
      (.seq
        (.rg 0 [(none, .v 4 .mv [.k (.i (-1))])])
        .ret)
      .skip)))
def C_impl_countAllocations_p2 : C :=
  let ks := K_impl_countAllocations
  (.cl ks (.rg 0 [(none, .new 5 [.i 0]), (none, .st (.s 5) (.k (.i 0)))]))
def C_impl_countAllocations_c4 : C :=
  let ks := K_impl_countAllocations
  (.cl ks (.rg 0 [(none, .v 10 .mv [.s 0]), (none, .v 11 .idx [.s 10, .k (.i 0)]), (none, .v 12 .ld [.s 11]), (none, .v 13 .len [.s 12]), (none, .v 14 .mv [.s 0]), (none, .v 15 .len [.s 14]), (none, .v 16 (.bin .sub) [.s 15, .k (.i 1)]), (none, .co 17 68 [.s 13, .k (.i 0), .s 16])]))
def C_impl_countAllocations_ca : C :=
  let ks := K_impl_countAllocations
  (.cl ks (.rg 0 [(none, .v 6 .mv [.s 18])]))
def C_impl_countAllocations_cb : C :=
  let ks := K_impl_countAllocations
  (.cl ks (.block 1
    (.seq
      (.rg 0 [(none, .v 19 .ld [.s 3]), (none, .v 20 .mv [.s 6]), (none, .coC 21 [.s 19, .s 20])])
      (.cond (.s 21)
        (.rg 0 [(none, .v 22 .ld [.s 5]), (none, .v 23 (.bin .add) [.s 22, .k (.i 1)]), (none, .st (.s 5) (.s 23))])
        .skip))))
def C_impl_countAllocations_cp : C :=
  let ks := K_impl_countAllocations
  (.cl ks (.seq
    (.rg 0 [(none, .v 24 .ld [.s 5]), (none, .tk 4 24)])
    .ret))

def D_impl_countAllocations : Nat → Bool := fun d => d == 0 || d == 1 || d == 3 || d == 4 || d == 5 || d == 17 || d == 18
theorem chkS_impl_countAllocations : ∃ b, Try.f42.body = some b ∧ chkS Try.prog Try.f42.ntmps 17 18 D_impl_countAllocations C_impl_countAllocations_c4 C_impl_countAllocations_ca C_impl_countAllocations_cb C_impl_countAllocations_cp [C_impl_countAllocations_p0, C_impl_countAllocations_p1, C_impl_countAllocations_p2] b = true := ⟨_, rfl, by kernel_rfl⟩
/-- How many of the lists are wanted. -/
def cntN (p : List Int → Bool) (b m : Nat) : Nat → Nat
  | 0 => 0
  | j + 1 => cntN p b m j + if p (sn 0 b m j) = true then 1 else 0
theorem cntN_le {p : List Int → Bool} {b m : Nat} : ∀ {j : Nat}, cntN p b m j ≤ j
  | 0 => by simp [cntN]
  | j + 1 => by
    have := cntN_le (p := p) (b := b) (m := m) (j := j)
    simp only [cntN]; split <;> omega
theorem pow_bd {b m : Nat} (h1 : 1 ≤ b) (h3 : b ≤ 3) (h6 : m ≤ 6) : b ^ m ≤ 729 := Nat.le_trans (Nat.pow_le_pow_left h3 m) (Nat.pow_le_pow_right (n := 3) (by omega) h6)
theorem ii_ne {l : List Int} (h : 0 < l.length) : ii l ≠ [] := fun e => by rw [List.map_eq_nil_iff.1 e] at h; simp at h
def cntF (vs : List (List Int)) (p : List Int → Bool) : Int := if rectB vs 3 6 100 = true then (cntN p vs.length (vs.getD 0 []).length (vs.length ^ (vs.getD 0 []).length) : Int) else -1
theorem countAllocations_ok {n1 : Option Bool} (vs : List (List Int)) (f : Nat) (ts : List T) (p : List Int → Bool) (hl : vs.length ≤ 1048576) (hr : ∀ r ∈ vs, r.length ≤ 1048576)
    (hp : ∀ m (l : List Int), Vals vs m → l.length = m → (∀ v ∈ l, 0 ≤ v ∧ v < vs.length) → CallOk Try.prog f (.s none (ii l) :: ts) [(0, .b (p l))]) :
    CallOk Try.prog 42 [.s n1 (rr vs), .c f ts] [(0, .i (cntF vs p))] := by
  obtain ⟨code0, hcd1, hcd2⟩ := chkS_impl_countAllocations; obtain ⟨codeI, hci1, hci2⟩ := chkIt_impl_lists_1; refine callOk_rf (m := 3) (y := 5) (t := 18) (g := 17) Try.func42 hcd1 mo Try.call42 (rs := [4]) (by kernel_rfl) hcd2 (by rw [Try.ntmps42]; simp) (by simp) (by decide) Try.func76 hci1 Try.call76 (by kernel_rfl) hci2 (by decide) (by decide) (by rw [Try.ntmps76]; decide) (by decide) (by rw [Try.ntmps42]; decide) (by decide) (by decide) (by kernel_rfl) ?_; unfold C_impl_countAllocations_p0 C_impl_countAllocations_p1 C_impl_countAllocations_p2 C_impl_countAllocations_c4 K_impl_countAllocations; simp (config := { maxSteps := 2000000 }) only [go_sem, Nat.reduceBEq, Nat.reduceAdd, Nat.reduceMul, Nat.reduceMod, Nat.reduceLT, Nat.reduceDiv, Nat.reduceSub, Nat.reduceLeDiff, Int.reduceToNat, Int.reduceLT, Int.reduceLE, reduceCtorEq, List.take_nil, List.drop_nil]
  refine ⟨_, impl_ValuesOk_ok vs hl hr, ?_⟩; simp (config := { maxSteps := 2000000 }) only [go_sem, Nat.reduceBEq, Nat.reduceAdd, Nat.reduceMul, Nat.reduceMod, Nat.reduceLT, Nat.reduceDiv, Nat.reduceSub, Nat.reduceLeDiff, Int.reduceToNat, Int.reduceLT, Int.reduceLE, reduceCtorEq, List.take_nil, List.drop_nil]
  refine ⟨fun h0 => by simp [cntF, h0], fun h0 => ?_⟩
  have hF : cntF vs p = (cntN p vs.length (vs.getD 0 []).length (vs.length ^ (vs.getD 0 []).length) : Int) := if_pos h0
  have V := vals_of h0
  rw [hF]
  revert V
  generalize hm : (vs.getD 0 []).length = m
  intro V
  have n1' := V.n1
  have n3 := V.n3
  have m6 := V.m6
  have m1 := V.m1
  have hN := pow_bd n1' n3 m6
  have V0 := V.n1
  refine ⟨by omega, by omega, inR_of (by omega) (by omega), ?_⟩
  refine ⟨_, impl_lists_ok m 0 (vs.length - 1), ?_⟩; simp (config := { maxSteps := 2000000 }) only [go_sem, Nat.reduceBEq, Nat.reduceAdd, Nat.reduceMul, Nat.reduceMod, Nat.reduceLT, Nat.reduceDiv, Nat.reduceSub, Nat.reduceLeDiff, Int.reduceToNat, Int.reduceLT, Int.reduceLE, reduceCtorEq, List.take_nil, List.drop_nil]
  refine ⟨vs.length ^ m, m, fun j => ii (sn 0 vs.length m j), fun j => [(0, .t .arg (.s n1 (rr vs))), (1, .t .arg (.c f ts)), (3, .t .arg (.q [.c f ts] 0)), (5, .bx 1), (17, .t .arg (.c 76 (capT 0 m (vs.length - 1)))), (1005, .i (cntN p vs.length m j))], capT 0 m (vs.length - 1), Nat.pow_pos (by omega), rfl, ?_, fun j hj => ⟨by kernel_rfl, rfl⟩, fun j hj => ⟨by rw [scalL_ii]; trivial, ii_ne (by rw [sn_len]; omega), by simp [ii, sn_len]⟩, itA (by omega) (by omega), fun j hj => itB (by omega) (by omega) (by omega) rfl hj (by omega) (by omega), fun j hj => ?_, ?_⟩
  · simp (config := { maxSteps := 2000000 }) only [go_sem, Nat.reduceBEq, Nat.reduceAdd, Nat.reduceMul, Nat.reduceMod, Nat.reduceLT, Nat.reduceDiv, Nat.reduceSub, Nat.reduceLeDiff, Int.reduceToNat, Int.reduceLT, Int.reduceLE, reduceCtorEq, List.take_nil, List.drop_nil]
    rfl
  · unfold C_impl_countAllocations_ca C_impl_countAllocations_cb K_impl_countAllocations; simp (config := { maxSteps := 2000000 }) only [go_sem, Nat.reduceBEq, Nat.reduceAdd, Nat.reduceMul, Nat.reduceMod, Nat.reduceLT, Nat.reduceDiv, Nat.reduceSub, Nat.reduceLeDiff, Int.reduceToNat, Int.reduceLT, Int.reduceLE, reduceCtorEq, List.take_nil, List.drop_nil]
    refine ⟨by kernel_rfl, ?_⟩
    have hs : cntN p vs.length m (j + 1) = cntN p vs.length m j + if p (sn 0 vs.length m j) = true then 1 else 0 := rfl
    have hle := cntN_le (p := p) (b := vs.length) (m := m) (j := j)
    refine ⟨_, hp m (sn 0 vs.length m j) V sn_len (fun v hv => by have := sn_bd (by omega) v hv; omega), ?_⟩; simp (config := { maxSteps := 2000000 }) only [go_sem, Nat.reduceBEq, Nat.reduceAdd, Nat.reduceMul, Nat.reduceMod, Nat.reduceLT, Nat.reduceDiv, Nat.reduceSub, Nat.reduceLeDiff, Int.reduceToNat, Int.reduceLT, Int.reduceLE, reduceCtorEq, List.take_nil, List.drop_nil]
    refine ⟨fun h => ?_, fun h => ?_⟩
    · rw [hs, if_pos h]
      exact ⟨inR_of (by omega) (by omega), by omega⟩
    · rw [hs, if_neg (by rw [h]; simp)]
      omega
  · unfold C_impl_countAllocations_cp K_impl_countAllocations; simp (config := { maxSteps := 2000000 }) only [go_sem, Nat.reduceBEq, Nat.reduceAdd, Nat.reduceMul, Nat.reduceMod, Nat.reduceLT, Nat.reduceDiv, Nat.reduceSub, Nat.reduceLeDiff, Int.reduceToNat, Int.reduceLT, Int.reduceLE, reduceCtorEq, List.take_nil, List.drop_nil]

end Go.Proofs.Ytkmklfdpomkalaa
