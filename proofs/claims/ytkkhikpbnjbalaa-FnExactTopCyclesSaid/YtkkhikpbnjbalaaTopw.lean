/- Own work: contracts of functions that the claim reaches. No condition beyond those that each theorem names. -/
import Derived.Test.YtkkhikpbnjbalaaProg
import Derived.Test.YtkkhikpbnjbalaaTops
import Derived.Test.YtkkhikpbnjbalaaSerial
import Derived.Test.YtkkhikpbnjbalaaMarks
namespace Go.Proofs.Ytkkhikpbnjbalaa
open Go Go.Vc
set_option maxRecDepth 100000
set_option linter.unusedSimpArgs false
set_option linter.unusedVariables false
def K_impl_pointingCycle : List Nat := [0, 1, 2, 6, 7, 8]
def C_impl_pointingCycle : C :=
  let ks := K_impl_pointingCycle
  (.seq
    (.rg 0 [(none, .mkn 6)])
    (.cl ks (.seq
      (.rg 0 [(none, .mkn 7)])
      (.cl ks (.seq
        (.seq
          (.rg 0 [(none, .v 9 .mv [.s 2]), (none, .tk 8 9)])
          (.cl ks (.block 0
            (.loop
              (.seq
                (.seq
                  (.rg 0 [(none, .v 10 .mv [.s 7]), (none, .v 11 .mv [.s 8]), (none, .co 12 85 [.s 10, .s 11]), (none, .v 13 .not [.s 12])])
                  (.cond (.s 13)
                    .skip
                    (.exit 0)))
                (.cl ks (.block 1
                  (.seq
                    (.rg 0 [(none, .v 14 .mv [.s 7]), (none, .v 15 .mv [.s 8]), (none, .lit 16 [.s 15] 0), (none, .app 17 (.s 14) (.s 16) 0), (none, .tk 7 17)])
                    (.cl ks (.seq
                      (.rg 0 [(none, .v 18 .mv [.s 0]), (none, .v 19 .mv [.s 8]), (none, .v 20 .idx [.s 18, .s 19]), (none, .v 21 .ld [.s 20]), (none, .v 22 .mv [.s 1]), (none, .co 23 69 [.s 21, .s 22]), (none, .tk 8 23)])
                      (.cl ks (.seq
                        (.rg 0 [(none, .v 24 .mv [.s 8]), (none, .v 25 .mv [.s 2]), (none, .v 26 (.bin .eql) [.s 24, .s 25])])
                        (.cond (.s 26)
                          (.seq
                            (.rg 0 [(none, .v 27 .mv [.s 7]), (none, .tk 6 27)])
                            .ret)
                          .skip)))))))))))))
        (.cl ks (.seq
          (.rg 0 [(none, .mkn 6)])
          .ret)))))))

theorem chk_impl_pointingCycle : ∃ b, Try.f82.body = some b ∧ chk Try.prog Try.f82.ntmps true C_impl_pointingCycle b = true := ⟨_, rfl, by kernel_rfl⟩
def K_spec_l22Cycle : List Nat := [0, 1, 2, 6, 7, 8]
def C_spec_l22Cycle : C :=
  let ks := K_spec_l22Cycle
  (.seq
    (.rg 0 [(none, .mkn 6)])
    (.cl ks (.seq
      (.rg 0 [(none, .v 9 .mv [.s 2]), (none, .lit 10 [.s 9] 0), (none, .tk 7 10)])
      (.cl ks (.block 0
        (.loop
          (.block 1
            (.seq
              (.rg 0 [(none, .v 11 .mv [.s 0]), (none, .v 12 .mv [.s 7]), (none, .v 13 .mv [.s 7]), (none, .v 14 .len [.s 13]), (none, .v 15 (.bin .sub) [.s 14, .k (.i 1)]), (none, .v 16 .idx [.s 12, .s 15]), (none, .v 17 .ld [.s 16]), (none, .v 18 .idx [.s 11, .s 17]), (none, .v 19 .ld [.s 18]), (none, .v 20 .mv [.s 1]), (none, .co 21 67 [.s 19, .s 20]), (none, .tk 8 21)])
              (.cl ks (.seq
                (.seq
                  (.rg 0 [(none, .v 22 .mv [.s 8]), (none, .v 23 .mv [.s 2]), (none, .v 24 (.bin .eql) [.s 22, .s 23])])
                  (.cond (.s 24)
                    (.seq
                      (.rg 0 [(none, .v 25 .mv [.s 7]), (none, .tk 6 25)])
                      .ret)
                    .skip))
                (.cl ks (.seq
                  (.seq
                    (.rg 0 [(none, .v 26 .mv [.s 8]), (none, .v 27 .mv [.s 2]), (none, .v 28 (.bin .lss) [.s 26, .s 27]), (none, .v 29 .mv [.s 28]), (some (29, false), .v 30 .mv [.s 7]), (some (29, false), .v 31 .mv [.s 8]), (some (29, false), .co 32 93 [.s 30, .s 31]), (some (29, false), .v 33 (.bin .geq) [.s 32, .k (.i 0)]), (none, .v 34 .pick [.s 29, .k (.b true), .s 33])])
                    (.cond (.s 34)
                      (.seq
                        (.rg 0 [(none, .mkn 6)])
                        .ret)
                      .skip))
                  (.cl ks (.rg 0 [(none, .v 35 .mv [.s 7]), (none, .v 36 .mv [.s 8]), (none, .lit 37 [.s 36] 0), (none, .app 38 (.s 35) (.s 37) 0), (none, .tk 7 38)]))))))))))))))

theorem chk_spec_l22Cycle : ∃ b, Try.f81.body = some b ∧ chk Try.prog Try.f81.ntmps true C_spec_l22Cycle b = true := ⟨_, rfl, by kernel_rfl⟩
def K_slices_Min_Sint_int : List Nat := [0, 2, 3, 4]
def C_slices_Min_Sint_int : C :=
  let ks := K_slices_Min_Sint_int
  (.seq
    (.rg 0 [(none, .v 2 .mv [.k (.i 0)])])
    (.cl ks (.seq
      (.seq
        (.rg 0 [(none, .v 5 .mv [.s 0]), (none, .v 6 .len [.s 5]), (none, .v 7 (.bin .lss) [.s 6, .k (.i 1)])])
        (.cond (.s 7)
          .no
          .skip))
      (.cl ks (.seq
        (.rg 0 [(none, .v 9 .mv [.s 0]), (none, .v 10 .idx [.s 9, .k (.i 0)]), (none, .v 11 .ld [.s 10]), (none, .tk 3 11)])
        (.cl ks (.seq
          (.seq
            (.rg 0 [(none, .v 4 .mv [.k (.i 1)])])
            (.cl ks (.block 0
              (.loop
                (.seq
                  (.seq
                    (.rg 0 [(none, .v 12 .mv [.s 4]), (none, .v 13 .mv [.s 0]), (none, .v 14 .len [.s 13]), (none, .v 15 (.bin .lss) [.s 12, .s 14])])
                    (.cond (.s 15)
                      .skip
                      (.exit 0)))
                  (.cl ks (.seq
                    (.block 1
                      (.rg 0 [(none, .v 18 .mv [.s 3]), (none, .v 19 .mv [.s 0]), (none, .v 20 .mv [.s 4]), (none, .v 21 .idx [.s 19, .s 20]), (none, .v 22 .ld [.s 21]), (none, .v 23 .mn [.s 18, .s 22]), (none, .tk 3 23)]))
                    (.cl ks (.rg 0 [(none, .v 16 .mv [.s 4]), (none, .v 17 (.bin .add) [.s 16, .k (.i 1)]), (none, .tk 4 17)])))))))))
          (.cl ks (.seq
            (.rg 0 [(none, .v 24 .mv [.s 3]), (none, .tk 2 24)])
            .ret)))))))))

theorem chk_slices_Min_Sint_int : ∃ b, Try.f83.body = some b ∧ chk Try.prog Try.f83.ntmps true C_slices_Min_Sint_int b = true := ⟨_, rfl, by kernel_rfl⟩
def K_impl_TopCycles_1 : List Nat := [0, 1, 3]
def C_impl_TopCycles_1 : C :=
  let ks := K_impl_TopCycles_1
  (.seq
    (.rg 0 [(none, .v 3 .mv [.k (.b false)])])
    (.cl ks (.seq
      (.rg 0 [(none, .v 4 .ld [.s 1]), (none, .v 5 .mv [.s 0]), (none, .co 6 85 [.s 4, .s 5]), (none, .tk 3 6)])
      .ret)))

theorem chk_impl_TopCycles_1 : ∃ b, Try.f84.body = some b ∧ chk Try.prog Try.f84.ntmps true C_impl_TopCycles_1 b = true := ⟨_, rfl, by kernel_rfl⟩
def K_impl_TopCycles : List Nat := [0, 2, 3, 4, 5, 7, 8, 18, 19, 20, 1005]
def C_impl_TopCycles : C :=
  let ks := K_impl_TopCycles
  (.seq
    (.rg 0 [(none, .mkn 2)])
    (.cl ks (.seq
      (.seq
        (.rg 0 [(none, .v 9 .mv [.s 0]), (none, .co 10 22 [.s 9]), (none, .v 11 .not [.s 10])])
        (.cond (.s 11)
          (.seq
            (.rg 0 [(none, .mkn 2)])
            .ret)
          .skip))
      (.cl ks (.seq
        (.rg 0 [(none, .v 12 .mv [.s 0]), (none, .v 13 .len [.s 12]), (none, .co 14 68 [.s 13]), (none, .tk 3 14)])
        (.cl ks (.seq
          (.rg 0 [(none, .mkn 4)])
          (.cl ks (.seq
            (.block 0
              (.loop
                (.seq
                  (.seq
                    (.rg 0 [(none, .v 15 .mv [.s 3]), (none, .v 16 .len [.s 15]), (none, .v 17 (.bin .gtr) [.s 16, .k (.i 0)])])
                    (.cond (.s 17)
                      .skip
                      (.exit 0)))
                  (.cl ks (.block 1
                    (.seq
                      (.rg 0 [(none, .new 5 [.s (some true) []])])
                      (.cl ks (.seq
                        (.seq
                          (.rg 0 [(none, .onl 1005), (none, .v 18 .mv [.s 3]), (none, .v 19 .len [.s 18]), (none, .v 20 .mv [.k (.i 0)])])
                          (.cl ks (.block 2
                            (.loop
                              (.seq
                                (.rg 0 [(none, .v 21 (.bin .lss) [.s 20, .s 19])])
                                (.seq
                                  (.cond (.s 21)
                                    .skip
                                    (.exit 2))
                                  (.cl ks (.seq
                                    (.block 3
                                      (.seq
                                        (.rg 0 [(none, .v 22 .idx [.s 18, .s 20]), (none, .v 23 .ld [.s 22]), (none, .tk 7 23)])
                                        (.cl ks (.seq
                                          (.rg 0 [(none, .v 24 .mv [.s 0]), (none, .v 25 .mv [.s 3]), (none, .v 26 .mv [.s 7]), (none, .co 27 82 [.s 24, .s 25, .s 26]), (none, .tk 8 27)])
                                          (.cl ks (.seq
                                            (.rg 0 [(none, .v 28 .mv [.s 8]), (none, .v 29 .nnil [.s 28]), (none, .v 30 .mv [.s 29]), (some (30, true), .v 31 .mv [.s 8]), (some (30, true), .co 32 83 [.s 31]), (some (30, true), .v 33 .mv [.s 7]), (some (30, true), .v 34 (.bin .eql) [.s 32, .s 33]), (none, .v 35 .pick [.s 30, .s 34, .k (.b false)])])
                                            (.cond (.s 35)
                                              (.seq
                                                (.rg 0 [(none, .v 36 .mv [.s 4]), (none, .v 37 .mv [.s 8]), (none, .lit 38 [.s 37] 1), (none, .app 39 (.s 36) (.s 38) 1), (none, .tk 4 39)])
                                                (.cl ks (.rg 0 [(none, .v 40 .ld [.s 5]), (none, .v 41 .mv [.s 8]), (none, .app 42 (.s 40) (.s 41) 0), (none, .st (.s 5) (.s 42))])))
                                              .skip)))))))
                                    (.cl ks (.rg 0 [(none, .v 43 (.bin .add) [.s 20, .k (.i 1)]), (none, .v 20 .mv [.s 43])]))))))))))
                        (.cl ks (.rg 0 [(none, .v 44 .mv [.s 3]), (none, .v 45 (.clo 84) [.s 5]), (none, .coc 46 70 [.s 44, .s 45] [0]), (none, .tk 3 46)]))))))))))
            (.cl ks (.seq
              (.rg 0 [(none, .v 47 .mv [.s 4]), (none, .tk 2 47)])
              .ret)))))))))))

theorem chk_impl_TopCycles : ∃ b, Try.f43.body = some b ∧ chk Try.prog Try.f43.ntmps true C_impl_TopCycles b = true := ⟨_, rfl, by kernel_rfl⟩
def K_spec_TopCycles : List Nat := [0, 2, 3, 4, 5, 6, 7, 8, 9, 11, 13, 19, 20, 32, 33, 34, 53, 54, 55, 59, 60, 61]
def C_spec_TopCycles : C :=
  let ks := K_spec_TopCycles
  (.seq
    (.rg 0 [(none, .mkn 2)])
    (.cl ks (.seq
      (.seq
        (.rg 0 [(none, .v 14 .mv [.s 0]), (none, .co 15 21 [.s 14]), (none, .v 16 .not [.s 15])])
        (.cond (.s 16)
          (.seq
            (.rg 0 [(none, .mkn 2)])
            .ret)
          .skip))
      (.cl ks (.seq
        (.rg 0 [(none, .lit 17 [] 0), (none, .tk 3 17)])
        (.cl ks (.seq
          (.seq
            (.rg 0 [(none, .v 18 .mv [.s 0]), (none, .v 19 .len [.s 18]), (none, .v 20 .mv [.k (.i 0)])])
            (.cl ks (.block 0
              (.loop
                (.seq
                  (.rg 0 [(none, .v 21 (.bin .lss) [.s 20, .s 19])])
                  (.seq
                    (.cond (.s 21)
                      .skip
                      (.exit 0))
                    (.cl ks (.seq
                      (.block 1
                        (.rg 0 [(none, .v 22 .mv [.s 3]), (none, .lit 23 [.k (.b true)] 0), (none, .app 24 (.s 22) (.s 23) 0), (none, .tk 3 24)]))
                      (.cl ks (.rg 0 [(none, .v 25 (.bin .add) [.s 20, .k (.i 1)]), (none, .v 20 .mv [.s 25])]))))))))))
          (.cl ks (.seq
            (.rg 0 [(none, .lit 26 [] 0), (none, .tk 4 26)])
            (.cl ks (.seq
              (.rg 0 [(none, .v 5 .mv [.k (.i 0)])])
              (.cl ks (.seq
                (.block 2
                  (.loop
                    (.seq
                      (.seq
                        (.rg 0 [(none, .v 27 .mv [.s 5]), (none, .v 28 .mv [.s 0]), (none, .v 29 .len [.s 28]), (none, .v 30 (.bin .lss) [.s 27, .s 29])])
                        (.cond (.s 30)
                          .skip
                          (.exit 2)))
                      (.cl ks (.block 3
                        (.seq
                          (.rg 0 [(none, .lit 31 [] 0), (none, .tk 6 31)])
                          (.cl ks (.seq
                            (.seq
                              (.rg 0 [(none, .v 32 .mv [.s 3]), (none, .v 33 .len [.s 32]), (none, .v 34 .mv [.k (.i 0)])])
                              (.cl ks (.block 4
                                (.loop
                                  (.seq
                                    (.rg 0 [(none, .v 35 (.bin .lss) [.s 34, .s 33])])
                                    (.seq
                                      (.cond (.s 35)
                                        .skip
                                        (.exit 4))
                                      (.cl ks (.seq
                                        (.block 5
                                          (.seq
                                            (.rg 0 [(none, .v 36 .mv [.s 34]), (none, .v 37 .idx [.s 32, .s 34]), (none, .v 38 .ld [.s 37]), (none, .tk 7 36), (none, .tk 8 38)])
                                            (.cl ks (.seq
                                              (.seq
                                                (.rg 0 [(none, .v 39 .mv [.s 8]), (none, .v 40 .not [.s 39])])
                                                (.cond (.s 40)
                                                  (.exit 5)
                                                  .skip))
                                              (.cl ks (.seq
                                                (.rg 0 [(none, .v 41 .mv [.s 0]), (none, .v 42 .mv [.s 3]), (none, .v 43 .mv [.s 7]), (none, .co 44 81 [.s 41, .s 42, .s 43]), (none, .tk 9 44)])
                                                (.cl ks (.seq
                                                  (.rg 0 [(none, .v 45 .mv [.s 9]), (none, .v 46 .len [.s 45]), (none, .v 47 (.bin .gtr) [.s 46, .k (.i 0)])])
                                                  (.cond (.s 47)
                                                    (.rg 0 [(none, .v 48 .mv [.s 6]), (none, .v 49 .mv [.s 9]), (none, .lit 50 [.s 49] 1), (none, .app 51 (.s 48) (.s 50) 1), (none, .tk 6 51)])
                                                    .skip)))))))))
                                        (.cl ks (.rg 0 [(none, .v 52 (.bin .add) [.s 34, .k (.i 1)]), (none, .v 34 .mv [.s 52])]))))))))))
                            (.cl ks (.seq
                              (.rg 0 [(none, .v 53 .mv [.s 6]), (none, .v 54 .len [.s 53]), (none, .v 55 .mv [.k (.i 0)])])
                              (.cl ks (.block 6
                                (.loop
                                  (.seq
                                    (.rg 0 [(none, .v 56 (.bin .lss) [.s 55, .s 54])])
                                    (.seq
                                      (.cond (.s 56)
                                        .skip
                                        (.exit 6))
                                      (.cl ks (.seq
                                        (.block 7
                                          (.seq
                                            (.rg 0 [(none, .v 57 .idx [.s 53, .s 55]), (none, .v 58 .lde [.s 57]), (none, .tk 11 58)])
                                            (.cl ks (.seq
                                              (.seq
                                                (.rg 0 [(none, .tkr 11), (none, .v 59 .mv [.s 11]), (none, .v 60 .len [.s 59]), (none, .v 61 .mv [.k (.i 0)])])
                                                (.cl ks (.block 8
                                                  (.loop
                                                    (.seq
                                                      (.rg 0 [(none, .v 62 (.bin .lss) [.s 61, .s 60])])
                                                      (.seq
                                                        (.cond (.s 62)
                                                          .skip
                                                          (.exit 8))
                                                        (.cl ks (.seq
                                                          (.block 9
                                                            (.seq
                                                              (.rg 0 [(none, .v 63 .idx [.s 59, .s 61]), (none, .v 64 .ld [.s 63]), (none, .tk 13 64)])
                                                              (.cl ks (.seq
                                                                (.rg 0 [(none, .v 65 .mv [.s 3]), (none, .v 66 .mv [.s 13]), (none, .v 67 .idx [.s 65, .s 66]), (none, .st (.s 67) (.k (.b false)))])
                                                                (.cl ks (.rg 0 [(none, .v 68 .mv [.s 5]), (none, .v 69 (.bin .add) [.s 68, .k (.i 1)]), (none, .tk 5 69)]))))))
                                                          (.cl ks (.rg 0 [(none, .v 70 (.bin .add) [.s 61, .k (.i 1)]), (none, .v 61 .mv [.s 70])]))))))))))
                                              (.cl ks (.rg 0 [(none, .v 71 .mv [.s 4]), (none, .v 72 .mv [.s 11]), (none, .lit 73 [.s 72] 1), (none, .app 74 (.s 71) (.s 73) 1), (none, .tk 4 74)]))))))
                                        (.cl ks (.rg 0 [(none, .v 75 (.bin .add) [.s 55, .k (.i 1)]), (none, .v 55 .mv [.s 75])])))))))))))))))))))
                (.cl ks (.seq
                  (.rg 0 [(none, .v 76 .mv [.s 4]), (none, .tk 2 76)])
                  .ret)))))))))))))))

theorem chk_spec_TopCycles : ∃ b, Try.f42.body = some b ∧ chk Try.prog Try.f42.ntmps true C_spec_TopCycles b = true := ⟨_, rfl, by kernel_rfl⟩
def itI (f : Int → Int) (a : Int) : Nat → Int
  | 0 => a
  | k + 1 => f (itI f a k)
def pthL (f : Int → Int) (a : Int) (j : Nat) : List Int := (List.range j).map (itI f a)
section
variable {f : Int → Int} {a : Int}
theorem pthL_len {j : Nat} : (pthL f a j).length = j := by simp [pthL]
theorem pthL_s {j : Nat} : pthL f a (j + 1) = pthL f a j ++ [itI f a j] := by simp [pthL, List.range_succ]
theorem pthL_get {i j : Nat} (h : i < j) : (pthL f a j).getD i 0 = itI f a i := by simp [pthL, List.getD, h]
theorem pthL_1 : pthL f a 1 = [a] := rfl
theorem pthL_last {j : Nat} : f ((pthL f a (j + 1)).getD ((pthL f a (j + 1)).length - 1) 0) = itI f a (j + 1) := by
  rw [pthL_len, Nat.add_sub_cancel, pthL_get (by omega)]; rfl
theorem cyc_hit {j k : Nat} (h : itI f a (j + 1) = a) : cycG f a (k + 1) (pthL f a (j + 1)) = pthL f a (j + 1) := by
  simp only [cycG]; rw [pthL_last (f := f) (a := a) (j := j), if_pos h]
theorem cyc_rep {j k : Nat} (h : itI f a (j + 1) ≠ a) (h2 : itI f a (j + 1) ∈ pthL f a (j + 1)) : cycG f a (k + 1) (pthL f a (j + 1)) = [] := by
  simp only [cycG]; rw [pthL_last (f := f) (a := a) (j := j), if_neg h, if_pos h2]
theorem cyc_on {j k : Nat} (h : itI f a (j + 1) ≠ a) (h2 : itI f a (j + 1) ∉ pthL f a (j + 1)) : cycG f a (k + 1) (pthL f a (j + 1)) = cycG f a k (pthL f a (j + 2)) := by
  rw [show cycG f a (k + 1) (pthL f a (j + 1)) = _ from rfl]
  simp only [cycG]; rw [pthL_last (f := f) (a := a) (j := j), if_neg h, if_neg h2, ← pthL_s]
theorem sp_hit {j k : Nat} (h : itI f a (j + 1) = a) : spG f a (k + 1) (pthL f a (j + 1)) = pthL f a (j + 1) := by
  simp only [spG]; rw [pthL_last (f := f) (a := a) (j := j), if_pos h]
theorem sp_rep {j k : Nat} (h : itI f a (j + 1) ≠ a) (h2 : itI f a (j + 1) < a ∨ itI f a (j + 1) ∈ pthL f a (j + 1)) : spG f a (k + 1) (pthL f a (j + 1)) = [] := by
  simp only [spG]; rw [pthL_last (f := f) (a := a) (j := j), if_neg h, if_pos h2]
theorem sp_on {j k : Nat} (h : itI f a (j + 1) ≠ a) (h2 : ¬ (itI f a (j + 1) < a ∨ itI f a (j + 1) ∈ pthL f a (j + 1))) : spG f a (k + 1) (pthL f a (j + 1)) = spG f a k (pthL f a (j + 2)) := by
  simp only [spG]; rw [pthL_last (f := f) (a := a) (j := j), if_neg h, if_neg h2, ← pthL_s]
theorem itI_in {S : List Int} (hf : ∀ x ∈ S, f x ∈ S) (ha : a ∈ S) : ∀ {k : Nat}, itI f a k ∈ S
  | 0 => ha
  | k + 1 => hf _ (itI_in hf ha)
theorem pthL_le {S : List Int} (hf : ∀ x ∈ S, f x ∈ S) (ha : a ∈ S) {j : Nat} (hn : (pthL f a j).Nodup) : j ≤ S.length := by
  have := nodup_sub_len hn (ys := S) fun x hx => by
    obtain ⟨i, _, rfl⟩ := List.mem_map.1 hx; exact itI_in hf ha
  rwa [pthL_len] at this
theorem pthL_nd {j : Nat} (hn : (pthL f a j).Nodup) (h : itI f a j ∉ pthL f a j) : (pthL f a (j + 1)).Nodup := by
  rw [pthL_s, List.nodup_append]
  exact ⟨hn, by simp, fun x hx y hy e => h (by rw [← List.mem_singleton.1 hy, ← e]; exact hx)⟩
end
theorem impl_pointingCycle_ok {n1 n2 : Option Bool} (ls : List (List Int)) (S : List Int) (a : Int) (H : Hs ls ls.length) (hS : Lf ls.length S) (ha : a ∈ S) : CallOk Try.prog 82 [.s n1 (rr ls), .s n2 (ii S), .i a]
    [(0, .own 1 (some (decide (cycG (topI ls S) a ls.length [a] = []))) (ii (cycG (topI ls S) a ls.length [a])))] := by
  have hf : ∀ x ∈ S, topI ls S x ∈ S := fun x hx => (top_in H hS hx).2.2
  have n5 := H.n5
  have hSl := hS.len
  obtain ⟨code0, hcd1, hcd2⟩ := chk_impl_pointingCycle; refine callOk_of Try.func82 hcd1 mo Try.call82 (rs := [6]) (by kernel_rfl) hcd2 (by rw [Try.ntmps82]; simp) (by simp) (by decide) ?_; unfold C_impl_pointingCycle K_impl_pointingCycle; simp (config := { maxSteps := 2000000 }) only [go_sem, Nat.reduceBEq, Nat.reduceAdd, Nat.reduceMul, Nat.reduceMod, Nat.reduceLT, Nat.reduceDiv, Nat.reduceSub, Nat.reduceLeDiff, Int.reduceToNat, Int.reduceLT, Int.reduceLE, reduceCtorEq, List.take_nil, List.drop_nil]
  refine loopN ls.length (fun j => [(0, .t .arg (.s n1 (rr ls))), (1, .t .arg (.s n2 (ii S))), (2, .i a), (7, .own 1 none (ii (pthL (topI ls S) a j))), (8, .i (itI (topI ls S) a j))]) (fun j => (pthL (topI ls S) a j).Nodup ∧ (0 < j → itI (topI ls S) a j ≠ a ∧ cycG (topI ls S) a (ls.length + 1 - j) (pthL (topI ls S) a j) = cycG (topI ls S) a ls.length [a])) ⟨⟨by simp [pthL], by simp⟩, by simp (config := { maxSteps := 2000000 }) only [go_sem, Nat.reduceBEq, Nat.reduceAdd, Nat.reduceMul, Nat.reduceMod, Nat.reduceLT, Nat.reduceDiv, Nat.reduceSub, Nat.reduceLeDiff, Int.reduceToNat, Int.reduceLT, Int.reduceLE, reduceCtorEq, List.take_nil, List.drop_nil]; simp [pthL, itI]⟩ fun j hj hI => ?_
  obtain ⟨hnd, hI⟩ := hI
  simp (config := { maxSteps := 2000000 }) only [go_sem, Nat.reduceBEq, Nat.reduceAdd, Nat.reduceMul, Nat.reduceMod, Nat.reduceLT, Nat.reduceDiv, Nat.reduceSub, Nat.reduceLeDiff, Int.reduceToNat, Int.reduceLT, Int.reduceLE, reduceCtorEq, List.take_nil, List.drop_nil]
  refine ⟨_, ContainsI (pthL (topI ls S) a j) (itI (topI ls S) a j) (by rw [pthL_len]; omega), ?_⟩; simp (config := { maxSteps := 2000000 }) only [go_sem, Nat.reduceBEq, Nat.reduceAdd, Nat.reduceMul, Nat.reduceMod, Nat.reduceLT, Nat.reduceDiv, Nat.reduceSub, Nat.reduceLeDiff, Int.reduceToNat, Int.reduceLT, Int.reduceLE, reduceCtorEq, List.take_nil, List.drop_nil]
  have hmem : inL (pthL (topI ls S) a j) (itI (topI ls S) a j) = true ↔ _ := inL_iff
  refine ⟨fun hc => ?_, fun hc => ?_⟩
  · have hc : itI (topI ls S) a j ∉ pthL (topI ls S) a j := fun h => by have h1 := hmem.2 h; unfold inL at h1; rw [h1] at hc; cases hc
    have hnd' := pthL_nd hnd hc
    have hle := pthL_le hf ha hnd'
    have hin : itI (topI ls S) a j ∈ S := itI_in hf ha
    have hb := hS.bd _ hin
    have ht := top_in H hS hin
    have hrk := H.rk (itI (topI ls S) a j).toNat (by omega)
    have hrl := rank_len hrk
    have hC : cycG (topI ls S) a (ls.length - j - 1 + 1) (pthL (topI ls S) a (j + 1)) = cycG (topI ls S) a ls.length [a] := by
      cases j with
      | zero => rw [pthL_1]; congr 1; omega
      | succ j =>
        obtain ⟨h1, h2⟩ := hI (by omega)
        rw [← h2, show ls.length + 1 - (j + 1) = (ls.length - (j + 1) - 1 + 1) + 1 by omega, cyc_on h1 hc]
    have hpl := pthL_len (f := topI ls S) (a := a) (j := j)
    refine ⟨by omega, by omega, by omega, by omega, ?_⟩
    refine ⟨_, impl_firstOfLeft_ok (ls.getD (itI (topI ls S) a j).toNat []) S (by omega) (by omega) ⟨ht.1, ht.2.1⟩, ?_⟩; simp (config := { maxSteps := 2000000 }) only [go_sem, Nat.reduceBEq, Nat.reduceAdd, Nat.reduceMul, Nat.reduceMod, Nat.reduceLT, Nat.reduceDiv, Nat.reduceSub, Nat.reduceLeDiff, Int.reduceToNat, Int.reduceLT, Int.reduceLE, reduceCtorEq, List.take_nil, List.drop_nil]
    refine ⟨fun he => ?_, fun he => ?_⟩
    · have e : cycG (topI ls S) a ls.length [a] = pthL (topI ls S) a (j + 1) := by
        rw [← hC]; exact cyc_hit he
      rw [e]; simp [pthL_s]
    · refine ⟨by omega, ⟨hnd', fun _ => ⟨he, ?_⟩⟩, pthL_s.symm, rfl⟩
      rw [← hC, show ls.length + 1 - (j + 1) = ls.length - j - 1 + 1 by omega]
  · have hc : itI (topI ls S) a j ∈ pthL (topI ls S) a j := hmem.1 hc
    cases j with
    | zero => simp [pthL] at hc
    | succ j =>
      obtain ⟨h1, h2⟩ := hI (by omega)
      have e : cycG (topI ls S) a ls.length [a] = [] := by
        rw [← h2, show ls.length + 1 - (j + 1) = (ls.length - j - 1) + 1 by omega]; exact cyc_rep h1 hc
      rw [e]; simp
theorem spec_l22Cycle_ok {n1 n2 : Option Bool} (ls : List (List Int)) (S : List Int) (a : Int) (H : Hs ls ls.length) (hS : Lf ls.length S) (ha : a ∈ S) : CallOk Try.prog 81 [.s n1 (rr ls), .s n2 (bb (lB S ls.length)), .i a]
    [(0, .own 1 none (ii (lowC (topI ls S) ls.length a)))] := by
  have hf : ∀ x ∈ S, topI ls S x ∈ S := fun x hx => (top_in H hS hx).2.2
  have n5 := H.n5
  have hSl := hS.len
  obtain ⟨code0, hcd1, hcd2⟩ := chk_spec_l22Cycle; refine callOk_of Try.func81 hcd1 mo Try.call81 (rs := [6]) (by kernel_rfl) hcd2 (by rw [Try.ntmps81]; simp) (by simp) (by decide) ?_; unfold C_spec_l22Cycle K_spec_l22Cycle; simp (config := { maxSteps := 2000000 }) only [go_sem, Nat.reduceBEq, Nat.reduceAdd, Nat.reduceMul, Nat.reduceMod, Nat.reduceLT, Nat.reduceDiv, Nat.reduceSub, Nat.reduceLeDiff, Int.reduceToNat, Int.reduceLT, Int.reduceLE, reduceCtorEq, List.take_nil, List.drop_nil]
  refine loopN ls.length (fun j => [(0, .t .arg (.s n1 (rr ls))), (1, .t .arg (.s n2 (bb (lB S ls.length)))), (2, .i a), (7, .own 1 none (ii (pthL (topI ls S) a (j + 1))))]) (fun j => (pthL (topI ls S) a (j + 1)).Nodup ∧ spG (topI ls S) a (ls.length - j) (pthL (topI ls S) a (j + 1)) = lowC (topI ls S) ls.length a) ⟨⟨by simp [pthL], rfl⟩, by simp (config := { maxSteps := 2000000 }) only [go_sem, Nat.reduceBEq, Nat.reduceAdd, Nat.reduceMul, Nat.reduceMod, Nat.reduceLT, Nat.reduceDiv, Nat.reduceSub, Nat.reduceLeDiff, Int.reduceToNat, Int.reduceLT, Int.reduceLE, reduceCtorEq, List.take_nil, List.drop_nil]; simp [pthL, itI, ii, T.leL, T.le]⟩ fun j hj hI => ?_
  obtain ⟨hnd, hI⟩ := hI
  have hle := pthL_le hf ha hnd
  have hl := pthL_len (f := topI ls S) (a := a) (j := j + 1)
  have hg : (pthL (topI ls S) a (j + 1)).getD j 0 = itI (topI ls S) a j := pthL_get (by omega)
  have hin : itI (topI ls S) a j ∈ S := itI_in hf ha
  have hb := hS.bd _ hin
  have ht := top_in H hS hin
  have hrk := H.rk (itI (topI ls S) a j).toNat (by omega)
  have hrl := rank_len hrk
  simp (config := { maxSteps := 2000000 }) only [go_sem, Nat.reduceBEq, Nat.reduceAdd, Nat.reduceMul, Nat.reduceMod, Nat.reduceLT, Nat.reduceDiv, Nat.reduceSub, Nat.reduceLeDiff, Int.reduceToNat, Int.reduceLT, Int.reduceLE, reduceCtorEq, List.take_nil, List.drop_nil]
  have e1 : (((pthL (topI ls S) a (j + 1)).length : Int) - 1).toNat = j := by omega
  rw [e1, hg]
  refine ⟨inR_of (by omega) (by omega), by omega, by omega, by omega, by omega, by omega, by omega, ?_⟩
  refine ⟨_, spec_l22First_ok (ls.getD (itI (topI ls S) a j).toNat []) S ls.length (by omega) (fun x hx => by obtain ⟨k, hk, e⟩ := mem_getD 0 hx; have := rank_bd hrk hk; omega) ⟨ht.1, ht.2.1⟩, ?_⟩; simp (config := { maxSteps := 2000000 }) only [go_sem, Nat.reduceBEq, Nat.reduceAdd, Nat.reduceMul, Nat.reduceMod, Nat.reduceLT, Nat.reduceDiv, Nat.reduceSub, Nat.reduceLeDiff, Int.reduceToNat, Int.reduceLT, Int.reduceLE, reduceCtorEq, List.take_nil, List.drop_nil]
  refine ⟨fun he => ?_, fun he => ?_⟩
  · have he : itI (topI ls S) a (j + 1) = a := he
    rw [← hI, show ls.length - j = (ls.length - j - 1) + 1 by omega, sp_hit he]
  · have he : ¬ itI (topI ls S) a (j + 1) = a := he
    refine ⟨fun h1 => ?_, fun h1 => ?_⟩
    · refine ⟨_, spec_PlaceOf_ok (pthL (topI ls S) a (j + 1)) (fstL S (ls.getD (itI (topI ls S) a j).toNat [])) (by omega), ?_⟩; simp (config := { maxSteps := 2000000 }) only [go_sem, Nat.reduceBEq, Nat.reduceAdd, Nat.reduceMul, Nat.reduceMod, Nat.reduceLT, Nat.reduceDiv, Nat.reduceSub, Nat.reduceLeDiff, Int.reduceToNat, Int.reduceLT, Int.reduceLE, reduceCtorEq, List.take_nil, List.drop_nil]
      refine ⟨fun h2 => ?_, fun h2 => ?_⟩
      · have hm : itI (topI ls S) a (j + 1) ∈ pthL (topI ls S) a (j + 1) := Classical.byContradiction fun hn => by
          have := placeI_neg.2 hn; exact absurd h2 (by exact Int.not_le.2 this)
        rw [← hI, show ls.length - j = (ls.length - j - 1) + 1 by omega, sp_rep he (.inr hm)]
      · have hm : itI (topI ls S) a (j + 1) ∉ pthL (topI ls S) a (j + 1) := placeI_neg.1 (Int.not_le.1 h2)
        have hno : ¬ (itI (topI ls S) a (j + 1) < a ∨ itI (topI ls S) a (j + 1) ∈ pthL (topI ls S) a (j + 1)) := by
          simp only [not_or]; exact ⟨h1, hm⟩
        refine ⟨by omega, by omega, ⟨pthL_nd hnd hm, ?_⟩, pthL_s.symm⟩
        rw [← hI, show ls.length - j = (ls.length - (j + 1)) + 1 by omega, sp_on he hno]
    · rw [← hI, show ls.length - j = (ls.length - j - 1) + 1 by omega, sp_rep he (.inl h1)]
/-- The least of the first j + 1. -/
def minN (xs : List Int) : Nat → Int
  | 0 => xs.getD 0 0
  | j + 1 => min (minN xs j) (xs.getD (j + 1) 0)
theorem Min_ok {n1 : Option Bool} (xs : List Int) (hl : xs.length ≤ 1048576) (h0 : 0 < xs.length) : CallOk Try.prog 83 [.s n1 (ii xs)] [(0, .i (minN xs (xs.length - 1)))] := by
  obtain ⟨code0, hcd1, hcd2⟩ := chk_slices_Min_Sint_int; refine callOk_of Try.func83 hcd1 mo Try.call83 (rs := [2]) (by kernel_rfl) hcd2 (by rw [Try.ntmps83]; simp) (by simp) (by decide) ?_; unfold C_slices_Min_Sint_int K_slices_Min_Sint_int; simp (config := { maxSteps := 2000000 }) only [go_sem, Nat.reduceBEq, Nat.reduceAdd, Nat.reduceMul, Nat.reduceMod, Nat.reduceLT, Nat.reduceDiv, Nat.reduceSub, Nat.reduceLeDiff, Int.reduceToNat, Int.reduceLT, Int.reduceLE, reduceCtorEq, List.take_nil, List.drop_nil]
  refine ⟨fun h => by omega, fun _ => ⟨h0, h0, ?_⟩⟩
  refine loopN (xs.length - 1) (fun j => [(0, .t .arg (.s n1 (ii xs))), (3, .i (minN xs j)), (4, .i (j + 1 : Nat))]) (fun _ => True) ⟨trivial, by simp (config := { maxSteps := 2000000 }) only [go_sem, Nat.reduceBEq, Nat.reduceAdd, Nat.reduceMul, Nat.reduceMod, Nat.reduceLT, Nat.reduceDiv, Nat.reduceSub, Nat.reduceLeDiff, Int.reduceToNat, Int.reduceLT, Int.reduceLE, reduceCtorEq, List.take_nil, List.drop_nil]; simp [minN]⟩ fun j hj _ => ?_
  simp (config := { maxSteps := 2000000 }) only [go_sem, Nat.reduceBEq, Nat.reduceAdd, Nat.reduceMul, Nat.reduceMod, Nat.reduceLT, Nat.reduceDiv, Nat.reduceSub, Nat.reduceLeDiff, Int.reduceToNat, Int.reduceLT, Int.reduceLE, reduceCtorEq, List.take_nil, List.drop_nil]
  refine ⟨fun hlt => ?_, fun hge => ?_⟩
  · have hj' : j + 1 < xs.length := by omega
    exact ⟨by omega, hj', hj', inR_of (by omega) (by omega), by omega, rfl, by simp⟩
  · have : j = xs.length - 1 := by omega
    subst this
    rfl
theorem minN_le {xs : List Int} : ∀ {j i : Nat}, i ≤ j → minN xs j ≤ xs.getD i 0
  | 0, i, h => by obtain rfl : i = 0 := by omega
                  simp [minN]
  | j + 1, i, h => by
    simp only [minN]
    by_cases e : i = j + 1
    · subst e; omega
    · have := minN_le (xs := xs) (j := j) (i := i) (by omega); omega
theorem minN_mem {xs : List Int} : ∀ {j : Nat}, j < xs.length → minN xs j ∈ xs
  | 0, h => mem_getD' h
  | j + 1, h => by
    have := minN_mem (xs := xs) (j := j) (by omega)
    have h2 := mem_getD' h
    simp only [minN]
    rcases Int.le_total (minN xs j) (xs.getD (j + 1) 0) with h3 | h3
    · rw [Int.min_eq_left h3]; exact this
    · rw [Int.min_eq_right h3]; exact h2
theorem min_low {f : Int → Int} {a : Int} {xs : List Int} (h : Cyc f a xs) : (minN xs (xs.length - 1) = a) ↔ ∀ y ∈ xs, a ≤ y := by
  have hp := h.pos
  constructor
  · intro e y hy
    obtain ⟨i, hi, rfl⟩ := mem_getD 0 hy
    rw [← e]; exact minN_le (by omega)
  · intro h1
    have h2 := minN_mem (xs := xs) (j := xs.length - 1) (by omega)
    have h3 := minN_le (xs := xs) (j := xs.length - 1) (i := 0) (by omega)
    rw [h.hd] at h3
    have := h1 _ h2; omega
theorem impl_TopCycles1_ok {n1 : Option Bool} (x : Int) (gone : List Int) (hl : gone.length ≤ 1048576) : CallOk Try.prog 84 [.i x, .q [.s n1 (ii gone)] 0] [(0, .b (inL gone x))] := by
  obtain ⟨code0, hcd1, hcd2⟩ := chk_impl_TopCycles_1; refine callOk_of Try.func84 hcd1 mo Try.call84 (rs := [3]) (by kernel_rfl) hcd2 (by rw [Try.ntmps84]; simp) (by simp) (by decide) ?_; unfold C_impl_TopCycles_1 K_impl_TopCycles_1; simp (config := { maxSteps := 2000000 }) only [go_sem, Nat.reduceBEq, Nat.reduceAdd, Nat.reduceMul, Nat.reduceMod, Nat.reduceLT, Nat.reduceDiv, Nat.reduceSub, Nat.reduceLeDiff, Int.reduceToNat, Int.reduceLT, Int.reduceLE, reduceCtorEq, List.take_nil, List.drop_nil]
  refine ⟨_, ContainsI gone x hl, ?_⟩; simp (config := { maxSteps := 2000000 }) only [go_sem, Nat.reduceBEq, Nat.reduceAdd, Nat.reduceMul, Nat.reduceMod, Nat.reduceLT, Nat.reduceDiv, Nat.reduceSub, Nat.reduceLeDiff, Int.reduceToNat, Int.reduceLT, Int.reduceLE, reduceCtorEq, List.take_nil, List.drop_nil]
  trivial
theorem rndK_len {ls : List (List Int)} {S : List Int} : ∀ {t : Nat}, t ≤ S.length → (rndK ls S t).length ≤ t
  | 0, _ => by simp [rndK]
  | t + 1, h => by
    have ih := rndK_len (ls := ls) (S := S) (t := t) (by omega)
    rw [rndK_s (by omega), List.length_append]
    unfold rowC; split
    · simp; omega
    · simp; omega
theorem tcS_rows {ls : List (List Int)} : ∀ {j : Nat}, (tcS ls j).2.length ≤ j * ls.length
  | 0 => by simp [tcS]
  | j + 1 => by
    have ih := tcS_rows (ls := ls) (j := j)
    have h1 := rndK_len (ls := ls) (Nat.le_refl (tcS ls j).1.length)
    have h2 := (tcS_lf (ls := ls) (j := j)).len
    simp only [tcS, List.length_append, rndS, Nat.succ_mul]; omega
theorem impl_TopCycles_ok {n1 : Option Bool} (ls : List (List Int)) (hl : ls.length ≤ 1048576) (hr : ∀ r ∈ ls, r.length ≤ 1048576) : CallOk Try.prog 43 [.s n1 (rr ls)] [(0, .own 1 none (rr (topsF ls)))] := by
  obtain ⟨code0, hcd1, hcd2⟩ := chk_impl_TopCycles; refine callOk_of Try.func43 hcd1 mo Try.call43 (rs := [2]) (by kernel_rfl) hcd2 (by rw [Try.ntmps43]; simp) (by simp) (by decide) ?_; unfold C_impl_TopCycles K_impl_TopCycles; simp (config := { maxSteps := 2000000 }) only [go_sem, Nat.reduceBEq, Nat.reduceAdd, Nat.reduceMul, Nat.reduceMod, Nat.reduceLT, Nat.reduceDiv, Nat.reduceSub, Nat.reduceLeDiff, Int.reduceToNat, Int.reduceLT, Int.reduceLE, reduceCtorEq, List.take_nil, List.drop_nil]
  refine ⟨_, impl_HousesOk_ok ls hl hr, ?_⟩; simp (config := { maxSteps := 2000000 }) only [go_sem, Nat.reduceBEq, Nat.reduceAdd, Nat.reduceMul, Nat.reduceMod, Nat.reduceLT, Nat.reduceDiv, Nat.reduceSub, Nat.reduceLeDiff, Int.reduceToNat, Int.reduceLT, Int.reduceLE, reduceCtorEq, List.take_nil, List.drop_nil]
  refine ⟨fun h0 => by simp [topsF, h0], fun h0 => ?_⟩
  have H := hs_of h0
  have n5 := H.n5
  have hF : topsF ls = (tcS ls ls.length).2 := if_pos h0
  rw [hF]
  refine ⟨_, indices_ok (ls.length : Int) (by omega) (by omega), ?_⟩; simp (config := { maxSteps := 2000000 }) only [go_sem, Nat.reduceBEq, Nat.reduceAdd, Nat.reduceMul, Nat.reduceMod, Nat.reduceLT, Nat.reduceDiv, Nat.reduceSub, Nat.reduceLeDiff, Int.reduceToNat, Int.reduceLT, Int.reduceLE, reduceCtorEq, List.take_nil, List.drop_nil]
  refine loopN ls.length (fun j => [(0, .t .arg (.s n1 (rr ls))), (3, .own 1 none (ii (tcS ls j).1)), (4, .own 1 none (rr (tcS ls j).2))]) (fun _ => True) ⟨trivial, by simp (config := { maxSteps := 2000000 }) only [go_sem, Nat.reduceBEq, Nat.reduceAdd, Nat.reduceMul, Nat.reduceMod, Nat.reduceLT, Nat.reduceDiv, Nat.reduceSub, Nat.reduceLeDiff, Int.reduceToNat, Int.reduceLT, Int.reduceLE, reduceCtorEq, List.take_nil, List.drop_nil]; simp [tcS]⟩ fun j hj _ => ?_
  have hS := tcS_lf (ls := ls) (j := j)
  have hSl := hS.len
  have hdn := tcS_down H (j := j)
  have hrows := tcS_rows (ls := ls) (j := j)
  have hrows5 : j * ls.length ≤ 5 * 5 := Nat.mul_le_mul (by omega) n5
  simp (config := { maxSteps := 2000000 }) only [go_sem, Nat.reduceBEq, Nat.reduceAdd, Nat.reduceMul, Nat.reduceMod, Nat.reduceLT, Nat.reduceDiv, Nat.reduceSub, Nat.reduceLeDiff, Int.reduceToNat, Int.reduceLT, Int.reduceLE, reduceCtorEq, List.take_nil, List.drop_nil]
  refine ⟨fun hlt => ?_, fun hge => ?_⟩
  · have hpos : 0 < (tcS ls j).1.length := by omega
    refine loopN (tcS ls j).1.length (fun t => [(0, .t .arg (.s n1 (rr ls))), (3, .own 1 none (ii (tcS ls j).1)), (4, .own 1 none (rr ((tcS ls j).2 ++ rndK ls (tcS ls j).1 t))), (5, .bx 1), (1005, .own 1 none (ii (rndK ls (tcS ls j).1 t).flatten)), (18, .al 3), (19, .i (tcS ls j).1.length), (20, .i (t : Nat))]) (fun _ => True) ⟨trivial, by simp (config := { maxSteps := 2000000 }) only [go_sem, Nat.reduceBEq, Nat.reduceAdd, Nat.reduceMul, Nat.reduceMod, Nat.reduceLT, Nat.reduceDiv, Nat.reduceSub, Nat.reduceLeDiff, Int.reduceToNat, Int.reduceLT, Int.reduceLE, reduceCtorEq, List.take_nil, List.drop_nil]; simp [rndK]⟩ fun t ht _ => ?_
    have hfl := flat_ok H hS ht
    have hrk := rndK_len (ls := ls) ht
    have hfll : (rndK ls (tcS ls j).1 t).flatten.length ≤ (tcS ls j).1.length := nodup_sub_len hfl.1 hfl.2
    simp (config := { maxSteps := 2000000 }) only [go_sem, Nat.reduceBEq, Nat.reduceAdd, Nat.reduceMul, Nat.reduceMod, Nat.reduceLT, Nat.reduceDiv, Nat.reduceSub, Nat.reduceLeDiff, Int.reduceToNat, Int.reduceLT, Int.reduceLE, reduceCtorEq, List.take_nil, List.drop_nil]
    refine ⟨fun hlt2 => ?_, fun hge2 => ?_⟩
    · have ht' : t < (tcS ls j).1.length := by omega
      have ha : (tcS ls j).1.getD t 0 ∈ (tcS ls j).1 := mem_getD' ht'
      have hrs := rndK_s (ls := ls) ht'
      have hrf := rnd_flat_s (ls := ls) ht'
      have hp := impl_pointingCycle_ok (n1 := n1) (n2 := none) ls (tcS ls j).1 ((tcS ls j).1.getD t 0) H hS ha
      have hlow : lowC (topI ls (tcS ls j).1) ls.length ((tcS ls j).1.getD t 0) = _ := lowC_eq
      have hcy := cycG_ok (f := topI ls (tcS ls j).1) (k := ls.length) (pth_one (a := (tcS ls j).1.getD t 0))
      have hcl : (cycG (topI ls (tcS ls j).1) ((tcS ls j).1.getD t 0) ls.length [(tcS ls j).1.getD t 0]).length ≤ (tcS ls j).1.length := by
        rcases hcy with e | e
        · rw [e]; simp
        · exact nodup_sub_len e.nd (pth_sub (fun x hx => (top_in H hS hx).2.2) e.toPth ha)
      unfold rowC at hrs
      revert hp hlow hcy hrs hrf hcl
      generalize lowC (topI ls (tcS ls j).1) ls.length ((tcS ls j).1.getD t 0) = L
      generalize cycG (topI ls (tcS ls j).1) ((tcS ls j).1.getD t 0) ls.length [(tcS ls j).1.getD t 0] = c
      intro hrs hrf hp hlow hcy hcl
      refine ⟨by omega, by omega, by omega, ?_⟩
      by_cases hc : c = []
      · subst hc
        have hL : L = [] := by rw [hlow]; simp [lowOf]
        subst hL
        simp only [decide_true] at hp
        refine ⟨_, hp, ?_⟩; simp (config := { maxSteps := 2000000 }) only [go_sem, Nat.reduceBEq, Nat.reduceAdd, Nat.reduceMul, Nat.reduceMod, Nat.reduceLT, Nat.reduceDiv, Nat.reduceSub, Nat.reduceLeDiff, Int.reduceToNat, Int.reduceLT, Int.reduceLE, reduceCtorEq, List.take_nil, List.drop_nil]
        rw [hrf, hrs]
        exact ⟨inR_of (by omega) (by omega), ht', by simp, by simp, by simp⟩
      · simp only [decide_eq_false hc] at hp
        have hC := hcy.resolve_left hc
        have hpc := hC.pos
        refine ⟨_, hp, ?_⟩; simp (config := { maxSteps := 2000000 }) only [go_sem, Nat.reduceBEq, Nat.reduceAdd, Nat.reduceMul, Nat.reduceMod, Nat.reduceLT, Nat.reduceDiv, Nat.reduceSub, Nat.reduceLeDiff, Int.reduceToNat, Int.reduceLT, Int.reduceLE, reduceCtorEq, List.take_nil, List.drop_nil]
        refine ⟨_, Min_ok c (by omega) hpc, ?_⟩; simp (config := { maxSteps := 2000000 }) only [go_sem, Nat.reduceBEq, Nat.reduceAdd, Nat.reduceMul, Nat.reduceMod, Nat.reduceLT, Nat.reduceDiv, Nat.reduceSub, Nat.reduceLeDiff, Int.reduceToNat, Int.reduceLT, Int.reduceLE, reduceCtorEq, List.take_nil, List.drop_nil]
        refine ⟨fun hm => ?_, fun hm => ?_⟩
        · have hL : L = c := by rw [hlow, lowOf, if_pos ⟨hc, (min_low hC).1 hm⟩]
          subst hL
          rw [if_neg hc] at hrs
          rw [hrf, hrs]
          exact ⟨by simp, by rw [List.length_append]; omega, by omega, inR_of (by omega) (by omega), ht', by simp, rfl, by simp⟩
        · have hL : L = [] := by rw [hlow, lowOf, if_neg fun h => hm ((min_low hC).2 h.2)]
          subst hL
          rw [hrf, hrs]
          exact ⟨inR_of (by omega) (by omega), ht', by simp, by simp, by simp⟩
    · have : t = (tcS ls j).1.length := by omega
      subst this
      have hlen := tcS_len H (j := j)
      have hsome := rnd_some H hS (fun e => by rw [e] at hpos; simp at hpos)
      refine ⟨_, DeleteFunc_ok (tcS ls j).1 84 [.q [.s none (ii (rndK ls (tcS ls j).1 (tcS ls j).1.length).flatten)] 0] (fun x => inL (rndK ls (tcS ls j).1 (tcS ls j).1.length).flatten x) (fun x _ => impl_TopCycles1_ok x _ (by omega)) (by omega), ?_⟩; simp (config := { maxSteps := 2000000 }) only [go_sem, Nat.reduceBEq, Nat.reduceAdd, Nat.reduceMul, Nat.reduceMod, Nat.reduceLT, Nat.reduceDiv, Nat.reduceSub, Nat.reduceLeDiff, Int.reduceToNat, Int.reduceLT, Int.reduceLE, reduceCtorEq, List.take_nil, List.drop_nil]
      exact ⟨by omega, rfl, rfl⟩
  · exact tops_at H (List.eq_nil_of_length_eq_zero (by omega))
/-- Those of S that are not in D. -/
def cutS (S D : List Int) : List Int := S.filter fun x => !inL D x
theorem cutS_s {S D : List Int} {x : Int} : (cutS S D).filter (fun y => !decide (y = x)) = cutS S (D ++ [x]) := by
  unfold cutS
  rw [List.filter_filter]
  apply List.filter_congr
  intro y _
  simp only [inL, List.any_append, List.any_cons, List.any_nil, Bool.or_false, Bool.not_or]
  rw [Bool.and_comm]
theorem lB_cut {S D : List Int} {n : Nat} {x : Int} (h0 : 0 ≤ x) (h1 : x < n) : (lB (cutS S D) n).set x.toNat false = lB (cutS S (D ++ [x])) n := by
  have := lB_set (left := cutS S D) (n := n) (x := x.toNat) (by omega)
  rw [Int.toNat_of_nonneg h0, cutS_s] at this; exact this
def rndQ (ls : List (List Int)) (S : List Int) (i : Nat) : List (List Int) := (upto i).flatMap fun a => if inL S a = true then rowC ls S a else []
theorem rndQ_s {ls : List (List Int)} {S : List Int} {i : Nat} : rndQ ls S (i + 1) = rndQ ls S i ++ if inL S (i : Int) = true then rowC ls S (i : Int) else [] := by
  simp [rndQ, upto, List.range_succ]
theorem rndQ_all {ls : List (List Int)} {S : List Int} {n : Nat} (h : Lf n S) : rndQ ls S n = rndS ls S := by
  have key : ∀ (xs : List Int) (p : Int → Bool) (g : Int → List (List Int)), (xs.flatMap fun a => if p a = true then g a else []) = (xs.filter p).flatMap g := by
    intro xs p g
    induction xs with
    | nil => rfl
    | cons x xs ih =>
      simp only [List.flatMap_cons, ih, List.filter_cons]
      by_cases hp : p x = true
      · rw [if_pos hp, if_pos hp, List.flatMap_cons]
      · rw [if_neg hp, if_neg hp, List.nil_append]
  unfold rndQ rndS rndK
  rw [key, ← h.up, List.take_length]
theorem rndQ_len {ls : List (List Int)} {S : List Int} : ∀ {i : Nat}, (rndQ ls S i).length ≤ i
  | 0 => by simp [rndQ, upto]
  | i + 1 => by
    have ih := rndQ_len (ls := ls) (S := S) (i := i)
    rw [rndQ_s, List.length_append]
    unfold rowC
    split <;> (try split) <;> simp <;> omega
theorem spec_TopCycles_ok {n1 : Option Bool} (ls : List (List Int)) (hl : ls.length ≤ 1048576) (hr : ∀ r ∈ ls, r.length ≤ 1048576) : CallOk Try.prog 42 [.s n1 (rr ls)] [(0, .own 1 none (rr (topsF ls)))] := by
  obtain ⟨code0, hcd1, hcd2⟩ := chk_spec_TopCycles; refine callOk_of Try.func42 hcd1 mo Try.call42 (rs := [2]) (by kernel_rfl) hcd2 (by rw [Try.ntmps42]; simp) (by simp) (by decide) ?_; unfold C_spec_TopCycles K_spec_TopCycles; simp (config := { maxSteps := 2000000 }) only [go_sem, Nat.reduceBEq, Nat.reduceAdd, Nat.reduceMul, Nat.reduceMod, Nat.reduceLT, Nat.reduceDiv, Nat.reduceSub, Nat.reduceLeDiff, Int.reduceToNat, Int.reduceLT, Int.reduceLE, reduceCtorEq, List.take_nil, List.drop_nil]
  refine ⟨_, spec_HousesOk_ok ls hl hr, ?_⟩; simp (config := { maxSteps := 2000000 }) only [go_sem, Nat.reduceBEq, Nat.reduceAdd, Nat.reduceMul, Nat.reduceMod, Nat.reduceLT, Nat.reduceDiv, Nat.reduceSub, Nat.reduceLeDiff, Int.reduceToNat, Int.reduceLT, Int.reduceLE, reduceCtorEq, List.take_nil, List.drop_nil]
  refine ⟨fun h0 => by simp [topsF, h0], fun h0 => ?_⟩
  have H := hs_of h0
  have n5 := H.n5
  have hF : topsF ls = (tcS ls ls.length).2 := if_pos h0
  rw [hF]
  refine loopN ls.length (fun j => [(0, .t .arg (.s n1 (rr ls))), (3, .own 1 (some false) (bb (List.replicate j true))), (19, .i ls.length), (20, .i (j : Nat))]) (fun j => True) ⟨trivial, by simp (config := { maxSteps := 2000000 }) only [go_sem, Nat.reduceBEq, Nat.reduceAdd, Nat.reduceMul, Nat.reduceMod, Nat.reduceLT, Nat.reduceDiv, Nat.reduceSub, Nat.reduceLeDiff, Int.reduceToNat, Int.reduceLT, Int.reduceLE, reduceCtorEq, List.take_nil, List.drop_nil]; simp⟩ fun j hj _ => ?_
  simp (config := { maxSteps := 2000000 }) only [go_sem, Nat.reduceBEq, Nat.reduceAdd, Nat.reduceMul, Nat.reduceMod, Nat.reduceLT, Nat.reduceDiv, Nat.reduceSub, Nat.reduceLeDiff, Int.reduceToNat, Int.reduceLT, Int.reduceLE, reduceCtorEq, List.take_nil, List.drop_nil]
  refine ⟨fun hlt => ⟨by simp; omega, inR_of (by omega) (by omega), by omega, by rw [List.replicate_succ'], by omega⟩, fun hge => ?_⟩
  have : j = ls.length := by omega
  subst this
  have l0 : List.replicate ls.length true = lB (upto ls.length) ls.length := by
    apply List.ext_getElem
    · simp [lB]
    · intro i h1 h2
      have hi : i < ls.length := by simpa using h1
      have : inL (upto ls.length) (i : Nat) = true := inL_iff.2 (mem_upto.2 ⟨by omega, by omega⟩)
      simp [lB, this]
  rw [l0]
  refine loopN ls.length (fun j => [(0, .t .arg (.s n1 (rr ls))), (3, .own 1 none (bb (lB (tcS ls j).1 ls.length))), (4, .own 1 none (rr (tcS ls j).2)), (5, .i ((ls.length : Int) - (tcS ls j).1.length))]) (fun _ => True) ⟨trivial, by simp (config := { maxSteps := 2000000 }) only [go_sem, Nat.reduceBEq, Nat.reduceAdd, Nat.reduceMul, Nat.reduceMod, Nat.reduceLT, Nat.reduceDiv, Nat.reduceSub, Nat.reduceLeDiff, Int.reduceToNat, Int.reduceLT, Int.reduceLE, reduceCtorEq, List.take_nil, List.drop_nil]; simp [tcS, upto_len]⟩ fun j hj _ => ?_
  have hS := tcS_lf (ls := ls) (j := j)
  have hSl := hS.len
  have hdn := tcS_down H (j := j)
  have hrows := tcS_rows (ls := ls) (j := j)
  have hrows5 : j * ls.length ≤ 5 * 5 := Nat.mul_le_mul (by omega) n5
  simp (config := { maxSteps := 2000000 }) only [go_sem, Nat.reduceBEq, Nat.reduceAdd, Nat.reduceMul, Nat.reduceMod, Nat.reduceLT, Nat.reduceDiv, Nat.reduceSub, Nat.reduceLeDiff, Int.reduceToNat, Int.reduceLT, Int.reduceLE, reduceCtorEq, List.take_nil, List.drop_nil]
  refine ⟨fun hlt => ?_, fun hge => ?_⟩
  · have hpos : 0 < (tcS ls j).1.length := by omega
    have hsome := rnd_some H hS (fun e => by rw [e] at hpos; simp at hpos)
    have hfl := flat_ok H hS (Nat.le_refl _)
    have hlen := tcS_len H (j := j)
    refine loopN ls.length (fun i => [(0, .t .arg (.s n1 (rr ls))), (3, .own 1 none (bb (lB (tcS ls j).1 ls.length))), (4, .own 1 none (rr (tcS ls j).2)), (5, .i ((ls.length : Int) - (tcS ls j).1.length)), (6, .own 1 none (rr (rndQ ls (tcS ls j).1 i))), (32, .al 3), (33, .i ls.length), (34, .i (i : Nat))]) (fun _ => True) ⟨trivial, by simp (config := { maxSteps := 2000000 }) only [go_sem, Nat.reduceBEq, Nat.reduceAdd, Nat.reduceMul, Nat.reduceMod, Nat.reduceLT, Nat.reduceDiv, Nat.reduceSub, Nat.reduceLeDiff, Int.reduceToNat, Int.reduceLT, Int.reduceLE, reduceCtorEq, List.take_nil, List.drop_nil]; simp [rndQ, upto, lB_len]⟩ fun i hi _ => ?_
    have hql := rndQ_len (ls := ls) (S := (tcS ls j).1) (i := i)
    have hqs := rndQ_s (ls := ls) (S := (tcS ls j).1) (i := i)
    simp (config := { maxSteps := 2000000 }) only [go_sem, Nat.reduceBEq, Nat.reduceAdd, Nat.reduceMul, Nat.reduceMod, Nat.reduceLT, Nat.reduceDiv, Nat.reduceSub, Nat.reduceLeDiff, Int.reduceToNat, Int.reduceLT, Int.reduceLE, reduceCtorEq, List.take_nil, List.drop_nil]
    rw [lB_len]
    refine ⟨fun hlt2 => ?_, fun hge2 => ?_⟩
    · have hi' : i < ls.length := by omega
      rw [lB_get hi']
      refine ⟨by omega, hi', hi', fun hon => ?_, fun hon => ?_⟩
      · rw [hon] at hqs
        exact ⟨inR_of (by omega) (by omega), hi', by rw [hqs]; simp, by simp⟩
      · rw [hon, if_pos rfl] at hqs
        have ha : (i : Int) ∈ (tcS ls j).1 := inL_iff.1 hon
        refine ⟨_, spec_l22Cycle_ok ls (tcS ls j).1 (i : Int) H hS ha, ?_⟩; simp (config := { maxSteps := 2000000 }) only [go_sem, Nat.reduceBEq, Nat.reduceAdd, Nat.reduceMul, Nat.reduceMod, Nat.reduceLT, Nat.reduceDiv, Nat.reduceSub, Nat.reduceLeDiff, Int.reduceToNat, Int.reduceLT, Int.reduceLE, reduceCtorEq, List.take_nil, List.drop_nil]
        refine ⟨fun hL => ?_, fun hL => ?_⟩
        · have hne : lowC (topI ls (tcS ls j).1) ls.length (i : Int) ≠ [] := fun e => by rw [e] at hL; simp at hL
          rw [rowC, if_neg hne] at hqs
          exact ⟨by simp, by omega, inR_of (by omega) (by omega), hi', hqs.symm, by simp⟩
        · have he : lowC (topI ls (tcS ls j).1) ls.length (i : Int) = [] := List.eq_nil_of_length_eq_zero (by omega)
          rw [rowC, if_pos he, List.append_nil] at hqs
          exact ⟨inR_of (by omega) (by omega), hi', hqs.symm, by simp⟩
    · have : i = ls.length := by omega
      subst this
      rw [rndQ_all hS]
      have hRl := rndK_len (ls := ls) (Nat.le_refl (tcS ls j).1.length)
      have hnx1 : (tcS ls (j + 1)).1 = cutS (tcS ls j).1 (rndS ls (tcS ls j).1).flatten := rfl
      have hnx2 : (tcS ls (j + 1)).2 = (tcS ls j).2 ++ rndS ls (tcS ls j).1 := rfl
      change (rndS ls (tcS ls j).1).length ≤ _ at hRl
      change (rndS ls (tcS ls j).1).flatten.Nodup ∧ (∀ y ∈ (rndS ls (tcS ls j).1).flatten, y ∈ (tcS ls j).1) at hfl
      have hfll := nodup_sub_len hfl.1 hfl.2
      revert hRl hnx1 hnx2 hfl hfll hlen hsome
      generalize rndS ls (tcS ls j).1 = R
      intro hsome hlen hnx1 hnx2 hRl hfl hfll
      have c0 : cutS (tcS ls j).1 [] = (tcS ls j).1 := by simp [cutS, inL]
      refine loopN R.length (fun t => [(0, .t .arg (.s n1 (rr ls))), (3, .own 1 none (bb (lB (cutS (tcS ls j).1 (R.take t).flatten) ls.length))), (4, .own 1 none (rr ((tcS ls j).2 ++ R.take t))), (5, .i ((ls.length : Int) - (tcS ls j).1.length + (R.take t).flatten.length)), (6, .own 1 none (hols t R)), (53, .al 6), (54, .i R.length), (55, .i (t : Nat))]) (fun _ => True) ⟨trivial, by simp (config := { maxSteps := 2000000 }) only [go_sem, Nat.reduceBEq, Nat.reduceAdd, Nat.reduceMul, Nat.reduceMod, Nat.reduceLT, Nat.reduceDiv, Nat.reduceSub, Nat.reduceLeDiff, Int.reduceToNat, Int.reduceLT, Int.reduceLE, reduceCtorEq, List.take_nil, List.drop_nil]; simp [c0]⟩ fun t ht _ => ?_
      have hfb : (R.take t).flatten.length ≤ R.flatten.length := by
        conv => rhs; rw [← List.take_append_drop t R, List.flatten_append, List.length_append]
        omega
      simp (config := { maxSteps := 2000000 }) only [go_sem, Nat.reduceBEq, Nat.reduceAdd, Nat.reduceMul, Nat.reduceMod, Nat.reduceLT, Nat.reduceDiv, Nat.reduceSub, Nat.reduceLeDiff, Int.reduceToNat, Int.reduceLT, Int.reduceLE, reduceCtorEq, List.take_nil, List.drop_nil]
      refine ⟨fun hlt3 => ?_, fun hge3 => ?_⟩
      · have ht' : t < R.length := by omega
        have hg := hols_get ht'
        have htk := take_getD [] ht'
        have hfs : (R.take (t + 1)).flatten = (R.take t).flatten ++ R.getD t [] := by rw [htk, List.flatten_append]; simp
        have hfb2 : (R.take (t + 1)).flatten.length ≤ R.flatten.length := by
          conv => rhs; rw [← List.take_append_drop (t + 1) R, List.flatten_append, List.length_append]
          omega
        have hcS : ∀ x ∈ R.getD t [], x ∈ (tcS ls j).1 := fun x hx => hfl.2 x (List.mem_flatten.2 ⟨_, getD_mem (d := []) ht', hx⟩)
        rw [hfs, List.length_append] at hfb2
        rw [hg]
        refine ⟨by omega, ht', ?_⟩
        simp (config := { maxSteps := 2000000 }) only [go_sem, Nat.reduceBEq, Nat.reduceAdd, Nat.reduceMul, Nat.reduceMod, Nat.reduceLT, Nat.reduceDiv, Nat.reduceSub, Nat.reduceLeDiff, Int.reduceToNat, Int.reduceLT, Int.reduceLE, reduceCtorEq, List.take_nil, List.drop_nil, hg]
        refine ⟨ht', ht', ?_⟩
        revert hfs hfb2 hcS htk
        generalize R.getD t [] = c
        intro htk hfs hfb2 hcS
        refine loopN c.length (fun k => [(0, .t .arg (.s n1 (rr ls))), (3, .own 1 none (bb (lB (cutS (tcS ls j).1 ((R.take t).flatten ++ c.take k)) ls.length))), (4, .own 1 none (rr ((tcS ls j).2 ++ R.take t))), (5, .i ((ls.length : Int) - (tcS ls j).1.length + (R.take t).flatten.length + k)), (6, .own 1 none (hols (t + 1) R)), (53, .al 6), (54, .i R.length), (55, .i (t : Nat)), (11, .own 1 none (ii c)), (59, .al 11), (60, .i c.length), (61, .i (k : Nat))]) (fun _ => True) ⟨trivial, by simp (config := { maxSteps := 2000000 }) only [go_sem, Nat.reduceBEq, Nat.reduceAdd, Nat.reduceMul, Nat.reduceMod, Nat.reduceLT, Nat.reduceDiv, Nat.reduceSub, Nat.reduceLeDiff, Int.reduceToNat, Int.reduceLT, Int.reduceLE, reduceCtorEq, List.take_nil, List.drop_nil]; simp⟩ fun k hk _ => ?_
        simp (config := { maxSteps := 2000000 }) only [go_sem, Nat.reduceBEq, Nat.reduceAdd, Nat.reduceMul, Nat.reduceMod, Nat.reduceLT, Nat.reduceDiv, Nat.reduceSub, Nat.reduceLeDiff, Int.reduceToNat, Int.reduceLT, Int.reduceLE, reduceCtorEq, List.take_nil, List.drop_nil]
        refine ⟨fun hlt4 => ?_, fun hge4 => ?_⟩
        · have hk' : k < c.length := by omega
          have hx := hS.bd _ (hcS _ (mem_getD' hk'))
          have htk2 := take_getD 0 hk'
          rw [lB_len]
          refine ⟨by omega, hk', hk', by omega, by omega, by omega, inR_of (by omega) (by omega), inR_of (by omega) (by omega), hk', ?_, by omega, by simp⟩
          rw [lB_cut hx.1 hx.2, List.append_assoc, ← htk2]
        · have : k = c.length := by omega
          subst this
          rw [List.take_length]
          refine ⟨by simp, by rw [List.length_append, List.length_take]; omega, inR_of (by omega) (by omega), ht', by rw [hfs], by rw [htk]; simp, ?_, by simp⟩
          rw [hfs, List.length_append]; omega
      · have : t = R.length := by omega
        subst this
        rw [List.take_length]
        exact ⟨by omega, by rw [hnx1], by rw [hnx2], by omega⟩
  · exact tops_at H (List.eq_nil_of_length_eq_zero (by omega))

end Go.Proofs.Ytkkhikpbnjbalaa
