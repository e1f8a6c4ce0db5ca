/- Own work: contracts of functions that the claim reaches. No condition beyond those that each theorem names. -/
import Derived.Test.YtkkhikpbnjbalaaProg
import Derived.Test.YtkkhikpbnjbalaaRent
namespace Go.Proofs.Ytkkhikpbnjbalaa
open Go Go.Vc
set_option maxRecDepth 100000
set_option linter.unusedSimpArgs false
set_option linter.unusedVariables false
def K_spec_LeastRaises : List Nat := [0, 1, 4, 5, 6, 7, 8, 9, 10, 11, 12, 26, 27, 28, 34, 35]
def C_spec_LeastRaises : C :=
  let ks := K_spec_LeastRaises
  (.seq
    (.rg 0 [(none, .mkn 4), (none, .v 5 .mv [.k (.b false)])])
    (.cl ks (.seq
      (.seq
        (.rg 0 [(none, .v 13 .mv [.s 0]), (none, .v 14 .mv [.s 1]), (none, .co 15 60 [.s 13, .s 14]), (none, .v 16 .not [.s 15])])
        (.cond (.s 16)
          (.seq
            (.rg 0 [(none, .mkn 4), (none, .v 5 .mv [.k (.b false)])])
            .ret)
          .skip))
      (.cl ks (.seq
        (.rg 0 [(none, .v 17 .mv [.s 1]), (none, .v 18 .len [.s 17]), (none, .mk 19 (.i 0) (.s 18) (.s 18)), (none, .tk 6 19)])
        (.cl ks (.seq
          (.seq
            (.rg 0 [(none, .v 7 .mv [.k (.i 0)])])
            (.cl ks (.block 0
              (.loop
                (.seq
                  (.seq
                    (.rg 0 [(none, .v 20 .mv [.s 7]), (none, .v 21 .mv [.s 1]), (none, .v 22 .len [.s 21]), (none, .v 23 (.bin .leq) [.s 20, .s 22])])
                    (.cond (.s 23)
                      .skip
                      (.exit 0)))
                  (.cl ks (.seq
                    (.block 1
                      (.seq
                        (.rg 0 [(none, .v 8 .mv [.k (.b false)])])
                        (.cl ks (.seq
                          (.seq
                            (.rg 0 [(none, .v 26 .mv [.s 1]), (none, .v 27 .len [.s 26]), (none, .v 28 .mv [.k (.i 0)])])
                            (.cl ks (.block 2
                              (.loop
                                (.seq
                                  (.rg 0 [(none, .v 29 (.bin .lss) [.s 28, .s 27])])
                                  (.seq
                                    (.cond (.s 29)
                                      .skip
                                      (.exit 2))
                                    (.cl ks (.seq
                                      (.block 3
                                        (.seq
                                          (.rg 0 [(none, .v 30 .mv [.s 28]), (none, .v 31 .idx [.s 26, .s 28]), (none, .v 32 .ld [.s 31]), (none, .tk 9 30), (none, .tk 10 32)])
                                          (.cl ks (.seq
                                            (.rg 0 [(none, .v 33 .mv [.s 1]), (none, .v 34 .len [.s 33]), (none, .v 35 .mv [.k (.i 0)])])
                                            (.cl ks (.block 4
                                              (.loop
                                                (.seq
                                                  (.rg 0 [(none, .v 36 (.bin .lss) [.s 35, .s 34])])
                                                  (.seq
                                                    (.cond (.s 36)
                                                      .skip
                                                      (.exit 4))
                                                    (.cl ks (.seq
                                                      (.block 5
                                                        (.seq
                                                          (.rg 0 [(none, .v 37 .mv [.s 35]), (none, .tk 11 37)])
                                                          (.cl ks (.seq
                                                            (.rg 19 [(none, .v 38 .mv [.s 6]), (none, .v 39 .mv [.s 10]), (none, .v 40 .idx [.s 38, .s 39]), (none, .v 41 .ld [.s 40]), (none, .v 42 .mv [.s 0]), (none, .v 43 .mv [.s 9]), (none, .v 44 .idx [.s 42, .s 43]), (none, .v 45 .ld [.s 44]), (none, .v 46 .mv [.s 11]), (none, .v 47 .idx [.s 45, .s 46]), (none, .v 48 .ld [.s 47]), (none, .v 49 (.bin .add) [.s 41, .s 48]), (none, .v 50 .mv [.s 0]), (none, .v 51 .mv [.s 9]), (none, .v 52 .idx [.s 50, .s 51]), (none, .v 53 .ld [.s 52]), (none, .v 54 .mv [.s 10]), (none, .v 55 .idx [.s 53, .s 54]), (none, .v 56 .ld [.s 55]), (none, .v 57 (.bin .sub) [.s 49, .s 56]), (none, .tk 12 57)])
                                                            (.cl ks (.seq
                                                              (.rg 0 [(none, .v 58 .mv [.s 12]), (none, .v 59 .mv [.s 6]), (none, .v 60 .mv [.s 11]), (none, .v 61 .idx [.s 59, .s 60]), (none, .v 62 .ld [.s 61]), (none, .v 63 (.bin .gtr) [.s 58, .s 62])])
                                                              (.cond (.s 63)
                                                                (.seq
                                                                  (.rg 0 [(none, .v 64 .mv [.s 6]), (none, .v 65 .mv [.s 11]), (none, .v 66 .mv [.s 12]), (none, .v 67 .idx [.s 64, .s 65]), (none, .st (.s 67) (.s 66))])
                                                                  (.cl ks (.rg 0 [(none, .v 8 .mv [.k (.b true)])])))
                                                                .skip)))))))
                                                      (.cl ks (.rg 0 [(none, .v 68 (.bin .add) [.s 35, .k (.i 1)]), (none, .v 35 .mv [.s 68])])))))))))))))
                                      (.cl ks (.rg 0 [(none, .v 69 (.bin .add) [.s 28, .k (.i 1)]), (none, .v 28 .mv [.s 69])]))))))))))
                          (.cl ks (.seq
                            (.rg 0 [(none, .v 70 .mv [.s 8]), (none, .v 71 .not [.s 70])])
                            (.cond (.s 71)
                              (.seq
                                (.rg 0 [(none, .v 72 .mv [.s 6]), (none, .tk 4 72), (none, .v 5 .mv [.k (.b true)])])
                                .ret)
                              .skip)))))))
                    (.cl ks (.rg 0 [(none, .v 24 .mv [.s 7]), (none, .v 25 (.bin .add) [.s 24, .k (.i 1)]), (none, .tk 7 25)])))))))))
          (.cl ks (.seq
            (.rg 0 [(none, .mkn 4), (none, .v 5 .mv [.k (.b false)])])
            .ret)))))))))

theorem chk_spec_LeastRaises : ∃ b, Try.f29.body = some b ∧ chk Try.prog Try.f29.ntmps true C_spec_LeastRaises b = true := ⟨_, rfl, by kernel_rfl⟩
def K_impl_LeastRaises : List Nat := [0, 1, 4, 5, 6, 7, 8, 9, 10, 11, 27, 28, 30, 31, 32, 38, 39]
def C_impl_LeastRaises : C :=
  let ks := K_impl_LeastRaises
  (.seq
    (.rg 0 [(none, .mkn 4), (none, .v 5 .mv [.k (.b false)])])
    (.cl ks (.seq
      (.seq
        (.rg 0 [(none, .v 12 .mv [.s 0]), (none, .co 13 19 [.s 12]), (none, .v 14 .not [.s 13]), (none, .v 15 .mv [.s 14]), (some (15, false), .v 16 .mv [.s 0]), (some (15, false), .v 17 .len [.s 16]), (some (15, false), .v 18 .mv [.s 1]), (some (15, false), .co 19 62 [.s 17, .s 18]), (some (15, false), .v 20 .not [.s 19]), (none, .v 21 .pick [.s 15, .k (.b true), .s 20])])
        (.cond (.s 21)
          (.seq
            (.rg 0 [(none, .mkn 4), (none, .v 5 .mv [.k (.b false)])])
            .ret)
          .skip))
      (.cl ks (.seq
        (.rg 0 [(none, .v 22 .mv [.s 0]), (none, .v 23 .len [.s 22]), (none, .mk 24 (.i 0) (.s 23) (.s 23)), (none, .tk 6 24)])
        (.cl ks (.seq
          (.seq
            (.rg 0 [(none, .v 25 .mv [.s 0]), (none, .v 26 .len [.s 25]), (none, .v 27 (.bin .add) [.s 26, .k (.i 1)]), (none, .v 28 .mv [.k (.i 0)])])
            (.cl ks (.block 0
              (.loop
                (.seq
                  (.rg 0 [(none, .v 29 (.bin .lss) [.s 28, .s 27])])
                  (.seq
                    (.cond (.s 29)
                      .skip
                      (.exit 0))
                    (.cl ks (.seq
                      (.block 1
                        (.seq
                          (.rg 0 [(none, .v 7 .mv [.k (.b false)])])
                          (.cl ks (.seq
                            (.seq
                              (.rg 0 [(none, .v 30 .mv [.s 1]), (none, .v 31 .len [.s 30]), (none, .v 32 .mv [.k (.i 0)])])
                              (.cl ks (.block 2
                                (.loop
                                  (.seq
                                    (.rg 0 [(none, .v 33 (.bin .lss) [.s 32, .s 31])])
                                    (.seq
                                      (.cond (.s 33)
                                        .skip
                                        (.exit 2))
                                      (.cl ks (.seq
                                        (.block 3
                                          (.seq
                                            (.rg 0 [(none, .v 34 .mv [.s 32]), (none, .v 35 .idx [.s 30, .s 32]), (none, .v 36 .ld [.s 35]), (none, .tk 8 34), (none, .tk 9 36)])
                                            (.cl ks (.seq
                                              (.rg 0 [(none, .v 37 .mv [.s 6]), (none, .v 38 .len [.s 37]), (none, .v 39 .mv [.k (.i 0)])])
                                              (.cl ks (.block 4
                                                (.loop
                                                  (.seq
                                                    (.rg 0 [(none, .v 40 (.bin .lss) [.s 39, .s 38])])
                                                    (.seq
                                                      (.cond (.s 40)
                                                        .skip
                                                        (.exit 4))
                                                      (.cl ks (.seq
                                                        (.block 5
                                                          (.seq
                                                            (.rg 0 [(none, .v 41 .mv [.s 39]), (none, .tk 10 41)])
                                                            (.cl ks (.seq
                                                              (.rg 19 [(none, .v 42 .mv [.s 6]), (none, .v 43 .mv [.s 9]), (none, .v 44 .idx [.s 42, .s 43]), (none, .v 45 .ld [.s 44]), (none, .v 46 .mv [.s 0]), (none, .v 47 .mv [.s 8]), (none, .v 48 .idx [.s 46, .s 47]), (none, .v 49 .ld [.s 48]), (none, .v 50 .mv [.s 10]), (none, .v 51 .idx [.s 49, .s 50]), (none, .v 52 .ld [.s 51]), (none, .v 53 (.bin .add) [.s 45, .s 52]), (none, .v 54 .mv [.s 0]), (none, .v 55 .mv [.s 8]), (none, .v 56 .idx [.s 54, .s 55]), (none, .v 57 .ld [.s 56]), (none, .v 58 .mv [.s 9]), (none, .v 59 .idx [.s 57, .s 58]), (none, .v 60 .ld [.s 59]), (none, .v 61 (.bin .sub) [.s 53, .s 60]), (none, .tk 11 61)])
                                                              (.cl ks (.seq
                                                                (.rg 0 [(none, .v 62 .mv [.s 6]), (none, .v 63 .mv [.s 10]), (none, .v 64 .idx [.s 62, .s 63]), (none, .v 65 .ld [.s 64]), (none, .v 66 .mv [.s 11]), (none, .v 67 (.bin .lss) [.s 65, .s 66])])
                                                                (.cond (.s 67)
                                                                  (.seq
                                                                    (.rg 0 [(none, .v 68 .mv [.s 6]), (none, .v 69 .mv [.s 10]), (none, .v 70 .mv [.s 11]), (none, .v 71 .idx [.s 68, .s 69]), (none, .st (.s 71) (.s 70))])
                                                                    (.cl ks (.rg 0 [(none, .v 7 .mv [.k (.b true)])])))
                                                                  .skip)))))))
                                                        (.cl ks (.rg 0 [(none, .v 72 (.bin .add) [.s 39, .k (.i 1)]), (none, .v 39 .mv [.s 72])])))))))))))))
                                        (.cl ks (.rg 0 [(none, .v 73 (.bin .add) [.s 32, .k (.i 1)]), (none, .v 32 .mv [.s 73])]))))))))))
                            (.cl ks (.seq
                              (.rg 0 [(none, .v 74 .mv [.s 7]), (none, .v 75 .not [.s 74])])
                              (.cond (.s 75)
                                (.seq
                                  (.rg 0 [(none, .v 76 .mv [.s 6]), (none, .tk 4 76), (none, .v 5 .mv [.k (.b true)])])
                                  .ret)
                                .skip)))))))
                      (.cl ks (.rg 0 [(none, .v 77 (.bin .add) [.s 28, .k (.i 1)]), (none, .v 28 .mv [.s 77])]))))))))))
          (.cl ks (.seq
            (.rg 0 [(none, .mkn 4), (none, .v 5 .mv [.k (.b false)])])
            .ret)))))))))

theorem chk_impl_LeastRaises : ∃ b, Try.f30.body = some b ∧ chk Try.prog Try.f30.ntmps true C_impl_LeastRaises b = true := ⟨_, rfl, by kernel_rfl⟩
def lrW (vs : List (List Int)) (l : List Int) (i : Nat) (d : List Int) (x : Nat) : Int :=
  d.getD (l.getD i 0).toNat 0 + (vs.getD i []).getD x 0 - (vs.getD i []).getD (l.getD i 0).toNat 0
def lrStep (vs : List (List Int)) (l : List Int) (i : Nat) (s : List Int × Bool) (x : Nat) : List Int × Bool :=
  if s.1.getD x 0 < lrW vs l i s.1 x then (s.1.set x (lrW vs l i s.1 x), true) else s
theorem lrStep_pos {vs : List (List Int)} {l : List Int} {i : Nat} {s : List Int × Bool} {x : Nat} (h : s.1.getD x 0 < lrW vs l i s.1 x) : lrStep vs l i s x = (s.1.set x (lrW vs l i s.1 x), true) := if_pos h
theorem lrStep_neg {vs : List (List Int)} {l : List Int} {i : Nat} {s : List Int × Bool} {x : Nat} (h : ¬ s.1.getD x 0 < lrW vs l i s.1 x) : lrStep vs l i s x = s := if_neg h
def lrIn (vs : List (List Int)) (l : List Int) (i : Nat) (s : List Int × Bool) : Nat → List Int × Bool
  | 0 => s
  | x + 1 => lrStep vs l i (lrIn vs l i s x) x
def lrOut (vs : List (List Int)) (l : List Int) (n : Nat) (s : List Int × Bool) : Nat → List Int × Bool
  | 0 => s
  | i + 1 => lrIn vs l i (lrOut vs l n s i) n
def lrIt (vs : List (List Int)) (l : List Int) (n : Nat) : Nat → List Int
  | 0 => List.replicate n 0
  | k + 1 => (lrOut vs l n (lrIt vs l n k, false) n).1
def lrRun (vs : List (List Int)) (l : List Int) (n : Nat) : Nat → Nat → List Int × Bool
  | _, 0 => ([], false)
  | k, m + 1 => if (lrOut vs l n (lrIt vs l n k, false) n).2 = true then lrRun vs l n (k + 1) m else (lrIt vs l n (k + 1), true)
/-- Raises of n rooms, each at least 0 and at most b. -/
def LrB (n : Nat) (b : Int) (d : List Int) : Prop := d.length = n ∧ ∀ x, x < n → 0 ≤ d.getD x 0 ∧ d.getD x 0 ≤ b
theorem rank_lt {n : Nat} {l : List Int} (h : rankB n l = true) {i : Nat} (hi : i < n) : (l.getD i 0).toNat < n ∧ 0 ≤ l.getD i 0 ∧ l.getD i 0 < n := by
  have h1 := rank_len h
  have h2 := rank_bd h (i := i) (by omega)
  omega
theorem lrW_bd {vs : List (List Int)} {l : List Int} {n : Nat} (R : Rent vs n) (h : rankB n l = true) {i x : Nat} (hi : i < n) (hx : x < n) {b : Int} {d : List Int} (hd : LrB n b d) : -1000 ≤ lrW vs l i d x ∧ lrW vs l i d x ≤ b + 1000 := by
  have h1 := rank_lt h hi
  have h2 := R.bd i x hi hx
  have h3 := R.bd i (l.getD i 0).toNat hi h1.1
  have h4 := hd.2 _ h1.1
  simp only [lrW]; omega
theorem getD_set {d : List Int} {x y : Nat} {w : Int} (hx : x < d.length) : (d.set x w).getD y 0 = if y = x then w else d.getD y 0 := by
  simp only [List.getD_eq_getElem?_getD, List.getElem?_set]
  split
  · rename_i e; subst e; simp [hx]
  · rename_i e; rw [if_neg (fun h => e h.symm)]
theorem lrStep_bd {vs : List (List Int)} {l : List Int} {n : Nat} (R : Rent vs n) (h : rankB n l = true) {i x : Nat} (hi : i < n) (hx : x < n) {b : Int} {s : List Int × Bool} (hd : LrB n b s.1) : LrB n (b + 1000) (lrStep vs l i s x).1 := by
  have hw := lrW_bd R h hi hx hd
  unfold lrStep
  split
  · rename_i hlt
    refine ⟨by simp [hd.1], fun y hy => ?_⟩
    simp only
    rw [getD_set (by rw [hd.1]; exact hx)]
    have h1 := hd.2 y hy
    have h2 := hd.2 x hx
    split <;> omega
  · exact ⟨hd.1, fun y hy => by have := hd.2 y hy; omega⟩
theorem LrB.mono {n : Nat} {b c : Int} {d : List Int} (h : LrB n b d) (hbc : b ≤ c) : LrB n c d := ⟨h.1, fun x hx => by have := h.2 x hx; omega⟩
theorem lrIn_bd {vs : List (List Int)} {l : List Int} {n : Nat} (R : Rent vs n) (h : rankB n l = true) {i : Nat} (hi : i < n) {b : Int} {s : List Int × Bool} (hd : LrB n b s.1) : ∀ {x : Nat}, x ≤ n → LrB n (b + 1000 * x) (lrIn vs l i s x).1
  | 0, _ => hd.mono (by omega)
  | x + 1, hx => by
    have h1 := lrIn_bd R h hi hd (x := x) (by omega)
    exact (lrStep_bd R h hi (by omega) h1).mono (by omega)
theorem lrOut_bd {vs : List (List Int)} {l : List Int} {n : Nat} (R : Rent vs n) (h : rankB n l = true) {b : Int} {s : List Int × Bool} (hd : LrB n b s.1) : ∀ {i : Nat}, i ≤ n → LrB n (b + 4000 * i) (lrOut vs l n s i).1
  | 0, _ => hd.mono (by omega)
  | i + 1, hi => by
    have h1 := lrOut_bd R h hd (i := i) (by omega)
    have := R.n4
    exact (lrIn_bd R h (by omega) h1 (Nat.le_refl n)).mono (by omega)
theorem lrIt_bd {vs : List (List Int)} {l : List Int} {n : Nat} (R : Rent vs n) (h : rankB n l = true) : ∀ {k : Nat}, LrB n (16000 * k) (lrIt vs l n k)
  | 0 => ⟨by simp [lrIt], fun x hx => by simp [lrIt, List.getD_eq_getElem?_getD, List.getElem?_replicate, hx]⟩
  | k + 1 => by
    have h1 := lrOut_bd R h (s := (lrIt vs l n k, false)) (lrIt_bd R h (k := k)) (Nat.le_refl n)
    have := R.n4
    exact h1.mono (by omega)
/-- The answer. -/
def lrRes (vs : List (List Int)) (l : List Int) : List Int × Bool := if chB vs l then lrRun vs l vs.length 0 (vs.length + 1) else ([], false)

end Go.Proofs.Ytkkhikpbnjbalaa
