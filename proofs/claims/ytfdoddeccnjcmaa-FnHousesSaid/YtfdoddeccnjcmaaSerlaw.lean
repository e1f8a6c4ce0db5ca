/- Own work: contracts of functions that the claim reaches. No condition beyond those that each theorem names. -/
import Derived.Test.YtfdoddeccnjcmaaProg
import Derived.Test.YtfdoddeccnjcmaaPerm
import Derived.Test.YtfdoddeccnjcmaaDelete
namespace Go.Proofs.Ytfdoddeccnjcmaa
open Go Go.Vc
set_option maxRecDepth 100000
set_option linter.unusedSimpArgs false
set_option linter.unusedVariables false
/- spec_l22First: not in this cut -/
def K_impl_firstOfLeft : List Nat := [0, 1, 3, 4, 1003]
def C_impl_firstOfLeft : C :=
  let ks := K_impl_firstOfLeft
  (.seq
   (.rg 0 [(none, .box 3 (.s 1)), (none, .v 4 .mv [.k (.i 0)])])
   (.cl ks (.seq
   (.rg 0 [(none, .v 5 .mv [.s 0]), (none, .v 6 .mv [.s 0]), (none, .v 7 (.clo 139) [.s 3]), (none, .co 8 138 [.s 6, .s 7]), (none, .v 9 .idx [.s 5, .s 8]), (none, .v 10 .ld [.s 9]), (none, .tk 4 10)])
   .ret)))

theorem chk_impl_firstOfLeft : ∃ b, Try.f92.body = some b ∧ chk Try.prog Try.f92.ntmps true C_impl_firstOfLeft b = true := ⟨_, rfl, by kernel_rfl⟩
def K_impl_firstOfLeft_1 : List Nat := [0, 1, 3]
def C_impl_firstOfLeft_1 : C :=
  let ks := K_impl_firstOfLeft_1
  (.seq
   (.rg 0 [(none, .v 3 .mv [.k (.b false)])])
   (.cl ks (.seq
   (.rg 0 [(none, .v 4 .ld [.s 1]), (none, .v 5 .mv [.s 0]), (none, .co 6 104 [.s 4, .s 5]), (none, .tk 3 6)])
   .ret)))

theorem chk_impl_firstOfLeft_1 : ∃ b, Try.f139.body = some b ∧ chk Try.prog Try.f139.ntmps true C_impl_firstOfLeft_1 b = true := ⟨_, rfl, by kernel_rfl⟩
def inL (left : List Int) (x : Int) : Bool := left.any fun y => decide (x = y)
theorem inL_iff {left : List Int} {x : Int} : inL left x = true ↔ x ∈ left := by
  simp [inL]
def fstL (left : List Int) (l : List Int) : Int := l.getD (idxP (inL left) l).toNat 0
theorem fst_of {n : Nat} {l left : List Int} (hr : rankB n l = true) (hs : ∀ x ∈ left, 0 ≤ x ∧ x < n) (h0 : 0 < left.length) : 0 ≤ idxP (inL left) l ∧ idxP (inL left) l < l.length ∧ fstL left l ∈ left := by
  have hx := hs _ (getD_mem (d := 0) h0)
  have hm := rank_all hr hx.1 hx.2
  rcases idxP_cases (0 : Int) (inL left) l with ⟨j, hj, hp, _, e⟩ | ⟨hn, _⟩
  · unfold fstL; rw [e]; exact ⟨by omega, by omega, by simpa [-List.getD_eq_getElem?_getD] using inL_iff.1 hp⟩
  · have := hn _ hm
    rw [inL_iff.2 (getD_mem h0)] at this; cases this
/-- What is left, and who has what, after j choices. -/
def serS (ls : List (List Int)) (l : List Int) : Nat → List Int × List Int
  | 0 => (upto ls.length, List.replicate ls.length 0)
  | j + 1 => ((serS ls l j).1.filter (fun x => !decide (x = fstL (serS ls l j).1 (ls.getD (l.getD j 0).toNat []))), (serS ls l j).2.set (l.getD j 0).toNat (fstL (serS ls l j).1 (ls.getD (l.getD j 0).toNat [])))
theorem len_filter_ne {xs : List Int} {a : Int} (hn : xs.Nodup) (ha : a ∈ xs) : (xs.filter fun x => !decide (x = a)).length + 1 = xs.length := by
  have e : (xs.filter fun x => !decide (x = a)) = xs.erase a := by
    rw [hn.erase_eq_filter]; rfl
  rw [e, List.length_erase_of_mem ha]
  have := List.length_pos_of_mem ha
  omega
theorem serS_facts {ls : List (List Int)} {l : List Int} (H : Hs ls ls.length) (hl : rankB ls.length l = true) : ∀ {j : Nat}, j ≤ ls.length → (serS ls l j).1.Nodup ∧ (∀ x ∈ (serS ls l j).1, 0 ≤ x ∧ x < ls.length) ∧ (serS ls l j).1.length + j = ls.length ∧ (serS ls l j).2.length = ls.length
  | 0, _ => ⟨upto_nodup, fun x hx => by have := mem_upto.1 hx; omega, by simp [serS, upto_len], by simp [serS]⟩
  | j + 1, hj => by
    obtain ⟨a, b, c, d⟩ := serS_facts H hl (j := j) (by omega)
    have hll := rank_len hl
    have hi := rank_bd hl (i := j) (by omega)
    have hf := fst_of (H.rk (l.getD j 0).toNat (by omega)) b (by omega)
    have := len_filter_ne a hf.2.2
    refine ⟨a.filter _, fun x hx => b x (List.mem_filter.1 hx).1, by simp only [serS]; omega, by simp [serS, d]⟩
def serF (ls : List (List Int)) (l : List Int) : List Int := if exchB ls l = true then (serS ls l ls.length).2 else []
theorem impl_firstOfLeft1_ok {n1 : Option Bool} (x : Int) (left : List Int) (hl : left.length ≤ 1048576) : CallOk Try.prog 139 [.i x, .q [.s n1 (ii left)] 0] [(0, .b (inL left x))] := by
  obtain ⟨code0, hcd1, hcd2⟩ := chk_impl_firstOfLeft_1; refine callOk_of Try.func139 hcd1 mo Try.call139 (rs := [3]) (by kernel_rfl) hcd2 (by rw [Try.ntmps139]; simp) (by simp) (by decide) ?_; unfold C_impl_firstOfLeft_1 K_impl_firstOfLeft_1; simp (config := { maxSteps := 2000000 }) only [go_sem, Nat.reduceBEq, Nat.reduceAdd, Nat.reduceMul, Nat.reduceMod, Nat.reduceLT, Nat.reduceDiv, Nat.reduceSub, Nat.reduceLeDiff, Int.reduceToNat, Int.reduceLT, Int.reduceLE, reduceCtorEq, List.take_nil, List.drop_nil]
  refine ⟨_, ContainsI left x hl, ?_⟩; simp (config := { maxSteps := 2000000 }) only [go_sem, Nat.reduceBEq, Nat.reduceAdd, Nat.reduceMul, Nat.reduceMod, Nat.reduceLT, Nat.reduceDiv, Nat.reduceSub, Nat.reduceLeDiff, Int.reduceToNat, Int.reduceLT, Int.reduceLE, reduceCtorEq, List.take_nil, List.drop_nil]
  trivial
theorem impl_firstOfLeft_ok {n1 n2 : Option Bool} (l left : List Int) (hl : l.length ≤ 1048576) (hl2 : left.length ≤ 1048576) (h : 0 ≤ idxP (inL left) l ∧ idxP (inL left) l < l.length) : CallOk Try.prog 92 [.s n1 (ii l), .s n2 (ii left)] [(0, .i (fstL left l))] := by
  obtain ⟨code0, hcd1, hcd2⟩ := chk_impl_firstOfLeft; refine callOk_of Try.func92 hcd1 mo Try.call92 (rs := [4]) (by kernel_rfl) hcd2 (by rw [Try.ntmps92]; simp) (by simp) (by decide) ?_; unfold C_impl_firstOfLeft K_impl_firstOfLeft; simp (config := { maxSteps := 2000000 }) only [go_sem, Nat.reduceBEq, Nat.reduceAdd, Nat.reduceMul, Nat.reduceMod, Nat.reduceLT, Nat.reduceDiv, Nat.reduceSub, Nat.reduceLeDiff, Int.reduceToNat, Int.reduceLT, Int.reduceLE, reduceCtorEq, List.take_nil, List.drop_nil]
  refine ⟨_, IndexFuncI (inL left) (fun x _ => impl_firstOfLeft1_ok x left hl2) hl, ?_⟩; simp (config := { maxSteps := 2000000 }) only [go_sem, Nat.reduceBEq, Nat.reduceAdd, Nat.reduceMul, Nat.reduceMod, Nat.reduceLT, Nat.reduceDiv, Nat.reduceSub, Nat.reduceLeDiff, Int.reduceToNat, Int.reduceLT, Int.reduceLE, reduceCtorEq, List.take_nil, List.drop_nil]
  exact ⟨by omega, by omega, by omega, rfl⟩

end Go.Proofs.Ytfdoddeccnjcmaa
