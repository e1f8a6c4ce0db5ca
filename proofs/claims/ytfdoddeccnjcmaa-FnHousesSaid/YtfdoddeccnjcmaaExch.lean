/- Own work: contracts of functions that the claim reaches. No condition beyond those that each theorem names. -/
import Derived.Test.YtfdoddeccnjcmaaProg
import Derived.Test.YtfdoddeccnjcmaaTopw
namespace Go.Proofs.Ytfdoddeccnjcmaa
open Go Go.Vc
set_option maxRecDepth 100000
set_option linter.unusedSimpArgs false
set_option linter.unusedVariables false
def K_impl_ExchangeBy : List Nat := [0, 2, 3, 5, 6, 7, 15, 16, 17, 21, 22, 23]
def C_impl_ExchangeBy : C :=
  let ks := K_impl_ExchangeBy
  (.seq
   (.rg 0 [(none, .mkn 2)])
   (.cl ks (.seq
   (.seq
   (.rg 0 [(none, .v 8 .mv [.s 0]), (none, .co 9 44 [.s 8]), (none, .v 10 .not [.s 9])])
   (.cond (.s 10)
   (.seq
   (.rg 0 [(none, .mkn 2)])
   .ret)
   .skip))
   (.cl ks (.seq
   (.rg 0 [(none, .v 11 .mv [.s 0]), (none, .v 12 .len [.s 11]), (none, .mk 13 (.i 0) (.s 12) (.s 12)), (none, .tk 3 13)])
   (.cl ks (.seq
   (.seq
   (.rg 0 [(none, .v 14 .mv [.s 0]), (none, .co 15 41 [.s 14]), (none, .v 16 .len [.s 15]), (none, .v 17 .mv [.k (.i 0)])])
   (.cl ks (.block 0
   (.loop
   (.seq
   (.rg 0 [(none, .v 18 (.bin .lss) [.s 17, .s 16])])
   (.seq
   (.cond (.s 18)
   .skip
   (.exit 0))
   (.cl ks (.seq
   (.block 1
   (.seq
   (.rg 0 [(none, .v 19 .idx [.s 15, .s 17]), (none, .v 20 .ld [.s 19]), (none, .tk 5 20)])
   (.cl ks (.seq
   (.rg 0 [(none, .v 21 .mv [.s 5]), (none, .v 22 .len [.s 21]), (none, .v 23 .mv [.k (.i 0)])])
   (.cl ks (.block 2
   (.loop
   (.seq
   (.rg 0 [(none, .v 24 (.bin .lss) [.s 23, .s 22])])
   (.seq
   (.cond (.s 24)
   .skip
   (.exit 2))
   (.cl ks (.seq
   (.block 3
   (.seq
   (.rg 0 [(none, .v 25 .mv [.s 23]), (none, .v 26 .idx [.s 21, .s 23]), (none, .v 27 .ld [.s 26]), (none, .tk 6 25), (none, .tk 7 27)])
   (.cl ks (.rg 0 [(none, .v 28 .mv [.s 3]), (none, .v 29 .mv [.s 7]), (none, .v 30 .mv [.s 5]), (none, .v 31 .mv [.s 6]), (none, .v 32 (.bin .add) [.s 31, .k (.i 1)]), (none, .v 33 .mv [.s 5]), (none, .v 34 .len [.s 33]), (none, .v 35 (.bin .rem) [.s 32, .s 34]), (none, .v 36 .idx [.s 30, .s 35]), (none, .v 37 .ld [.s 36]), (none, .v 38 .idx [.s 28, .s 29]), (none, .st (.s 38) (.s 37))]))))
   (.cl ks (.rg 0 [(none, .v 39 (.bin .add) [.s 23, .k (.i 1)]), (none, .v 23 .mv [.s 39])])))))))))))))
   (.cl ks (.rg 0 [(none, .v 40 (.bin .add) [.s 17, .k (.i 1)]), (none, .v 17 .mv [.s 40])]))))))))))
   (.cl ks (.seq
   (.rg 0 [(none, .v 41 .mv [.s 3]), (none, .tk 2 41)])
   .ret)))))))))

theorem chk_impl_ExchangeBy : ∃ b, Try.f34.body = some b ∧ chk Try.prog Try.f34.ntmps true C_impl_ExchangeBy b = true := ⟨_, rfl, by kernel_rfl⟩
/- spec_ExchangeBy: not in this cut -/
/-- Each of the first k of a cycle gets the house of the next one. -/
def exC (out c : List Int) : Nat → List Int
  | 0 => out
  | k + 1 => (exC out c k).set (c.getD k 0).toNat (c.getD ((k + 1) % c.length) 0)
def exR (n : Nat) (R : List (List Int)) : Nat → List Int
  | 0 => List.replicate n 0
  | t + 1 => exC (exR n R t) (R.getD t []) (R.getD t []).length
def exF (ls : List (List Int)) : List Int := if housesB ls = true then exR ls.length (topsF ls) (topsF ls).length else []
theorem exC_len {out c : List Int} : ∀ {k : Nat}, (exC out c k).length = out.length
  | 0 => rfl
  | k + 1 => by simp only [exC, List.length_set]; exact exC_len
theorem exR_len {n : Nat} {R : List (List Int)} : ∀ {t : Nat}, (exR n R t).length = n
  | 0 => by simp [exR]
  | t + 1 => by simp only [exR]; rw [exC_len]; exact exR_len
theorem tcS_in {ls : List (List Int)} (H : Hs ls ls.length) : ∀ {j : Nat}, ∀ c ∈ (tcS ls j).2, 0 < c.length ∧ c.length ≤ ls.length ∧ ∀ x ∈ c, 0 ≤ x ∧ x < ls.length
  | 0, c, hc => by simp [tcS] at hc
  | j + 1, c, hc => by
    simp only [tcS, List.mem_append] at hc
    rcases hc with hc | hc
    · exact tcS_in H c hc
    · have hS := tcS_lf (ls := ls) (j := j)
      obtain ⟨a, ha, hc⟩ := List.mem_flatMap.1 hc
      obtain ⟨h1, h2, _⟩ := row_mem hc
      have hin : ∀ x ∈ c, x ∈ (tcS ls j).1 := pth_sub (fun x hx => (top_in H hS hx).2.2) h2.toPth (List.mem_of_mem_take ha)
      have := nodup_sub_len h2.nd hin
      have := hS.len
      exact ⟨h2.pos, by omega, fun x hx => hS.bd x (hin x hx)⟩
theorem impl_ExchangeBy_ok {n1 : Option Bool} (ls : List (List Int)) (hl : ls.length ≤ 1048576) (hr : ∀ r ∈ ls, r.length ≤ 1048576) : CallOk Try.prog 34 [.s n1 (rr ls)] [(0, .own 1 none (ii (exF ls)))] := by
  obtain ⟨code0, hcd1, hcd2⟩ := chk_impl_ExchangeBy; refine callOk_of Try.func34 hcd1 mo Try.call34 (rs := [2]) (by kernel_rfl) hcd2 (by rw [Try.ntmps34]; simp) (by simp) (by decide) ?_; unfold C_impl_ExchangeBy K_impl_ExchangeBy; simp (config := { maxSteps := 2000000 }) only [go_sem, Nat.reduceBEq, Nat.reduceAdd, Nat.reduceMul, Nat.reduceMod, Nat.reduceLT, Nat.reduceDiv, Nat.reduceSub, Nat.reduceLeDiff, Int.reduceToNat, Int.reduceLT, Int.reduceLE, reduceCtorEq, List.take_nil, List.drop_nil]
  refine ⟨_, impl_HousesOk_ok ls hl hr, ?_⟩; simp (config := { maxSteps := 2000000 }) only [go_sem, Nat.reduceBEq, Nat.reduceAdd, Nat.reduceMul, Nat.reduceMod, Nat.reduceLT, Nat.reduceDiv, Nat.reduceSub, Nat.reduceLeDiff, Int.reduceToNat, Int.reduceLT, Int.reduceLE, reduceCtorEq, List.take_nil, List.drop_nil]
  refine ⟨fun h0 => by simp [exF, h0], fun h0 => ?_⟩
  have H := hs_of h0
  have n5 := H.n5
  have hF : exF ls = exR ls.length (topsF ls) (topsF ls).length := if_pos h0
  rw [hF]
  refine ⟨by omega, by omega, ?_⟩
  refine ⟨_, impl_TopCycles_ok ls hl hr, ?_⟩; simp (config := { maxSteps := 2000000 }) only [go_sem, Nat.reduceBEq, Nat.reduceAdd, Nat.reduceMul, Nat.reduceMod, Nat.reduceLT, Nat.reduceDiv, Nat.reduceSub, Nat.reduceLeDiff, Int.reduceToNat, Int.reduceLT, Int.reduceLE, reduceCtorEq, List.take_nil, List.drop_nil]
  have hR : ∀ c ∈ topsF ls, 0 < c.length ∧ c.length ≤ ls.length ∧ ∀ x ∈ c, 0 ≤ x ∧ x < ls.length := by
    have : topsF ls = (tcS ls ls.length).2 := if_pos h0
    rw [this]; exact tcS_in H
  have hRl : (topsF ls).length ≤ 25 := by
    have e : topsF ls = (tcS ls ls.length).2 := if_pos h0
    have h1 := tcS_rows (ls := ls) (j := ls.length)
    have h2 : ls.length * ls.length ≤ 5 * 5 := Nat.mul_le_mul n5 n5
    rw [e]; omega
  revert hR hRl
  generalize topsF ls = R
  intro hR hRl
  refine loopN R.length (fun t => [(0, .t .arg (.s n1 (rr ls))), (3, .own 1 (some false) (ii (exR ls.length R t))), (15, .own 1 none (rr R)), (16, .i R.length), (17, .i (t : Nat))]) (fun _ => True) ⟨trivial, by simp (config := { maxSteps := 2000000 }) only [go_sem, Nat.reduceBEq, Nat.reduceAdd, Nat.reduceMul, Nat.reduceMod, Nat.reduceLT, Nat.reduceDiv, Nat.reduceSub, Nat.reduceLeDiff, Int.reduceToNat, Int.reduceLT, Int.reduceLE, reduceCtorEq, List.take_nil, List.drop_nil]; simp [exR]⟩ fun t ht _ => ?_
  simp (config := { maxSteps := 2000000 }) only [go_sem, Nat.reduceBEq, Nat.reduceAdd, Nat.reduceMul, Nat.reduceMod, Nat.reduceLT, Nat.reduceDiv, Nat.reduceSub, Nat.reduceLeDiff, Int.reduceToNat, Int.reduceLT, Int.reduceLE, reduceCtorEq, List.take_nil, List.drop_nil]
  refine ⟨fun hlt => ?_, fun hge => ?_⟩
  · have ht' : t < R.length := by omega
    obtain ⟨c1, c2, c3⟩ := hR _ (getD_mem (d := []) ht')
    have hes : exR ls.length R (t + 1) = exC (exR ls.length R t) (R.getD t []) (R.getD t []).length := rfl
    have hel := exR_len (n := ls.length) (R := R) (t := t)
    refine ⟨by omega, ht', ht', ?_⟩
    revert hes c1 c2 c3
    generalize R.getD t [] = c
    intro c1 c2 c3 hes
    refine loopN c.length (fun k => [(0, .t .arg (.s n1 (rr ls))), (3, .own 1 (some false) (ii (exC (exR ls.length R t) c k))), (5, .t (.rw 15) (.s none (ii c))), (15, .own 1 none (rr R)), (16, .i R.length), (17, .i (t : Nat)), (21, .t (.rw 15) (.s none (ii c))), (22, .i c.length), (23, .i (k : Nat))]) (fun _ => True) ⟨trivial, by simp (config := { maxSteps := 2000000 }) only [go_sem, Nat.reduceBEq, Nat.reduceAdd, Nat.reduceMul, Nat.reduceMod, Nat.reduceLT, Nat.reduceDiv, Nat.reduceSub, Nat.reduceLeDiff, Int.reduceToNat, Int.reduceLT, Int.reduceLE, reduceCtorEq, List.take_nil, List.drop_nil]; simp [exC]⟩ fun k hk _ => ?_
    have hcl := exC_len (out := exR ls.length R t) (c := c) (k := k)
    simp (config := { maxSteps := 2000000 }) only [go_sem, Nat.reduceBEq, Nat.reduceAdd, Nat.reduceMul, Nat.reduceMod, Nat.reduceLT, Nat.reduceDiv, Nat.reduceSub, Nat.reduceLeDiff, Int.reduceToNat, Int.reduceLT, Int.reduceLE, reduceCtorEq, List.take_nil, List.drop_nil]
    refine ⟨fun hlt2 => ?_, fun hge2 => ?_⟩
    · have hk' : k < c.length := by omega
      have hx := c3 _ (getD_mem (d := 0) hk')
      have hmod : ((k : Int) + 1).tmod c.length = (((k + 1) % c.length : Nat) : Int) := by
        rw [Int.tmod_eq_emod_of_nonneg (by omega)]; simp
      have hml : (k + 1) % c.length < c.length := Nat.mod_lt _ c1
      rw [hmod, Int.toNat_natCast]
      exact ⟨by omega, hk', hk', inR_of (by omega) (by omega), by omega, Int.natCast_nonneg _, hml, hml, hx.1, by omega, by omega, inR_of (by omega) (by omega), hk', rfl, by simp⟩
    · have : k = c.length := by omega
      subst this
      exact ⟨inR_of (by omega) (by omega), ht', hes.symm, by simp⟩
  · have : t = R.length := by omega
    subst this
    rfl

end Go.Proofs.Ytfdoddeccnjcmaa
