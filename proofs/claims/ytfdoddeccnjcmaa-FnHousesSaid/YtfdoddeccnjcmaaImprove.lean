/- Own work: contracts of functions that the claim reaches. No condition beyond those that each theorem names. -/
import Derived.Test.YtfdoddeccnjcmaaProg
import Derived.Test.YtfdoddeccnjcmaaPerm
namespace Go.Proofs.Ytfdoddeccnjcmaa
open Go Go.Vc
set_option maxRecDepth 100000
set_option linter.unusedSimpArgs false
set_option linter.unusedVariables false
def K_impl_improves : List Nat := [0, 1, 2, 3, 8, 9, 10, 11, 12, 13, 14]
def C_impl_improves : C :=
  let ks := K_impl_improves
  (.seq
   (.rg 0 [(none, .v 8 .mv [.k (.b false)])])
   (.cl ks (.seq
   (.rg 0 [(none, .v 9 .mv [.k (.b false)])])
   (.cl ks (.seq
   (.seq
   (.rg 0 [(none, .v 12 .mv [.s 2]), (none, .v 13 .len [.s 12]), (none, .v 14 .mv [.k (.i 0)])])
   (.cl ks (.block 0
   (.loop
   (.seq
   (.rg 0 [(none, .v 15 (.bin .lss) [.s 14, .s 13])])
   (.seq
   (.cond (.s 15)
   .skip
   (.exit 0))
   (.cl ks (.seq
   (.block 1
   (.seq
   (.rg 0 [(none, .v 16 .mv [.s 14]), (none, .v 17 .idx [.s 12, .s 14]), (none, .v 18 .ld [.s 17]), (none, .tk 10 16), (none, .tk 11 18)])
   (.cl ks (.seq
   (.seq
   (.rg 12 [(none, .v 19 .mv [.s 0]), (none, .v 20 .mv [.s 11]), (none, .v 21 .idx [.s 19, .s 20]), (none, .v 22 .ld [.s 21]), (none, .v 23 .mv [.s 1]), (none, .v 24 .mv [.s 11]), (none, .v 25 .idx [.s 23, .s 24]), (none, .v 26 .ld [.s 25]), (none, .v 27 .mv [.s 3]), (none, .v 28 .mv [.s 10]), (none, .v 29 .idx [.s 27, .s 28]), (none, .v 30 .ld [.s 29]), (none, .co 31 100 [.s 22, .s 26, .s 30])])
   (.cond (.s 31)
   (.seq
   (.rg 0 [(none, .v 8 .mv [.k (.b false)])])
   .ret)
   .skip))
   (.cl ks (.rg 10 [(none, .v 32 .mv [.s 9]), (none, .v 33 .mv [.s 32]), (some (33, false), .v 34 .mv [.s 3]), (some (33, false), .v 35 .mv [.s 10]), (some (33, false), .v 36 .idx [.s 34, .s 35]), (some (33, false), .v 37 .ld [.s 36]), (some (33, false), .v 38 .mv [.s 1]), (some (33, false), .v 39 .mv [.s 11]), (some (33, false), .v 40 .idx [.s 38, .s 39]), (some (33, false), .v 41 .ld [.s 40]), (some (33, false), .v 42 (.bin .neq) [.s 37, .s 41]), (none, .v 43 .pick [.s 33, .k (.b true), .s 42]), (none, .tk 9 43)]))))))
   (.cl ks (.rg 0 [(none, .v 44 (.bin .add) [.s 14, .k (.i 1)]), (none, .v 14 .mv [.s 44])]))))))))))
   (.cl ks (.seq
   (.rg 0 [(none, .v 45 .mv [.s 9]), (none, .tk 8 45)])
   .ret)))))))

theorem chk_impl_improves : ∃ b, Try.f99.body = some b ∧ chk Try.prog Try.f99.ntmps true C_impl_improves b = true := ⟨_, rfl, by kernel_rfl⟩
/- spec_l22Improves: not in this cut -/
def K_impl_isUnimproved_1 : List Nat := [0, 1, 2, 3, 5]
def C_impl_isUnimproved_1 : C :=
  let ks := K_impl_isUnimproved_1
  (.seq
   (.rg 0 [(none, .v 5 .mv [.k (.b false)])])
   (.cl ks (.seq
   (.rg 0 [(none, .v 6 .ld [.s 1]), (none, .v 7 .ld [.s 2]), (none, .v 8 .ld [.s 3]), (none, .v 9 .mv [.s 0]), (none, .co 10 99 [.s 6, .s 7, .s 8, .s 9]), (none, .tk 5 10)])
   .ret)))

theorem chk_impl_isUnimproved_1 : ∃ b, Try.f141.body = some b ∧ chk Try.prog Try.f141.ntmps true C_impl_isUnimproved_1 b = true := ⟨_, rfl, by kernel_rfl⟩
def K_impl_isUnimproved : List Nat := [0, 1, 2, 3, 4, 5, 1002, 1003, 1005]
def C_impl_isUnimproved : C :=
  let ks := K_impl_isUnimproved
  (.seq
   (.rg 0 [(none, .box 2 (.s 0)), (none, .box 3 (.s 1)), (none, .v 4 .mv [.k (.b false)])])
   (.cl ks (.seq
   (.rg 0 [(none, .v 6 .ld [.s 2]), (none, .v 7 .len [.s 6]), (none, .co 8 91 [.s 7]), (none, .new 5 [.s (some true) []]), (none, .st (.s 5) (.s 8))])
   (.cl ks (.seq
   (.rg 0 [(none, .v 9 .ld [.s 2]), (none, .v 10 .len [.s 9]), (none, .co 11 42 [.s 10]), (none, .v 12 (.clo 141) [.s 2, .s 3, .s 5]), (none, .co 13 140 [.s 11, .s 12]), (none, .v 14 .not [.s 13]), (none, .tk 4 14)])
   .ret)))))

theorem chk_impl_isUnimproved : ∃ b, Try.f96.body = some b ∧ chk Try.prog Try.f96.ntmps true C_impl_isUnimproved b = true := ⟨_, rfl, by kernel_rfl⟩
def K_impl_IsUnimproved : List Nat := [0, 1, 4]
def C_impl_IsUnimproved : C :=
  let ks := K_impl_IsUnimproved
  (.seq
   (.rg 0 [(none, .v 4 .mv [.k (.b false)])])
   (.cl ks (.seq
   (.rg 0 [(none, .v 5 .mv [.s 0]), (none, .co 6 44 [.s 5]), (none, .v 7 .mv [.s 6]), (some (7, true), .v 8 .mv [.s 0]), (some (7, true), .v 9 .len [.s 8]), (some (7, true), .v 10 .mv [.s 1]), (some (7, true), .co 11 90 [.s 9, .s 10]), (none, .v 12 .pick [.s 7, .s 11, .k (.b false)]), (none, .v 13 .mv [.s 12]), (some (13, true), .v 14 .mv [.s 0]), (some (13, true), .v 15 .mv [.s 1]), (some (13, true), .co 16 96 [.s 14, .s 15]), (none, .v 17 .pick [.s 13, .s 16, .k (.b false)]), (none, .tk 4 17)])
   .ret)))

theorem chk_impl_IsUnimproved : ∃ b, Try.f38.body = some b ∧ chk Try.prog Try.f38.ntmps true C_impl_IsUnimproved b = true := ⟨_, rfl, by kernel_rfl⟩
/- spec_IsUnimproved: not in this cut -/
def K_impl_membersOf : List Nat := [0, 2, 3, 4]
def C_impl_membersOf : C :=
  let ks := K_impl_membersOf
  (.seq
   (.rg 0 [(none, .mkn 2)])
   (.cl ks (.seq
   (.rg 0 [(none, .mkn 3)])
   (.cl ks (.seq
   (.seq
   (.rg 0 [(none, .v 4 .mv [.k (.i 0)])])
   (.cl ks (.block 0
   (.loop
   (.seq
   (.seq
   (.rg 0 [(none, .v 5 .mv [.s 0]), (none, .v 6 .mv [.s 4]), (none, .v 7 (.bin .shr) [.s 5, .s 6]), (none, .v 8 (.bin .gtr) [.s 7, .k (.i 0)])])
   (.cond (.s 8)
   .skip
   (.exit 0)))
   (.cl ks (.seq
   (.block 1
   (.seq
   (.rg 0 [(none, .v 11 .mv [.s 0]), (none, .v 12 .mv [.s 4]), (none, .v 13 (.bin .shr) [.s 11, .s 12]), (none, .v 14 (.bin .and) [.s 13, .k (.i 1)]), (none, .v 15 (.bin .eql) [.s 14, .k (.i 1)])])
   (.cond (.s 15)
   (.rg 0 [(none, .v 16 .mv [.s 3]), (none, .v 17 .mv [.s 4]), (none, .lit 18 [.s 17] 0), (none, .app 19 (.s 16) (.s 18) 0), (none, .tk 3 19)])
   .skip)))
   (.cl ks (.rg 0 [(none, .v 9 .mv [.s 4]), (none, .v 10 (.bin .add) [.s 9, .k (.i 1)]), (none, .tk 4 10)])))))))))
   (.cl ks (.seq
   (.rg 0 [(none, .v 20 .mv [.s 3]), (none, .tk 2 20)])
   .ret)))))))

theorem chk_impl_membersOf : ∃ b, Try.f97.body = some b ∧ chk Try.prog Try.f97.ntmps true C_impl_membersOf b = true := ⟨_, rfl, by kernel_rfl⟩
/- spec_l22Own: not in this cut -/
def bitI (s : Int) (i : Nat) : Bool := decide (s / 2 ^ i % 2 = 1)
theorem bit_and {s : Int} {i : Nat} (h0 : 0 ≤ s) (h1 : s < 32) (hi : i < 5) : andI s (1 * 2 ^ i) = 0 ↔ bitI s i = false := by
  have : ∀ (s : Fin 32) (i : Fin 5), decide (andI (s.val : Int) (1 * 2 ^ i.val) = 0) = !bitI (s.val : Int) i.val := by decide
  have h := this ⟨s.toNat, by omega⟩ ⟨i, hi⟩
  simp only [Int.toNat_of_nonneg h0] at h
  cases hb : bitI s i <;> rw [hb] at h <;> simpa using h
theorem bit_shr {s : Int} {i : Nat} (h0 : 0 ≤ s) (h1 : s < 32) (hi : i < 5) : andI (s / 2 ^ i) 1 = 1 ↔ bitI s i = true := by
  have : ∀ (s : Fin 32) (i : Fin 5), decide (andI ((s.val : Int) / 2 ^ i.val) 1 = 1) = bitI (s.val : Int) i.val := by decide
  have h := this ⟨s.toNat, by omega⟩ ⟨i, hi⟩
  simp only [Int.toNat_of_nonneg h0] at h
  cases hb : bitI s i <;> rw [hb] at h <;> simpa using h
theorem bit_out {s : Int} {i k : Nat} (h0 : 0 ≤ s) (h : s / 2 ^ i ≤ 0) (hk : i ≤ k) : bitI s k = false := by
  have h1 : s / 2 ^ i = 0 := Int.le_antisymm h (Int.ediv_nonneg h0 (Int.le_of_lt (Int.pow_pos (by omega))))
  have h2 : s / 2 ^ k = 0 := by
    obtain ⟨d, rfl⟩ := Nat.exists_eq_add_of_le hk
    rw [Int.pow_add, ← Int.ediv_ediv_of_nonneg (Int.le_of_lt (Int.pow_pos (by omega))), h1]; simp
  simp [bitI, h2]
/-- Has one of the first n it? -/
def anyR (p : Nat → Bool) : Nat → Bool
  | 0 => false
  | n + 1 => anyR p n || p n
theorem anyR_iff {p : Nat → Bool} : ∀ {n : Nat}, anyR p n = true ↔ ∃ i, i < n ∧ p i = true
  | 0 => by simp [anyR]
  | n + 1 => by
    simp only [anyR, Bool.or_eq_true, anyR_iff (n := n)]
    constructor
    · rintro (⟨i, h, e⟩ | h)
      · exact ⟨i, by omega, e⟩
      · exact ⟨n, by omega, h⟩
    · rintro ⟨i, h, e⟩
      by_cases hi : i = n
      · subst hi; exact .inr e
      · exact .inl ⟨i, by omega, e⟩
def worseI (ls : List (List Int)) (l ps hs : List Int) (k : Nat) : Bool := prefB (ls.getD (ps.getD k 0).toNat []) (l.getD (ps.getD k 0).toNat 0) (hs.getD k 0)
def newI (l ps hs : List Int) (k : Nat) : Bool := decide (hs.getD k 0 ≠ l.getD (ps.getD k 0).toNat 0)
/-- Do these houses improve on l for these people? -/
def imprI (ls : List (List Int)) (l ps hs : List Int) : Bool := ((List.range ps.length).all fun k => !worseI ls l ps hs k) && anyR (newI l ps hs) ps.length
theorem impl_improves_ok {n1 n2 n3 n4 : Option Bool} (ls : List (List Int)) (l ps hs : List Int) (n : Nat) (H : Hs ls n) (hl : l.length = n) (hp : ∀ k, k < ps.length → 0 ≤ ps.getD k 0 ∧ ps.getD k 0 < n) (hps : ps.length ≤ 5) (hh : hs.length = ps.length) :
    CallOk Try.prog 99 [.s n1 (rr ls), .s n2 (ii l), .s n3 (ii ps), .s n4 (ii hs)] [(0, .b (imprI ls l ps hs))] := by
  have hls := H.len
  have hr : ∀ i, i < n → (ls.getD i []).length ≤ 1048576 := fun i hi => by have := rank_len (H.rk i hi); have := H.n5; omega
  obtain ⟨code0, hcd1, hcd2⟩ := chk_impl_improves; refine callOk_of Try.func99 hcd1 mo Try.call99 (rs := [8]) (by kernel_rfl) hcd2 (by rw [Try.ntmps99]; simp) (by simp) (by decide) ?_; unfold C_impl_improves K_impl_improves; simp (config := { maxSteps := 2000000 }) only [go_sem, Nat.reduceBEq, Nat.reduceAdd, Nat.reduceMul, Nat.reduceMod, Nat.reduceLT, Nat.reduceDiv, Nat.reduceSub, Nat.reduceLeDiff, Int.reduceToNat, Int.reduceLT, Int.reduceLE, reduceCtorEq, List.take_nil, List.drop_nil]
  refine loopN ps.length (fun j => [(0, .t .arg (.s n1 (rr ls))), (1, .t .arg (.s n2 (ii l))), (2, .t .arg (.s n3 (ii ps))), (3, .t .arg (.s n4 (ii hs))), (9, .b (anyR (newI l ps hs) j)), (12, .t .arg (.s n3 (ii ps))), (13, .i ps.length), (14, .i (j : Nat))]) (fun j => ∀ k, k < j → worseI ls l ps hs k = false) ⟨by simp, by simp (config := { maxSteps := 2000000 }) only [go_sem, Nat.reduceBEq, Nat.reduceAdd, Nat.reduceMul, Nat.reduceMod, Nat.reduceLT, Nat.reduceDiv, Nat.reduceSub, Nat.reduceLeDiff, Int.reduceToNat, Int.reduceLT, Int.reduceLE, reduceCtorEq, List.take_nil, List.drop_nil]; simp [anyR]⟩ fun j hj hI => ?_
  simp (config := { maxSteps := 2000000 }) only [go_sem, Nat.reduceBEq, Nat.reduceAdd, Nat.reduceMul, Nat.reduceMod, Nat.reduceLT, Nat.reduceDiv, Nat.reduceSub, Nat.reduceLeDiff, Int.reduceToNat, Int.reduceLT, Int.reduceLE, reduceCtorEq, List.take_nil, List.drop_nil]
  refine ⟨fun hlt => ?_, fun hge => ?_⟩
  · have hj' : j < ps.length := by omega
    have hpj := hp j hj'
    refine ⟨by omega, hj', hj', by omega, by omega, by omega, by omega, by omega, by omega, by omega, by omega, by omega, ?_⟩
    refine ⟨_, impl_Prefers_ok (ls.getD (ps.getD j 0).toNat []) _ _ (hr _ (by omega)), ?_⟩; simp (config := { maxSteps := 2000000 }) only [go_sem, Nat.reduceBEq, Nat.reduceAdd, Nat.reduceMul, Nat.reduceMod, Nat.reduceLT, Nat.reduceDiv, Nat.reduceSub, Nat.reduceLeDiff, Int.reduceToNat, Int.reduceLT, Int.reduceLE, reduceCtorEq, List.take_nil, List.drop_nil]
    refine ⟨fun h1 => ?_, fun h1 => ?_⟩
    · have : (List.range ps.length).all (fun k => !worseI ls l ps hs k) = false := not_all_range hj' (by rw [worseI, h1]; rfl)
      simp [imprI, this]
    · have fin : ∀ {b : Bool}, b = (anyR (newI l ps hs) j || newI l ps hs j) → inR ((j : Int) + 1) ∧ j < ps.length ∧ (∀ k, k < j + 1 → worseI ls l ps hs k = false) ∧ b = anyR (newI l ps hs) (j + 1) ∧ (j : Int) + 1 = ((j + 1 : Nat) : Int) := fun hb => ⟨inR_of (by omega) (by omega), hj', fun k hk => by
        by_cases e : k = j
        · subst e; exact h1
        · exact hI k (by omega), hb, by simp⟩
      refine ⟨fun h2 => ⟨by omega, by omega, by omega, by omega, by omega, by omega, fin (by rw [h2]; rfl)⟩, fun h2 => fin (by rw [h2]; rfl)⟩
  · have : j = ps.length := by omega
    subst this
    have : (List.range ps.length).all (fun k => !worseI ls l ps hs k) = true := all_range fun k hk => by rw [hI k hk]; rfl
    simp [imprI, this]
def worseS (ls : List (List Int)) (l o : List Int) (s : Int) (i : Nat) : Bool := bitI s i && prefB (ls.getD i []) (l.getD i 0) (o.getD i 0)
def betS (ls : List (List Int)) (l o : List Int) (s : Int) (i : Nat) : Bool := bitI s i && prefB (ls.getD i []) (o.getD i 0) (l.getD i 0)
def imprS (ls : List (List Int)) (l o : List Int) (s : Int) (n : Nat) : Bool := ((List.range n).all fun i => !worseS ls l o s i) && anyR (betS ls l o s) n
theorem upto_getD {n k : Nat} (h : k < n) : (upto n).getD k 0 = k := by simp [upto, List.getD, h]
/-- No other exchange is as good for all and better for some. -/
def unimprB (ls : List (List Int)) (l : List Int) (n : Nat) : Bool := !((allRank n).any fun o => imprI ls l (upto n) o)
theorem impl_isUnimproved_ok {n1 n2 : Option Bool} (ls : List (List Int)) (l : List Int) (n : Nat) (H : Hs ls n) (hl : l.length = n) :
    CallOk Try.prog 96 [.s n1 (rr ls), .s n2 (ii l)] [(0, .b (unimprB ls l n))] := by
  have hls := H.len
  have hn5 := H.n5
  obtain ⟨code0, hcd1, hcd2⟩ := chk_impl_isUnimproved; refine callOk_of Try.func96 hcd1 mo Try.call96 (rs := [4]) (by kernel_rfl) hcd2 (by rw [Try.ntmps96]; simp) (by simp) (by decide) ?_; unfold C_impl_isUnimproved K_impl_isUnimproved; simp (config := { maxSteps := 2000000 }) only [go_sem, Nat.reduceBEq, Nat.reduceAdd, Nat.reduceMul, Nat.reduceMod, Nat.reduceLT, Nat.reduceDiv, Nat.reduceSub, Nat.reduceLeDiff, Int.reduceToNat, Int.reduceLT, Int.reduceLE, reduceCtorEq, List.take_nil, List.drop_nil]
  refine ⟨_, indices_ok (ls.length : Int) (by omega) (by omega), ?_⟩; simp (config := { maxSteps := 2000000 }) only [go_sem, Nat.reduceBEq, Nat.reduceAdd, Nat.reduceMul, Nat.reduceMod, Nat.reduceLT, Nat.reduceDiv, Nat.reduceSub, Nat.reduceLeDiff, Int.reduceToNat, Int.reduceLT, Int.reduceLE, reduceCtorEq, List.take_nil, List.drop_nil]
  refine ⟨_, impl_AllRankings_ok (ls.length : Int), ?_⟩; simp (config := { maxSteps := 2000000 }) only [go_sem, Nat.reduceBEq, Nat.reduceAdd, Nat.reduceMul, Nat.reduceMod, Nat.reduceLT, Nat.reduceDiv, Nat.reduceSub, Nat.reduceLeDiff, Int.reduceToNat, Int.reduceLT, Int.reduceLE, reduceCtorEq, List.take_nil, List.drop_nil]
  rw [hls]
  have hR : ∀ o ∈ allRank (n : Int), o.length = n := fun o ho => by have := rank_len (allRank_rank ho); omega
  refine ⟨_, ContainsFuncR (fun o => imprI ls l (upto n) o) (fun o ho => ?_) (by have := allRank_len (m := (n : Int)); omega), ?_⟩
  · obtain ⟨code0, hcd1, hcd2⟩ := chk_impl_isUnimproved_1; refine callOk_of Try.func141 hcd1 mo Try.call141 (rs := [5]) (by kernel_rfl) hcd2 (by rw [Try.ntmps141]; simp) (by simp) (by decide) ?_; unfold C_impl_isUnimproved_1 K_impl_isUnimproved_1; simp (config := { maxSteps := 2000000 }) only [go_sem, Nat.reduceBEq, Nat.reduceAdd, Nat.reduceMul, Nat.reduceMod, Nat.reduceLT, Nat.reduceDiv, Nat.reduceSub, Nat.reduceLeDiff, Int.reduceToNat, Int.reduceLT, Int.reduceLE, reduceCtorEq, List.take_nil, List.drop_nil]
    refine ⟨_, impl_improves_ok ls l (upto n) o n H hl (fun k hk => by rw [upto_len] at hk; rw [upto_getD hk]; omega) (by rw [upto_len]; omega) (by rw [upto_len]; exact hR o ho), ?_⟩; simp (config := { maxSteps := 2000000 }) only [go_sem, Nat.reduceBEq, Nat.reduceAdd, Nat.reduceMul, Nat.reduceMod, Nat.reduceLT, Nat.reduceDiv, Nat.reduceSub, Nat.reduceLeDiff, Int.reduceToNat, Int.reduceLT, Int.reduceLE, reduceCtorEq, List.take_nil, List.drop_nil]
  · simp (config := { maxSteps := 2000000 }) only [go_sem, Nat.reduceBEq, Nat.reduceAdd, Nat.reduceMul, Nat.reduceMod, Nat.reduceLT, Nat.reduceDiv, Nat.reduceSub, Nat.reduceLeDiff, Int.reduceToNat, Int.reduceLT, Int.reduceLE, reduceCtorEq, List.take_nil, List.drop_nil]
    simp [unimprB]
def unimprF (ls : List (List Int)) (l : List Int) : Bool := exchB ls l && unimprB ls l ls.length
theorem impl_IsUnimproved_ok {n1 n2 : Option Bool} (ls : List (List Int)) (l : List Int) (hl : ls.length ≤ 1048576) (hr : ∀ r ∈ ls, r.length ≤ 1048576) (hll : l.length ≤ 1048576) : CallOk Try.prog 38 [.s n1 (rr ls), .s n2 (ii l)] [(0, .b (unimprF ls l))] := by
  obtain ⟨code0, hcd1, hcd2⟩ := chk_impl_IsUnimproved; refine callOk_of Try.func38 hcd1 mo Try.call38 (rs := [4]) (by kernel_rfl) hcd2 (by rw [Try.ntmps38]; simp) (by simp) (by decide) ?_; unfold C_impl_IsUnimproved K_impl_IsUnimproved; simp (config := { maxSteps := 2000000 }) only [go_sem, Nat.reduceBEq, Nat.reduceAdd, Nat.reduceMul, Nat.reduceMod, Nat.reduceLT, Nat.reduceDiv, Nat.reduceSub, Nat.reduceLeDiff, Int.reduceToNat, Int.reduceLT, Int.reduceLE, reduceCtorEq, List.take_nil, List.drop_nil]
  refine ⟨_, impl_HousesOk_ok ls hl hr, ?_⟩; simp (config := { maxSteps := 2000000 }) only [go_sem, Nat.reduceBEq, Nat.reduceAdd, Nat.reduceMul, Nat.reduceMod, Nat.reduceLT, Nat.reduceDiv, Nat.reduceSub, Nat.reduceLeDiff, Int.reduceToNat, Int.reduceLT, Int.reduceLE, reduceCtorEq, List.take_nil, List.drop_nil]
  refine ⟨fun h0 => ?_, fun h0 => by simp [unimprF, exchB, h0]⟩
  refine ⟨_, impl_RankingOk_ok _ l hll, ?_⟩; simp (config := { maxSteps := 2000000 }) only [go_sem, Nat.reduceBEq, Nat.reduceAdd, Nat.reduceMul, Nat.reduceMod, Nat.reduceLT, Nat.reduceDiv, Nat.reduceSub, Nat.reduceLeDiff, Int.reduceToNat, Int.reduceLT, Int.reduceLE, reduceCtorEq, List.take_nil, List.drop_nil]
  refine ⟨fun h1 => ?_, fun h1 => by simp [unimprF, exchB, h1]⟩
  have h : exchB ls l = true := by simp [exchB, h0, h1]
  refine ⟨_, impl_isUnimproved_ok ls l ls.length (hs_of h0) (exch_len h), ?_⟩; simp (config := { maxSteps := 2000000 }) only [go_sem, Nat.reduceBEq, Nat.reduceAdd, Nat.reduceMul, Nat.reduceMod, Nat.reduceLT, Nat.reduceDiv, Nat.reduceSub, Nat.reduceLeDiff, Int.reduceToNat, Int.reduceLT, Int.reduceLE, reduceCtorEq, List.take_nil, List.drop_nil]
  simp [unimprF, h]
theorem full_bit {n i : Nat} (hn : n ≤ 5) (hi : i < n) : bitI (1 * 2 ^ n - 1) i = true := by
  have : ∀ (n : Fin 6) (i : Fin 5), i.val < n.val → bitI (1 * 2 ^ n.val - 1) i.val = true := by decide
  exact this ⟨n, by omega⟩ ⟨i, by omega⟩ hi
theorem impr_eq {ls : List (List Int)} {l o : List Int} {n : Nat} (H : Hs ls n) (hl : rankB n l = true) (ho : rankB n o = true) : imprS ls l o (1 * 2 ^ n - 1) n = imprI ls l (upto n) o := by
  have h5 := H.n5
  have ll := rank_len hl
  have lo := rank_len ho
  have e1 : ∀ k, k < n → worseS ls l o (1 * 2 ^ n - 1) k = worseI ls l (upto n) o k := fun k hk => by
    rw [worseS, worseI, full_bit h5 hk, upto_getD hk, Int.toNat_natCast, Bool.true_and]
  rw [imprS, imprI, upto_len]
  cases ha : (List.range n).all fun k => !worseI ls l (upto n) o k with
  | false =>
    have : (List.range n).all (fun i => !worseS ls l o (1 * 2 ^ n - 1) i) = false := by
      rw [List.all_eq_false] at ha ⊢
      obtain ⟨k, hk, e⟩ := ha
      exact ⟨k, hk, by rw [e1 k (by simpa using hk)]; exact e⟩
    rw [this]; rfl
  | true =>
    have ha' : ∀ k, k < n → worseI ls l (upto n) o k = false := fun k hk => by
      have := all_range_iff.1 ha k hk; simpa using this
    have : (List.range n).all (fun i => !worseS ls l o (1 * 2 ^ n - 1) i) = true := all_range fun k hk => by rw [e1 k hk, ha' k hk]; rfl
    rw [this, Bool.true_and, Bool.true_and, Bool.eq_iff_iff, anyR_iff, anyR_iff]
    have e2 : ∀ k, k < n → betS ls l o (1 * 2 ^ n - 1) k = newI l (upto n) o k := fun k hk => by
      have hw := ha' k hk
      rw [worseI, upto_getD hk, Int.toNat_natCast] at hw
      rw [betS, newI, full_bit h5 hk, upto_getD hk, Int.toNat_natCast, Bool.true_and]
      have m1 := rank_bd hl (i := k) (by omega)
      have m2 := rank_bd ho (i := k) (by omega)
      have a1 := rank_all (H.rk k hk) m1.1 m1.2
      have a2 := rank_all (H.rk k hk) m2.1 m2.2
      by_cases e : o.getD k 0 = l.getD k 0
      · rw [e, pref_self]; simp
      · rw [pref_total a2 a1 e, hw, decide_eq_true e]; rfl
    exact ⟨fun ⟨k, hk, e⟩ => ⟨k, hk, by rw [← e2 k hk]; exact e⟩, fun ⟨k, hk, e⟩ => ⟨k, hk, by rw [e2 k hk]; exact e⟩⟩
end Go.Proofs.Ytfdoddeccnjcmaa
