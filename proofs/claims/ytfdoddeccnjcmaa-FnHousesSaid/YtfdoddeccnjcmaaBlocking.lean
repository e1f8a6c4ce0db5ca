/- Own work: contracts of functions that the claim reaches. No condition beyond those that each theorem names. -/
import Derived.Test.YtfdoddeccnjcmaaProg
import Derived.Test.YtfdoddeccnjcmaaImprove
namespace Go.Proofs.Ytfdoddeccnjcmaa
open Go Go.Vc
set_option maxRecDepth 100000
set_option linter.unusedSimpArgs false
set_option linter.unusedVariables false
/- spec_BlockingSet: not in this cut -/
def K_impl_BlockingSet : List Nat := [0, 1, 4, 5, 6, 8, 29, 30, 31]
def C_impl_BlockingSet : C :=
  let ks := K_impl_BlockingSet
  (.seq
   (.rg 0 [(none, .v 4 .mv [.k (.i 0)])])
   (.cl ks (.seq
   (.seq
   (.rg 0 [(none, .v 9 .mv [.s 0]), (none, .co 10 44 [.s 9]), (none, .v 11 .not [.s 10]), (none, .v 12 .mv [.s 11]), (some (12, false), .v 13 .mv [.s 0]), (some (12, false), .v 14 .len [.s 13]), (some (12, false), .v 15 .mv [.s 1]), (some (12, false), .co 16 90 [.s 14, .s 15]), (some (12, false), .v 17 .not [.s 16]), (none, .v 18 .pick [.s 12, .k (.b true), .s 17])])
   (.cond (.s 18)
   (.seq
   (.rg 0 [(none, .v 4 .mv [.k (.i 0)])])
   .ret)
   .skip))
   (.cl ks (.seq
   (.seq
   (.rg 0 [(none, .v 5 .mv [.k (.i 1)])])
   (.cl ks (.block 0
   (.loop
   (.seq
   (.seq
   (.rg 0 [(none, .v 19 .mv [.s 5]), (none, .v 20 .mv [.s 0]), (none, .v 21 .len [.s 20]), (none, .v 22 (.bin .shl) [.k (.i 1), .s 21]), (none, .v 23 (.bin .lss) [.s 19, .s 22])])
   (.cond (.s 23)
   .skip
   (.exit 0)))
   (.cl ks (.seq
   (.block 1
   (.seq
   (.rg 0 [(none, .v 26 .mv [.s 5]), (none, .co 27 97 [.s 26]), (none, .tk 6 27)])
   (.cl ks (.seq
   (.rg 0 [(none, .v 28 .mv [.s 6]), (none, .v 29 (.call 98) [.s 28]), (none, .v 30 .len [.s 29]), (none, .v 31 .mv [.k (.i 0)])])
   (.cl ks (.block 2
   (.loop
   (.seq
   (.rg 0 [(none, .v 32 (.bin .lss) [.s 31, .s 30])])
   (.seq
   (.cond (.s 32)
   .skip
   (.exit 2))
   (.cl ks (.seq
   (.block 3
   (.seq
   (.rg 0 [(none, .v 33 .idx [.s 29, .s 31]), (none, .v 34 .ld [.s 33]), (none, .tk 8 34)])
   (.cl ks (.seq
   (.rg 0 [(none, .v 35 .mv [.s 0]), (none, .v 36 .mv [.s 1]), (none, .v 37 .mv [.s 6]), (none, .v 38 .mv [.s 8]), (none, .co 39 99 [.s 35, .s 36, .s 37, .s 38])])
   (.cond (.s 39)
   (.seq
   (.rg 0 [(none, .v 40 .mv [.s 5]), (none, .tk 4 40)])
   .ret)
   .skip)))))
   (.cl ks (.rg 0 [(none, .v 41 (.bin .add) [.s 31, .k (.i 1)]), (none, .v 31 .mv [.s 41])])))))))))))))
   (.cl ks (.rg 0 [(none, .v 24 .mv [.s 5]), (none, .v 25 (.bin .add) [.s 24, .k (.i 1)]), (none, .tk 5 25)])))))))))
   (.cl ks (.seq
   (.rg 0 [(none, .v 4 .mv [.k (.i 0)])])
   .ret)))))))

theorem chk_impl_BlockingSet : ∃ b, Try.f39.body = some b ∧ chk Try.prog Try.f39.ntmps true C_impl_BlockingSet b = true := ⟨_, rfl, by kernel_rfl⟩
/-- The members of a set. -/
def memJ (s : Int) (j : Nat) : List Int := (upto j).filter fun a => bitI s a.toNat
theorem memJ_s {s : Int} {j : Nat} : memJ s (j + 1) = memJ s j ++ if bitI s j = true then [(j : Int)] else [] := by
  simp only [memJ, upto, List.range_succ, List.map_append, List.filter_append, List.map_cons, List.map_nil, List.filter_cons, List.filter_nil, Int.toNat_natCast]
theorem memJ_len {s : Int} {j : Nat} : (memJ s j).length ≤ j := by
  have := List.length_filter_le (fun a : Int => bitI s a.toNat) (upto j)
  rw [upto_len] at this; exact this
theorem memJ_out {s : Int} {i : Nat} (h0 : 0 ≤ s) (h : s / 2 ^ i ≤ 0) : ∀ d, memJ s (i + d) = memJ s i
  | 0 => rfl
  | d + 1 => by rw [← Nat.add_assoc, memJ_s, bit_out h0 h (by omega), memJ_out h0 h d]; simp
theorem impl_membersOf_ok (s : Int) (h0 : 0 ≤ s) (h1 : s < 32) : CallOk Try.prog 97 [.i s] [(0, .own 1 none (ii (memJ s 5)))] := by
  obtain ⟨code0, hcd1, hcd2⟩ := chk_impl_membersOf; refine callOk_of Try.func97 hcd1 mo Try.call97 (rs := [2]) (by kernel_rfl) hcd2 (by rw [Try.ntmps97]; simp) (by simp) (by decide) ?_; unfold C_impl_membersOf K_impl_membersOf; simp (config := { maxSteps := 2000000 }) only [go_sem, Nat.reduceBEq, Nat.reduceAdd, Nat.reduceMul, Nat.reduceMod, Nat.reduceLT, Nat.reduceDiv, Nat.reduceSub, Nat.reduceLeDiff, Int.reduceToNat, Int.reduceLT, Int.reduceLE, reduceCtorEq, List.take_nil, List.drop_nil]
  have key : ∀ j : Nat, 5 ≤ j → s / 2 ^ j ≤ 0 := fun j hj => by
    have : (32 : Int) ≤ 2 ^ j := by
      have : (2 : Nat) ^ 5 ≤ 2 ^ j := Nat.pow_le_pow_right (by omega) hj
      have h2 : ((2 : Nat) ^ j : Nat) = ((2 : Int) ^ j) := by simp
      rw [← h2]; omega
    rw [Int.ediv_eq_zero_of_lt h0 (by omega)]; omega
  refine loopN 5 (fun j => [(0, .i s), (3, .own 1 none (ii (memJ s j))), (4, .i (j : Nat))]) (fun j => True) ⟨trivial, by simp (config := { maxSteps := 2000000 }) only [go_sem, Nat.reduceBEq, Nat.reduceAdd, Nat.reduceMul, Nat.reduceMod, Nat.reduceLT, Nat.reduceDiv, Nat.reduceSub, Nat.reduceLeDiff, Int.reduceToNat, Int.reduceLT, Int.reduceLE, reduceCtorEq, List.take_nil, List.drop_nil]; simp [memJ, upto, ii, T.leL]⟩ fun j hj _ => ?_
  simp (config := { maxSteps := 2000000 }) only [go_sem, Nat.reduceBEq, Nat.reduceAdd, Nat.reduceMul, Nat.reduceMod, Nat.reduceLT, Nat.reduceDiv, Nat.reduceSub, Nat.reduceLeDiff, Int.reduceToNat, Int.reduceLT, Int.reduceLE, reduceCtorEq, List.take_nil, List.drop_nil]
  have hml := memJ_len (s := s) (j := j)
  refine ⟨by omega, by omega, fun hlt => ?_, fun hge => ?_⟩
  · have hj5 : j < 5 := by
      by_cases e : j < 5
      · exact e
      · have := key j (by omega); omega
    refine ⟨by omega, by omega, fun h2 => ?_, fun h2 => ?_⟩
    · have hb := (bit_shr h0 h1 hj5).1 h2
      exact ⟨by omega, inR_of (by omega) (by omega), hj5, by rw [memJ_s, if_pos hb], by simp⟩
    · have hb : ¬ bitI s j = true := fun hb => h2 ((bit_shr h0 h1 hj5).2 hb)
      exact ⟨inR_of (by omega) (by omega), hj5, by rw [memJ_s, if_neg hb]; simp, by simp⟩
  · have := memJ_out h0 (show s / 2 ^ j ≤ 0 by omega) (5 - j)
    rw [show j + (5 - j) = 5 from by omega] at this
    exact this.symm
/-- Do all whom the set has get houses of its own? -/
def ownAt (o : List Int) (s : Int) (i : Nat) : Bool := !bitI s i || bitI s (o.getD i 0).toNat
def ownB (o : List Int) (s : Int) : Bool := (List.range o.length).all (ownAt o s)
theorem memJ_mem {s : Int} {n : Nat} {a : Int} : a ∈ memJ s n ↔ (0 ≤ a ∧ a < n) ∧ bitI s a.toNat = true := by
  simp only [memJ, List.mem_filter, mem_upto]
theorem memJ_nodup {s : Int} {n : Nat} : (memJ s n).Nodup := List.Pairwise.filter _ upto_nodup
theorem nodup_injB {xs : List Int} (h : xs.Nodup) {i j : Nat} (hi : i < xs.length) (hj : j < xs.length) (e : xs.getD i 0 = xs.getD j 0) : i = j := by
  rw [List.Nodup, List.pairwise_iff_getElem] at h
  simp only [List.getD, List.getElem?_eq_getElem hi, List.getElem?_eq_getElem hj, Option.getD_some] at e
  rcases Nat.lt_trichotomy i j with hlt | heq | hlt
  · exact absurd e (h i j hi hj hlt)
  · exact heq
  · exact absurd e.symm (h j i hj hi hlt)
theorem map_getD {xs : List Int} {f : Int → Int} {k : Nat} (h : k < xs.length) : (xs.map f).getD k 0 = f (xs.getD k 0) := by simp [List.getD, h]
def blkI (ls : List (List Int)) (l : List Int) (s : Int) : Bool := (ordsN (memJ s 5).length (memJ s 5)).any (imprI ls l (memJ s 5))
def blkS (ls : List (List Int)) (l : List Int) (n : Nat) (s : Int) : Bool := (allRank n).any fun o => ownB o s && imprS ls l o s n
theorem blk_eq {ls : List (List Int)} {l : List Int} {n : Nat} {s : Int} (H : Hs ls n) (hl : rankB n l = true) (h0 : 0 ≤ s) (h1 : s < 2 ^ n) : blkS ls l n s = blkI ls l s := by
  have h5 := H.n5
  have ll := rank_len hl
  have em : memJ s 5 = memJ s n := by
    have h2 : s / 2 ^ n ≤ 0 := by rw [Int.ediv_eq_zero_of_lt h0 h1]; omega
    have := memJ_out h0 h2 (5 - n)
    rwa [show n + (5 - n) = 5 from by omega] at this
  rw [blkI, em, blkS]
  have hnp := memJ_nodup (s := s) (n := n)
  have hmp := fun a => memJ_mem (s := s) (n := n) (a := a)
  generalize memJ s n = ps at hnp hmp
  rw [Bool.eq_iff_iff, List.any_eq_true, List.any_eq_true]
  constructor
  · rintro ⟨o, ho, e⟩
    simp only [Bool.and_eq_true] at e
    obtain ⟨eo, ei⟩ := e
    have hro := allRank_rank ho
    have lo := rank_len hro
    have own : ∀ i : Nat, i < n → bitI s i = true → bitI s (o.getD i 0).toNat = true := fun i hi hb => by
      have := all_range_iff.1 eo i (by omega)
      rw [ownAt, hb] at this; simpa using this
    have hsub : ∀ x ∈ ps.map (fun p => o.getD p.toNat 0), x ∈ ps := by
      intro x hx
      obtain ⟨p, hp, rfl⟩ := List.mem_map.1 hx
      obtain ⟨q1, q2⟩ := (hmp p).1 hp
      have hb := rank_bd hro (i := p.toNat) (by omega)
      exact (hmp _).2 ⟨hb, own _ (by omega) q2⟩
    have hnd : (ps.map (fun p => o.getD p.toNat 0)).Nodup := by
      refine nodup_getD fun i j hij hj e => ?_
      rw [List.length_map] at hj
      rw [map_getD (by omega), map_getD hj] at e
      obtain ⟨q1, _⟩ := (hmp _).1 (getD_mem (d := 0) (show i < ps.length by omega))
      obtain ⟨r1, _⟩ := (hmp _).1 (getD_mem (d := 0) hj)
      have := nodup_injB (rank_nodup hro) (by omega) (by omega) e
      have := nodup_injB hnp (i := i) (j := j) (by omega) hj (by omega)
      omega
    refine ⟨_, perm_mem_ords rfl (perm_of_sub hnd hsub (by simp)), ?_⟩
    simp only [imprS, Bool.and_eq_true, anyR_iff] at ei
    obtain ⟨ew, i, hi, eb⟩ := ei
    simp only [imprI, Bool.and_eq_true, anyR_iff]
    constructor
    · refine all_range fun k hk => ?_
      obtain ⟨q1, q2⟩ := (hmp _).1 (getD_mem (d := 0) hk)
      have := all_range_iff.1 ew (ps.getD k 0).toNat (by omega)
      rw [worseS, q2, Bool.true_and] at this
      rw [worseI, map_getD hk]; exact this
    · simp only [betS, Bool.and_eq_true] at eb
      have hip : (i : Int) ∈ ps := (hmp _).2 ⟨⟨by omega, by omega⟩, by rw [Int.toNat_natCast]; exact eb.1⟩
      obtain ⟨k, hk, e⟩ := mem_getD 0 hip
      refine ⟨k, hk, ?_⟩
      rw [newI, map_getD hk, e, Int.toNat_natCast]
      refine decide_eq_true fun e => ?_
      rw [e, pref_self] at eb
      cases eb.2
  · rintro ⟨hs, hh, ei⟩
    have hp := ordsN_perm rfl hh
    have hlen := hp.length_eq
    have hns : hs.Nodup := hp.nodup_iff.2 hnp
    obtain ⟨f, hf⟩ : ∃ f : Int → Int, f = fun i => if i ∈ ps then hs.getD (placeI ps i).toNat 0 else i := ⟨_, rfl⟩
    have f1 : ∀ i, i ∈ ps → f i ∈ ps := fun i hi => by
      rw [hf]; simp only [hi, if_true]
      obtain ⟨j, hj, _, e⟩ := placeI_mem hi
      rw [e, Int.toNat_natCast]
      exact hp.mem_iff.1 (getD_mem (by omega))
    have f2 : ∀ i, i ∉ ps → f i = i := fun i hi => by rw [hf]; simp only [hi, if_false]
    have f3 : ∀ i j, i ∈ ps → j ∈ ps → f i = f j → i = j := fun i j hi hj e => by
      rw [hf] at e; simp only [hi, hj, if_true] at e
      obtain ⟨a, ha, a1, a2⟩ := placeI_mem hi
      obtain ⟨b, hb, b1, b2⟩ := placeI_mem hj
      rw [a2, b2, Int.toNat_natCast, Int.toNat_natCast] at e
      have := nodup_injB hns (by omega) (by omega) e
      rw [← a1, ← b1, this]
    have fk : ∀ k, k < ps.length → f (ps.getD k 0) = hs.getD k 0 := fun k hk => by
      have hm : ps.getD k 0 ∈ ps := getD_mem hk
      rw [hf]; simp only [hm, if_true]
      obtain ⟨a, ha, a1, a2⟩ := placeI_mem hm
      rw [a2, Int.toNat_natCast, nodup_injB hnp ha hk a1]
    have ho : ((upto n).map f).Perm (upto n) := by
      refine perm_of_sub (nodup_getD fun i j hij hj e => ?_) (fun x hx => ?_) (by simp)
      · rw [List.length_map, upto_len] at hj
        rw [map_getD (by rw [upto_len]; omega), map_getD (by rw [upto_len]; exact hj), upto_getD (by omega), upto_getD hj] at e
        by_cases hi' : (i : Int) ∈ ps
        · by_cases hj' : (j : Int) ∈ ps
          · have := f3 _ _ hi' hj' e; omega
          · rw [f2 _ hj'] at e; exact hj' (e ▸ f1 _ hi')
        · by_cases hj' : (j : Int) ∈ ps
          · rw [f2 _ hi'] at e; exact hi' (e ▸ f1 _ hj')
          · rw [f2 _ hi', f2 _ hj'] at e; omega
      · obtain ⟨i, hi, rfl⟩ := List.mem_map.1 hx
        by_cases hi' : i ∈ ps
        · exact mem_upto.2 ((hmp _).1 (f1 _ hi')).1
        · rw [f2 _ hi']; exact hi
    have hro := rank_of_perm H.n1 h5 ho
    have og : ∀ i, i < n → ((upto n).map f).getD i 0 = f i := fun i hi => by rw [map_getD (by rw [upto_len]; exact hi), upto_getD hi]
    have lo := rank_len hro
    refine ⟨_, rank_allRank hro, ?_⟩
    simp only [imprI, Bool.and_eq_true, anyR_iff] at ei
    obtain ⟨ew, k, hk, en⟩ := ei
    simp only [Bool.and_eq_true, imprS, anyR_iff]
    have wk : ∀ i : Nat, i < n → bitI s i = true → prefB (ls.getD i []) (l.getD i 0) (((upto n).map f).getD i 0) = false := fun i hi hb => by
      have hip : (i : Int) ∈ ps := (hmp _).2 ⟨⟨by omega, by omega⟩, by rw [Int.toNat_natCast]; exact hb⟩
      obtain ⟨k, hk, e⟩ := mem_getD 0 hip
      have := all_range_iff.1 ew k hk
      rw [worseI, e, Int.toNat_natCast, ← fk k hk, e] at this
      rw [og i hi]; simpa using this
    refine ⟨all_range fun i hi => ?_, all_range fun i hi => ?_, ?_⟩
    · have hi : i < n := by omega
      rw [ownAt, og i hi]
      cases hb : bitI s i with
      | false => rfl
      | true =>
        have hip : (i : Int) ∈ ps := (hmp _).2 ⟨⟨by omega, by omega⟩, by rw [Int.toNat_natCast]; exact hb⟩
        rw [((hmp _).1 (f1 _ hip)).2]; rfl
    · rw [worseS]
      cases hb : bitI s i with
      | false => rfl
      | true => rw [wk i hi hb]; rfl
    · obtain ⟨q1, q2⟩ := (hmp _).1 (getD_mem (d := 0) hk)
      refine ⟨(ps.getD k 0).toNat, by omega, ?_⟩
      have hw := wk (ps.getD k 0).toNat (by omega) q2
      rw [betS, q2, Bool.true_and]
      have e1 : ((upto n).map f).getD (ps.getD k 0).toNat 0 = hs.getD k 0 := by
        rw [og _ (by omega), ← fk k hk]; congr 1; omega
      rw [e1] at hw ⊢
      simp only [newI, decide_eq_true_eq] at en
      have m1 := rank_bd hl (i := (ps.getD k 0).toNat) (by omega)
      have m2 := rank_bd hro (i := (ps.getD k 0).toNat) (by omega)
      rw [e1] at m2
      have R := H.rk (ps.getD k 0).toNat (by omega)
      rw [pref_total (rank_all R m2.1 m2.2) (rank_all R m1.1 m1.2) en, hw]; rfl
/-- The first number from s on, of k, that has it, or nought. -/
def firstOf (p : Int → Bool) : Nat → Int → Int
  | 0, _ => 0
  | k + 1, s => if p s = true then s else firstOf p k (s + 1)
def blkF (ls : List (List Int)) (l : List Int) : Int := if exchB ls l = true then firstOf (blkI ls l) (2 ^ ls.length - 1) 1 else 0
theorem firstOf_hit {p : Int → Bool} {k : Nat} {s : Int} (hk : 0 < k) (h : p s = true) : firstOf p k s = s := by
  cases k with
  | zero => omega
  | succ k => simp [firstOf, h]
theorem firstOf_miss {p : Int → Bool} {k : Nat} {s : Int} (hk : 0 < k) (h : p s = false) : firstOf p k s = firstOf p (k - 1) (s + 1) := by
  cases k with
  | zero => omega
  | succ k => simp [firstOf, h]
theorem pow2n {n : Nat} (hn : n ≤ 5) : (1 : Int) ≤ 2 ^ n ∧ (2 : Int) ^ n ≤ 32 ∧ ((2 ^ n : Nat) : Int) = 2 ^ n := by
  have : ∀ k : Fin 6, (1 : Int) ≤ 2 ^ k.val ∧ (2 : Int) ^ k.val ≤ 32 := by decide
  have h := this ⟨n, by omega⟩
  exact ⟨h.1, h.2, by simp⟩
theorem impl_BlockingSet_ok {n1 n2 : Option Bool} (ls : List (List Int)) (l : List Int) (hl : ls.length ≤ 1048576) (hr : ∀ r ∈ ls, r.length ≤ 1048576) (hll : l.length ≤ 1048576) : CallOk Try.prog 39 [.s n1 (rr ls), .s n2 (ii l)] [(0, .i (blkF ls l))] := by
  obtain ⟨code0, hcd1, hcd2⟩ := chk_impl_BlockingSet; refine callOk_of Try.func39 hcd1 mo Try.call39 (rs := [4]) (by kernel_rfl) hcd2 (by rw [Try.ntmps39]; simp) (by simp) (by decide) ?_; unfold C_impl_BlockingSet K_impl_BlockingSet; simp (config := { maxSteps := 2000000 }) only [go_sem, Nat.reduceBEq, Nat.reduceAdd, Nat.reduceMul, Nat.reduceMod, Nat.reduceLT, Nat.reduceDiv, Nat.reduceSub, Nat.reduceLeDiff, Int.reduceToNat, Int.reduceLT, Int.reduceLE, reduceCtorEq, List.take_nil, List.drop_nil]
  refine ⟨_, impl_HousesOk_ok ls hl hr, ?_⟩; simp (config := { maxSteps := 2000000 }) only [go_sem, Nat.reduceBEq, Nat.reduceAdd, Nat.reduceMul, Nat.reduceMod, Nat.reduceLT, Nat.reduceDiv, Nat.reduceSub, Nat.reduceLeDiff, Int.reduceToNat, Int.reduceLT, Int.reduceLE, reduceCtorEq, List.take_nil, List.drop_nil]
  refine ⟨fun h0 => ?_, fun h0 => by simp [blkF, exchB, h0]⟩
  refine ⟨_, impl_RankingOk_ok _ l hll, ?_⟩; simp (config := { maxSteps := 2000000 }) only [go_sem, Nat.reduceBEq, Nat.reduceAdd, Nat.reduceMul, Nat.reduceMod, Nat.reduceLT, Nat.reduceDiv, Nat.reduceSub, Nat.reduceLeDiff, Int.reduceToNat, Int.reduceLT, Int.reduceLE, reduceCtorEq, List.take_nil, List.drop_nil]
  refine ⟨fun h1 => by simp [blkF, exchB, h1], fun h1 => ?_⟩
  have h : exchB ls l = true := by simp [exchB, h0, h1]
  have H := hs_of h0
  have h5 := H.n5
  have hn := exch_len h
  obtain ⟨p1, p2, p3⟩ := pow2n h5
  have e0 : blkF ls l = firstOf (blkI ls l) (2 ^ ls.length - 1) 1 := if_pos h
  rw [e0]
  refine loopN (2 ^ ls.length - 1) (fun j => [(0, .t .arg (.s n1 (rr ls))), (1, .t .arg (.s n2 (ii l))), (5, .i (j + 1 : Nat))]) (fun j => firstOf (blkI ls l) (2 ^ ls.length - 1) 1 = firstOf (blkI ls l) (2 ^ ls.length - 1 - j) (j + 1 : Nat)) ⟨by simp, by simp (config := { maxSteps := 2000000 }) only [go_sem, Nat.reduceBEq, Nat.reduceAdd, Nat.reduceMul, Nat.reduceMod, Nat.reduceLT, Nat.reduceDiv, Nat.reduceSub, Nat.reduceLeDiff, Int.reduceToNat, Int.reduceLT, Int.reduceLE, reduceCtorEq, List.take_nil, List.drop_nil]; simp⟩ fun j hj hI => ?_
  simp (config := { maxSteps := 2000000 }) only [go_sem, Nat.reduceBEq, Nat.reduceAdd, Nat.reduceMul, Nat.reduceMod, Nat.reduceLT, Nat.reduceDiv, Nat.reduceSub, Nat.reduceLeDiff, Int.reduceToNat, Int.reduceLT, Int.reduceLE, reduceCtorEq, List.take_nil, List.drop_nil]
  refine ⟨by omega, by omega, inR_of (by omega) (by omega), fun hlt => ?_, fun hge => ?_⟩
  · have hj' : j < 2 ^ ls.length - 1 := by omega
    refine ⟨_, impl_membersOf_ok _ (by omega) (by omega), ?_⟩; simp (config := { maxSteps := 2000000 }) only [go_sem, Nat.reduceBEq, Nat.reduceAdd, Nat.reduceMul, Nat.reduceMod, Nat.reduceLT, Nat.reduceDiv, Nat.reduceSub, Nat.reduceLeDiff, Int.reduceToNat, Int.reduceLT, Int.reduceLE, reduceCtorEq, List.take_nil, List.drop_nil]
    have hml := memJ_len (s := ((j + 1 : Nat) : Int)) (j := 5)
    have hmm : ∀ k, k < (memJ ((j + 1 : Nat) : Int) 5).length → 0 ≤ (memJ ((j + 1 : Nat) : Int) 5).getD k 0 ∧ (memJ ((j + 1 : Nat) : Int) 5).getD k 0 < ls.length := fun k hk => by
      have h2 : ((j + 1 : Nat) : Int) / 2 ^ ls.length ≤ 0 := by rw [Int.ediv_eq_zero_of_lt (by omega) (by omega)]; omega
      have := memJ_out (by omega) h2 (5 - ls.length)
      rw [show ls.length + (5 - ls.length) = 5 from by omega] at this
      have hm : (memJ ((j + 1 : Nat) : Int) 5).getD k 0 ∈ memJ ((j + 1 : Nat) : Int) 5 := getD_mem hk
      generalize (memJ ((j + 1 : Nat) : Int) 5).getD k 0 = a at *
      rw [this] at hm
      exact (memJ_mem.1 hm).1
    have hol := fun r => ordsN_mem (n := (memJ ((j + 1 : Nat) : Int) 5).length) (xs := memJ ((j + 1 : Nat) : Int) 5) (r := r) rfl
    have hle := ordsN_len (n := (memJ ((j + 1 : Nat) : Int) 5).length) (xs := memJ ((j + 1 : Nat) : Int) 5) rfl
    have hbI : blkI ls l ((j + 1 : Nat) : Int) = (ordsN (memJ ((j + 1 : Nat) : Int) 5).length (memJ ((j + 1 : Nat) : Int) 5)).any (imprI ls l (memJ ((j + 1 : Nat) : Int) 5)) := rfl
    refine ⟨_, orders_ok _ none (memJ ((j + 1 : Nat) : Int) 5) hml rfl, ?_⟩; simp (config := { maxSteps := 2000000 }) only [go_sem, Nat.reduceBEq, Nat.reduceAdd, Nat.reduceMul, Nat.reduceMod, Nat.reduceLT, Nat.reduceDiv, Nat.reduceSub, Nat.reduceLeDiff, Int.reduceToNat, Int.reduceLT, Int.reduceLE, reduceCtorEq, List.take_nil, List.drop_nil]
    generalize memJ ((j + 1 : Nat) : Int) 5 = ps at *
    generalize ordsN ps.length ps = A at *
    have hAl : A.length ≤ 3125 := Nat.le_trans hle (Nat.le_trans (Nat.pow_le_pow_left hml _) (Nat.le_trans (Nat.pow_le_pow_right (by omega) hml) (by decide)))
    refine loopN A.length (fun k => [(0, .t .arg (.s n1 (rr ls))), (1, .t .arg (.s n2 (ii l))), (5, .i (j + 1 : Nat)), (6, .own 1 none (ii ps)), (29, .t .fr (.s none (rr A))), (30, .i A.length), (31, .i (k : Nat))]) (fun k => ∀ i, i < k → imprI ls l ps (A.getD i []) = false) ⟨by simp, by simp (config := { maxSteps := 2000000 }) only [go_sem, Nat.reduceBEq, Nat.reduceAdd, Nat.reduceMul, Nat.reduceMod, Nat.reduceLT, Nat.reduceDiv, Nat.reduceSub, Nat.reduceLeDiff, Int.reduceToNat, Int.reduceLT, Int.reduceLE, reduceCtorEq, List.take_nil, List.drop_nil]; simp⟩ fun k hk hK => ?_
    simp (config := { maxSteps := 2000000 }) only [go_sem, Nat.reduceBEq, Nat.reduceAdd, Nat.reduceMul, Nat.reduceMod, Nat.reduceLT, Nat.reduceDiv, Nat.reduceSub, Nat.reduceLeDiff, Int.reduceToNat, Int.reduceLT, Int.reduceLE, reduceCtorEq, List.take_nil, List.drop_nil]
    refine ⟨fun hlt => ?_, fun hge => ?_⟩
    · have hk' : k < A.length := by omega
      have fin : imprI ls l ps (A.getD k []) = false → inR ((k : Int) + 1) ∧ k < A.length ∧ (∀ i, i < k + 1 → imprI ls l ps (A.getD i []) = false) ∧ (k : Int) + 1 = ((k + 1 : Nat) : Int) := fun hb => ⟨inR_of (by omega) (by omega), hk', fun i hi => by
        by_cases e : i = k
        · subst e; exact hb
        · exact hK i (by omega), by simp⟩
      have hit : imprI ls l ps (A.getD k []) = true → ((j + 1 : Nat) : Int) = firstOf (blkI ls l) (2 ^ ls.length - 1) 1 := fun hb => by
        have : blkI ls l ((j + 1 : Nat) : Int) = true := by rw [hbI]; exact List.any_eq_true.2 ⟨_, getD_mem (d := []) hk', hb⟩
        rw [hI, firstOf_hit (by omega) this]
      refine ⟨by omega, hk', hk', ?_⟩
      refine ⟨_, impl_improves_ok ls l ps (A.getD k []) ls.length H hn hmm hml (hol _ (getD_mem hk')), ?_⟩; simp (config := { maxSteps := 2000000 }) only [go_sem, Nat.reduceBEq, Nat.reduceAdd, Nat.reduceMul, Nat.reduceMod, Nat.reduceLT, Nat.reduceDiv, Nat.reduceSub, Nat.reduceLeDiff, Int.reduceToNat, Int.reduceLT, Int.reduceLE, reduceCtorEq, List.take_nil, List.drop_nil]
      exact ⟨hit, fin⟩
    · have : k = A.length := by omega
      subst this
      have : blkI ls l ((j + 1 : Nat) : Int) = false := by
        rw [hbI, List.any_eq_false]
        intro o ho
        obtain ⟨k, hk, e⟩ := mem_getD [] ho
        have := hK k hk
        rw [e] at this
        simpa using this
      exact ⟨inR_of (by omega) (by omega), hj', by rw [hI, firstOf_miss (by omega) this, Nat.sub_sub]; rfl, by simp⟩
  · have : j = 2 ^ ls.length - 1 := by omega
    rw [hI, this, Nat.sub_self]; rfl
end Go.Proofs.Ytfdoddeccnjcmaa
