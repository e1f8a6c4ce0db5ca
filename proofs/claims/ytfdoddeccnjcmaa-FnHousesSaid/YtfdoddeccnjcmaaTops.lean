/- Own work: contracts of functions that the claim reaches. No condition beyond those that each theorem names. -/
import Derived.Test.YtfdoddeccnjcmaaProg
import Derived.Test.YtfdoddeccnjcmaaSerlaw
import Derived.Test.YtfdoddeccnjcmaaCyc
namespace Go.Proofs.Ytfdoddeccnjcmaa
open Go Go.Vc
set_option maxRecDepth 100000
set_option linter.unusedSimpArgs false
set_option linter.unusedVariables false
/-! The exchange by cycles: what it computes. -/
theorem filter_split {p : Int → Bool} : ∀ {xs : List Int}, (xs.filter p).length + (xs.filter fun x => !p x).length = xs.length
  | [] => rfl
  | x :: xs => by
    have := filter_split (p := p) (xs := xs)
    cases h : p x <;> simp only [List.filter_cons, h, Bool.not_true, Bool.not_false, if_true, if_false, Bool.false_eq_true, List.length_cons] <;> omega
theorem len_filter_out {xs g : List Int} (hx : xs.Nodup) (hg : g.Nodup) (hs : ∀ y ∈ g, y ∈ xs) : (xs.filter fun x => !inL g x).length + g.length = xs.length := by
  have h1 := filter_split (p := inL g) (xs := xs)
  have h2 := nodup_sub_len (xs := xs.filter (inL g)) (ys := g) (hx.filter _) fun x h => inL_iff.1 (List.mem_filter.1 h).2
  have h3 := nodup_sub_len (xs := g) (ys := xs.filter (inL g)) hg fun x h => List.mem_filter.2 ⟨hs x h, inL_iff.2 h⟩
  omega
/-- The house that a person wants most of those that are left. -/
def topI (ls : List (List Int)) (S : List Int) (i : Int) : Int := fstL S (ls.getD i.toNat [])
def rowC (ls : List (List Int)) (S : List Int) (a : Int) : List (List Int) := if lowC (topI ls S) ls.length a = [] then [] else [lowC (topI ls S) ls.length a]
def rndK (ls : List (List Int)) (S : List Int) (t : Nat) : List (List Int) := (S.take t).flatMap (rowC ls S)
def rndS (ls : List (List Int)) (S : List Int) : List (List Int) := rndK ls S S.length
theorem rndK_s {ls : List (List Int)} {S : List Int} {t : Nat} (h : t < S.length) : rndK ls S (t + 1) = rndK ls S t ++ rowC ls S (S.getD t 0) := by
  simp [rndK, take_getD 0 h, -List.getD_eq_getElem?_getD]
/-- What is left of n people. -/
structure Lf (n : Nat) (S : List Int) : Prop where
  nd : S.Nodup
  bd : ∀ x ∈ S, 0 ≤ x ∧ x < n
  up : S = (upto n).filter (inL S)
theorem Lf.len {n : Nat} {S : List Int} (h : Lf n S) : S.length ≤ n := by
  have := nodup_sub_len (ys := upto n) h.nd fun x hx => mem_upto.2 (h.bd x hx)
  rw [upto_len] at this; exact this
theorem Lf.all (n : Nat) : Lf n (upto n) := ⟨upto_nodup, fun x hx => mem_upto.1 hx, by
  symm; rw [List.filter_eq_self]; exact fun x hx => inL_iff.2 hx⟩
theorem Lf.cut {n : Nat} {S : List Int} (h : Lf n S) (g : List Int) : Lf n (S.filter fun x => !inL g x) := by
  refine ⟨h.nd.filter _, fun x hx => h.bd x (List.mem_filter.1 hx).1, ?_⟩
  have e : (S.filter fun x => !inL g x) = (upto n).filter fun x => inL S x && !inL g x := by
    conv => lhs; rw [h.up, List.filter_filter]
    congr 1; funext x; rw [Bool.and_comm]
  rw [e]
  apply List.filter_congr
  intro x hx
  rw [Bool.eq_iff_iff, inL_iff, List.mem_filter, Bool.and_eq_true, inL_iff]
  exact ⟨fun h => ⟨hx, h⟩, fun h => h.2⟩
section
variable {ls : List (List Int)} {n : Nat} {S : List Int}
theorem top_in (H : Hs ls n) (hS : Lf n S) {x : Int} (hx : x ∈ S) : 0 ≤ idxP (inL S) (ls.getD x.toNat []) ∧ idxP (inL S) (ls.getD x.toNat []) < (ls.getD x.toNat []).length ∧ topI ls S x ∈ S := by
  have hb := hS.bd x hx
  exact fst_of (H.rk x.toNat (by omega)) hS.bd (List.length_pos_of_mem hx)
theorem row_mem {a : Int} {c : List Int} (h : c ∈ rowC ls S a) : c = lowC (topI ls S) ls.length a ∧ Cyc (topI ls S) a c ∧ ∀ y ∈ c, a ≤ y := by
  unfold rowC at h
  by_cases e : lowC (topI ls S) ls.length a = []
  · rw [if_pos e] at h; cases h
  · rw [if_neg e] at h
    have e1 := List.mem_singleton.1 h
    rw [e1]; exact ⟨rfl, lowC_ok e⟩
theorem row_flat {a : Int} : (rowC ls S a).flatten = lowC (topI ls S) ls.length a := by
  unfold rowC
  by_cases e : lowC (topI ls S) ls.length a = []
  · rw [if_pos e, e]; rfl
  · rw [if_neg e]; simp
theorem rnd_flat_s {t : Nat} (h : t < S.length) : (rndK ls S (t + 1)).flatten = (rndK ls S t).flatten ++ lowC (topI ls S) ls.length (S.getD t 0) := by
  rw [rndK_s h, List.flatten_append, row_flat]
theorem low_in (H : Hs ls n) (hS : Lf n S) {a y : Int} (ha : a ∈ S) (hy : y ∈ lowC (topI ls S) ls.length a) : y ∈ S := by
  have hne : lowC (topI ls S) ls.length a ≠ [] := fun e => by rw [e] at hy; cases hy
  exact pth_sub (fun x hx => (top_in H hS hx).2.2) (lowC_ok hne).1.toPth ha y hy
theorem flat_mem {t : Nat} {y : Int} (ht : t ≤ S.length) (h : y ∈ (rndK ls S t).flatten) : ∃ i, i < t ∧ y ∈ lowC (topI ls S) ls.length (S.getD i 0) := by
  obtain ⟨c, hc, hy⟩ := List.mem_flatten.1 h
  obtain ⟨a, ha, hc⟩ := List.mem_flatMap.1 hc
  obtain ⟨i, hi, e⟩ := List.mem_take_iff_getElem.1 ha
  refine ⟨i, by omega, ?_⟩
  rw [show S.getD i 0 = a by simp [List.getD, show i < S.length by omega, e], ← (row_mem hc).1]; exact hy
theorem flat_ok (H : Hs ls n) (hS : Lf n S) : ∀ {t : Nat}, t ≤ S.length → (rndK ls S t).flatten.Nodup ∧ ∀ y ∈ (rndK ls S t).flatten, y ∈ S
  | 0, _ => by simp [rndK]
  | t + 1, ht => by
    obtain ⟨h1, h2⟩ := flat_ok H hS (t := t) (by omega)
    rw [rnd_flat_s (by omega)]
    refine ⟨?_, fun y hy => ?_⟩
    · rw [List.nodup_append]
      refine ⟨h1, ?_, fun y hy z hz e => ?_⟩
      · by_cases e : lowC (topI ls S) ls.length (S.getD t 0) = []
        · rw [e]; simp
        · exact (lowC_ok e).1.nd
      · subst e
        obtain ⟨i, hi, hy⟩ := flat_mem (by omega) hy
        have e1 : lowC (topI ls S) ls.length (S.getD i 0) ≠ [] := fun e => by rw [e] at hy; cases hy
        have e2 : lowC (topI ls S) ls.length (S.getD t 0) ≠ [] := fun e => by rw [e] at hz; cases hz
        have := (lowC_ok e1).1.same (lowC_ok e2).1 (lowC_ok e1).2 (lowC_ok e2).2 hy hz
        have := nodup_inj hS.nd (i := i) (j := t) (by omega) (by omega) this; omega
    · rcases List.mem_append.1 hy with hy | hy
      · exact h2 y hy
      · exact low_in H hS (mem_getD' (by omega)) hy
/-- Someone is in a cycle. -/
theorem rnd_some (H : Hs ls n) (hS : Lf n S) (h0 : S ≠ []) : 0 < (rndS ls S).flatten.length := by
  have hp : 0 < S.length := List.length_pos_iff.2 h0
  have hf : ∀ x ∈ S, topI ls S x ∈ S := fun x hx => (top_in H hS hx).2.2
  obtain ⟨b, M, hM, hMS⟩ := cyc_ex hf (k := S.length) (L := [S.getD 0 0]) pth_one (fun x hx => by rw [List.mem_singleton.1 hx]; exact mem_getD' hp) (by simp)
  obtain ⟨j, hj, hmin⟩ := least_of (L := M) (fun e => by have := hM.pos; rw [e] at this; simp at this)
  have hR := hM.rot hj
  have hmem : ∀ y, y ∈ M.drop j ++ M.take j → y ∈ M := fun y hy => by
    rcases List.mem_append.1 hy with h | h
    · exact List.mem_of_mem_drop h
    · exact List.mem_of_mem_take h
  have hlen : (M.drop j ++ M.take j).length ≤ ls.length := by
    have := nodup_sub_len hR.nd fun y hy => hMS y (hmem y hy)
    have := hS.len; rw [H.len]; omega
  have hfound := lowC_found hR (fun y hy => hmin y (hmem y hy)) hlen
  obtain ⟨i, hi, e⟩ := mem_getD 0 (hMS _ (mem_getD' hj))
  have hin : M.getD j 0 ∈ (rndS ls S).flatten := by
    have hrow : (M.drop j ++ M.take j) ∈ rndS ls S := by
      refine List.mem_flatMap.2 ⟨M.getD j 0, ?_, ?_⟩
      · rw [List.take_length]; exact hMS _ (mem_getD' hj)
      · unfold rowC
        rw [hfound, if_neg (fun e => by have := hR.pos; rw [e] at this; simp at this)]; simp
    refine List.mem_flatten.2 ⟨_, hrow, ?_⟩
    have := mem_getD' hR.pos
    rw [hR.hd] at this; exact this
  exact List.length_pos_of_mem hin
/-- What is left, and the cycles, after j rounds. -/
def tcS (ls : List (List Int)) : Nat → List Int × List (List Int)
  | 0 => (upto ls.length, [])
  | j + 1 => ((tcS ls j).1.filter fun x => !inL (rndS ls (tcS ls j).1).flatten x, (tcS ls j).2 ++ rndS ls (tcS ls j).1)
theorem tcS_lf : ∀ {j : Nat}, Lf ls.length (tcS ls j).1
  | 0 => Lf.all _
  | j + 1 => tcS_lf.cut _
theorem tcS_len (H : Hs ls ls.length) {j : Nat} : (tcS ls (j + 1)).1.length + (rndS ls (tcS ls j).1).flatten.length = (tcS ls j).1.length := by
  have h := flat_ok H (tcS_lf (ls := ls) (j := j)) (Nat.le_refl _)
  exact len_filter_out tcS_lf.nd h.1 h.2
theorem tcS_stop {j : Nat} (h : (tcS ls j).1 = []) : ∀ {k : Nat}, (tcS ls (j + k)).1 = [] ∧ (tcS ls (j + k)).2 = (tcS ls j).2
  | 0 => ⟨h, rfl⟩
  | k + 1 => by
    obtain ⟨h1, h2⟩ := tcS_stop h (k := k)
    rw [← Nat.add_assoc]
    simp only [tcS, h1, h2, rndS, rndK]
    simp
theorem tcS_down (H : Hs ls ls.length) : ∀ {j : Nat}, (tcS ls j).1.length ≤ ls.length - j
  | 0 => by simp [tcS, upto_len]
  | j + 1 => by
    have h1 := tcS_down H (j := j)
    have h2 := tcS_len H (j := j)
    by_cases e : (tcS ls j).1 = []
    · rw [e] at h2; simp at h2; rw [h2.1]; simp
    · have := rnd_some H tcS_lf e; omega
def topsF (ls : List (List Int)) : List (List Int) := if housesB ls = true then (tcS ls ls.length).2 else []
theorem tops_at (H : Hs ls ls.length) {j : Nat} (h : (tcS ls j).1 = []) : (tcS ls j).2 = (tcS ls ls.length).2 := by
  have e : (tcS ls ls.length).1 = [] := List.eq_nil_of_length_eq_zero (by have := tcS_down H (j := ls.length); omega)
  rcases Nat.le_total j ls.length with h1 | h1
  · obtain ⟨d, e1⟩ := Nat.exists_eq_add_of_le h1
    rw [e1]; exact (tcS_stop h).2.symm
  · obtain ⟨d, e1⟩ := Nat.exists_eq_add_of_le h1
    rw [e1]; exact (tcS_stop e).2
end

end Go.Proofs.Ytfdoddeccnjcmaa
