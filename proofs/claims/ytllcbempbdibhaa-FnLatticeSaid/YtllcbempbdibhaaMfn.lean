/- Own work: contracts of functions. No condition beyond those that each theorem names. -/
import Derived.Test.YtllcbempbdibhaaProg
import Derived.Test.YtllcbempbdibhaaRotm
import Derived.Test.YtllcbempbdibhaaChain
namespace Go.Proofs.Ytllcbempbdibhaa
open Go Go.Vc
set_option maxRecDepth 100000
set_option linter.unusedSimpArgs false
set_option linter.unusedVariables false
def PM (x:List (List Int)) (i a b:Nat):Prop:=prefB (x.getD i []) (a:Int) (b:Int) = true
def fnL (l:List Int) (i:Nat):Nat:=(l.getD i 0).toNat
section
variable {x y:List (List Int)} {l r z:List Int} {n:Nat}
theorem lkP (H : Hs x n) : Lk n (PM x) := by
 refine ⟨fun i a => by unfold PM; rw [pref_self]; simp, fun i a b c h1 h2 => ?_, fun i a b hi ha hb => ?_⟩
 ·unfold PM prefB at *
  simp only [Bool.and_eq_true,decide_eq_true_eq] at *
  omega
 ·by_cases e : a = b
  ·exact .inr (.inl e)
  have hr:=H.rk i hi
  have:=pref_total (rank_all hr (a:=(a:Int)) (by omega) (by omega)) (rank_all hr (a:=(b:Int)) (by omega) (by omega)) (by omega)
  unfold PM
  rw [this]
  cases prefB (x.getD i []) (b:Int) (a:Int) <;> simp
theorem pm_iff (H : Hs x n) {i a b : Nat} (hi : i < n) (ha : a < n) (hb : b < n) : PM x i a b ↔ placeI (x.getD i []) a < placeI (x.getD i []) b := by
 have hr:=H.rk i hi
 unfold PM
 rw [pref_iff (rank_all hr (by omega) (by omega)) (rank_all hr (by omega) (by omega)),decide_eq_true_iff]
theorem fn_at (R : rankB n l = true) {i : Nat} (hi : i < n) : ((fnL l i : Nat) : Int) = l.getD i 0 ∧ fnL l i < n := by
 have hl:=rank_len R
 have:=rank_bd R (i:=i) (by omega)
 unfold fnL; omega
theorem place_fn (R : rankB n l = true) {i : Nat} (hi : i < n) : placeI l (fnL l i : Nat) = i := by
 have hl:=rank_len R
 rw [(fn_at R hi).1]
 exact placeI_at (rank_nodup R) (by omega)
theorem sm_of (hs : stabB x y l = true) : Sm x.length (PM x) (PM y) (fnL l) := by
 obtain ⟨_,R,M⟩:=stab_of hs
 have hl:=rank_len R
 simp only [stabB,Bool.and_eq_true,stableB,List.all_eq_true,List.mem_range,Bool.not_eq_true'] at hs
 refine ⟨fun i hi => (fn_at R hi).2, fun i j hi hj e => ?_, fun i j hi hj h hq => ?_⟩
 ·have h1:=fn_at R hi; have h2:=fn_at R hj
  exact nodup_get (rank_nodup R) (by omega) (by omega) (by omega)
 ·have h1:=fn_at R hi; have h2:=fn_at R hj
  have hb:=hs.2 i hi (fnL l j) h2.2
  have e:=place_fn R hj
  unfold blkI at hb
  unfold PM at h hq
  rw [h1.1] at h
  rw [e,h,hq] at hb; simp at hb
theorem of_sm (hm : marketB x y = true) (hl : l.length = x.length) (h0 : ∀ i, i < x.length → 0 ≤ l.getD i 0) (S : Sm x.length (PM x) (PM y) (fnL l)) : stabB x y l = true := by
 have M:=mk_of hm
 have e0 : ∀ i, i < x.length → ((fnL l i : Nat) : Int) = l.getD i 0 ∧ fnL l i < x.length := fun i hi => by
  have:=h0 i hi; have:=S.inn i hi
  refine ⟨?_,this⟩
  unfold fnL; omega
 have R : rankB x.length l = true := by
  refine rank_of_perm M.m.n1 M.m.n5 (perm_of_sub (nodup_getD fun i j hij hj e => ?_) (fun v hv => ?_) (by rw [upto_len]; omega))
  ·have h1:=e0 i (by omega); have h2:=e0 j (by omega)
   have:=S.inj i j (by omega) (by omega) (by omega)
   omega
  ·obtain ⟨i,hi,rfl⟩:=mem_getD 0 hv
   have:=e0 i (by omega)
   exact mem_upto.2 ⟨by omega,by omega⟩
 simp only [stabB,matchB,Bool.and_eq_true,stableB,List.all_eq_true,List.mem_range,Bool.not_eq_true']
 refine ⟨⟨hm,R⟩,fun i hi w hw => ?_⟩
 obtain ⟨j,hj,e⟩:=S.onto hw
 have h1:=S.st i j hi hj
 have h2:=place_fn R hj
 unfold PM at h1
 rw [e] at h1 h2
 rw [(e0 i hi).1] at h1
 unfold blkI
 rw [h2]
 cases hc:prefB (x.getD i []) (w:Int) (l.getD i 0) with
 | false => rfl
 | true => rw [Bool.true_and]; simpa using h1 hc
theorem fn_ext (hl : rankB n l = true) (hz : rankB n z = true) (h : ∀ i, i < n → fnL l i = fnL z i) : l = z := by
 have h1:=rank_len hl; have h2:=rank_len hz
 refine List.ext_getElem (by omega) fun i a b => ?_
 have:=h i (by omega)
 have e1:=(fn_at hl (i:=i) (by omega)).1
 have e2:=(fn_at hz (i:=i) (by omega)).1
 simp only [List.getD,List.getElem?_eq_getElem a,List.getElem?_eq_getElem b,Option.getD_some] at e1 e2
 omega
end
end Go.Proofs.Ytllcbempbdibhaa
