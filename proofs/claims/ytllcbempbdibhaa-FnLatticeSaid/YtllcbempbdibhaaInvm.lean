/- Own work: contracts of functions. No condition beyond those that each theorem names. -/
import Derived.Test.YtllcbempbdibhaaProg
import Derived.Test.YtllcbempbdibhaaTurnk
namespace Go.Proofs.Ytllcbempbdibhaa
open Go Go.Vc
set_option maxRecDepth 100000
set_option linter.unusedSimpArgs false
set_option linter.unusedVariables false
section
variable {x y:List (List Int)} {l:List Int} {n:Nat}
theorem invK_get (R : rankB n l = true) : ∀ {k : Nat}, k ≤ n → ∀ i, i < k → (invK l k).getD (fnL l i) 0 = i
 | 0,_,i,h => by omega
 | k + 1, hk, i, hi => by
  have hl:=rank_len R
  have h1:=fn_at R (i:=k) (by omega)
  have h2:=fn_at R (i:=i) (by omega)
  have e:(l.getD k 0).toNat = fnL l k:=rfl
  simp only [invK]
  rw [e,getD_set (by rw [invK_len]; omega)]
  by_cases c : fnL l k = fnL l i
  ·rw [if_pos c]
   have:=nodup_get (rank_nodup R) (i:=k) (j:=i) (by omega) (by omega) (by omega)
   rw [this]
  ·rw [if_neg c]
   have:i ≠ k:=fun e => c (by rw [e])
   exact invK_get R (by omega) i (by omega)
theorem inv_len (R : rankB n l = true) : (invL l).length = n := by
 have hl:=rank_len R
 unfold invL
 rw [if_pos (by rw [hl]; exact R),invK_len]; omega
theorem inv_at (R : rankB n l = true) {i : Nat} (hi : i < n) : (invL l).getD (fnL l i) 0 = i := by
 have hl:=rank_len R
 unfold invL
 rw [if_pos (by rw [hl]; exact R)]
 exact invK_get R (by omega) i (by omega)
theorem inv_fn (R : rankB n l = true) {w : Nat} (hw : w < n) : fnL (invL l) w < n ∧ fnL l (fnL (invL l) w) = w := by
 have hl:=rank_len R
 obtain ⟨i, hi, e⟩ := range_onto (f := fnL l) (fun i hi => (fn_at R hi).2) (fun i j hi hj e => by
  have h1:=fn_at R hi; have h2:=fn_at R hj
  exact nodup_get (rank_nodup R) (by omega) (by omega) (by omega)) hw
 have h:=inv_at R hi
 rw [e] at h
 have:fnL (invL l) w = i:=by unfold fnL; rw [h]; simp
 rw [this]; exact ⟨hi,e⟩
theorem stab_inv (hs : stabB y x l = true) : stabB x y (invL l) = true := by
 obtain ⟨hm,R,M⟩:=stab_of hs
 have S:=sm_of hs
 have e:=M.w.len
 have hf:=fun {w} hw => inv_fn R (w:=w) hw
 refine of_sm (market_swap hm) (by rw [inv_len R, e]) (fun i hi => ?_) ⟨fun i hi => ?_, fun i j hi hj h => ?_, fun i j hi hj h1 h2 => ?_⟩
 ·rw [e] at hi
  obtain ⟨k,hk,ek⟩:=S.onto hi
  rw [← ek,inv_at R hk]; omega
 ·rw [e] at hi ⊢; exact (hf hi).1
 ·rw [e] at hi hj
  rw [← (hf hi).2,← (hf hj).2,h]
 ·rw [e] at hi hj
  have:=S.st (fnL (invL l) j) (fnL (invL l) i) (hf hj).1 (hf hi).1
  rw [(hf hi).2,(hf hj).2] at this
  exact this h2 h1
end
end Go.Proofs.Ytllcbempbdibhaa
