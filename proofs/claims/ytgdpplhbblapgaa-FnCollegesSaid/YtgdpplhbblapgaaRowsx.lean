/- Own work: contracts of functions. No condition beyond those that each theorem names. -/
import Derived.Test.YtgdpplhbblapgaaProg
import Derived.Test.YtgdpplhbblapgaaDraw
namespace Go.Proofs.Ytgdpplhbblapgaa
open Go Go.Vc
set_option maxRecDepth 100000
set_option linter.unusedSimpArgs false
set_option linter.unusedVariables false
theorem rows_ex (u : Value) (nl : Option Bool) {l : List Int} (C : CodeL l) {p : Int × Int} (h : Cur l p) {m : Nat} (h1 : 1 ≤ m) (h5 : m ≤ 5) : ∃ (F : Nat → Int × Int) (R : Nat → List (List Int)), F 0 = p ∧ R 0 = [] ∧ (∀ k, Cur l (F k)) ∧ (∀ k, (R k).length = k) ∧ (∀ k, ∀ r ∈ R k, rankB m r = true) ∧
  ∀ k,∃ r,R (k + 1) = R k ++ [r] ∧ CallQ Try.prog 125 0 [.q (cur u nl l (F k)) 0,.i m] (cur u nl l (F (k + 1))) [(0,.own 1 none (ii r))]:=by
 obtain ⟨F, F0, FltS⟩ := iter_ex (α := {a : (Int × Int) × List Int // Cur l a.1 ∧ rankB (m : Int) a.2 = true}) (R := fun a b => CallQ Try.prog 125 0 [.q (cur u nl l a.1.1) 0, .i m] (cur u nl l b.1.1) [(0, .own 1 none (ii b.1.2))]) (fun a => by
  obtain ⟨q,r,hq,hr,W⟩:=spec_l03Draw_ok u nl C a.2.1 (m:=m) (by omega) (by omega)
  exact ⟨⟨(q,r),hq,hr⟩,W⟩) ⟨(p,upto m),h,upto_rank (by omega) (by omega)⟩
 refine ⟨fun k => (F k).1.1,fun k => (List.range k).map fun t => (F (t + 1)).1.2,by show (F 0).1.1 = p; rw [F0],rfl,fun k => (F k).2.1,by simp,fun k r hr => ?_,fun k => ⟨(F (k + 1)).1.2,by simp [List.range_succ],FltS k⟩⟩
 obtain ⟨t,_,rfl⟩:=List.mem_map.1 hr
 exact (F (t + 1)).2.2
end Go.Proofs.Ytgdpplhbblapgaa
