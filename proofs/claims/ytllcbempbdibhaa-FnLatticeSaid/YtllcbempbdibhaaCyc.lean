/- Own work: contracts of functions. No condition beyond those that each theorem names. -/
import Derived.Test.YtllcbempbdibhaaProg
import Derived.Test.YtllcbempbdibhaaPerm
namespace Go.Proofs.Ytllcbempbdibhaa
open Go Go.Vc
set_option maxRecDepth 100000
set_option linter.unusedSimpArgs false
set_option linter.unusedVariables false
structure Pth (f : Int → Int) (a : Int) (L : List Int) : Prop where
 pos:0 < L.length
 hd:L.getD 0 0 = a
 nx:∀ i,i + 1 < L.length → L.getD (i + 1) 0 = f (L.getD i 0)
 nd:L.Nodup
structure Cyc (f : Int → Int) (a : Int) (L : List Int) : Prop extends Pth f a L where
 cl:f (L.getD (L.length - 1) 0) = a
section
variable {f:Int → Int} {a b:Int}
theorem Cyc.drop {L : List Int} (h : Pth f a L) {j : Nat} (hj : j < L.length) (e : f (L.getD (L.length - 1) 0) = L.getD j 0) : Cyc f (L.getD j 0) (L.drop j) := by
 have gd:∀ i,(L.drop j).getD i 0 = L.getD (j + i) 0:=fun i => by simp [List.getD]
 refine ⟨⟨by simp; omega, by rw [gd]; rfl, fun i hi => ?_, h.nd.sublist (List.drop_sublist _ _)⟩, ?_⟩
 ·simp only [List.length_drop] at hi
  rw [gd,gd,← h.nx (j + i) (by omega)]; rfl
 ·rw [gd,List.length_drop,show j + (L.length - j - 1) = L.length - 1 by omega]; exact e
end
end Go.Proofs.Ytllcbempbdibhaa
