/- Own work: contracts of functions. No condition beyond those that each theorem names. -/
import Derived.Test.YtgdpplhbblapgaaProg
import Derived.Test.YtgdpplhbblapgaaSmall
import Derived.Test.YtgdpplhbblapgaaIdx
namespace Go.Proofs.Ytgdpplhbblapgaa
open Go Go.Vc
set_option maxRecDepth 100000
set_option linter.unusedSimpArgs false
set_option linter.unusedVariables false
def nrows (rs:List (Option Bool × List Int)):List T:=rs.map fun p => .s p.1 (ii p.2)
@[go_sem] theorem nrows_len {rs:List (Option Bool × List Int)}:(nrows rs).length = rs.length:=by simp [nrows]
@[go_sem high] theorem ld_nrows {P : Program} {κ : V → Prop} {g : G} {k : Nat} {rs : List (Option Bool × List Int)} : stepK P .ld [.t g (.q (nrows rs) k)] κ = (k < rs.length ∧ κ (.t g (.s (rs.getD k (none, [])).1 (ii (rs.getD k (none, [])).2)))) := by
 rw [stepK_ld,nrows_len]; exact and_ctx rfl fun h => by simp [nrows,List.getD,h]; rfl
end Go.Proofs.Ytgdpplhbblapgaa
