/- Own work, with the laying of the library's slices.Delete at this program, as the shelf's own command printed it: what Delete leaves of a slice of numbers. No condition beyond those that each theorem names. -/
import Derived.Test.YtllcbempbdibhaaProg
import Derived.Test.YtllcbempbdibhaaBase
import Derived.Test.YtllcbempbdibhaaV8
namespace Go.Proofs.Ytllcbempbdibhaa
open Go Go.Vc
set_option maxRecDepth 100000
set_option linter.unusedSimpArgs false
set_option linter.unusedVariables false
open Go.Shelf
def del_ren:Go.Shelf.Ren:=⟨fun | 45 => 107 | n => n,fun | 22 => 26 | 23 => 3 | 3 => 3 | 4 => 4 | 0 => 0 | n => n,fun | n => n⟩
theorem del_lay : Go.Proofs.SlLaysE.n45 Try.prog del_ren := {
 mixed:=by kernel_rfl
 f45:=⟨Try.f107.name,by decide,Try.func107.trans (congrArg some (by kernel_rfl))⟩
 t0:=Try.underlying0
 a0:=Try.isAgg0
 z0:=Try.sizeOf0
 v0:=Try.zeroValue0
 t3:=Try.underlying3
 a3:=Try.isAgg3
 z3:=Try.sizeOf3
 v3:=Try.zeroValue3
 t4:=Try.underlying4
 a4:=Try.isAgg4
 z4:=Try.sizeOf4
 v4:=Try.zeroValue4
 t22:=Try.underlying26
 a22:=Try.isAgg26
 z22:=Try.sizeOf26
 v22:=Try.zeroValue26
 a23:=Try.isAgg3
 z23:=Try.sizeOf3 }
theorem Delete_ok {nl : Option Bool} {xs : List Int} {i j : Nat} (h0 : xs ≠ []) (hij : i ≤ j) (hj : j ≤ xs.length) :
  CallC Try.prog 107 [0] [.s nl (ii xs),.i i,.i j] [(0,.own 1 none (ii (xs.take i ++ xs.drop j)))] :=
 deleteFn_of del_lay (del_lay.f45.enters rfl) Try.zeroValue3 (by kernel_rfl) h0 hij hj
end Go.Proofs.Ytllcbempbdibhaa
