/- Own work, with the laying of the library's slices.SortFunc at this program, as the shelf's own command printed it: what SortFunc leaves in a slice of numbers. No condition beyond those that each theorem names. -/
import Derived.Test.YtllcbempbdibhaaProg
import Derived.Test.YtllcbempbdibhaaBase
import Derived.Test.YtllcbempbdibhaaV7
namespace Go.Proofs.Ytllcbempbdibhaa
open Go Go.Vc
set_option maxRecDepth 100000
set_option linter.unusedSimpArgs false
set_option linter.unusedVariables false
open Go.Shelf
def srt_ren:Go.Shelf.Ren:=⟨fun | 6 => 48 | 15 => 92 | 14 => 91 | 28 => 120 | 29 => 121 | 20 => 112 | 21 => 113 | 22 => 114 | 23 => 115 | 24 => 116 | 25 => 117 | 26 => 118 | 27 => 119 | 46 => 127 | 47 => 128 | 48 => 129 | 49 => 130 | 50 => 131 | 57 => 132 | n => n,fun | 22 => 26 | 24 => 3 | 25 => 69 | 3 => 3 | 39 => 93 | 0 => 0 | 53 => 118 | 55 => 120 | 4 => 4 | 46 => 111 | 45 => 110 | 50 => 115 | 5 => 5 | 9 => 9 | 66 => 126 | 70 => 130 | 76 => 133 | 77 => 46 | n => n,fun | n => n⟩
theorem srt_lay : Go.Proofs.SlLaysF.n6 Try.prog srt_ren := {
 mixed:=by kernel_rfl
 f6:=⟨Try.f48.name,by decide,Try.func48.trans (congrArg some (by kernel_rfl))⟩
 f14:=⟨Try.f91.name,by decide,Try.func91.trans (congrArg some (by kernel_rfl))⟩
 f15:=Try.func92.trans (congrArg some (by kernel_rfl))
 f20:=⟨Try.f112.name,by decide,Try.func112.trans (congrArg some (by kernel_rfl))⟩
 f21:=⟨Try.f113.name,by decide,Try.func113.trans (congrArg some (by kernel_rfl))⟩
 f22:=⟨Try.f114.name,by decide,Try.func114.trans (congrArg some (by kernel_rfl))⟩
 f23:=⟨Try.f115.name,by decide,Try.func115.trans (congrArg some (by kernel_rfl))⟩
 f24:=⟨Try.f116.name,by decide,Try.func116.trans (congrArg some (by kernel_rfl))⟩
 f25:=⟨Try.f117.name,by decide,Try.func117.trans (congrArg some (by kernel_rfl))⟩
 f26:=⟨Try.f118.name,by decide,Try.func118.trans (congrArg some (by kernel_rfl))⟩
 f27:=⟨Try.f119.name,by decide,Try.func119.trans (congrArg some (by kernel_rfl))⟩
 f28:=Try.func120.trans (congrArg some (by kernel_rfl))
 f29:=Try.func121.trans (congrArg some (by kernel_rfl))
 f46:=⟨Try.f127.name,by decide,Try.func127.trans (congrArg some (by kernel_rfl))⟩
 f47:=Try.func128.trans (congrArg some (by kernel_rfl))
 f48:=Try.func129.trans (congrArg some (by kernel_rfl))
 f49:=⟨Try.f130.name,by decide,Try.func130.trans (congrArg some (by kernel_rfl))⟩
 f50:=⟨Try.f131.name,by decide,Try.func131.trans (congrArg some (by kernel_rfl))⟩
 f57:=⟨Try.f132.name,by decide,Try.func132.trans (congrArg some (by kernel_rfl))⟩
 t0:=Try.underlying0
 a0:=Try.isAgg0
 z0:=Try.sizeOf0
 v0:=Try.zeroValue0
 t3:=Try.underlying3
 a3:=Try.isAgg3
 z3:=Try.sizeOf3
 v3:=Try.zeroValue3
 t4:=Try.underlying4
 a4:=Try.isAgg4
 z4:=Try.sizeOf4
 v4:=Try.zeroValue4
 t5:=Try.underlying5
 a5:=Try.isAgg5
 z5:=Try.sizeOf5
 v5:=Try.zeroValue5
 t9:=Try.underlying9
 a9:=Try.isAgg9
 z9:=Try.sizeOf9
 v9:=Try.zeroValue9
 t22:=Try.underlying26
 a22:=Try.isAgg26
 z22:=Try.sizeOf26
 v22:=Try.zeroValue26
 a24:=Try.isAgg3
 z24:=Try.sizeOf3
 t25:=Try.underlying69
 a25:=Try.isAgg69
 z25:=Try.sizeOf69
 v25:=Try.zeroValue69
 t39:=Try.underlying93
 a39:=Try.isAgg93
 z39:=Try.sizeOf93
 v39:=Try.zeroValue93
 t45:=Try.underlying110
 a45:=Try.isAgg110
 z45:=Try.sizeOf110
 v45:=Try.zeroValue110
 t46:=Try.underlying111
 a46:=Try.isAgg111
 z46:=Try.sizeOf111
 v46:=Try.zeroValue111
 t50:=Try.underlying115
 a50:=Try.isAgg115
 z50:=Try.sizeOf115
 v50:=Try.zeroValue115
 t53:=Try.underlying118
 a53:=Try.isAgg118
 z53:=Try.sizeOf118
 v53:=Try.zeroValue118
 t55:=Try.underlying120
 a55:=Try.isAgg120
 z55:=Try.sizeOf120
 v55:=Try.zeroValue120
 t66:=Try.underlying126
 a66:=Try.isAgg126
 z66:=Try.sizeOf126
 v66:=Try.zeroValue126
 t70:=Try.underlying130
 a70:=Try.isAgg130
 z70:=Try.sizeOf130
 v70:=Try.zeroValue130
 t76:=Try.underlying133
 a76:=Try.isAgg133
 z76:=Try.sizeOf133
 v76:=Try.zeroValue133
 t77:=Try.underlying46
 a77:=Try.isAgg46
 z77:=Try.sizeOf46
 v77:=Try.zeroValue46 }
theorem key_swo (p : Int → Int) : Go.Sort.SWO (Go.Proofs.ltOf fun x y : WI => p x.1 - p y.1) where
 irrefl x:=by simp [Go.Proofs.ltOf]
 trans x y z h1 h2:=by simp only [Go.Proofs.ltOf,decide_eq_true_eq] at *; omega
 ntrans x y z h1 h2:=by simp only [Go.Proofs.ltOf,decide_eq_false_iff_not] at *; omega
theorem sortKey_ok {nl : Option Bool} {xs : List Int} {f : Nat} {cp : List T} {p : Int → Int} (h0 : xs ≠ []) (hl : xs.length < 4611686018427387904) (hx : ∀ x ∈ xs, inR x)
  (hc:∀ x y:Int,inR x → inR y → CallOk Try.prog f ([.i x,.i y] ++ cp) [(0,.i (p x - p y))]) :
  ∃ ys:List Int,ys.Perm xs ∧ (∀ i j,i < j → j < ys.length → p (ys.getD i 0) ≤ p (ys.getD j 0)) ∧ CallX Try.prog 48 0 [.s nl (ii xs),.c f cp] (.u []) nl (ii ys):=by
 obtain ⟨ys,h1,h2,h3⟩:=sortFn_of srt_lay (srt_lay.f6.enters rfl) (cf:=fun x y => p x - p y) (key_swo p) (nl:=nl) h0 hl hx hc
 exact ⟨ys,h1,fun i j hij hj => by have:=h2 i j hij hj; omega,h3⟩
end Go.Proofs.Ytllcbempbdibhaa
