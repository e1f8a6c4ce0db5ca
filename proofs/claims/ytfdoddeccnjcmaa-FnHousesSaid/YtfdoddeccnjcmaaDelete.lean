/- Own work: contracts of functions that the claim reaches. No condition beyond those that each theorem names. -/
import Derived.Test.YtfdoddeccnjcmaaProg
import Derived.Test.YtfdoddeccnjcmaaSlices
namespace Go.Proofs.Ytfdoddeccnjcmaa
open Go Go.Vc
set_option maxRecDepth 100000
set_option linter.unusedSimpArgs false
set_option linter.unusedVariables false
def K_slices_DeleteFunc_Sint_int : List Nat := [0, 1, 4, 5, 6, 7]
def C_slices_DeleteFunc_Sint_int : C :=
  let ks := K_slices_DeleteFunc_Sint_int
  (.seq
   (.rg 0 [(none, .mkn 4)])
   (.cl ks (.seq
   (.rg 0 [(none, .v 8 .mv [.s 0]), (none, .v 9 .mv [.s 1]), (none, .co 10 138 [.s 8, .s 9]), (none, .tk 5 10)])
   (.cl ks (.seq
   (.seq
   (.rg 0 [(none, .v 11 .mv [.s 5]), (none, .v 12 (.bin .eql) [.s 11, .k (.i (-1))])])
   (.cond (.s 12)
   (.seq
   (.rg 0 [(none, .v 13 .mv [.s 0]), (none, .tk 4 13)])
   .ret)
   .skip))
   (.cl ks (.seq
   (.seq
   (.rg 0 [(none, .v 14 .mv [.s 5]), (none, .v 15 (.bin .add) [.s 14, .k (.i 1)]), (none, .tk 6 15)])
   (.cl ks (.block 0
   (.loop
   (.seq
   (.seq
   (.rg 0 [(none, .v 16 .mv [.s 6]), (none, .v 17 .mv [.s 0]), (none, .v 18 .len [.s 17]), (none, .v 19 (.bin .lss) [.s 16, .s 18])])
   (.cond (.s 19)
   .skip
   (.exit 0)))
   (.cl ks (.seq
   (.block 1
   (.seq
   (.rg 0 [(none, .v 22 .mv [.s 0]), (none, .v 23 .mv [.s 6]), (none, .v 24 .idx [.s 22, .s 23]), (none, .v 25 .ld [.s 24]), (none, .tk 7 25)])
   (.cl ks (.seq
   (.rg 0 [(none, .v 26 .mv [.s 1]), (none, .v 27 .mv [.s 7]), (none, .coC 28 [.s 26, .s 27]), (none, .v 29 .not [.s 28])])
   (.cond (.s 29)
   (.seq
   (.rg 0 [(none, .v 30 .mv [.s 0]), (none, .v 31 .mv [.s 5]), (none, .v 32 .mv [.s 7]), (none, .v 33 .idx [.s 30, .s 31]), (none, .st (.s 33) (.s 32))])
   (.cl ks (.rg 0 [(none, .v 34 .mv [.s 5]), (none, .v 35 (.bin .add) [.s 34, .k (.i 1)]), (none, .tk 5 35)])))
   .skip)))))
   (.cl ks (.rg 0 [(none, .v 20 .mv [.s 6]), (none, .v 21 (.bin .add) [.s 20, .k (.i 1)]), (none, .tk 6 21)])))))))))
   (.cl ks (.seq
   (.rg 0 [(none, .v 36 .mv [.s 0]), (none, .v 37 .mv [.s 5]), (none, .v 38 .subp [.s 36, .s 37]), (none, .clr (.s 38) (.i 0))])
   (.cl ks (.seq
   (.rg 0 [(none, .v 39 .mv [.s 0]), (none, .v 40 .mv [.s 5]), (none, .cut 41 (.s 39) (.s 40)), (none, .tk 4 41)])
   .ret)))))))))))

theorem chk_slices_DeleteFunc_Sint_int : ∃ b, Try.f93.body = some b ∧ chk Try.prog Try.f93.ntmps false C_slices_DeleteFunc_Sint_int b = true := ⟨_, rfl, by kernel_rfl⟩
def keepJ (p : Int → Bool) (xs : List Int) (j : Nat) : List Int := (xs.take j).filter fun x => !p x
theorem keepJ_le {p : Int → Bool} {xs : List Int} {j : Nat} : (keepJ p xs j).length ≤ j := Nat.le_trans (List.length_filter_le _ _) (by rw [List.length_take]; omega)
theorem keepJ_s {p : Int → Bool} {xs : List Int} {j : Nat} (h : j < xs.length) : keepJ p xs (j + 1) = if p (xs.getD j 0) = true then keepJ p xs j else keepJ p xs j ++ [xs.getD j 0] := by
  simp only [keepJ]; rw [take_getD 0 h, List.filter_append]
  cases hp : p (xs.getD j 0) <;> simp [-List.getD_eq_getElem?_getD, hp]
def delJ (p : Int → Bool) (xs : List Int) (j : Nat) : List Int := keepJ p xs j ++ xs.drop (keepJ p xs j).length
theorem delJ_len {p : Int → Bool} {xs : List Int} {j : Nat} (h : j ≤ xs.length) : (delJ p xs j).length = xs.length := by
  have := keepJ_le (p := p) (xs := xs) (j := j)
  simp [delJ]; omega
theorem delJ_get {p : Int → Bool} {xs : List Int} {j k : Nat} (hj : (keepJ p xs j).length ≤ k) : (delJ p xs j).getD k 0 = xs.getD k 0 := by
  simp only [delJ, List.getD]
  rw [List.getElem?_append_right hj, List.getElem?_drop]
  congr 2; omega
theorem delJ_set {p : Int → Bool} {xs : List Int} {j : Nat} (hj : j < xs.length) (hk : (keepJ p xs j).length < xs.length) (hp : p (xs.getD j 0) = false) : (delJ p xs j).set (keepJ p xs j).length (xs.getD j 0) = delJ p xs (j + 1) := by
  have e : keepJ p xs (j + 1) = keepJ p xs j ++ [xs.getD j 0] := by rw [keepJ_s hj, if_neg (by rw [hp]; simp)]
  simp only [delJ, e]
  rw [List.set_append_right _ _ (Nat.le_refl _), Nat.sub_self, List.length_append, List.length_singleton, List.append_assoc]
  congr 1
  rw [List.drop_eq_getElem_cons hk, List.set_cons_zero]
  rfl
theorem keepJ_none {p : Int → Bool} {xs : List Int} {j : Nat} (h : ∀ i, i < j → p (xs.getD i 0) = false) (hj : j ≤ xs.length) : keepJ p xs j = xs.take j := by
  simp only [keepJ]
  rw [List.filter_eq_self]
  intro x hx
  obtain ⟨k, hk, e⟩ := List.mem_take_iff_getElem.1 hx
  have := h k (by omega)
  rw [show xs.getD k 0 = x by simp [List.getD, show k < xs.length by omega, e]] at this
  simp [this]
theorem DeleteFunc_ok {nl : Option Bool} (xs : List Int) (f : Nat) (cp : List T) (p : Int → Bool) (h : ∀ x ∈ xs, CallOk Try.prog f (.i x :: cp) [(0, .b (p x))]) (hl : xs.length ≤ 1048576) :
    CallC Try.prog 93 [0] [.s nl (ii xs), .c f cp] [(0, .own 1 none (ii (xs.filter fun x => !p x)))] := by
  obtain ⟨code0, hcd1, hcd2⟩ := chk_slices_DeleteFunc_Sint_int; refine callC_of Try.func93 hcd1 mo Try.call93 (r := 4) (is := [0]) (by kernel_rfl) hcd2 (by rw [Try.ntmps93]; simp) (by simp) (by decide) ?_; unfold C_slices_DeleteFunc_Sint_int K_slices_DeleteFunc_Sint_int; simp (config := { maxSteps := 2000000 }) only [go_sem, Nat.reduceBEq, Nat.reduceAdd, Nat.reduceMul, Nat.reduceMod, Nat.reduceLT, Nat.reduceDiv, Nat.reduceSub, Nat.reduceLeDiff, Int.reduceToNat, Int.reduceLT, Int.reduceLE, reduceCtorEq, List.take_nil, List.drop_nil]
  refine ⟨_, IndexFuncI p h hl, ?_⟩; simp (config := { maxSteps := 2000000 }) only [go_sem, Nat.reduceBEq, Nat.reduceAdd, Nat.reduceMul, Nat.reduceMod, Nat.reduceLT, Nat.reduceDiv, Nat.reduceSub, Nat.reduceLeDiff, Int.reduceToNat, Int.reduceLT, Int.reduceLE, reduceCtorEq, List.take_nil, List.drop_nil]
  rcases idxP_cases (0 : Int) p xs with ⟨i, hi, hp, hb, e⟩ | ⟨hn, e⟩
  · rw [e]
    refine ⟨fun h => by omega, fun _ => ⟨inR_of (by omega) (by omega), ?_⟩⟩
    have k0 : keepJ p xs (i + 1) = xs.take i := by rw [keepJ_s hi, if_pos hp, keepJ_none hb (by omega)]
    have d0 : delJ p xs (i + 1) = xs := by
      simp only [delJ, k0]; rw [List.length_take, Nat.min_eq_left (by omega), List.take_append_drop]
    have l0 : (keepJ p xs (i + 1)).length = i := by rw [k0, List.length_take]; omega
    refine loopN (xs.length - (i + 1)) (fun t => [(0, .own 1 nl (ii (delJ p xs (i + 1 + t)))), (1, .t .arg (.c f cp)), (5, .i (keepJ p xs (i + 1 + t)).length), (6, .i ((i + 1 + t : Nat) : Int))]) (fun t => (keepJ p xs (i + 1 + t)).length < i + 1 + t) ⟨by rw [Nat.add_zero, l0]; omega, by simp (config := { maxSteps := 2000000 }) only [go_sem, Nat.reduceBEq, Nat.reduceAdd, Nat.reduceMul, Nat.reduceMod, Nat.reduceLT, Nat.reduceDiv, Nat.reduceSub, Nat.reduceLeDiff, Int.reduceToNat, Int.reduceLT, Int.reduceLE, reduceCtorEq, List.take_nil, List.drop_nil]; rw [Nat.add_zero, d0, l0]; simp⟩ fun t ht hI => ?_
    have hdl := delJ_len (p := p) (xs := xs) (j := i + 1 + t) (by omega)
    simp (config := { maxSteps := 2000000 }) only [go_sem, Nat.reduceBEq, Nat.reduceAdd, Nat.reduceMul, Nat.reduceMod, Nat.reduceLT, Nat.reduceDiv, Nat.reduceSub, Nat.reduceLeDiff, Int.reduceToNat, Int.reduceLT, Int.reduceLE, reduceCtorEq, List.take_nil, List.drop_nil]
    rw [hdl]
    refine ⟨fun hlt => ?_, fun hge => ?_⟩
    · have hj : i + 1 + t < xs.length := by omega
      have hg := delJ_get (p := p) (xs := xs) (j := i + 1 + t) (k := i + 1 + t) (by omega)
      rw [hg]
      refine ⟨by omega, hj, hj, ?_⟩
      refine ⟨_, h _ (getD_mem (d := 0) hj), ?_⟩; simp (config := { maxSteps := 2000000 }) only [go_sem, Nat.reduceBEq, Nat.reduceAdd, Nat.reduceMul, Nat.reduceMod, Nat.reduceLT, Nat.reduceDiv, Nat.reduceSub, Nat.reduceLeDiff, Int.reduceToNat, Int.reduceLT, Int.reduceLE, reduceCtorEq, List.take_nil, List.drop_nil]
      refine ⟨fun hp' => ?_, fun hp' => ?_⟩
      · have ks : keepJ p xs (i + 1 + (t + 1)) = keepJ p xs (i + 1 + t) ++ [xs.getD (i + 1 + t) 0] := by
          rw [show i + 1 + (t + 1) = (i + 1 + t) + 1 from rfl, keepJ_s hj, if_neg (by rw [hp']; simp)]
        have kl : (keepJ p xs (i + 1 + (t + 1))).length = (keepJ p xs (i + 1 + t)).length + 1 := by rw [ks, List.length_append]; rfl
        exact ⟨by omega, by omega, by omega, inR_of (by omega) (by omega), inR_of (by omega) (by omega), by omega, by omega, delJ_set hj (by omega) hp', by omega, by omega⟩
      · have ks : keepJ p xs (i + 1 + (t + 1)) = keepJ p xs (i + 1 + t) := by
          rw [show i + 1 + (t + 1) = (i + 1 + t) + 1 from rfl, keepJ_s hj, if_pos hp']
        have ds : delJ p xs (i + 1 + (t + 1)) = delJ p xs (i + 1 + t) := by simp only [delJ, ks]
        exact ⟨inR_of (by omega) (by omega), by omega, by rw [ks]; omega, ds.symm, by rw [ks], by omega⟩
    · have : i + 1 + t = xs.length := by omega
      have kf : keepJ p xs (i + 1 + t) = xs.filter fun x => !p x := by rw [keepJ, this, List.take_length]
      have kt : (delJ p xs (i + 1 + t)).take (keepJ p xs (i + 1 + t)).length = keepJ p xs (i + 1 + t) := List.take_left' rfl
      rw [kt, List.append_assoc]
      refine ⟨by omega, by omega, by omega, Nat.le_refl _, by omega, by rw [List.length_append]; omega, ?_⟩
      rw [List.take_left' rfl, kf]
  · rw [e]
    refine ⟨fun _ => ?_, fun h => absurd rfl h⟩
    rw [List.filter_eq_self.2 fun x hx => by simp [hn x hx]]

end Go.Proofs.Ytfdoddeccnjcmaa
