/- Own work: contracts of functions. No condition beyond those that each theorem names. -/
import Derived.Test.YtllcbempbdibhaaProg
import Derived.Test.YtllcbempbdibhaaMfn
namespace Go.Proofs.Ytllcbempbdibhaa
open Go Go.Vc
set_option maxRecDepth 100000
set_option linter.unusedSimpArgs false
set_option linter.unusedVariables false
structure PK (x y : List (List Int)) (n : Nat) (s : PS) : Prop extends PJ x n s where
 bw:∀ i,i < n → ∀ k:Nat,(k:Int) < s.sk.getD i 0 → s.ma.getD ((x.getD i []).getD k 0).toNat 0 = i ∨ prefB (y.getD ((x.getD i []).getD k 0).toNat []) (s.ma.getD ((x.getD i []).getD k 0).toNat 0) i = true
 la':∀ i,i < n → s.wo.getD i 0 ≠ -1 → 1 ≤ s.sk.getD i 0 ∧ s.wo.getD i 0 = (x.getD i []).getD (s.sk.getD i 0 - 1).toNat 0
 no:∀ z,stabB x y z = true → ∀ i,i < n → s.sk.getD i 0 ≤ placeM x z i ∨ (s.sk.getD i 0 = placeM x z i + 1 ∧ s.wo.getD i 0 = z.getD i 0)
section
variable {x y:List (List Int)} {z:List Int} {n:Nat} {s:PS}
theorem pk0 : PK x y x.length (ps0 x.length) := by
 have g:∀ (v:Int) i,i < x.length → (List.replicate x.length v).getD i 0 = v:=fun v i h => by simp [List.getD,h]
 refine ⟨pj0, fun i hi k hk => ?_, fun i hi h => ?_, fun z hz i hi => ?_⟩
 ·simp only [ps0] at hk; rw [g _ _ hi] at hk; omega
 ·simp only [ps0] at h; rw [g _ _ hi] at h; exact absurd rfl h
 ·obtain ⟨_,R,M⟩:=stab_of hz
  have:=plM M R hi
  simp only [ps0]; rw [g _ _ hi]; exact .inl this.1
theorem no_two (M : Mk x y x.length) (hz : stabB x y z = true) {i j : Nat} (hi : i < x.length) (hj : j < x.length) {w : Int} (hw : 0 ≤ w ∧ w < x.length) (hzj : z.getD j 0 = w) (hp : placeI (x.getD i []) w < placeM x z i) : prefB (y.getD w.toNat []) i j = false := by
 obtain ⟨_,R,_⟩:=stab_of hz
 have S:=sm_of hz
 have hi':=fn_at R hi; have hj':=fn_at R hj
 have h:=S.st i j hi hj ((pm_iff M.m hi hj'.2 hi'.2).2 (by rw [hj'.1,hi'.1,hzj]; exact hp))
 have e:w.toNat = fnL z j:=by omega
 rw [e]
 unfold PM at h
 cases hc:prefB (y.getD (fnL z j) []) i j with
 | false => rfl
 | true => exact absurd hc h
theorem PK.step (J : PK x y x.length s) (M : Mk x y x.length) (h : ¬ placeI s.wo (-1) < 0) : PK x y x.length (s.nx x y) := by
 have J':=(J.toPJ.step M h).1
 have hw:=J.toPJ.w M h
 have hf:=J.toPJ.free M h
 have hq:=J.toPJ.qq M h
 obtain ⟨hm,hm1,_⟩:=J.toPJ.act h
 have hm0:=J.a0 s.m hm
 have hrm:=M.m.rk s.m hm
 have hrml:=rank_len hrm
 have ga:∀ i,s.a.getD i 0 = if s.m = i then s.sk.getD s.m 0 + 1 else s.sk.getD i 0:=fun i => by unfold PS.a; exact getD_set (by rw [J.la]; exact hm)
 have ew:(x.getD s.m []).getD (s.sk.getD s.m 0).toNat 0 = s.w x:=rfl
 have pw:placeI (x.getD s.m []) (s.w x) = s.sk.getD s.m 0:=by rw [← ew,placeI_at (rank_nodup hrm) (by omega)]; omega
 have hry:=M.w.rk (s.w x).toNat (by omega)
 have nom : ∀ z, stabB x y z = true → s.sk.getD s.m 0 ≤ placeM x z s.m := fun z hz => by
  obtain ⟨_,Rz,_⟩:=stab_of hz
  have hb:=rank_bd Rz (i:=s.m) (by have:=rank_len Rz; omega)
  rcases J.no z hz s.m hm with h1 | ⟨_, h2⟩
  ·exact h1
  ·rw [hm1] at h2; omega
 have nomw : ∀ z, stabB x y z = true → z.getD s.m 0 ≠ s.w x → s.sk.getD s.m 0 < placeM x z s.m := fun z hz hne => by
  obtain ⟨_,Rz,_⟩:=stab_of hz
  have hb:=rank_bd Rz (i:=s.m) (by have:=rank_len Rz; omega)
  have h1:=nom z hz
  have:placeM x z s.m ≠ s.sk.getD s.m 0:=fun e => hne (placeI_inj (rank_all hrm hb.1 hb.2) (by rw [pw]; exact e))
  omega
 have qat : ∀ q : Nat, q < x.length → s.wo.getD q 0 = s.w x → ∀ z, stabB x y z = true → z.getD q 0 ≠ s.w x → placeI (x.getD q []) (s.w x) < placeM x z q := fun q hq1 hq2 z hz hne => by
  obtain ⟨l1,l2⟩:=J.la' q hq1 (by omega)
  have hrq:=M.m.rk q hq1
  have hrql:=rank_len hrq
  have hq0:=J.a0 q hq1
  have e : placeI (x.getD q []) (s.w x) = s.sk.getD q 0 - 1 := by
   rw [← hq2,l2,placeI_at (rank_nodup hrq) (by omega)]; omega
  rcases J.no z hz q hq1 with h1 | ⟨_, h2⟩
  ·omega
  ·exact absurd (h2 ▸ hq2) (fun h => hne h)
 have zinj : ∀ z, stabB x y z = true → ∀ i j : Nat, i < x.length → j < x.length → z.getD i 0 = z.getD j 0 → i = j := fun z hz i j hi hj e => by
  obtain ⟨_,Rz,_⟩:=stab_of hz
  have:=rank_len Rz
  exact nodup_get (rank_nodup Rz) (by omega) (by omega) e
 have asked : ∀ i, i < x.length → ∀ k : Nat, (k : Int) < s.sk.getD i 0 → 0 ≤ (x.getD i []).getD k 0 ∧ (x.getD i []).getD k 0 < x.length := fun i hi k hk => by
  have hr:=M.m.rk i hi
  have:=rank_len hr; have:=J.a0 i hi
  exact rank_bd hr (by omega)
 by_cases hc : 0 ≤ s.q x ∧ prefB (y.getD (s.w x).toNat []) (s.q x) s.m = true
 ·have en:s.nx x y = ⟨s.wo,s.ma,s.a,s.ct + 1⟩:=if_pos hc
  rw [en] at J' ⊢
  obtain ⟨q1,q2,q3,q4⟩:=hq.resolve_left (by omega)
  obtain ⟨q,hqe⟩:∃ q:Nat,s.q x = q:=⟨(s.q x).toNat,by omega⟩
  rw [hqe] at q1 q2 q3 q4 hc
  rw [Int.toNat_natCast] at q4
  refine ⟨J', fun i hi k hk => ?_, fun i hi h1 => ?_, fun z hz i hi => ?_⟩
  ·simp only at hk ⊢
   rw [ga] at hk
   by_cases e : s.m = i
   ·subst e
    rw [if_pos rfl] at hk
    by_cases e2 : (k : Int) = s.sk.getD s.m 0
    ·right
     have ek:(x.getD s.m []).getD k 0 = s.w x:=by rw [← ew,← e2,Int.toNat_natCast]
     rw [ek]
     have:s.ma.getD (s.w x).toNat 0 = q:=hqe
     rw [this]; exact hc.2
    ·exact J.bw s.m hi k (by omega)
   ·rw [if_neg e] at hk; exact J.bw i hi k hk
  ·simp only at h1 ⊢
   rw [ga]
   by_cases e : s.m = i
   ·subst e; exact absurd hm1 h1
   ·rw [if_neg e]; exact J.la' i hi h1
  ·simp only
   rw [ga]
   by_cases e : s.m = i
   ·subst e
    rw [if_pos rfl]; left
    have hne : z.getD s.m 0 ≠ s.w x := fun he => by
     have hqm : z.getD q 0 ≠ s.w x := fun e2 => by
      have:=zinj z hz q s.m (by omega) hm (by rw [e2,he]); omega
     have:=no_two M hz (i:=q) (j:=s.m) (by omega) hm hw he (qat q (by omega) q4 z hz hqm)
     rw [hc.2] at this; cases this
    have:=nomw z hz hne; omega
   ·rw [if_neg e]; exact J.no z hz i hi
 ·have en:s.nx x y = ⟨((if 0 ≤ s.q x then s.wo.set (s.q x).toNat (-1) else s.wo)).set s.m (s.w x),s.ma.set (s.w x).toNat s.m,s.a,s.ct + 1⟩:=if_neg hc
  rw [en] at J' ⊢
  have gm:∀ w:Nat,(s.ma.set (s.w x).toNat s.m).getD w 0 = if (s.w x).toNat = w then (s.m:Int) else s.ma.getD w 0:=fun w => getD_set (by rw [J.lm]; omega)
  have gw : ∀ i : Nat, ((if 0 ≤ s.q x then s.wo.set (s.q x).toNat (-1) else s.wo).set s.m (s.w x)).getD i 0 = if s.m = i then s.w x else if 0 ≤ s.q x ∧ (s.q x).toNat = i then -1 else s.wo.getD i 0 := fun i => by
   rw [getD_set (by split <;> simp [J.lw,hm])]
   by_cases e : s.m = i
   ·rw [if_pos e,if_pos e]
   ·rw [if_neg e,if_neg e]
    by_cases e0 : 0 ≤ s.q x
    ·rw [if_pos e0,getD_set (by rw [J.lw]; omega)]
     by_cases e1 : (s.q x).toNat = i
     ·rw [if_pos e1,if_pos ⟨e0,e1⟩]
     ·rw [if_neg e1,if_neg (fun h => e1 h.2)]
    ·rw [if_neg e0,if_neg (fun h => e0 h.1)]
  have up : 0 ≤ s.q x → prefB (y.getD (s.w x).toNat []) s.m (s.q x) = true := fun h0 => by
   obtain ⟨q1,q2,q3,q4⟩:=hq.resolve_left (by omega)
   have ht:=pref_total (rank_all hry (a:=(s.m:Int)) (by omega) (by omega)) (rank_all hry (a:=s.q x) (by omega) (by omega)) (by omega)
   rw [ht]
   cases hx:prefB (y.getD (s.w x).toNat []) (s.q x) s.m with
   | false => rfl
   | true => exact absurd ⟨h0,hx⟩ hc
  refine ⟨J', fun i hi k hk => ?_, fun i hi h1 => ?_, fun z hz i hi => ?_⟩
  ·simp only at hk ⊢
   rw [ga] at hk
   rw [gm]
   by_cases e : s.m = i
   ·subst e
    rw [if_pos rfl] at hk
    by_cases e2 : (k : Int) = s.sk.getD s.m 0
    ·left
     have ek:(x.getD s.m []).getD k 0 = s.w x:=by rw [← ew,← e2,Int.toNat_natCast]
     rw [ek,if_pos rfl]
    ·by_cases e3 : (s.w x).toNat = ((x.getD s.m []).getD k 0).toNat
     ·rw [if_pos e3]; exact .inl rfl
     ·rw [if_neg e3]; exact J.bw s.m hi k (by omega)
   ·rw [if_neg e] at hk
    by_cases e3 : (s.w x).toNat = ((x.getD i []).getD k 0).toNat
    ·rw [if_pos e3]; right
     have hak:=J.ak i hi k hk
     have hbw:=J.bw i hi k hk
     rw [← e3] at hak hbw ⊢
     have hu:=up hak
     have eq:s.ma.getD (s.w x).toNat 0 = s.q x:=rfl
     rw [eq] at hbw
     rcases hbw with h1 | h1
     ·rw [h1] at hu; exact hu
     ·unfold prefB at *
      simp only [Bool.and_eq_true,decide_eq_true_eq] at *
      omega
    ·rw [if_neg e3]; exact J.bw i hi k hk
  ·simp only at h1 ⊢
   rw [gw] at h1 ⊢
   rw [ga]
   by_cases e : s.m = i
   ·subst e
    rw [if_pos rfl,if_pos rfl]
    refine ⟨by omega,?_⟩
    rw [show s.sk.getD s.m 0 + 1 - 1 = s.sk.getD s.m 0 by omega]; exact ew.symm
   ·rw [if_neg e] at h1 ⊢
    rw [if_neg e]
    by_cases e2 : 0 ≤ s.q x ∧ (s.q x).toNat = i
    ·rw [if_pos e2] at h1; exact absurd rfl h1
    ·rw [if_neg e2] at h1 ⊢
     exact J.la' i hi h1
  ·simp only
   rw [ga,gw]
   by_cases e : s.m = i
   ·subst e
    rw [if_pos rfl,if_pos rfl]
    by_cases e2 : z.getD s.m 0 = s.w x
    ·right
     refine ⟨?_,e2.symm⟩
     unfold placeM; rw [e2,pw]
    ·left; have:=nomw z hz e2; omega
   ·rw [if_neg e,if_neg e]
    by_cases e2 : 0 ≤ s.q x ∧ (s.q x).toNat = i
    ·rw [if_pos e2]; left
     obtain ⟨q1,q2,q3,q4⟩:=hq.resolve_left (by omega)
     rw [e2.2] at q4
     rcases J.no z hz i hi with h1 | ⟨_, h2⟩
     ·exact h1
     ·exfalso
      rw [q4] at h2
      have hne:z.getD s.m 0 ≠ s.w x:=fun e3 => e (zinj z hz s.m i hm hi (by rw [e3,h2]))
      have h3:=no_two M hz (i:=s.m) (j:=i) hm hi hw h2.symm (by rw [pw]; exact nomw z hz hne)
      have h4:=up e2.1
      rw [show s.q x = (i:Nat) by omega,h3] at h4; cases h4
    ·rw [if_neg e2]; exact J.no z hz i hi
theorem psI_pk (M : Mk x y x.length) : ∀ {k : Nat} {s : PS}, PK x y x.length s → (x.length * x.length : Int) ≤ s.sk.sum + k → PK x y x.length (psI x y s k) ∧ placeI (psI x y s k).wo (-1) < 0 ∧ ((psI x y s k).ct - s.ct = (psI x y s k).sk.sum - s.sk.sum)
 | 0, s, J, h => by
  refine ⟨J,Classical.byContradiction fun hn => ?_,by simp [psI]⟩
  have:=J.toPJ.sum M hn
  have:s.sk.sum + 1 ≤ (x.length * x.length:Int):=this
  simp only [Int.natCast_zero,Int.add_zero] at h
  omega
 | k + 1, s, J, h => by
  by_cases hd : placeI s.wo (-1) < 0
  ·rw [psI_done hd]; exact ⟨J,hd,by omega⟩
  ·rw [psI_on hd]
   obtain ⟨_,h1,h2⟩:=J.toPJ.step M hd
   obtain ⟨a1, a2, a3⟩ := psI_pk M (k := k) (J.step M hd) (by
    have h':((x.length * x.length:Nat):Int) ≤ s.sk.sum + (k + 1:Nat):=by rw [Int.natCast_mul]; exact h
    rw [h1]
    have:(x.length:Int) * x.length = ((x.length * x.length:Nat):Int):=by rw [Int.natCast_mul]
    omega)
   exact ⟨a1,a2,by omega⟩
theorem psF_pk (M : Mk x y x.length) : PK x y x.length (psF x y) ∧ placeI (psF x y).wo (-1) < 0 ∧ (psF x y).ct = (psF x y).sk.sum := by
 obtain ⟨a1,a2,a3⟩:=psI_pk (x:=x) (y:=y) M (k:=x.length * x.length) pk0 (by simp [ps0])
 refine ⟨a1,a2,?_⟩
 unfold psF
 simp [ps0] at a3 ⊢; omega
theorem psF_at (M : Mk x y x.length) {i : Nat} (hi : i < x.length) : 0 ≤ (psF x y).wo.getD i 0 ∧ (psF x y).wo.getD i 0 < x.length ∧ (psF x y).ma.getD ((psF x y).wo.getD i 0).toNat 0 = i ∧ (psF x y).sk.getD i 0 = placeM x (psF x y).wo i + 1 := by
 obtain ⟨J,hd,_⟩:=psF_pk M
 have hne:(psF x y).wo.getD i 0 ≠ -1:=fun e => placeI_neg.1 hd (by rw [← e]; exact getD_mem (by rw [J.lw]; exact hi))
 obtain ⟨b1,b2,b3⟩:=(J.ww i hi).resolve_left hne
 obtain ⟨l1,l2⟩:=J.la' i hi hne
 have hr:=M.m.rk i hi
 have:=rank_len hr; have:=J.a0 i hi
 refine ⟨b1,b2,b3,?_⟩
 unfold placeM; rw [l2,placeI_at (rank_nodup hr) (by omega)]; omega
theorem psF_stab (h : marketB x y = true) : stabB x y (psF x y).wo = true := by
 have M:=mk_of h
 obtain ⟨J,_,_⟩:=psF_pk M
 have hat:=fun {i} hi => psF_at (x:=x) (y:=y) M (i:=i) hi
 have e0 : ∀ i, i < x.length → ((fnL (psF x y).wo i : Nat) : Int) = (psF x y).wo.getD i 0 := fun i hi => by
  have:=hat hi; unfold fnL; omega
 refine of_sm h J.lw (fun i hi => (hat hi).1) ⟨fun i hi => ?_, fun i j hi hj e => ?_, fun i j hi hj h1 hq => ?_⟩
 ·have:=hat hi; have:=e0 i hi; omega
 ·have a1:=hat hi; have a2:=hat hj
  have e1:=e0 i hi; have e2:=e0 j hj
  have:(psF x y).wo.getD i 0 = (psF x y).wo.getD j 0:=by omega
  have h3:=a1.2.2.1
  rw [this,a2.2.2.1] at h3; omega
 ·have a1:=hat hi; have a2:=hat hj
  have e1:=e0 i hi; have e2:=e0 j hj
  rw [pm_iff M.m hi (by omega) (by omega),e1,e2] at h1
  have hr:=M.m.rk i hi
  obtain ⟨k,k1,k2,k3⟩:=placeI_mem (rank_all hr (a:=(psF x y).wo.getD j 0) a2.1 a2.2.1)
  have h4:placeM x (psF x y).wo i = placeI (x.getD i []) ((psF x y).wo.getD i 0):=rfl
  have:=J.bw i hi k (by omega)
  rw [k2,a2.2.2.1] at this
  rcases this with h5 | h5
  ·have:i = j:=by omega
   subst this; omega
  ·unfold PM fnL at hq
   unfold prefB at hq h5
   simp only [Bool.and_eq_true,decide_eq_true_eq] at hq h5
   omega
theorem psF_best (hz : stabB x y z = true) {i : Nat} (hi : i < x.length) : placeM x (psF x y).wo i ≤ placeM x z i := by
 obtain ⟨h,_,M⟩:=stab_of hz
 obtain ⟨J,_,_⟩:=psF_pk M
 have:=(psF_at M hi).2.2.2
 rcases J.no z hz i hi with h1 | ⟨h1,_⟩ <;> omega
end
end Go.Proofs.Ytllcbempbdibhaa
