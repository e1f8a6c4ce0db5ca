/- Own work: contracts of functions. No condition beyond those that each theorem names. -/
import Derived.Test.YtgdpplhbblapgaaProg
import Derived.Test.YtgdpplhbblapgaaApply
import Derived.Test.YtgdpplhbblapgaaDasm
namespace Go.Proofs.Ytgdpplhbblapgaa
open Go Go.Vc
set_option maxRecDepth 100000
set_option linter.unusedSimpArgs false
set_option linter.unusedVariables false
def fnE (l:List Int):Nat → Int:=fun i => l.getD i 0
def plS (x:List (List Int)) (i k:Nat):Int:=placeI (x.getD i []) k
section
variable {x y:List (List Int)} {z l:List Int} {n c:Nat}
theorem fn_set {i : Nat} {v : Int} (h : i < l.length) : fnE (l.set i v) = upF (fnE l) i v := by
 funext p
 unfold fnE upF
 exact set_get h
theorem cn_count {q : Int} : cnF (fnE l) q l.length = (l.count q : Nat) := by
 have : ∀ k, k ≤ l.length → cnF (fnE l) q k = ((l.take k).count q : Nat) := fun k => by
  induction k with
  | zero => intro _; simp [cnF]
  | succ k ih =>
   intro hk
   rw [take_getD 0 (show k < l.length by omega),List.count_append]
   simp only [cnF]
   rw [ih (by omega)]
   unfold fnE
   by_cases e : l.getD k 0 = q
   ·rw [if_pos e,e]; simp
   ·rw [if_neg e]
    have:[l.getD k 0].count q = 0:=List.count_eq_zero.2 (by simp only [List.mem_singleton]; exact fun h => e h.symm)
    rw [this]; simp
 have h:=this l.length (Nat.le_refl _)
 rwa [List.take_length] at h
theorem sh_of (S : Sc x y z n c) : Sh n c (plS x) (plS y) := by
 have pm : ∀ {m : Nat} {r : List Int} {k : Nat}, rankB (m : Int) r = true → k < m → ∃ j : Nat, j < m ∧ r.getD j 0 = k ∧ placeI r (k : Nat) = j := fun {m r k} R hk => by
  obtain ⟨j,h1,h2,h3⟩:=placeI_mem (rank_all R (a:=(k:Int)) (by omega) (by omega))
  have:=rank_len R
  exact ⟨j,by omega,h2,h3⟩
 have inj : ∀ {m : Nat} {r : List Int} {k k' : Nat}, rankB (m : Int) r = true → k < m → k' < m → placeI r (k : Nat) = placeI r (k' : Nat) → k = k' := fun {m r k k'} R hk hk' h => by
  obtain ⟨j,_,h2,h3⟩:=pm R hk
  obtain ⟨j',_,h2',h3'⟩:=pm R hk'
  have:j = j':=by omega
  subst this; omega
 refine ⟨fun i k hi hk => ?_, fun i k k' hi hk hk' h => inj (S.rx i hi) hk hk' h, fun k i hk hi => ?_, fun k i i' hk hi hi' h => inj (S.ry k hk) hi hi' h⟩
 ·obtain ⟨j,h1,_,h3⟩:=pm (S.rx i hi) hk
  unfold plS; omega
 ·obtain ⟨j,h1,_,h3⟩:=pm (S.ry k hk) hi
  unfold plS; omega
theorem AI.congr {P Q : Nat → Nat → Int} {z l l' a a' : Nat → Int} (I : AI n c P Q z l a) (hl : ∀ i, i < n → l' i = l i) (ha : ∀ i, i < n → a' i = a i) : AI n c P Q z l' a' := by
 have hc:∀ k:Nat,cnF l' k n = cnF l k n:=fun k => cn_eq fun i hi => by rw [hl i hi]
 refine ⟨fun i hi => by rw [hl i hi]; exact I.bd i hi,fun i k hi hk h => by rw [ha i hi]; exact I.la i k hi hk (by rw [← hl i hi]; exact h),fun i k hi hk h h2 => ?_,fun k hk => by rw [hc]; exact I.fz k hk,fun w W i k hi hk h h2 => I.no w W i k hi hk (by rw [← ha i hi]; exact h) (by rw [← hl i hi]; exact h2)⟩
 obtain ⟨r1,r2⟩:=I.rej i k hi hk (by rw [← ha i hi]; exact h) (by rw [← hl i hi]; exact h2)
 exact ⟨by rw [hc]; exact r1,fun o ho h => r2 o ho (by rw [← hl o ho]; exact h)⟩
theorem BI.congr {P Q : Nat → Nat → Int} {z l l' a a' : Nat → Int} (I : BI n c P Q z l a) (hl : ∀ i, i < n → l' i = l i) (ha : ∀ k, k < c → a' k = a k) : BI n c P Q z l' a' := by
 have hc:∀ k:Nat,cnF l' k n = cnF l k n:=fun k => cn_eq fun i hi => by rw [hl i hi]
 exact ⟨fun i hi => by rw [hl i hi]; exact I.bd i hi,fun k hk => by rw [hc]; exact I.fz k hk,fun i k hi hk h => by rw [ha k hk]; exact I.j1 i k hi hk (by rw [← hl i hi]; exact h),fun i k hi hk h h2 => by rw [hl i hi]; exact I.j2 i k hi hk (by rw [← ha k hk]; exact h) (by rw [← hl i hi]; exact h2),fun w W i k hi hk h h2 => I.j4 w W i k hi hk (by rw [← ha k hk]; exact h) (by rw [← hl i hi]; exact h2)⟩
theorem Stb.congr {P Q : Nat → Nat → Int} {z l l' : Nat → Int} (W : Stb n c P Q z l) (hl : ∀ i, i < n → l' i = l i) : Stb n c P Q z l' := by
 have hc:∀ k:Nat,cnF l' k n = cnF l k n:=fun k => cn_eq fun i hi => by rw [hl i hi]
 refine ⟨fun i hi => by rw [hl i hi]; exact W.bd i hi,fun k hk => by rw [hc]; exact W.fz k hk,fun i k hi hk h => ?_⟩
 obtain ⟨r1,r2⟩:=W.nb i k hi hk (by rw [← hl i hi]; exact h)
 exact ⟨by rw [hc]; exact r1,fun o ho h => r2 o ho (by rw [← hl o ho]; exact h)⟩
theorem pref_pv (S : Sc x y z n c) {i k : Nat} {v : Int} (hi : i < n) (hk : k < c) (hv : -1 ≤ v ∧ v < c) : (v < 0 ∨ prefB (x.getD i []) k v = true) ↔ plS x i k < pvF c (plS x) i v := by
 have H:=sh_of S
 have hp:=H.p0 i k hi hk
 by_cases e : v < 0
 ·rw [pv_no e]
  exact ⟨fun _ => hp.2,fun _ => .inl e⟩
 ·obtain ⟨q,rfl⟩:∃ q:Nat,v = q:=⟨v.toNat,by omega⟩
  rw [pv_at]
  have hq:=H.p0 i q hi (by omega)
  unfold prefB
  simp only [Bool.and_eq_true,decide_eq_true_eq]
  unfold plS at hp hq ⊢
  omega
theorem pr_nil {p : Nat → Nat → Bool} {c : Nat} : ∀ {n : Nat}, (prI p c n).length = 0 ↔ ∀ i, i < n → ∀ k, k < c → p i k = false
 | 0 => by simp [prI]
 | n + 1 => by
  have ih:=pr_nil (p:=p) (c:=c) (n:=n)
  have row : ∀ {m : Nat}, (prK p n m).length = 0 ↔ ∀ k, k < m → p n k = false := fun {m} => by
   induction m with
   | zero => simp [prK]
   | succ m ihm =>
    simp only [prK,List.length_append]
    constructor
    ·intro h k hk
     by_cases e : k = m
     ·subst e
      cases hp:p n k with
      | false => rfl
      | true => rw [if_pos hp] at h; simp at h
     ·exact ihm.1 (by omega) k (by omega)
    ·intro h
     rw [if_neg (by rw [h m (by omega)]; simp),ihm.2 fun k hk => h k (by omega)]; rfl
  simp only [prI,List.length_append]
  constructor
  ·intro h i hi k hk
   by_cases e : i = n
   ·subst e; exact row.1 (by omega) k hk
   ·exact ih.1 (by omega) i (by omega) k hk
  ·intro h
   have h1:=ih.2 fun i hi => h i (by omega)
   have h2:=(row (m:=c)).2 fun k hk => h n (by omega) k hk
   omega
def stEF (x y:List (List Int)) (z l:List Int):Bool:=entryB x y z l && decide ((prI (blkB x y z l) y.length x.length).length = 0)
theorem stb_iff (h0 : schoolB x y z = true) : stEF x y z l = true ↔ l.length = x.length ∧ Stb x.length y.length (plS x) (plS y) (fnE z) (fnE l) := by
 have S:=sc_of h0
 have H:=sh_of S
 unfold stEF
 rw [Bool.and_eq_true,decide_eq_true_eq,pr_nil]
 have fil:(∀ i,i < l.length → l.getD i 0 < y.length) → ∀ k:Nat,k < y.length → (filF y.length l).getD k 0 = cnF (fnE l) k l.length:=fun hb k hk => by rw [filF_cnt hb hk,cn_count]
 constructor
 ·rintro ⟨h1,h2⟩
  have h1':=h1
  obtain ⟨_,hl,hb⟩:=entry_in h1
  simp only [entryB,Bool.and_eq_true,decide_eq_true_eq,List.all_eq_true,List.mem_range] at h1
  have hf:=h1.2
  have fil:=fil fun i hi => (hb i hi).2
  rw [hl] at fil
  refine ⟨hl, fun i hi => hb i (by omega), fun k hk => ?_, fun i k hi hk h => ?_⟩
  ·have:=hf k hk
   rw [fil k hk] at this; exact this
  ·have hbl:=h2 i hi k hk
   unfold blkB wantsB at hbl
   have hpre:=(pref_pv S hi hk (hb i (by omega))).2 h
   have e1 : (decide (l.getD i 0 < 0) || prefB (x.getD i []) k (l.getD i 0)) = true := by
    rw [Bool.or_eq_true,decide_eq_true_eq]; exact hpre
   rw [e1,Bool.true_and,Bool.or_eq_false_iff,decide_eq_false_iff_not,fil k hk,List.any_eq_false] at hbl
   refine ⟨by have:=hbl.1; unfold fnE at this ⊢; omega,fun o ho ho2 hq => ?_⟩
   have:=hbl.2 o (List.mem_range.2 (by omega))
   have ho2:l.getD o 0 = k:=ho2
   rw [decide_eq_true ho2,Bool.true_and] at this
   apply this
   have q1:=H.q0 k i hk hi
   have q2:=H.q0 k o hk ho
   unfold prefB
   simp only [Bool.and_eq_true,decide_eq_true_eq]
   unfold plS at hq q1 q2
   omega
 ·rintro ⟨hl,W⟩
  have hb:∀ i,i < l.length → -1 ≤ l.getD i 0 ∧ l.getD i 0 < y.length:=fun i hi => W.bd i (by omega)
  have fil:=fil fun i hi => (hb i hi).2
  rw [hl] at fil
  refine ⟨?_, fun i hi k hk => ?_⟩
  ·simp only [entryB,Bool.and_eq_true,decide_eq_true_eq,List.all_eq_true,List.mem_range,inI]
   refine ⟨⟨⟨h0, hl⟩, fun v hv => ?_⟩, fun k hk => ?_⟩
   ·obtain ⟨i,hi,rfl⟩:=mem_getD 0 hv
    have:=hb i hi; omega
   ·rw [fil k hk]; exact W.fz k hk
  ·unfold blkB wantsB
   cases hp:(decide (l.getD i 0 < 0) || prefB (x.getD i []) k (l.getD i 0)) with
   | false => rfl
   | true =>
    rw [Bool.or_eq_true,decide_eq_true_eq] at hp
    obtain ⟨r1,r2⟩:=W.nb i k hi hk ((pref_pv S hi hk (hb i (by omega))).1 hp)
    rw [Bool.true_and,Bool.or_eq_false_iff,decide_eq_false_iff_not,fil k hk,List.any_eq_false]
    refine ⟨by unfold fnE at r1 ⊢; omega,fun o ho hh => ?_⟩
    rw [hl,List.mem_range] at ho
    rw [Bool.and_eq_true,decide_eq_true_eq] at hh
    refine r2 o ho hh.1 ?_
    have:=hh.2
    unfold prefB at this
    simp only [Bool.and_eq_true,decide_eq_true_eq] at this
    unfold plS; omega
theorem app_ai (h0 : schoolB x y z = true) : ∀ {j : Nat}, AJ x.length y.length (appK x y z j) ∧ AI x.length y.length (plS x) (plS y) (fnE z) (fnE (appK x y z j).l) (fnE (appK x y z j).a)
 | 0 => by
  have S:=sc_of h0
  have g:∀ (v:Int) (m i:Nat),i < m → (List.replicate m v).getD i 0 = v:=fun v m i h => by simp [List.getD,h]
  refine ⟨aj0 S, (ai_start (fun k hk => (S.bz k hk).1) (sh_of S)).congr (fun i hi => ?_) (fun i hi => ?_)⟩
  ·exact g _ _ _ hi
  ·exact g _ _ _ hi
 | j + 1 => by
  have S:=sc_of h0
  have H:=sh_of S
  obtain ⟨J,I⟩:=app_ai h0 (j:=j)
  rcases idx_upto (p := actP y.length (appK x y z j)) (n := x.length) with h | ⟨i, hi, ei, hp, hb⟩
  ·have e:appK x y z (j + 1) = appK x y z j:=if_pos h.1
   rw [e]; exact ⟨J,I⟩
  ·have e : appK x y z (j + 1) = (appK x y z j).ap x y z i := by
    have:=app_on (x:=x) (y:=y) (z:=z) (j:=j) (by unfold actN; omega)
    unfold actN at this
    rw [ei,Int.toNat_natCast] at this; exact this
   rw [e]
   refine ⟨(J.step S hi hp).1,?_⟩
   simp only [actP,Bool.and_eq_true,decide_eq_true_eq,Int.toNat_natCast] at hp
   have hk:=J.k S hi hp.2
   have hr:=S.rx i hi
   have hrl:=rank_len hr
   have hba:=J.ba i hi
   have hpl : placeI (x.getD i []) (actK x (appK x y z j) i) = (appK x y z j).a.getD i 0 := by
    unfold actK
    rw [placeI_nd (rank_nodup hr) (by omega)]; omega
   unfold OS.ap
   generalize actK x (appK x y z j) i = k at hk hpl ⊢
   obtain ⟨K,rfl⟩:∃ K:Nat,k = K:=⟨k.toNat,by omega⟩
   have hil:i < (appK x y z j).l.length:=by rw [J.ll]; exact hi
   have hia:i < (appK x y z j).a.length:=by rw [J.la]; exact hi
   have e1:=fn_set (l:=(appK x y z j).l) (v:=(K:Int)) hil
   have e2:=fn_set (l:=(appK x y z j).a) (v:=(appK x y z j).a.getD i 0 + 1) hia
   have hsl:((appK x y z j).l.set i (K:Int)).length = x.length:=by rw [List.length_set]; exact J.ll
   have hsb : ∀ q, q < ((appK x y z j).l.set i (K : Int)).length → ((appK x y z j).l.set i (K : Int)).getD q 0 < y.length := fun q hq => by
    rw [set_get hil]
    split
    ·omega
    ·exact (J.bl q (by omega)).2
   have hcn : (filF y.length ((appK x y z j).l.set i (K : Int))).getD K 0 = cnF (upF (fnE (appK x y z j).l) i K) K x.length := by
    rw [filF_cnt hsb (by omega),← cn_count,hsl,e1]
   simp only [Int.toNat_natCast]
   rw [e2]
   unfold sndF
   split
   ·rename_i hgt
    rw [hcn] at hgt
    have hsk:((appK x y z j).l.set i (K:Int)).getD i 0 = K:=by rw [set_get hil,if_pos rfl]
    obtain ⟨w, hw, ew, hwk, hmax⟩ : ∃ w : Nat, w < ((appK x y z j).l.set i (K : Int)).length ∧ wsN (y.getD K []) ((appK x y z j).l.set i (K : Int)) K ((appK x y z j).l.set i (K : Int)).length = w ∧ ((appK x y z j).l.set i (K : Int)).getD w 0 = K ∧ ∀ o : Nat, o < ((appK x y z j).l.set i (K : Int)).length → ((appK x y z j).l.set i (K : Int)).getD o 0 = K → placeI (y.getD K []) o ≤ placeI (y.getD K []) w := by
     rcases ws_at (r := y.getD K []) (l := (appK x y z j).l.set i (K : Int)) (k := (K : Int)) (n := x.length) (S.ry K (by omega)) (m := ((appK x y z j).l.set i (K : Int)).length) (by omega) with ⟨_, h2⟩ | h2
     ·exact absurd hsk (h2 i (by omega))
     ·exact h2
    rw [ew,Int.toNat_natCast,fn_set hw,e1]
    rw [hsl] at hw hmax
    refine ai_out H I hi (by omega) hp.1 hpl hgt hw ?_ fun o ho ho2 => ?_
    ·rw [← e1]; exact hwk
    ·rw [← e1] at ho2; exact hmax o ho ho2
   ·rename_i hle
    rw [hcn] at hle
    rw [e1]
    exact ai_in H I hi (by omega) hp.1 hpl (by unfold fnE at hle ⊢; omega)
theorem app_stable (h0 : schoolB x y z = true) : (appF x y z).length = x.length ∧ Stb x.length y.length (plS x) (plS y) (fnE z) (fnE (appF x y z)) ∧ ∀ w, Stb x.length y.length (plS x) (plS y) (fnE z) w → ∀ i, i < x.length → pvF y.length (plS x) i (fnE (appF x y z) i) ≤ pvF y.length (plS x) i (w i) := by
 have S:=sc_of h0
 obtain ⟨J,I⟩:=app_ai h0 (j:=x.length * y.length)
 have e:appF x y z = (appK x y z (x.length * y.length)).l:=if_pos h0
 rw [e]
 refine ⟨J.ll,ai_end (sh_of S) I fun i hi => ?_⟩
 have hlt : actN x.length y.length (appK x y z (x.length * y.length)) < 0 := by
  refine Classical.byContradiction fun hn => ?_
  have hs : ∀ j, j ≤ x.length * y.length → (appK x y z j).a.sum = j := fun j => by
   induction j with
   | zero => intro _; simp [appK]
   | succ j ih =>
    intro hj
    have J':=(app_ai h0 (j:=j)).1
    have hon:¬ actN x.length y.length (appK x y z j) < 0:=fun h => hn (by rw [app_stay h (by omega)]; exact h)
    rcases idx_upto (p := actP y.length (appK x y z j)) (n := x.length) with h | ⟨i, hi, ei, hp, hb⟩
    ·exact absurd h.1 hon
    ·exact (app_go S J' (ih (by omega)) hi hp hb).2.1
  rcases idx_upto (p := actP y.length (appK x y z (x.length * y.length))) (n := x.length) with h | ⟨i, hi, ei, hp, hb⟩
  ·exact hn h.1
  ·have:=(app_go S J (hs _ (Nat.le_refl _)) hi hp hb).2.2.1
   omega
 rcases idx_upto (p := actP y.length (appK x y z (x.length * y.length))) (n := x.length) with h | ⟨q, _, hq, _⟩
 ·have:=h.2 i hi
  simp only [actP,Bool.and_eq_false_iff,decide_eq_false_iff_not,Int.toNat_natCast] at this
  unfold fnE
  omega
 ·unfold actN at hlt; omega
theorem off_bi (h0 : schoolB x y z = true) : ∀ {j : Nat}, OJ z x.length y.length (offK x y z j) ∧ BI x.length y.length (plS x) (plS y) (fnE z) (fnE (offK x y z j).l) (fnE (offK x y z j).a)
 | 0 => by
  have S:=sc_of h0
  have g:∀ (v:Int) (m i:Nat),i < m → (List.replicate m v).getD i 0 = v:=fun v m i h => by simp [List.getD,h]
  refine ⟨oj0 S, (bi_start (fun k hk => (S.bz k hk).1) (sh_of S)).congr (fun i hi => ?_) (fun i hi => ?_)⟩
  ·exact g _ _ _ hi
  ·exact g _ _ _ hi
 | j + 1 => by
  have S:=sc_of h0
  have H:=sh_of S
  obtain ⟨J,I⟩:=off_bi h0 (j:=j)
  rcases idx_upto (p := offP y.length x.length z (offK x y z j)) (n := y.length) with h | ⟨k, hk, ek, hp, hb⟩
  ·have e:offK x y z (j + 1) = offK x y z j:=if_pos h.1
   rw [e]; exact ⟨J,I⟩
  ·have e : offK x y z (j + 1) = (offK x y z j).nx x y k := by
    have:=off_on (x:=x) (y:=y) (z:=z) (j:=j) (by unfold offN; omega)
    unfold offN at this
    rw [ek,Int.toNat_natCast] at this; exact this
   rw [e]
   refine ⟨(J.step S hk hp).1,?_⟩
   simp only [offP,Bool.and_eq_true,decide_eq_true_eq,Int.toNat_natCast] at hp
   have hi:=J.i (y:=y) S hk hp.2
   have hr:=S.ry k hk
   have hrl:=rank_len hr
   have hba:=J.ba k hk
   have hpl : placeI (y.getD k []) (offI y (offK x y z j) k) = (offK x y z j).a.getD k 0 := by
    unfold offI
    rw [placeI_nd (rank_nodup hr) (by omega)]; omega
   unfold OS.nx offB
   generalize offI y (offK x y z j) k = i at hi hpl ⊢
   obtain ⟨m,rfl⟩:∃ m:Nat,i = m:=⟨i.toNat,by omega⟩
   have hil:m < (offK x y z j).l.length:=by rw [J.ll]; omega
   have hka:k < (offK x y z j).a.length:=by rw [J.la]; exact hk
   simp only [Int.toNat_natCast]
   rw [fn_set hka]
   have hbl:∀ q,q < (offK x y z j).l.length → (offK x y z j).l.getD q 0 < y.length:=fun q hq => (J.bl q (by rw [← J.ll]; exact hq)).2
   have hcn : cnF (fnE (offK x y z j).l) k x.length < z.getD k 0 := by
    have:=filF_cnt hbl hk
    rw [← cn_count,J.ll] at this
    rw [← this]; exact hp.1
   refine bi_step H I (i0:=m) (k0:=k) (by omega) hk hpl hcn ?_
   have hpv:=pref_pv S (i:=m) (by omega) hk (J.bl m (by omega))
   have hd : (decide ((offK x y z j).l.getD m 0 < 0) || prefB (x.getD m []) k ((offK x y z j).l.getD m 0)) = true ↔ plS x m k < pvF y.length (plS x) m (fnE (offK x y z j).l m) := by
    rw [Bool.or_eq_true,decide_eq_true_eq]; exact hpv
   by_cases c : plS x m k < pvF y.length (plS x) m (fnE (offK x y z j).l m)
   ·rw [if_pos c,if_pos (hd.2 c),fn_set hil]
   ·rw [if_neg c,if_neg fun h => c (hd.1 h)]
theorem off_stable (h0 : schoolB x y z = true) : (offF x y z).length = x.length ∧ Stb x.length y.length (plS x) (plS y) (fnE z) (fnE (offF x y z)) ∧ ∀ w, Stb x.length y.length (plS x) (plS y) (fnE z) w → ∀ i, i < x.length → pvF y.length (plS x) i (w i) ≤ pvF y.length (plS x) i (fnE (offF x y z) i) := by
 have S:=sc_of h0
 obtain ⟨J,I⟩:=off_bi h0 (j:=y.length * x.length)
 have e:offF x y z = (offK x y z (y.length * x.length)).l:=if_pos h0
 rw [e]
 refine ⟨J.ll,bi_end (sh_of S) I fun k hk => ?_⟩
 have hlt : offN y.length x.length z (offK x y z (y.length * x.length)) < 0 := by
  refine Classical.byContradiction fun hn => ?_
  have hs : ∀ j, j ≤ y.length * x.length → (offK x y z j).a.sum = j := fun j => by
   induction j with
   | zero => intro _; simp [offK]
   | succ j ih =>
    intro hj
    have J':=(off_bi h0 (j:=j)).1
    have hon:¬ offN y.length x.length z (offK x y z j) < 0:=fun h => hn (by rw [off_stay h (by omega)]; exact h)
    rcases idx_upto (p := offP y.length x.length z (offK x y z j)) (n := y.length) with h | ⟨i, hi, ei, hp, hb⟩
    ·exact absurd h.1 hon
    ·exact (off_go S J' (ih (by omega)) hi hp hb).2.1
  rcases idx_upto (p := offP y.length x.length z (offK x y z (y.length * x.length))) (n := y.length) with h | ⟨i, hi, ei, hp, hb⟩
  ·exact hn h.1
  ·have:=(off_go S J (hs _ (Nat.le_refl _)) hi hp hb).2.2.1
   omega
 rcases idx_upto (p := offP y.length x.length z (offK x y z (y.length * x.length))) (n := y.length) with h | ⟨q, _, hq, _⟩
 ·have:=h.2 k hk
  simp only [offP,Bool.and_eq_false_iff,decide_eq_false_iff_not,Int.toNat_natCast] at this
  have hbl:∀ q,q < (offK x y z (y.length * x.length)).l.length → (offK x y z (y.length * x.length)).l.getD q 0 < y.length:=fun q hq => (J.bl q (by rw [← J.ll]; exact hq)).2
  have hf:=filF_cnt hbl hk
  rw [← cn_count,J.ll] at hf
  rw [hf] at this
  unfold fnE at this ⊢
  omega
 ·unfold offN at hlt; omega
end
end Go.Proofs.Ytgdpplhbblapgaa
