/- Own work: contracts of functions. No condition beyond those that each theorem names. -/
import Derived.Test.YtgdpplhbblapgaaProg
import Derived.Test.YtgdpplhbblapgaaBase
namespace Go.Proofs.Ytgdpplhbblapgaa
open Go Go.Vc
set_option maxRecDepth 100000
set_option linter.unusedSimpArgs false
set_option linter.unusedVariables false
def cnF (w : Nat → Int) (q : Int) : Nat → Int
 | 0 => 0
 | k + 1 => cnF w q k + if w k = q then 1 else 0
def upF (w:Nat → Int) (i:Nat) (v:Int):Nat → Int:=fun j => if j = i then v else w j
theorem up_at {w:Nat → Int} {i:Nat} {v:Int}:upF w i v i = v:=by simp [upF]
theorem up_ne {w:Nat → Int} {i j:Nat} {v:Int} (h:j ≠ i):upF w i v j = w j:=by simp [upF,h]
theorem cn_le {u w : Nat → Int} {q : Int} : ∀ {n : Nat}, (∀ i, i < n → u i = q → w i = q) → cnF u q n ≤ cnF w q n
 | 0,_ => by simp [cnF]
 | n + 1, h => by
  have ih:=cn_le (n:=n) fun i hi => h i (by omega)
  have:=h n (by omega)
  simp only [cnF]
  by_cases c : u n = q
  ·rw [if_pos c,if_pos (this c)]; omega
  ·rw [if_neg c]; split <;> omega
theorem cn_lt {u w : Nat → Int} {q : Int} {j : Nat} : ∀ {n : Nat}, (∀ i, i < n → u i = q → w i = q) → j < n → u j ≠ q → w j = q → cnF u q n < cnF w q n
 | 0,_,h,_,_ => by omega
 | n + 1, h, hj, h1, h2 => by
  simp only [cnF]
  by_cases e : j = n
  ·subst e
   have:=cn_le (n:=j) fun i hi => h i (by omega)
   rw [if_neg h1,if_pos h2]; omega
  ·have ih:=cn_lt (n:=n) (fun i hi => h i (by omega)) (by omega) h1 h2
   have:=h n (by omega)
   by_cases c : u n = q
   ·rw [if_pos c,if_pos (this c)]; omega
   ·rw [if_neg c]; split <;> omega
theorem cn_eq {u w : Nat → Int} {q : Int} {n : Nat} (h : ∀ i, i < n → (u i = q ↔ w i = q)) : cnF u q n = cnF w q n := by
 have h1:=cn_le (u:=u) (w:=w) (q:=q) (n:=n) fun i hi => (h i hi).1
 have h2:=cn_le (u:=w) (w:=u) (q:=q) (n:=n) fun i hi => (h i hi).2
 omega
theorem cn_up {w : Nat → Int} {q v : Int} {i : Nat} : ∀ {n : Nat}, i < n → cnF (upF w i v) q n + (if w i = q then 1 else 0) = cnF w q n + if v = q then 1 else 0
 | 0,h => by omega
 | n + 1, h => by
  simp only [cnF]
  by_cases e : i = n
  ·subst e
   rw [up_at,cn_eq (u:=upF w i v) (w:=w) (n:=i) fun j hj => by rw [up_ne (by omega)]]
   split <;> split <;> omega
  ·have ih:=cn_up (w:=w) (q:=q) (v:=v) (i:=i) (n:=n) (by omega)
   rw [up_ne (Ne.symm e)]; omega
theorem cn_pos {w : Nat → Int} {q : Int} : ∀ {n : Nat}, 0 ≤ cnF w q n
 | 0 => by simp [cnF]
 | n + 1 => by have:=cn_pos (w:=w) (q:=q) (n:=n); simp only [cnF]; split <;> omega
theorem cn_zero {w : Nat → Int} {q : Int} : ∀ {n : Nat}, (∀ i, i < n → w i ≠ q) → cnF w q n = 0
 | 0,_ => rfl
 | n + 1, h => by
  simp only [cnF]
  rw [cn_zero fun i hi => h i (by omega),if_neg (h n (by omega))]; rfl
structure Sh (n c : Nat) (P Q : Nat → Nat → Int) : Prop where
 p0:∀ i k,i < n → k < c → 0 ≤ P i k ∧ P i k < c
 pj:∀ i k k',i < n → k < c → k' < c → P i k = P i k' → k = k'
 q0:∀ k i,k < c → i < n → 0 ≤ Q k i ∧ Q k i < n
 qj:∀ k i i',k < c → i < n → i' < n → Q k i = Q k i' → i = i'
def pvF (c:Nat) (P:Nat → Nat → Int) (i:Nat) (v:Int):Int:=if v < 0 then c else P i v.toNat
structure Stb (n c : Nat) (P Q : Nat → Nat → Int) (z w : Nat → Int) : Prop where
 bd:∀ i,i < n → -1 ≤ w i ∧ w i < c
 fz:∀ k:Nat,k < c → cnF w k n ≤ z k
 nb:∀ i k:Nat,i < n → k < c → P i k < pvF c P i (w i) → z k ≤ cnF w k n ∧ ∀ o,o < n → w o = k → ¬ Q k i < Q k o
section
variable {n c:Nat} {P Q:Nat → Nat → Int} {z l a w:Nat → Int}
theorem pv_at {i k:Nat}:pvF c P i (k:Nat) = P i k:=by unfold pvF; rw [if_neg (by omega),Int.toNat_natCast]
theorem pv_no {i:Nat} {v:Int} (h:v < 0):pvF c P i v = c:=if_pos h
theorem pv_le (S : Sh n c P Q) {i : Nat} {v : Int} (hi : i < n) (h : v < c) : 0 ≤ pvF c P i v ∧ pvF c P i v ≤ c := by
 by_cases e : v < 0
 ·rw [pv_no e]; omega
 ·obtain ⟨k,rfl⟩:∃ k:Nat,v = k:=⟨v.toNat,by omega⟩
  rw [pv_at]; have:=S.p0 i k hi (by omega); omega
theorem pv_inj (S : Sh n c P Q) {i : Nat} {u v : Int} (hi : i < n) (hu : -1 ≤ u ∧ u < c) (hv : -1 ≤ v ∧ v < c) (h : pvF c P i u = pvF c P i v) : u = v := by
 by_cases e : u < 0
 ·by_cases e2 : v < 0
  ·omega
  ·obtain ⟨k,rfl⟩:∃ k:Nat,v = k:=⟨v.toNat,by omega⟩
   rw [pv_no e,pv_at] at h; have:=S.p0 i k hi (by omega); omega
 ·obtain ⟨k,rfl⟩:∃ k:Nat,u = k:=⟨u.toNat,by omega⟩
  by_cases e2 : v < 0
  ·rw [pv_no e2,pv_at] at h; have:=S.p0 i k hi (by omega); omega
  ·obtain ⟨k',rfl⟩:∃ k:Nat,v = k:=⟨v.toNat,by omega⟩
   rw [pv_at,pv_at] at h
   have:=S.pj i k k' hi (by omega) (by omega) h
   omega
structure AI (n c : Nat) (P Q : Nat → Nat → Int) (z l a : Nat → Int) : Prop where
 bd:∀ i,i < n → -1 ≤ l i ∧ l i < c
 la:∀ i k:Nat,i < n → k < c → l i = k → P i k = a i - 1
 rej:∀ i k:Nat,i < n → k < c → P i k < a i → l i ≠ k → z k ≤ cnF l k n ∧ ∀ o,o < n → l o = k → Q k o < Q k i
 fz:∀ k:Nat,k < c → cnF l k n ≤ z k
 no:∀ w,Stb n c P Q z w → ∀ i k:Nat,i < n → k < c → P i k < a i → l i ≠ k → w i ≠ k
theorem ai_start (hz : ∀ k : Nat, k < c → 0 ≤ z k) (S : Sh n c P Q) : AI n c P Q z (fun _ => -1) (fun _ => 0) := by
 refine ⟨fun i hi => (show -1 ≤ (-1 : Int) ∧ (-1 : Int) < c by omega), fun i k hi hk (h : (-1 : Int) = k) => by omega, fun i k hi hk (h : P i k < 0) => ?_, fun k hk => ?_, fun w hw i k hi hk (h : P i k < 0) => ?_⟩
 ·have:=S.p0 i k hi hk; omega
 ·rw [cn_zero fun i hi => (show (-1:Int) ≠ k by omega)]; exact hz k hk
 ·have:=S.p0 i k hi hk; omega
theorem ai_in (S : Sh n c P Q) (I : AI n c P Q z l a) {i0 k0 : Nat} (hi : i0 < n) (hk : k0 < c) (hl : l i0 < 0) (hp : P i0 k0 = a i0) (hle : cnF (upF l i0 k0) k0 n ≤ z k0) : AI n c P Q z (upF l i0 k0) (upF a i0 (a i0 + 1)) := by
 have hup:=fun q:Int => cn_up (w:=l) (q:=q) (v:=(k0:Int)) (i:=i0) hi
 have hk0 : cnF l k0 n < z k0 := by
  have:=hup k0
  rw [if_neg (by omega),if_pos rfl] at this; omega
 have hsame : ∀ k : Nat, k ≠ k0 → cnF (upF l i0 k0) k n = cnF l k n := fun k h => by
  have:=hup k
  rw [if_neg (by omega),if_neg (by omega)] at this; omega
 have key : ∀ i k : Nat, i < n → k < c → P i k < upF a i0 (a i0 + 1) i → upF l i0 k0 i ≠ k → P i k < a i ∧ l i ≠ k := fun i k hi' hk' h h2 => by
  by_cases e : i = i0
  ·subst e
   rw [up_at] at h h2
   refine ⟨?_,by omega⟩
   refine Classical.byContradiction fun hn => h2 ?_
   have:=S.pj i k k0 hi' hk' hk (by omega)
   rw [this]
  ·rw [up_ne e] at h h2; exact ⟨h,h2⟩
 refine ⟨fun i hi' => ?_, fun i k hi' hk' h => ?_, fun i k hi' hk' h h2 => ?_, fun k hk' => ?_, fun w hw i k hi' hk' h h2 => ?_⟩
 ·by_cases e : i = i0
  ·rw [e,up_at]; omega
  ·rw [up_ne e]; exact I.bd i hi'
 ·by_cases e : i = i0
  ·subst e
   rw [up_at] at h ⊢
   have:k0 = k:=by omega
   subst this; omega
  ·rw [up_ne e] at h ⊢; exact I.la i k hi' hk' h
 ·obtain ⟨h3,h4⟩:=key i k hi' hk' h h2
  obtain ⟨r1,r2⟩:=I.rej i k hi' hk' h3 h4
  have hne:k ≠ k0:=fun e => by subst e; omega
  refine ⟨by rw [hsame k hne]; exact r1,fun o ho ho2 => r2 o ho ?_⟩
  by_cases e : o = i0
  ·rw [e,up_at] at ho2; omega
  ·rw [up_ne e] at ho2; exact ho2
 ·by_cases e : k = k0
  ·rw [e]; exact hle
  ·rw [hsame k e]; exact I.fz k hk'
 ·obtain ⟨h3,h4⟩:=key i k hi' hk' h h2
  exact I.no w hw i k hi' hk' h3 h4
theorem ai_out (S : Sh n c P Q) (I : AI n c P Q z l a) {i0 k0 r : Nat} (hi : i0 < n) (hk : k0 < c) (hl : l i0 < 0) (hp : P i0 k0 = a i0) (hgt : z k0 < cnF (upF l i0 k0) k0 n) (hr : r < n) (hrk : upF l i0 k0 r = k0) (hmax : ∀ o, o < n → upF l i0 k0 o = k0 → Q k0 o ≤ Q k0 r) :
  AI n c P Q z (upF (upF l i0 k0) r (-1)) (upF a i0 (a i0 + 1)):=by
 have hup:=fun q:Int => cn_up (w:=l) (q:=q) (v:=(k0:Int)) (i:=i0) hi
 have hup2:=fun q:Int => cn_up (w:=upF l i0 k0) (q:=q) (v:=(-1:Int)) (i:=r) hr
 have hz0:=I.fz k0 hk
 have hk1 : cnF (upF l i0 k0) k0 n = z k0 + 1 := by
  have:=hup k0
  rw [if_neg (by omega),if_pos rfl] at this; omega
 have hk2 : cnF (upF (upF l i0 k0) r (-1)) k0 n = z k0 := by
  have:=hup2 k0
  rw [if_pos hrk,if_neg (by omega)] at this; omega
 have hsame : ∀ k : Nat, k ≠ k0 → cnF (upF (upF l i0 k0) r (-1)) k n = cnF l k n := fun k h => by
  have h1:=hup k
  have h2:=hup2 k
  rw [if_neg (by omega),if_neg (by omega)] at h1
  rw [if_neg (by rw [hrk]; omega),if_neg (by omega)] at h2
  omega
 have hno : ∀ w, Stb n c P Q z w → w r ≠ k0 := fun w W hw => by
  have hex : ∃ o, o < n ∧ upF l i0 k0 o = k0 ∧ w o ≠ k0 := by
   refine Classical.byContradiction fun hn => ?_
   have:=cn_le (u:=upF l i0 k0) (w:=w) (q:=(k0:Int)) (n:=n) fun i hi' h => Classical.byContradiction fun h' => hn ⟨i,hi',h,h'⟩
   have:=W.fz k0 hk
   omega
  obtain ⟨o,ho,h1,h2⟩:=hex
  have hor:o ≠ r:=fun e => h2 (by rw [e]; exact hw)
  have hq : Q k0 o < Q k0 r := by
   have:=hmax o ho h1
   have:Q k0 o ≠ Q k0 r:=fun e => hor (S.qj k0 o r hk ho hr e)
   omega
  have hpo : P o k0 < pvF c P o (w o) := by
   have hb:=W.bd o ho
   by_cases e : w o < 0
   ·rw [pv_no e]; exact (S.p0 o k0 ho hk).2
   ·obtain ⟨q,hq'⟩:∃ q:Nat,w o = q:=⟨(w o).toNat,by omega⟩
    rw [hq',pv_at]
    rw [hq'] at hb h2
    have hne:P o k0 ≠ P o q:=fun e => h2 (by rw [S.pj o k0 q ho hk (by omega) e])
    refine Classical.byContradiction fun hn => ?_
    by_cases ei : o = i0
    ·subst ei
     exact I.no w W o q ho (by omega) (by omega) (by omega) hq'
    ·rw [up_ne ei] at h1
     have hla:=I.la o k0 ho hk h1
     exact I.no w W o q ho (by omega) (by omega) (by rw [h1]; exact fun e => h2 e.symm) hq'
  exact (W.nb o k0 ho hk hpo).2 r hr hw hq
 refine ⟨fun i hi' => ?_, fun i k hi' hk' h => ?_, fun i k hi' hk' h h2 => ?_, fun k hk' => ?_, fun w hw i k hi' hk' h h2 => ?_⟩
 ·by_cases e : i = r
  ·rw [e,up_at]; omega
  ·rw [up_ne e]
   by_cases e2 : i = i0
   ·rw [e2,up_at]; omega
   ·rw [up_ne e2]; exact I.bd i hi'
 ·by_cases e : i = r
  ·rw [e,up_at] at h; omega
  ·rw [up_ne e] at h
   by_cases e2 : i = i0
   ·subst e2
    rw [up_at] at h ⊢
    have:k0 = k:=by omega
    subst this; omega
   ·rw [up_ne e2] at h ⊢; exact I.la i k hi' hk' h
 ·by_cases ek : k = k0
  ·subst ek
   refine ⟨by omega,fun o ho ho2 => ?_⟩
   have hor:o ≠ r:=fun e => by rw [e,up_at] at ho2; omega
   rw [up_ne hor] at ho2
   have hqr : Q k o < Q k r := by
    have:=hmax o ho ho2
    have:Q k o ≠ Q k r:=fun e => hor (S.qj k o r hk' ho hr e)
    omega
   by_cases er : i = r
   ·rw [er]; exact hqr
   ·rw [up_ne er] at h2
    have hii:i ≠ i0:=fun e => h2 (by rw [e,up_at])
    rw [up_ne hii] at h h2
    have hrj:=(I.rej i k hi' hk' h h2).2
    by_cases eo : o = i0
    ·
     have hri:r ≠ i0:=fun e => hor (by rw [eo,e])
     rw [up_ne hri] at hrk
     have:=hrj r hr hrk
     omega
    ·rw [up_ne eo] at ho2; exact hrj o ho ho2
  ·have h3 : P i k < a i ∧ l i ≠ k := by
    by_cases e2 : i = i0
    ·subst e2
     rw [up_at] at h
     refine ⟨?_,by omega⟩
     refine Classical.byContradiction fun hn => ek ?_
     exact S.pj i k k0 hi' hk' hk (by omega)
    ·rw [up_ne e2] at h
     refine ⟨h,fun e => ?_⟩
     by_cases er : i = r
     ·subst er
      rw [up_ne e2] at hrk
      rw [hrk] at e; omega
     ·rw [up_ne er,up_ne e2] at h2; exact h2 e
   obtain ⟨r1,r2⟩:=I.rej i k hi' hk' h3.1 h3.2
   refine ⟨by rw [hsame k ek]; exact r1,fun o ho ho2 => r2 o ho ?_⟩
   by_cases er : o = r
   ·rw [er,up_at] at ho2; omega
   ·rw [up_ne er] at ho2
    by_cases e : o = i0
    ·rw [e,up_at] at ho2; omega
    ·rw [up_ne e] at ho2; exact ho2
 ·by_cases e : k = k0
  ·rw [e]; omega
  ·rw [hsame k e]; exact I.fz k hk'
 ·by_cases er : i = r
  ·by_cases ek : k = k0
   ·rw [er,ek]; exact hno w hw
   ·rw [er] at h ⊢
    rw [er] at hi'
    by_cases e2 : r = i0
    ·subst e2
     rw [up_at] at h
     refine I.no w hw r k hi' hk' ?_ (by omega)
     refine Classical.byContradiction fun hn => ek ?_
     exact S.pj r k k0 hi' hk' hk (by omega)
    ·rw [up_ne e2] at h hrk
     exact I.no w hw r k hi' hk' h (by rw [hrk]; omega)
  ·rw [up_ne er] at h2
   by_cases e2 : i = i0
   ·subst e2
    rw [up_at] at h h2
    refine I.no w hw i k hi' hk' ?_ (by omega)
    refine Classical.byContradiction fun hn => h2 ?_
    rw [S.pj i k k0 hi' hk' hk (by omega)]
   ·rw [up_ne e2] at h h2; exact I.no w hw i k hi' hk' h h2
theorem ai_end (S : Sh n c P Q) (I : AI n c P Q z l a) (hend : ∀ i, i < n → 0 ≤ l i ∨ (c : Int) ≤ a i) : Stb n c P Q z l ∧ ∀ w, Stb n c P Q z w → ∀ i, i < n → pvF c P i (l i) ≤ pvF c P i (w i) := by
 have hask : ∀ i k : Nat, i < n → k < c → P i k < pvF c P i (l i) → P i k < a i ∧ l i ≠ k := fun i k hi hk h => by
  have hb:=I.bd i hi
  by_cases e : l i < 0
  ·have:=(hend i hi).resolve_left (by omega)
   have:=S.p0 i k hi hk
   omega
  ·obtain ⟨q,hq⟩:∃ q:Nat,l i = q:=⟨(l i).toNat,by omega⟩
   rw [hq,pv_at] at h
   have:=I.la i q hi (by omega) hq
   refine ⟨by omega,fun e2 => ?_⟩
   rw [hq] at e2
   have:q = k:=by omega
   subst this; omega
 refine ⟨⟨I.bd, I.fz, fun i k hi hk h => ?_⟩, fun w W i hi => ?_⟩
 ·obtain ⟨h1,h2⟩:=hask i k hi hk h
  obtain ⟨r1,r2⟩:=I.rej i k hi hk h1 h2
  exact ⟨r1,fun o ho ho2 => by have:=r2 o ho ho2; omega⟩
 ·refine Classical.byContradiction fun hn => ?_
  have hb:=W.bd i hi
  have hlb:=I.bd i hi
  have hle:=pv_le S hi hlb.2
  have e:¬ w i < 0:=fun e => by rw [pv_no e] at hn; omega
  obtain ⟨q,hq⟩:∃ q:Nat,w i = q:=⟨(w i).toNat,by omega⟩
  rw [hq,pv_at] at hn
  obtain ⟨h1,h2⟩:=hask i q hi (by omega) (by omega)
  exact I.no w W i q hi (by omega) h1 h2 hq
end
section
variable {n c:Nat} {P Q:Nat → Nat → Int} {z l a w:Nat → Int}
structure BI (n c : Nat) (P Q : Nat → Nat → Int) (z l a : Nat → Int) : Prop where
 bd:∀ i,i < n → -1 ≤ l i ∧ l i < c
 fz:∀ k:Nat,k < c → cnF l k n ≤ z k
 j1:∀ i k:Nat,i < n → k < c → l i = k → Q k i < a k
 j2:∀ i k:Nat,i < n → k < c → Q k i < a k → l i ≠ k → pvF c P i (l i) < P i k
 j4:∀ w,Stb n c P Q z w → ∀ i k:Nat,i < n → k < c → Q k i < a k → l i ≠ k → w i ≠ k
theorem bi_start (hz : ∀ k : Nat, k < c → 0 ≤ z k) (S : Sh n c P Q) : BI n c P Q z (fun _ => -1) (fun _ => 0) := by
 refine ⟨fun i hi => (show -1 ≤ (-1 : Int) ∧ (-1 : Int) < c by omega), fun k hk => ?_, fun i k hi hk (h : (-1 : Int) = k) => by omega, fun i k hi hk (h : Q k i < 0) => ?_, fun w hw i k hi hk (h : Q k i < 0) => ?_⟩
 ·rw [cn_zero fun i hi => (show (-1:Int) ≠ k by omega)]; exact hz k hk
 ·have:=S.q0 k i hk hi; omega
 ·have:=S.q0 k i hk hi; omega
theorem bi_full (S : Sh n c P Q) (I : BI n c P Q z l a) (W : Stb n c P Q z w) {i k : Nat} (hi : i < n) (hk : k < c) (hp : P i k < pvF c P i (w i)) (hq : Q k i ≤ a k) : z k ≤ cnF w k n ∧ ∀ o, o < n → w o = k → l o = k := by
 obtain ⟨h1,h2⟩:=W.nb i k hi hk hp
 refine ⟨h1,fun o ho ho2 => ?_⟩
 have h3:=h2 o ho ho2
 have hne : o ≠ i := fun e => by
  rw [e] at ho2; rw [ho2,pv_at] at hp; omega
 have h4:Q k o ≠ Q k i:=fun e => hne (S.qj k o i hk ho hi e)
 refine Classical.byContradiction fun hn => I.j4 w W o k ho hk (by omega) hn ho2
theorem bi_step (S : Sh n c P Q) (I : BI n c P Q z l a) {i0 k0 : Nat} (hi : i0 < n) (hk : k0 < c) (hq : Q k0 i0 = a k0) (hroom : cnF l k0 n < z k0) {l' : Nat → Int} (hl' : l' = if P i0 k0 < pvF c P i0 (l i0) then upF l i0 k0 else l) : BI n c P Q z l' (upF a k0 (a k0 + 1)) := by
 have hl0:l i0 ≠ k0:=fun e => by have:=I.j1 i0 k0 hi hk e; omega
 have hlb:=I.bd i0 hi
 have hnew : ∀ i k : Nat, i < n → k < c → Q k i < upF a k0 (a k0 + 1) k → Q k i < a k ∨ (i = i0 ∧ k = k0) := fun i k hi' hk' h => by
  by_cases e : k = k0
  ·subst e
   rw [up_at] at h
   by_cases e2 : i = i0
   ·exact .inr ⟨e2,rfl⟩
   ·have:Q k i ≠ Q k i0:=fun e => e2 (S.qj k i i0 hk' hi' hi e)
    left; omega
  ·rw [up_ne e] at h; exact .inl h
 have hold : ∀ k : Nat, a k ≤ upF a k0 (a k0 + 1) k := fun k => by
  by_cases e : k = k0
  ·rw [e,up_at]; omega
  ·rw [up_ne e]; omega
 by_cases acc : P i0 k0 < pvF c P i0 (l i0)
 ·rw [if_pos acc] at hl'
  subst hl'
  have hup:=fun q:Int => cn_up (w:=l) (q:=q) (v:=(k0:Int)) (i:=i0) hi
  refine ⟨fun i hi' => ?_, fun k hk' => ?_, fun i k hi' hk' h => ?_, fun i k hi' hk' h h2 => ?_, fun w W i k hi' hk' h h2 => ?_⟩
  ·by_cases e : i = i0
   ·rw [e,up_at]; omega
   ·rw [up_ne e]; exact I.bd i hi'
  ·have h3:=hup k
   have h4:=I.fz k hk'
   by_cases e : k = k0
   ·subst e
    rw [if_neg hl0,if_pos rfl] at h3; omega
   ·rw [if_neg (show ¬ (k0:Int) = k by omega)] at h3
    split at h3 <;> omega
  ·by_cases e : i = i0
   ·subst e
    rw [up_at] at h
    have:k0 = k:=by omega
    subst this
    rw [up_at]; omega
   ·rw [up_ne e] at h
    have:=I.j1 i k hi' hk' h
    have:=hold k
    omega
  ·by_cases e : i = i0
   ·subst e
    rw [up_at] at h2 ⊢
    rw [pv_at]
    have hkk:k ≠ k0:=fun e => h2 (by rw [e])
    rcases hnew i k hi' hk' h with h3 | h3
    ·by_cases e2 : l i = k
     ·rw [e2,pv_at] at acc; exact acc
     ·have:=I.j2 i k hi' hk' h3 e2; omega
    ·exact absurd h3.2 hkk
   ·rw [up_ne e] at h2 ⊢
    rcases hnew i k hi' hk' h with h3 | h3
    ·exact I.j2 i k hi' hk' h3 h2
    ·exact absurd h3.1 e
  ·by_cases e : i = i0
   ·subst e
    rw [up_at] at h2
    have hkk:k ≠ k0:=fun e => h2 (by rw [e])
    rcases hnew i k hi' hk' h with h3 | h3
    ·by_cases e2 : l i = k
     ·
      intro hw
      rw [e2,← hw] at acc
      obtain ⟨f1,f2⟩:=bi_full S I W hi hk acc (by omega)
      have:=cn_le (u:=w) (w:=l) (q:=(k0:Int)) (n:=n) f2
      omega
     ·exact I.j4 w W i k hi' hk' h3 e2
    ·exact absurd h3.2 hkk
   ·rw [up_ne e] at h2
    rcases hnew i k hi' hk' h with h3 | h3
    ·exact I.j4 w W i k hi' hk' h3 h2
    ·exact absurd h3.1 e
 ·rw [if_neg acc] at hl'
  subst hl'
  have hlt : pvF c P i0 (l' i0) < P i0 k0 := by
   have:pvF c P i0 (l' i0) ≠ P i0 k0:=fun e => hl0 (pv_inj S hi hlb (by omega) (by rw [e,pv_at]))
   omega
  refine ⟨I.bd, I.fz, fun i k hi' hk' h => ?_, fun i k hi' hk' h h2 => ?_, fun w W i k hi' hk' h h2 => ?_⟩
  ·have:=I.j1 i k hi' hk' h
   have:=hold k
   omega
  ·rcases hnew i k hi' hk' h with h3 | ⟨rfl, rfl⟩
   ·exact I.j2 i k hi' hk' h3 h2
   ·exact hlt
  ·rcases hnew i k hi' hk' h with h3 | ⟨rfl, rfl⟩
   ·exact I.j4 w W i k hi' hk' h3 h2
   ·intro hw
    have hkb:=S.p0 i k hi' hk'
    have e:¬ l' i < 0:=fun e => by rw [pv_no e] at hlt; omega
    obtain ⟨q,hq'⟩:∃ q:Nat,l' i = q:=⟨(l' i).toNat,by omega⟩
    have hqc:q < c:=by omega
    rw [hq',pv_at] at hlt
    have hj:=I.j1 i q hi' hqc hq'
    obtain ⟨f1,f2⟩:=bi_full S I W hi' hqc (by rw [hw,pv_at]; exact hlt) (by omega)
    have hkq:k ≠ q:=fun e => by subst e; omega
    have:=cn_lt (u:=w) (w:=l') (q:=(q:Int)) (n:=n) (j:=i) f2 hi' (by rw [hw]; omega) hq'
    have:=I.fz q hqc
    omega
theorem bi_end (S : Sh n c P Q) (I : BI n c P Q z l a) (hend : ∀ k : Nat, k < c → z k ≤ cnF l k n ∨ (n : Int) ≤ a k) : Stb n c P Q z l ∧ ∀ w, Stb n c P Q z w → ∀ i, i < n → pvF c P i (w i) ≤ pvF c P i (l i) := by
 have hno : ∀ i k : Nat, i < n → k < c → P i k < pvF c P i (l i) → a k ≤ Q k i := fun i k hi hk h => by
  refine Classical.byContradiction fun hn => ?_
  by_cases e : l i = k
  ·rw [e,pv_at] at h; omega
  ·have:=I.j2 i k hi hk (by omega) e; omega
 refine ⟨⟨I.bd, I.fz, fun i k hi hk h => ?_⟩, fun w W i hi => ?_⟩
 ·have h1:=hno i k hi hk h
  have:=S.q0 k i hk hi
  refine ⟨(hend k hk).resolve_right (by omega),fun o ho ho2 => ?_⟩
  have:=I.j1 o k ho hk ho2
  omega
 ·refine Classical.byContradiction fun hn => ?_
  have hlb:=I.bd i hi
  have hwb:=W.bd i hi
  have hle:=pv_le S hi hwb.2
  have e:¬ l i < 0:=fun e => by rw [pv_no e] at hn; omega
  obtain ⟨q,hq⟩:∃ q:Nat,l i = q:=⟨(l i).toNat,by omega⟩
  have hqc:q < c:=by omega
  rw [hq,pv_at] at hn
  have hj:=I.j1 i q hi hqc hq
  obtain ⟨f1,f2⟩:=bi_full S I W hi hqc (by omega) (by omega)
  have:=cn_lt (u:=w) (w:=l) (q:=(q:Int)) (n:=n) (j:=i) f2 hi (fun e => by rw [e,pv_at] at hn; omega) hq
  have:=I.fz q hqc
  omega
end
def mtF (w : Nat → Int) : Nat → Int
 | 0 => 0
 | k + 1 => mtF w k + if 0 ≤ w k then 1 else 0
def sumC (f : Nat → Int) : Nat → Int
 | 0 => 0
 | k + 1 => sumC f k + f k
theorem sumC_le {f g : Nat → Int} : ∀ {k : Nat}, (∀ q, q < k → f q ≤ g q) → sumC f k ≤ sumC g k
 | 0,_ => by simp [sumC]
 | k + 1,h => by have:=sumC_le (k:=k) fun q hq => h q (by omega); have:=h k (by omega); simp only [sumC]; omega
theorem sumC_eq {f g : Nat → Int} : ∀ {k : Nat}, (∀ q, q < k → f q ≤ g q) → sumC g k ≤ sumC f k → ∀ q, q < k → f q = g q
 | 0,_,_,q,hq => by omega
 | k + 1, h, hs, q, hq => by
  have h1:=sumC_le (k:=k) fun q hq => h q (by omega)
  have h2:=h k (by omega)
  simp only [sumC] at hs
  by_cases e : q = k
  ·subst e; omega
  ·exact sumC_eq (k:=k) (fun q hq => h q (by omega)) (by omega) q (by omega)
theorem sumC_add {f g : Nat → Int} : ∀ {k : Nat}, sumC (fun q => f q + g q) k = sumC f k + sumC g k
 | 0 => rfl
 | k + 1 => by simp only [sumC]; rw [sumC_add (k:=k)]; omega
theorem sumC_one {v : Int} : ∀ {c : Nat}, v < c → -1 ≤ v → sumC (fun q => if v = q then 1 else 0) c = if 0 ≤ v then 1 else 0
 | 0,h,h1 => by simp [sumC]; omega
 | c + 1, h, h1 => by
  simp only [sumC]
  by_cases e : v = c
  ·have : sumC (fun q => if v = q then 1 else 0) c = 0 := by
    have : ∀ k, k ≤ c → sumC (fun q => if v = q then 1 else 0) k = 0 := fun k => by
     induction k with
     | zero => intro _; rfl
     | succ k ih => intro hk; simp only [sumC]; rw [ih (by omega),if_neg (by omega)]; rfl
    exact this c (Nat.le_refl _)
   rw [this,if_pos e,if_pos (by omega)]; rfl
  ·rw [sumC_one (c:=c) (by omega) h1,if_neg e]; omega
theorem sumC_cn {w : Nat → Int} {c : Nat} : ∀ {n : Nat}, (∀ i, i < n → -1 ≤ w i ∧ w i < c) → sumC (fun q => cnF w q n) c = mtF w n
 | 0, _ => by
  have : ∀ k, sumC (fun q => cnF w q 0) k = 0 := fun k => by
   induction k with
   | zero => rfl
   | succ k ih => simp only [sumC]; rw [ih]; rfl
  exact this c
 | n + 1, h => by
  simp only [cnF,mtF]
  rw [sumC_add,sumC_cn fun i hi => h i (by omega),sumC_one (h n (by omega)).2 (h n (by omega)).1]
theorem mt_le {u w : Nat → Int} : ∀ {n : Nat}, (∀ i, i < n → 0 ≤ u i → 0 ≤ w i) → mtF u n ≤ mtF w n
 | 0,_ => by simp [mtF]
 | n + 1, h => by
  have:=mt_le (n:=n) fun i hi => h i (by omega)
  have:=h n (by omega)
  simp only [mtF]
  by_cases e : 0 ≤ u n
  ·rw [if_pos e,if_pos (this e)]; omega
  ·rw [if_neg e]; split <;> omega
theorem mt_eq {u w : Nat → Int} : ∀ {n : Nat}, (∀ i, i < n → 0 ≤ u i → 0 ≤ w i) → mtF w n ≤ mtF u n → ∀ i, i < n → 0 ≤ w i → 0 ≤ u i
 | 0,_,_,i,hi => by omega
 | n + 1, h, hm, i, hi => by
  have h1:=mt_le (n:=n) fun i hi => h i (by omega)
  have h2:=h n (by omega)
  simp only [mtF] at hm
  by_cases e : i = n
  ·subst e
   intro hw
   refine Classical.byContradiction fun hn => ?_
   rw [if_pos hw,if_neg hn] at hm; omega
  ·refine mt_eq (n:=n) (fun i hi => h i (by omega)) ?_ i (by omega)
   by_cases eu : 0 ≤ u n
   ·rw [if_pos eu,if_pos (h2 eu)] at hm; omega
   ·rw [if_neg eu] at hm; split at hm <;> omega
theorem rural {n c : Nat} {P Q : Nat → Nat → Int} {z a w : Nat → Int} (S : Sh n c P Q) (A : Stb n c P Q z a) (W : Stb n c P Q z w) (best : ∀ i, i < n → pvF c P i (a i) ≤ pvF c P i (w i)) :
  (∀ k:Nat,k < c → cnF a k n = cnF w k n) ∧ ∀ i,i < n → (0 ≤ a i ↔ 0 ≤ w i):=by
 have h1 : ∀ i, i < n → 0 ≤ w i → 0 ≤ a i := fun i hi hw => by
  refine Classical.byContradiction fun hn => ?_
  have h2:=best i hi
  have hwb:=W.bd i hi
  obtain ⟨q,hq⟩:∃ q:Nat,w i = q:=⟨(w i).toNat,by omega⟩
  rw [pv_no (by omega),hq,pv_at] at h2
  have:=S.p0 i q hi (by omega)
  omega
 have h2 : ∀ k : Nat, k < c → cnF a k n ≤ cnF w k n := fun k hk => by
  refine Classical.byContradiction fun hn => ?_
  have hex : ∃ i, i < n ∧ a i = k ∧ w i ≠ k := by
   refine Classical.byContradiction fun hno => hn ?_
   exact cn_le fun i hi h => Classical.byContradiction fun h' => hno ⟨i,hi,h,h'⟩
  obtain ⟨i,hi,e1,e2⟩:=hex
  have hb:=best i hi
  have hne:pvF c P i (a i) ≠ pvF c P i (w i):=fun e => e2 (by rw [← pv_inj S hi (A.bd i hi) (W.bd i hi) e]; exact e1)
  rw [e1,pv_at] at hb hne
  have:=(W.nb i k hi hk (by omega)).1
  have:=A.fz k hk
  omega
 have ma:=sumC_cn (w:=a) (c:=c) (n:=n) A.bd
 have mw:=sumC_cn (w:=w) (c:=c) (n:=n) W.bd
 have hm:=mt_le h1
 have hs:=sumC_le (f:=fun q:Nat => cnF a q n) (g:=fun q:Nat => cnF w q n) h2
 refine ⟨sumC_eq (f:=fun q:Nat => cnF a q n) (g:=fun q:Nat => cnF w q n) h2 (by omega),fun i hi => ⟨mt_eq h1 (by omega) i hi,h1 i hi⟩⟩
end Go.Proofs.Ytgdpplhbblapgaa
