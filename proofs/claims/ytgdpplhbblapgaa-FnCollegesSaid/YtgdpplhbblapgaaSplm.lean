/- Own work: contracts of functions. No condition beyond those that each theorem names. -/
import Derived.Test.YtgdpplhbblapgaaProg
import Derived.Test.YtgdpplhbblapgaaDasm
namespace Go.Proofs.Ytgdpplhbblapgaa
open Go Go.Vc
set_option maxRecDepth 100000
set_option linter.unusedSimpArgs false
set_option linter.unusedVariables false
theorem cn_or {u w : Nat → Int} {q a b : Int} : ∀ {n : Nat}, (∀ i, i < n → u i = q → w i = a ∨ w i = b) → cnF u q n ≤ cnF w a n + cnF w b n
 | 0,_ => by simp [cnF]
 | n + 1, h => by
  have ih:=cn_or (n:=n) fun i hi => h i (by omega)
  have:=h n (by omega)
  simp only [cnF]
  by_cases c : u n = q
  ·rw [if_pos c]
   rcases this c with e | e
   ·rw [if_pos e]; split <;> omega
   ·rw [if_pos e]; split <;> omega
  ·rw [if_neg c]; split <;> split <;> omega
theorem cn_two {u w : Nat → Int} {q a b : Int} (hab : a ≠ b) : ∀ {n : Nat}, (∀ i, i < n → w i = a ∨ w i = b → u i = q) → cnF w a n + cnF w b n ≤ cnF u q n
 | 0,_ => by simp [cnF]
 | n + 1, h => by
  have ih:=cn_two hab (n:=n) fun i hi => h i (by omega)
  have:=h n (by omega)
  simp only [cnF]
  by_cases c : w n = a
  ·rw [if_pos c,if_neg (by omega),if_pos (this (.inl c))]; omega
  ·rw [if_neg c]
   by_cases c2 : w n = b
   ·rw [if_pos c2,if_pos (this (.inr c2))]; omega
   ·rw [if_neg c2]; split <;> omega
theorem cn_ex {w : Nat → Int} {q : Int} {n : Nat} (h : 1 ≤ cnF w q n) : ∃ i, i < n ∧ w i = q := by
 refine Classical.byContradiction fun hn => ?_
 rw [cn_zero fun i hi e => hn ⟨i,hi,e⟩] at h; omega
theorem cn_one {w : Nat → Int} {q : Int} {n i : Nat} (hi : i < n) (h : w i = q) : 1 ≤ cnF w q n := by
 have:=cn_lt (u:=fun _ => q + 1) (w:=w) (q:=q) (n:=n) (j:=i) (fun o _ (h:q + 1 = q) => by omega) hi (show q + 1 ≠ q by omega) h
 have:=cn_pos (w:=fun _ => q + 1) (q:=q) (n:=n)
 omega
theorem cn_mul {w : Nat → Int} {q : Int} {n i j : Nat} (hi : i < n) (hj : j < n) (hij : i ≠ j) (h : w i = q) (h2 : w j = q) : 2 ≤ cnF w q n := by
 have h3:=cn_up (w:=w) (q:=q) (v:=q - 1) (i:=i) hi
 rw [if_pos h,if_neg (by omega)] at h3
 have:=cn_one (w:=upF w i (q - 1)) (q:=q) hj (by rw [up_ne (Ne.symm hij)]; exact h2)
 omega
theorem cn_tri {w : Nat → Int} {q : Int} {n i j o : Nat} (hi : i < n) (hj : j < n) (ho : o < n) (hij : i ≠ j) (hio : i ≠ o) (hjo : j ≠ o) (h : w i = q) (h2 : w j = q) (h3 : w o = q) : 3 ≤ cnF w q n := by
 have h4:=cn_up (w:=w) (q:=q) (v:=q - 1) (i:=i) hi
 rw [if_pos h,if_neg (by omega)] at h4
 have:=cn_mul (w:=upF w i (q - 1)) (q:=q) hj ho hjo (by rw [up_ne (Ne.symm hij)]; exact h2) (by rw [up_ne (Ne.symm hio)]; exact h3)
 omega
theorem cn_uniq {w : Nat → Int} {q : Int} {n i j : Nat} (hi : i < n) (hj : j < n) (h : w i = q) (h2 : w j = q) (h3 : cnF w q n ≤ 1) : i = j := by
 refine Classical.byContradiction fun hij => ?_
 have:=cn_mul hi hj hij h h2; omega
theorem cn_ex2 {w : Nat → Int} {q : Int} {n : Nat} (h : 2 ≤ cnF w q n) : ∃ i j, i < n ∧ j < n ∧ i ≠ j ∧ w i = q ∧ w j = q := by
 obtain ⟨i,hi,e⟩:=cn_ex (w:=w) (q:=q) (n:=n) (by omega)
 have h3:=cn_up (w:=w) (q:=q) (v:=q - 1) (i:=i) hi
 rw [if_pos e,if_neg (by omega)] at h3
 obtain ⟨j,hj,e2⟩:=cn_ex (w:=upF w i (q - 1)) (q:=q) (n:=n) (by omega)
 by_cases c : j = i
 ·rw [c,up_at] at e2; omega
 ·rw [up_ne c] at e2; exact ⟨i,j,hi,hj,Ne.symm c,e,e2⟩
theorem cn_min {w : Nat → Int} {q : Int} {f : Nat → Int} : ∀ {n : Nat}, (∃ i, i < n ∧ w i = q) → ∃ i, i < n ∧ w i = q ∧ ∀ j, j < n → w j = q → f i ≤ f j
 | 0,h => by obtain ⟨i,hi,_⟩:=h; omega
 | n + 1, h => by
  by_cases hn : ∃ i, i < n ∧ w i = q
  ·obtain ⟨i,hi,e,hm⟩:=cn_min (f:=f) hn
   by_cases c : w n = q ∧ f n < f i
   ·refine ⟨n,by omega,c.1,fun j hj ej => ?_⟩
    by_cases e2 : j = n
    ·rw [e2]; omega
    ·have:=hm j (by omega) ej; omega
   ·refine ⟨i,by omega,e,fun j hj ej => ?_⟩
    by_cases e2 : j = n
    ·subst e2
     have:¬ f j < f i:=fun h => c ⟨ej,h⟩
     omega
    ·exact hm j (by omega) ej
  ·obtain ⟨i,hi,e⟩:=h
   have hin:i = n:=Classical.byContradiction fun h => hn ⟨i,by omega,e⟩
   subst hin
   refine ⟨i,by omega,e,fun j hj ej => ?_⟩
   by_cases e2 : j = i
   ·rw [e2]; omega
   ·exact absurd ⟨j,by omega,ej⟩ hn
def smF (w : Nat → Int) (q : Int) (f : Nat → Int) (i : Nat) : Nat → Int
 | 0 => 0
 | k + 1 => smF w q f i k + if w k = q ∧ f k < f i then 1 else 0
theorem sm_pos {w : Nat → Int} {q : Int} {f : Nat → Int} {i : Nat} : ∀ {n : Nat}, 0 ≤ smF w q f i n ∧ (0 < smF w q f i n ↔ ∃ o, o < n ∧ w o = q ∧ f o < f i)
 | 0 => by
  refine ⟨by simp [smF],by simp [smF],fun ⟨o,ho,_⟩ => by omega⟩
 | n + 1 => by
  obtain ⟨h1,h2⟩:=sm_pos (w:=w) (q:=q) (f:=f) (i:=i) (n:=n)
  simp only [smF]
  by_cases c : w n = q ∧ f n < f i
  ·rw [if_pos c]
   exact ⟨by omega,fun _ => ⟨n,by omega,c⟩,fun _ => by omega⟩
  ·rw [if_neg c]
   refine ⟨by omega, fun h => ?_, fun ⟨o, ho, e⟩ => ?_⟩
   ·obtain ⟨o,ho,e⟩:=h2.1 (by omega)
    exact ⟨o,by omega,e⟩
   ·by_cases e2 : o = n
    ·subst e2; exact absurd e c
    ·have:=h2.2 ⟨o,by omega,e⟩; omega
structure Spl (n c m : Nat) (P Q P' Q' : Nat → Nat → Int) (z : Nat → Int) (col off : Nat → Nat) : Prop where
 co:∀ p,p < m → col p < c
 o1:∀ p,p < m → p = off (col p) ∨ (p = off (col p) + 1 ∧ z (col p) = 2)
 o2:∀ k,k < c → 1 ≤ z k → off k < m ∧ col (off k) = k
 o3:∀ k,k < c → z k = 2 → off k + 1 < m ∧ col (off k + 1) = k
 z2:∀ k,k < c → z k = 0 ∨ z k = 1 ∨ z k = 2
 z1:∀ p,p < m → 1 ≤ z (col p)
 pp:∀ i p p',i < n → p < m → p' < m → (P' i p < P' i p' ↔ P i (col p) < P i (col p') ∨ (col p = col p' ∧ p < p'))
 pb:∀ i p,i < n → p < m → P' i p < m
 qq:∀ p i,p < m → i < n → Q' p i = Q (col p) i
def phF (col:Nat → Nat) (w:Nat → Int):Nat → Int:=fun i => if w i < 0 then -1 else (col (w i).toNat:Nat)
def psF2 (n:Nat) (Q:Nat → Nat → Int) (off:Nat → Nat) (w:Nat → Int):Nat → Int:=fun i => if w i < 0 then -1 else (off (w i).toNat:Nat) + if 0 < smF w (w i) (Q (w i).toNat) i n then 1 else 0
section
variable {n c m:Nat} {P Q P' Q':Nat → Nat → Int} {z w u:Nat → Int} {col off:Nat → Nat}
theorem ph_at {i p:Nat} (h:w i = (p:Nat)):phF col w i = (col p:Nat):=by unfold phF; rw [if_neg (by omega),h,Int.toNat_natCast]
theorem ph_no {i:Nat} (h:w i < 0):phF col w i = -1:=if_pos h
theorem ph_of (S : Spl n c m P Q P' Q' z col off) (hb : ∀ i, i < n → -1 ≤ w i ∧ w i < m) {i k : Nat} (hi : i < n) (h : phF col w i = k) : ∃ p : Nat, p < m ∧ w i = p ∧ col p = k := by
 have:=hb i hi
 by_cases e : w i < 0
 ·rw [ph_no e] at h; omega
 ·obtain ⟨p,hp⟩:∃ p:Nat,w i = p:=⟨(w i).toNat,by omega⟩
  rw [ph_at hp] at h
  exact ⟨p,by omega,hp,by omega⟩
theorem ph_two (S : Spl n c m P Q P' Q' z col off) (hb : ∀ i, i < n → -1 ≤ w i ∧ w i < m) {i k : Nat} (hi : i < n) (h : phF col w i = k) : w i = off k ∨ (w i = off k + 1 ∧ z k = 2) := by
 obtain ⟨p,hp,e,ec⟩:=ph_of S hb hi h
 rcases S.o1 p hp with h1 | ⟨h1, h2⟩
 ·left; rw [ec] at h1; omega
 ·right; rw [ec] at h1 h2; exact ⟨by omega,h2⟩
theorem ph_stb (S : Spl n c m P Q P' Q' z col off) (H : Sh n c P Q) (W : Stb n m P' Q' (fun _ => 1) w) : Stb n c P Q z (phF col w) := by
 have hb:=W.bd
 refine ⟨fun i hi => ?_, fun k hk => ?_, fun i k hi hk h => ?_⟩
 ·have:=hb i hi
  by_cases e : w i < 0
  ·rw [ph_no e]; omega
  ·obtain ⟨p,hp⟩:∃ p:Nat,w i = p:=⟨(w i).toNat,by omega⟩
   rw [ph_at hp]
   have:=S.co p (by omega); omega
 ·rcases S.z2 k hk with e | e | e
  ·rw [cn_zero fun i hi h => ?_]; omega
   obtain ⟨p,hp,_,ec⟩:=ph_of S hb hi h
   have:=S.z1 p hp
   rw [ec] at this; omega
  ·have h1:=cn_le (u:=phF col w) (w:=w) (q:=(k:Int)) (n:=n)
   have h2:cnF (phF col w) k n ≤ cnF w (off k:Nat) n + cnF w (off k:Nat) n:=cn_or fun i hi h => .inl ((ph_two S hb hi h).resolve_right fun h => by omega)
   have h3:=W.fz (off k) (S.o2 k hk (by omega)).1
   have h4 : cnF (phF col w) k n ≤ cnF w (off k : Nat) n := by
    refine Classical.byContradiction fun hn => ?_
    have hex : 2 ≤ cnF (phF col w) k n := by
     have:=cn_pos (w:=w) (q:=(off k:Nat)) (n:=n)
     refine Classical.byContradiction fun h5 => ?_
     have h6:1 ≤ cnF (phF col w) k n:=by omega
     obtain ⟨i,hi,ei⟩:=cn_ex h6
     have:=(ph_two S hb hi ei).resolve_right fun h => by omega
     have:=cn_one hi this
     omega
    obtain ⟨i,j,hi,hj,hij,ei,ej⟩:=cn_ex2 hex
    have e1:=(ph_two S hb hi ei).resolve_right fun h => by omega
    have e2:=(ph_two S hb hj ej).resolve_right fun h => by omega
    exact hij (cn_uniq hi hj e1 e2 h3)
   have h3:cnF w (off k:Nat) n ≤ 1:=h3
   omega
  ·have h1 : cnF (phF col w) k n ≤ cnF w (off k : Nat) n + cnF w ((off k + 1 : Nat) : Int) n := cn_or fun i hi h => by
    rcases ph_two S hb hi h with h | h
    ·exact .inl h
    ·right; omega
   have h2:cnF w (off k:Nat) n ≤ 1:=W.fz (off k) (S.o2 k hk (by omega)).1
   have h3:cnF w ((off k + 1:Nat):Int) n ≤ 1:=W.fz (off k + 1) (S.o3 k hk e).1
   omega
 ·have key : ∀ p, p < m → col p = k → 1 ≤ cnF w (p : Nat) n ∧ ∀ o, o < n → w o = p → ¬ Q k i < Q k o := fun p hp ec => by
   have hlt : P' i p < pvF m P' i (w i) := by
    have hbi:=hb i hi
    by_cases e : w i < 0
    ·rw [pv_no e]; exact S.pb i p hi hp
    ·obtain ⟨p',hp'⟩:∃ p:Nat,w i = p:=⟨(w i).toNat,by omega⟩
     rw [ph_at hp',pv_at] at h
     rw [hp',pv_at]
     exact (S.pp i p p' hi hp (by omega)).2 (.inl (by rw [ec]; exact h))
   obtain ⟨h1,h2⟩:=W.nb i p hi hp hlt
   refine ⟨h1,fun o ho eo => ?_⟩
   have:=h2 o ho eo
   rw [S.qq p i hp hi,S.qq p o hp ho,ec] at this
   exact this
  refine ⟨?_, fun o ho eo => ?_⟩
  ·rcases S.z2 k hk with e | e | e
   ·have:=cn_pos (w:=phF col w) (q:=(k:Int)) (n:=n); omega
   ·obtain ⟨f1,f2⟩:=S.o2 k hk (by omega)
    have:=(key (off k) f1 f2).1
    have:=cn_le (u:=fun j => if w j = (off k:Nat) then (k:Int) else k + 1) (w:=phF col w) (q:=(k:Int)) (n:=n)
    obtain ⟨j,hj,ej⟩:=cn_ex (key (off k) f1 f2).1
    have:=cn_one (w:=phF col w) hj (q:=(k:Int)) (by rw [ph_at ej,f2])
    omega
   ·obtain ⟨f1,f2⟩:=S.o2 k hk (by omega)
    obtain ⟨g1,g2⟩:=S.o3 k hk e
    have a1:=(key (off k) f1 f2).1
    have a2:=(key (off k + 1) g1 g2).1
    have := cn_two (u := phF col w) (w := w) (q := (k : Int)) (a := (off k : Nat)) (b := ((off k + 1 : Nat) : Int)) (by omega) (n := n) fun j hj h => by
     rcases h with h | h
     ·rw [ph_at h,f2]
     ·rw [ph_at h,g2]
    omega
  ·obtain ⟨p,hp,e,ec⟩:=ph_of S hb ho eo
   exact (key p hp ec).2 o ho e
theorem ph_ord (S : Spl n c m P Q P' Q' z col off) (W : Stb n m P' Q' (fun _ => 1) w) (H : Sh n c P Q) {i k : Nat} (hi : i < n) (hk : k < c) (hz : z k = 2) (h : w i = off k + 1) : ∃ o, o < n ∧ w o = off k ∧ Q k o < Q k i := by
 obtain ⟨f1,f2⟩:=S.o2 k hk (by omega)
 obtain ⟨g1,g2⟩:=S.o3 k hk hz
 have e:w i = ((off k + 1:Nat):Int):=by omega
 have hlt : P' i (off k) < pvF m P' i (w i) := by
  rw [e,pv_at]
  exact (S.pp i (off k) (off k + 1) hi f1 g1).2 (.inr ⟨by rw [f2,g2],by omega⟩)
 obtain ⟨h1,h2⟩:=W.nb i (off k) hi f1 hlt
 obtain ⟨o,ho,eo⟩:=cn_ex h1
 have h3:=h2 o ho eo
 rw [S.qq _ i f1 hi,S.qq _ o f1 ho,f2] at h3
 have : Q k o ≠ Q k i := fun e2 => by
  have:=H.qj k o i hk ho hi e2
  subst this; omega
 exact ⟨o,ho,eo,by omega⟩
theorem ph_inj (S : Spl n c m P Q P' Q' z col off) (H : Sh n c P Q) (W : Stb n m P' Q' (fun _ => 1) w) (U : Stb n m P' Q' (fun _ => 1) u) (h : ∀ i, i < n → phF col w i = phF col u i) : ∀ i, i < n → w i = u i := by
 have key : ∀ {w u : Nat → Int}, Stb n m P' Q' (fun _ => 1) w → Stb n m P' Q' (fun _ => 1) u → (∀ i, i < n → phF col w i = phF col u i) → ∀ {i k : Nat}, i < n → k < c → z k = 2 → w i = off k → u i = off k + 1 → False := fun {w u} W U h {i k} hi hk hz e1 e2 => by
  obtain ⟨f1,f2⟩:=S.o2 k hk (by omega)
  obtain ⟨o,ho,eo,hq⟩:=ph_ord S U H hi hk hz e2
  have hpo:phF col w o = k:=by rw [h o ho,ph_at (p:=off k) eo,f2]
  have hoi:o ≠ i:=fun e => by subst e; omega
  have hw1:cnF w (off k:Nat) n ≤ 1:=W.fz (off k) f1
  rcases ph_two S W.bd ho hpo with e | ⟨e, _⟩
  ·exact hoi (cn_uniq ho hi e e1 hw1)
  ·obtain ⟨o',ho',eo',hq'⟩:=ph_ord S W H ho hk hz e
   have:=cn_uniq ho' hi eo' e1 hw1
   subst this; omega
 intro i hi
 have hwb:=W.bd i hi
 have hub:=U.bd i hi
 have hh:=h i hi
 by_cases e : w i < 0
 ·by_cases e2 : u i < 0
  ·omega
  ·obtain ⟨p,hp⟩:∃ p:Nat,u i = p:=⟨(u i).toNat,by omega⟩
   rw [ph_no e,ph_at hp] at hh; omega
 ·obtain ⟨p,hp⟩:∃ p:Nat,w i = p:=⟨(w i).toNat,by omega⟩
  have hk:=S.co p (by omega)
  have h1:phF col w i = (col p:Nat):=ph_at hp
  have h2:phF col u i = (col p:Nat):=by rw [← hh]; exact h1
  rcases ph_two S W.bd hi h1 with a | ⟨a, az⟩
  ·rcases ph_two S U.bd hi h2 with b | ⟨b, bz⟩
   ·omega
   ·exact (key W U h hi hk bz a b).elim
  ·rcases ph_two S U.bd hi h2 with b | ⟨b, bz⟩
   ·exact (key U W (fun i hi => (h i hi).symm) hi hk az b a).elim
   ·omega
theorem ps_no {i:Nat} (h:w i < 0):psF2 n Q off w i = -1:=if_pos h
theorem ps_at {i k : Nat} (h : w i = (k : Nat)) : psF2 n Q off w i = (off k : Nat) + if 0 < smF w (k : Nat) (Q k) i n then 1 else 0 := by
 unfold psF2
 rw [if_neg (by omega),h,Int.toNat_natCast]
theorem ph_ps (S : Spl n c m P Q P' Q' z col off) (H : Sh n c P Q) (W : Stb n c P Q z w) {i : Nat} (hi : i < n) : (∃ p : Nat, p < m ∧ psF2 n Q off w i = p ∧ w i = (col p : Nat)) ∨ (psF2 n Q off w i = -1 ∧ w i = -1) := by
 have hb:=W.bd i hi
 by_cases e : w i < 0
 ·exact .inr ⟨ps_no e,by omega⟩
 ·obtain ⟨k,hk⟩:∃ k:Nat,w i = k:=⟨(w i).toNat,by omega⟩
  have hkc:k < c:=by omega
  have h1:=cn_one hi hk
  have h2:=W.fz k hkc
  obtain ⟨f1,f2⟩:=S.o2 k hkc (by omega)
  left
  rw [ps_at hk]
  by_cases hs : 0 < smF w (k : Nat) (Q k) i n
  ·obtain ⟨o,ho,eo,hq⟩:=sm_pos.2.1 hs
   have hoi:o ≠ i:=fun e => by subst e; omega
   have:=cn_mul ho hi hoi eo hk
   have hz2:z k = 2:=by have:=S.z2 k hkc; omega
   obtain ⟨g1,g2⟩:=S.o3 k hkc hz2
   exact ⟨off k + 1,g1,by rw [if_pos hs]; omega,by rw [g2]; exact hk⟩
  ·exact ⟨off k,f1,by rw [if_neg hs]; omega,by rw [f2]; exact hk⟩
theorem ps_stb (S : Spl n c m P Q P' Q' z col off) (H : Sh n c P Q) (W : Stb n c P Q z w) : Stb n m P' Q' (fun _ => 1) (psF2 n Q off w) := by
 have hback:=fun {i} hi => ph_ps S H W (i:=i) hi
 have hat : ∀ {i p : Nat}, i < n → p < m → psF2 n Q off w i = p → w i = (col p : Nat) := fun {i p} hi hp h => by
  rcases hback hi with ⟨p', hp', e1, e2⟩ | ⟨e1, _⟩
  ·have:p' = p:=by omega
   rw [← this]; exact e2
  ·omega
 have hlow : ∀ {i k : Nat}, i < n → k < c → w i = k → (psF2 n Q off w i = (off k : Nat) ∧ ∀ o, o < n → w o = k → ¬ Q k o < Q k i) ∨ (psF2 n Q off w i = ((off k + 1 : Nat) : Int) ∧ z k = 2 ∧ ∃ o, o < n ∧ w o = k ∧ Q k o < Q k i) := fun {i k} hi hk h => by
  rw [ps_at h]
  by_cases hs : 0 < smF w (k : Nat) (Q k) i n
  ·obtain ⟨o,ho,eo,hq⟩:=sm_pos.2.1 hs
   have hoi:o ≠ i:=fun e => by subst e; omega
   have:=cn_mul ho hi hoi eo h
   have:=W.fz k hk
   have:=S.z2 k hk
   right
   exact ⟨by rw [if_pos hs]; omega,by omega,o,ho,eo,hq⟩
  ·left
   exact ⟨by rw [if_neg hs]; omega,fun o ho eo hq => hs (sm_pos.2.2 ⟨o,ho,eo,hq⟩)⟩
 have huniq : ∀ {i j p : Nat}, i < n → j < n → p < m → psF2 n Q off w i = p → psF2 n Q off w j = p → i = j := fun {i j p} hi hj hp ei ej => by
  have hk:=S.co p hp
  have wi:=hat hi hp ei
  have wj:=hat hj hp ej
  have hfz:=W.fz (col p) hk
  have hz:=S.z2 (col p) hk
  refine Classical.byContradiction fun hij => ?_
  have hq:Q (col p) i ≠ Q (col p) j:=fun e => hij (H.qj _ i j hk hi hj e)
  rcases hlow hi hk wi with ⟨a1, a2⟩ | ⟨a1, a2, o, ho, eo, hqo⟩ <;> rcases hlow hj hk wj with ⟨b1, b2⟩ | ⟨b1, b2, o', ho', eo', hqo'⟩
  ·have:=a2 j hj wj
   have:=b2 i hi wi
   omega
  ·omega
  ·omega
  ·by_cases hlt : Q (col p) i < Q (col p) j
   ·have h1:o ≠ i:=fun e => by subst e; omega
    have h2:o ≠ j:=fun e => by subst e; omega
    have:=cn_tri hi hj ho hij (Ne.symm h1) (Ne.symm h2) wi wj eo
    omega
   ·have h1:o' ≠ j:=fun e => by subst e; omega
    have h2:o' ≠ i:=fun e => by subst e; omega
    have:=cn_tri hi hj ho' hij (Ne.symm h2) (Ne.symm h1) wi wj eo'
    omega
 refine ⟨fun i hi => ?_, fun p hp => ?_, fun i p hi hp h => ?_⟩
 ·rcases hback hi with ⟨p,hp,e1,_⟩ | ⟨e1,_⟩ <;> omega
 ·show cnF (psF2 n Q off w) (p:Nat) n ≤ 1
  refine Classical.byContradiction fun hn => ?_
  obtain ⟨i,j,hi,hj,hij,ei,ej⟩:=cn_ex2 (w:=psF2 n Q off w) (q:=(p:Nat)) (n:=n) (by omega)
  exact hij (huniq hi hj hp ei ej)
 ·show (1:Int) ≤ cnF (psF2 n Q off w) (p:Nat) n ∧ _
  have hk:=S.co p hp
  have hz1:=S.z1 p hp
  have fin : (∃ o, o < n ∧ psF2 n Q off w o = p ∧ ¬ Q (col p) i < Q (col p) o) → (1 : Int) ≤ cnF (psF2 n Q off w) (p : Nat) n ∧ ∀ o, o < n → psF2 n Q off w o = p → ¬ Q' p i < Q' p o := fun ⟨o, ho, eo, hq⟩ => by
   refine ⟨cn_one ho eo,fun o' ho' eo' => ?_⟩
   have:=huniq ho ho' hp eo eo'
   subst this
   rw [S.qq p i hp hi,S.qq p o hp ho]; exact hq
  apply fin
  by_cases hA : P i (col p) < pvF c P i (w i)
  ·
   obtain ⟨r1,r2⟩:=W.nb i (col p) hi hk hA
   rcases S.o1 p hp with e | ⟨e, ez⟩
   ·obtain ⟨o,ho,eo,hmin⟩:=cn_min (f:=Q (col p)) (cn_ex (w:=w) (q:=(col p:Nat)) (n:=n) (by omega))
    rcases hlow ho hk eo with ⟨a1, _⟩ | ⟨_, _, o', ho', eo', hq'⟩
    ·exact ⟨o,ho,by rw [a1]; omega,r2 o ho eo⟩
    ·have:=hmin o' ho' eo'; omega
   ·obtain ⟨o1,o2,h1,h2,hne,e1,e2⟩:=cn_ex2 (w:=w) (q:=(col p:Nat)) (n:=n) (by omega)
    have hq:Q (col p) o1 ≠ Q (col p) o2:=fun e => hne (H.qj _ o1 o2 hk h1 h2 e)
    by_cases hlt : Q (col p) o1 < Q (col p) o2
    ·rcases hlow h2 hk e2 with ⟨_, a2⟩ | ⟨a1, _⟩
     ·exact absurd hlt (a2 o1 h1 e1)
     ·exact ⟨o2,h2,by rw [a1]; omega,r2 o2 h2 e2⟩
    ·rcases hlow h1 hk e1 with ⟨_, a2⟩ | ⟨a1, _⟩
     ·exact absurd (show Q (col p) o2 < Q (col p) o1 by omega) (a2 o2 h2 e2)
     ·exact ⟨o1,h1,by rw [a1]; omega,r2 o1 h1 e1⟩
  ·
   rcases hback hi with ⟨p', hp', e1, e2⟩ | ⟨e1, e2⟩
   ·rw [e1,pv_at] at h
    rw [e2,pv_at] at hA
    rcases (S.pp i p p' hi hp hp').1 h with h3 | ⟨h3, h4⟩
    ·exact absurd h3 hA
    ·rw [← h3] at e2
     have hp2 : p = off (col p) := by
      rcases S.o1 p hp with e | ⟨e, _⟩
      ·exact e
      ·rcases S.o1 p' hp' with e' | ⟨e',_⟩ <;> rw [← h3] at e' <;> omega
     rcases hlow hi hk e2 with ⟨a1, _⟩ | ⟨a1, a2, o, ho, eo, hq⟩
     ·omega
     ·obtain ⟨o',ho',eo',hmin⟩:=cn_min (f:=Q (col p)) (w:=w) (q:=(col p:Nat)) (n:=n) ⟨o,ho,eo⟩
      rcases hlow ho' hk eo' with ⟨b1, _⟩ | ⟨_, _, o2, ho2, eo2, hq2⟩
      ·have:=hmin o ho eo
       exact ⟨o',ho',by rw [b1]; omega,by omega⟩
      ·have:=hmin o2 ho2 eo2; omega
   ·rw [e2,pv_no (by omega)] at hA
    exact absurd (H.p0 i (col p) hi hk).2 hA
theorem ps_inj (S : Spl n c m P Q P' Q' z col off) (H : Sh n c P Q) (W : Stb n c P Q z w) (U : Stb n c P Q z u) (h : ∀ i, i < n → psF2 n Q off w i = psF2 n Q off u i) : ∀ i, i < n → w i = u i := fun i hi => by
 have hh:=h i hi
 rcases ph_ps S H W hi with ⟨p, hp, e1, e2⟩ | ⟨e1, e2⟩ <;> rcases ph_ps S H U hi with ⟨p', hp', f1, f2⟩ | ⟨f1, f2⟩
 ·have:p = p':=by omega
  rw [e2,f2,this]
 ·omega
 ·omega
 ·omega
end
end Go.Proofs.Ytgdpplhbblapgaa
