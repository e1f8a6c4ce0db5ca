/- Own work: contracts of functions. No condition beyond those that each theorem names. -/
import Derived.Test.YtgdpplhbblapgaaProg
import Derived.Test.YtgdpplhbblapgaaSplm
import Derived.Test.YtgdpplhbblapgaaCspl
import Derived.Test.YtgdpplhbblapgaaStable
import Derived.Test.YtgdpplhbblapgaaPerm
namespace Go.Proofs.Ytgdpplhbblapgaa
open Go Go.Vc
set_option maxRecDepth 100000
set_option linter.unusedSimpArgs false
set_option linter.unusedVariables false
section
variable {low:Int} {b:Nat}
theorem sn_inj (hb : 0 < b) : ∀ {k j j' : Nat}, j < b ^ k → j' < b ^ k → sn low b k j = sn low b k j' → j = j'
 | 0,j,j',h1,h2,_ => by simp at h1 h2; omega
 | k + 1, j, j', h1, h2, h => by
  simp only [sn] at h
  have hl:(sn low b k (j / b)).length = (sn low b k (j' / b)).length:=by rw [sn_len,sn_len]
  obtain ⟨e1,e2⟩:=List.append_inj h hl
  have e2:low + (j % b:Nat) = low + (j' % b:Nat):=by simpa using e2
  have q1:j / b < b ^ k:=Nat.div_lt_of_lt_mul (by rw [Nat.mul_comm,← Nat.pow_succ]; exact h1)
  have q2:j' / b < b ^ k:=Nat.div_lt_of_lt_mul (by rw [Nat.mul_comm,← Nat.pow_succ]; exact h2)
  have:=sn_inj hb q1 q2 e1
  have d1:=Nat.div_add_mod j b
  have d2:=Nat.div_add_mod j' b
  rw [this] at d1
  omega
theorem sn_sur (hb : 0 < b) : ∀ {k : Nat} {r : List Int}, r.length = k → (∀ v ∈ r, low ≤ v ∧ v < low + b) → ∃ j, j < b ^ k ∧ sn low b k j = r
 | 0,r,hl,_ => ⟨0,by simp,by rw [List.eq_nil_of_length_eq_zero hl]; rfl⟩
 | k + 1, r, hl, h => by
  have hne:r ≠ []:=fun e => by rw [e] at hl; simp at hl
  obtain ⟨j,hj,e⟩:=sn_sur hb (k:=k) (r:=r.dropLast) (by simp [hl]) fun v hv => h v (List.dropLast_subset r hv)
  have hv:=h _ (List.getLast_mem hne)
  obtain ⟨t,ht⟩:∃ t:Nat,r.getLast hne = low + t:=⟨(r.getLast hne - low).toNat,by omega⟩
  have htb:t < b:=by omega
  refine ⟨j * b + t, ?_, ?_⟩
  ·rw [Nat.pow_succ]
   calc j * b + t < j * b + b := by omega
    _ = (j + 1) * b:=by rw [Nat.succ_mul]
    _ ≤ b ^ k * b:=Nat.mul_le_mul_right _ hj
  ·simp only [sn]
   have e1:(j * b + t) / b = j:=by rw [Nat.mul_comm,Nat.mul_add_div hb,Nat.div_eq_of_lt htb,Nat.add_zero]
   have e2:(j * b + t) % b = t:=by rw [Nat.mul_comm,Nat.mul_add_mod,Nat.mod_eq_of_lt htb]
   rw [e1,e2,e,← ht]
   exact List.dropLast_concat_getLast hne
end
theorem selG_iff {p : List Int → Bool} {f : Nat → List Int} {r : List Int} : ∀ {n : Nat}, r ∈ selG p f n ↔ ∃ j, j < n ∧ r = f j ∧ p r = true
 | 0 => by simp [selG]
 | n + 1 => by
  have ih:=selG_iff (p:=p) (f:=f) (r:=r) (n:=n)
  simp only [selG,List.mem_append]
  rw [ih]
  constructor
  ·rintro (⟨j, h1, h2⟩ | h)
   ·exact ⟨j,by omega,h2⟩
   ·split at h
    ·rename_i hp
     have:=List.mem_singleton.1 h
     exact ⟨n,by omega,this,by rw [this]; exact hp⟩
    ·cases h
  ·rintro ⟨j,h1,h2,h3⟩
   by_cases e : j = n
   ·subst e
    right
    rw [← h2,if_pos h3]; simp
   ·exact .inl ⟨j,by omega,h2,h3⟩
theorem selG_nd {p : List Int → Bool} {f : Nat → List Int} : ∀ {n : Nat}, (∀ i j, i < n → j < n → f i = f j → i = j) → (selG p f n).Nodup
 | 0,_ => List.nodup_nil
 | n + 1, h => by
  have ih:=selG_nd (p:=p) (f:=f) (n:=n) fun i j hi hj => h i j (by omega) (by omega)
  simp only [selG]
  split
  ·refine List.nodup_append.2 ⟨ih,by simp,fun a ha b hb => ?_⟩
   have hb:=List.mem_singleton.1 hb
   obtain ⟨j,hj,e,_⟩:=selG_iff.1 ha
   intro e2
   have:=h j n (by omega) (by omega) (by rw [← e,e2,hb])
   omega
  ·simpa using ih
section
variable {x y:List (List Int)} {z l:List Int}
theorem ste_mem (h0 : schoolB x y z = true) : l ∈ steF x y z ↔ stEF x y z l = true := by
 have S:=sc_of h0
 unfold steF
 rw [if_pos h0,selG_iff]
 constructor
 ·rintro ⟨_,_,_,h⟩; exact h
 ·intro h
  obtain ⟨hl,W⟩:=(stb_iff h0).1 h
  obtain ⟨j, hj, e⟩ := sn_sur (low := -1) (b := y.length + 1) (by omega) hl fun v hv => by
   obtain ⟨i,hi,rfl⟩:=mem_getD 0 hv
   have:=W.bd i (by omega)
   unfold fnE at this; omega
  exact ⟨j,hj,e.symm,h⟩
theorem ste_nd : (steF x y z).Nodup := by
 unfold steF
 split
 ·exact selG_nd fun i j hi hj e => sn_inj (by omega) hi hj e
 ·exact List.nodup_nil
end
theorem nd_len {α : Type} [DecidableEq α] : ∀ {xs ys : List α}, xs.Nodup → (∀ x ∈ xs, x ∈ ys) → xs.length ≤ ys.length
 | [],_,_,_ => Nat.zero_le _
 | a :: xs, ys, hn, h => by
  obtain ⟨h1,h2⟩:=List.nodup_cons.1 hn
  have ih:=nd_len (xs:=xs) (ys:=ys.erase a) h2 fun x hx => (List.mem_erase_of_ne (fun e => h1 (by rw [← e]; exact hx))).2 (h x (by simp [hx]))
  have ha:=h a (by simp)
  rw [List.length_erase_of_mem ha] at ih
  have:=List.length_pos_of_mem ha
  simp only [List.length_cons]; omega
theorem nd_map {α β : Type} {f : α → β} : ∀ {xs : List α}, xs.Nodup → (∀ a ∈ xs, ∀ b ∈ xs, f a = f b → a = b) → (xs.map f).Nodup
 | [],_,_ => List.nodup_nil
 | a :: xs, hn, h => by
  obtain ⟨h1,h2⟩:=List.nodup_cons.1 hn
  rw [List.map_cons,List.nodup_cons]
  refine ⟨fun hm => ?_,nd_map h2 fun b hb c hc => h b (by simp [hb]) c (by simp [hc])⟩
  obtain ⟨b,hb,e⟩:=List.mem_map.1 hm
  have:=h b (by simp [hb]) a (by simp) e
  exact h1 (by rw [← this]; exact hb)
def lstE (n:Nat) (f:Nat → Int):List Int:=(List.range n).map f
theorem lstE_len {n:Nat} {f:Nat → Int}:(lstE n f).length = n:=by simp [lstE]
theorem fn_lstE {n i:Nat} {f:Nat → Int} (h:i < n):fnE (lstE n f) i = f i:=by simp [fnE,lstE,List.getD,h]
theorem lst_ext {a b : List Int} {n : Nat} (ha : a.length = n) (hb : b.length = n) (h : ∀ i, i < n → fnE a i = fnE b i) : a = b := by
 apply List.ext_getElem
 ·omega
 ·intro i h1 h2
  have:=h i (by omega)
  unfold fnE at this
  simpa [List.getD,h1,h2] using this
def colX (z : List Int) : Nat → List Nat
 | 0 => []
 | k + 1 => colX z k ++ List.replicate (z.getD k 0).toNat k
def colQ (z:List Int) (c p:Nat):Nat:=(colX z c).getD p 0
theorem colK_map {y : List (List Int)} {z : List Int} : ∀ {k : Nat}, colK y z k = (colX z k).map fun q => y.getD q []
 | 0 => rfl
 | k + 1 => by simp [colK,colX,colK_map (k:=k)]
theorem colX_len {z : List Int} : ∀ {k : Nat}, (colX z k).length = preZ z k
 | 0 => rfl
 | k + 1 => by simp [colX,preZ,colX_len (k:=k)]
theorem colK_get {y : List (List Int)} {z : List Int} {c p : Nat} (hp : p < preZ z c) : (colK y z c).getD p [] = y.getD (colQ z c p) [] := by
 have:p < (colX z c).length:=by rw [colX_len]; exact hp
 rw [colK_map]
 simp [colQ,List.getD,this]
def ok1B (z:List Int) (c P p:Nat):Bool:=decide (colQ z c p < c) && decide (1 ≤ z.getD (colQ z c p) 0) && (decide (p = preZ z (colQ z c p)) || (decide (p = preZ z (colQ z c p) + 1) && decide (z.getD (colQ z c p) 0 = 2)))
def ok2B (z r own:List Int) (c p q:Nat):Bool:=decide (placeI own p < placeI own q) == (decide (placeI r (colQ z c p:Nat) < placeI r (colQ z c q:Nat)) || (decide (colQ z c p = colQ z c q) && decide (p < q)))
def ok3B (z:List Int) (c P k:Nat):Bool:=(!decide (1 ≤ z.getD k 0) || (decide (preZ z k < P) && decide (colQ z c (preZ z k) = k))) && (!decide (z.getD k 0 = 2) || (decide (preZ z k + 1 < P) && decide (colQ z c (preZ z k + 1) = k)))
def okB (z r : List Int) (c : Nat) : Bool := !(decide (1 ≤ z.sum) && decide (z.sum ≤ 3)) ||
 (rankB (preZ z c) (ownK z c r r.length) && (List.range (preZ z c)).all (fun p => ok1B z c (preZ z c) p) && (List.range (preZ z c)).all (fun p => (List.range (preZ z c)).all fun q => ok2B z r (ownK z c r r.length) c p q) && (List.range c).all fun k => ok3B z c (preZ z c) k)
def allZ : Nat → List (List Int)
 | 0 => [[]]
 | c + 1 => [0,1,2].flatMap fun v => (allZ c).map fun l => v :: l
theorem allZ_mem : ∀ {c : Nat} {l : List Int}, l.length = c → (∀ v ∈ l, 0 ≤ v ∧ v ≤ 2) → l ∈ allZ c
 | 0,l,hl,_ => by rw [List.eq_nil_of_length_eq_zero hl]; simp [allZ]
 | c + 1,[],hl,_ => by simp at hl
 | c + 1, v :: l, hl, h => by
  have hv:=h v (by simp)
  have ih:=allZ_mem (c:=c) (l:=l) (by simpa using hl) fun w hw => h w (by simp [hw])
  simp only [allZ,List.mem_flatMap,List.mem_map]
  refine ⟨v,?_,l,ih,rfl⟩
  have:v = 0 ∨ v = 1 ∨ v = 2:=by omega
  rcases this with rfl | rfl | rfl <;> simp
def allB (c:Nat):Bool:=(allZ c).all fun z => (allRank (c:Int)).all fun r => okB z r c
theorem all1:allB 1 = true:=by decide +kernel
theorem all2:allB 2 = true:=by decide +kernel
theorem all3:allB 3 = true:=by decide +kernel
theorem ok_all {z r : List Int} {c : Nat} (c1 : 1 ≤ c) (c3 : c ≤ 3) (hz : z.length = c) (hb : ∀ v ∈ z, 0 ≤ v ∧ v ≤ 2) (hr : rankB (c : Int) r = true) : okB z r c = true := by
 have h : allB c = true := by
  rcases (by omega : c = 1 ∨ c = 2 ∨ c = 3) with rfl | rfl | rfl
  ·exact all1
  ·exact all2
  ·exact all3
 unfold allB at h
 exact List.all_eq_true.1 (List.all_eq_true.1 h z (allZ_mem hz hb)) r (rank_allRank hr)
section
variable {x y:List (List Int)} {z:List Int}
theorem spl_ok (h0 : schoolB x y z = true) (hn : 1 ≤ z.sum ∧ z.sum ≤ 3) (hb : ∀ v ∈ z, 0 ≤ v ∧ v ≤ 2) :
  schoolB (stuK x z y.length x.length) (colK y z y.length) (List.replicate (preZ z y.length) 1) = true ∧ (preZ z y.length:Int) = z.sum ∧
  Spl x.length y.length (preZ z y.length) (plS x) (plS y) (plS (stuK x z y.length x.length)) (plS (colK y z y.length)) (fnE z) (colQ z y.length) (preZ z):=by
 have S:=sc_of h0
 have lz:=S.lz
 have hpz : (preZ z y.length : Int) = z.sum := by
  rw [preZ_le (fun v hv => by have:=hb v hv; omega) (k:=y.length) (by omega),← lz,List.take_length]
 have hz:∀ k,k < y.length → 0 ≤ z.getD k 0 ∧ z.getD k 0 ≤ 2:=fun k hk => hb _ (getD_mem (by omega))
 have rowx:∀ i,i < x.length → (stuK x z y.length x.length).getD i [] = ownK z y.length (x.getD i []) (x.getD i []).length:=fun i hi => by simp [stuK,List.getD,hi]
 have ok : ∀ i, i < x.length → rankB (preZ z y.length) (ownK z y.length (x.getD i []) (x.getD i []).length) = true ∧ (∀ p, p < preZ z y.length → ok1B z y.length (preZ z y.length) p = true) ∧ (∀ p q, p < preZ z y.length → q < preZ z y.length → ok2B z (x.getD i []) (ownK z y.length (x.getD i []) (x.getD i []).length) y.length p q = true) ∧ ∀ k, k < y.length → ok3B z y.length (preZ z y.length) k = true := fun i hi => by
  have h:=ok_all S.c1 S.c3 lz hb (S.rx i hi)
  unfold okB at h
  rw [decide_eq_true hn.1,decide_eq_true hn.2] at h
  simp only [Bool.and_true,Bool.not_true,Bool.false_or,Bool.and_eq_true,List.all_eq_true,List.mem_range] at h
  exact ⟨h.1.1.1,h.1.1.2,fun p q hp hq => h.1.2 p hp q hq,h.2⟩
 have o1:=fun p hp => (ok 0 (by have:=S.n1; omega)).2.1 p hp
 have o3:=fun k hk => (ok 0 (by have:=S.n1; omega)).2.2.2 k hk
 simp only [ok1B,Bool.and_eq_true,Bool.or_eq_true,decide_eq_true_eq] at o1
 simp only [ok3B,Bool.and_eq_true,Bool.or_eq_true,decide_eq_true_eq,Bool.not_eq_true',decide_eq_false_iff_not] at o3
 have hcol:∀ p,p < preZ z y.length → (colK y z y.length).getD p [] = y.getD (colQ z y.length p) []:=fun p hp => colK_get hp
 have hsc : schoolB (stuK x z y.length x.length) (colK y z y.length) (List.replicate (preZ z y.length) 1) = true := by
  simp only [schoolB,Bool.and_eq_true,inI,decide_eq_true_eq,ranksB,List.all_eq_true,stuK_len,colK_len,List.length_replicate]
  have:=S.n1
  have:=S.n5
  refine ⟨⟨⟨⟨⟨by omega, by omega, by omega⟩, fun r hr => ?_⟩, fun r hr => ?_⟩, trivial⟩, fun v hv => ?_⟩
  ·obtain ⟨i,hi,rfl⟩:=mem_getD [] hr
   rw [stuK_len] at hi
   rw [rowx i hi]; exact (ok i hi).1
  ·obtain ⟨p,hp,rfl⟩:=mem_getD [] hr
   rw [colK_len] at hp
   rw [hcol p hp]; exact S.ry _ (o1 p hp).1.1
  ·have:=(List.mem_replicate.1 hv).2; omega
 have S':=sc_of hsc
 rw [stuK_len,colK_len] at S'
 have H':=sh_of S'
 refine ⟨hsc, hpz, ⟨fun p hp => (o1 p hp).1.1, fun p hp => ?_, fun k hk h => ?_, fun k hk h => ?_, fun k hk => ?_, fun p hp => (o1 p hp).1.2, fun i p q hi hp hq => ?_, fun i p hi hp => (H'.p0 i p hi hp).2, fun p i hp hi => ?_⟩⟩
 ·exact (o1 p hp).2
 ·exact (o3 k hk).1.resolve_left (fun h2 => h2 h)
 ·exact (o3 k hk).2.resolve_left (fun h2 => h2 h)
 ·have:=hz k hk; unfold fnE; omega
 ·have h2:=(ok i hi).2.2.1 p q hp hq
  unfold ok2B at h2
  rw [beq_iff_eq,Bool.eq_iff_iff] at h2
  simp only [decide_eq_true_eq,Bool.or_eq_true,Bool.and_eq_true] at h2
  unfold plS
  rw [rowx i hi]; exact h2
 ·unfold plS
  rw [hcol p hp]
theorem spl_count (h0 : schoolB x y z = true) (hn : 1 ≤ z.sum ∧ z.sum ≤ 3) (hb : ∀ v ∈ z, 0 ≤ v ∧ v ≤ 2) :
  (steF (stuK x z y.length x.length) (colK y z y.length) (List.replicate (preZ z y.length) 1)).length = (steF x y z).length:=by
 obtain ⟨hsc,hpz,SP⟩:=spl_ok h0 hn hb
 have H:=sh_of (sc_of h0)
 have hone:∀ k,k < preZ z y.length → fnE (List.replicate (preZ z y.length) 1) k = 1:=fun k hk => by simp [fnE,List.getD,hk]
 have it : ∀ l, l ∈ steF (stuK x z y.length x.length) (colK y z y.length) (List.replicate (preZ z y.length) 1) ↔ l.length = x.length ∧ Stb x.length (preZ z y.length) (plS (stuK x z y.length x.length)) (plS (colK y z y.length)) (fun _ => 1) (fnE l) := fun l => by
  rw [ste_mem hsc,stb_iff hsc,stuK_len,colK_len]
  constructor
  ·rintro ⟨h1,W⟩
   exact ⟨h1,W.bd,fun k hk => by have:=W.fz k hk; rw [hone k hk] at this; exact this,fun i k hi hk h => by have:=W.nb i k hi hk h; rw [hone k hk] at this; exact this⟩
  ·rintro ⟨h1,W⟩
   exact ⟨h1,W.bd,fun k hk => by rw [hone k hk]; exact W.fz k hk,fun i k hi hk h => by rw [hone k hk]; exact W.nb i k hi hk h⟩
 have is:∀ l,l ∈ steF x y z ↔ l.length = x.length ∧ Stb x.length y.length (plS x) (plS y) (fnE z) (fnE l):=fun l => by rw [ste_mem h0,stb_iff h0]
 refine Nat.le_antisymm ?_ ?_
 ·have hnd := nd_map (f := fun l => lstE x.length (phF (colQ z y.length) (fnE l))) (ste_nd (x := stuK x z y.length x.length) (y := colK y z y.length) (z := List.replicate (preZ z y.length) 1)) fun a ha b hb e => by
   obtain ⟨la,Wa⟩:=(it a).1 ha
   obtain ⟨lb,Wb⟩:=(it b).1 hb
   refine lst_ext la lb (ph_inj SP H Wa Wb fun i hi => ?_)
   have:=congrArg (fun l => fnE l i) e
   simp only [fn_lstE hi] at this
   exact this
  have := nd_len hnd (ys := steF x y z) fun l hl => by
   obtain ⟨a,ha,rfl⟩:=List.mem_map.1 hl
   obtain ⟨la,Wa⟩:=(it a).1 ha
   exact (is _).2 ⟨lstE_len,(ph_stb SP H Wa).congr fun i hi => fn_lstE hi⟩
  rwa [List.length_map] at this
 ·have hnd := nd_map (f := fun l => lstE x.length (psF2 x.length (plS y) (preZ z) (fnE l))) (ste_nd (x := x) (y := y) (z := z)) fun a ha b hb e => by
   obtain ⟨la,Wa⟩:=(is a).1 ha
   obtain ⟨lb,Wb⟩:=(is b).1 hb
   refine lst_ext la lb (ps_inj SP H Wa Wb fun i hi => ?_)
   have:=congrArg (fun l => fnE l i) e
   simp only [fn_lstE hi] at this
   exact this
  have := nd_len hnd (ys := steF (stuK x z y.length x.length) (colK y z y.length) (List.replicate (preZ z y.length) 1)) fun l hl => by
   obtain ⟨a,ha,rfl⟩:=List.mem_map.1 hl
   obtain ⟨la,Wa⟩:=(is a).1 ha
   exact (it _).2 ⟨lstE_len,(ps_stb SP H Wa).congr fun i hi => fn_lstE hi⟩
  rwa [List.length_map] at this
end
end Go.Proofs.Ytgdpplhbblapgaa
